/-
  A link hears a message, where nothing is live: hear, whole.
-/
import Derived.Test.YtfmkdoachjgjbaaGreatDoorMdb
import Derived.Test.YtfmkdoachjgjbaaGreatDoorMcf
import Derived.Test.YtfmkdoachjgjbaaGreatDoorMcc
import Derived.Test.YtfmkdoachjgjbaaGreatDoorMbd
import Derived.Test.YtfmkdoachjgjbaaGreatDoorMbc
import Derived.Test.YtfmkdoachjgjbaaGreatDoorMcd
set_option maxRecDepth 100000
set_option maxHeartbeats 2000000
set_option linter.unusedVariables false
set_option linter.unusedSimpArgs false
namespace Go.Proofs.YtfmkdoachjgjbaaGreatDoor
section
open Go.RowKit
structure QSt(W:World)(g:Nat)(S:Nat→Prop)(sp en lo SD:Nat)(L:Lk)(a:World):Prop where
 upd:Upd (fun k=>S k∨k=SD) W a
 said:∃va vc,a.cell? ⟨SD,0,none⟩=some (.slice va 0 vc)
 lk:∃SC SJ,LkP a g (Fr S W a) L sp en lo SC SJ
def qpv(i:Nat):Nat:=if i=0 then 106 else if i=1 then 112 else if i=2 then 108 else 109
def qf6(m M o q t v:Nat)(i:Nat):Array Value :=
 if i=0 then #[.pointer (some ⟨m,0,none⟩),.pointer (some ⟨M,0,none⟩),.pointer (some ⟨o,0,none⟩)] else if i=1 then #[.pointer (some ⟨t,0,none⟩),.pointer (some ⟨v,0,none⟩)] else if i=2 then #[.pointer (some ⟨m,0,none⟩),.pointer (some ⟨o,0,none⟩)] else #[.pointer (some ⟨m,0,none⟩),.pointer (some ⟨M,0,none⟩),.pointer (some ⟨q,0,none⟩)]
def zay(W:World)(g:Nat)(S:Nat→Prop)(sp en lo m:Nat)(l:Lk)(c':Ch)(rec:ByteArray)(i:Nat)(a:World):Prop :=
 if i=0 then qq W a else QSt W g S sp en lo m (if i=1 then {l with c:=c'} else {l with c:=c',j:=l.j.app rec}) a
theorem qv9(g b K M o R T U B:Nat)(S:Nat→Prop)(l:Lk)(sp en lo:Nat)(Y SJ:Nat→Prop)(m:MsgV)(c':Ch)(xs:List ByteArray)(v0:Value)(va:Option Addr)(vc:Nat)(W:World)
  (h:LkP W g S l sp en lo Y SJ) (t:LkOk l) (hT:Tabs W) (hA:ApD S) (c4:l.c.xs=[]) (b6:c'.xs=[]) (h4:(m.kind==4)=false) (h9:(m.kind==9)=false)
  (hF:∀a,qq W a→Calls Tryz.prog 107 #[.pointer (some ⟨en,0,none⟩),.agg m.cells.toArray] a (qdx en Y a c' [] 0))
  (cL:W.cell? ⟨K,0,none⟩=some (.pointer (some ⟨g,0,none⟩))) (hM:MsB W M m) (P:W.heap[o]? = some (.cells #[v0] 124 (0,0))) (b2:W.cell? ⟨R,0,none⟩=some (.slice va 0 vc))
  (c0:W.cell? ⟨T,0,none⟩=some (.pointer (some ⟨g,0,none⟩))) (c1:W.cell? ⟨U,0,none⟩=some (.slice (some ⟨B,0,none⟩) xs.length xs.length)) (hx:∀j x,xs[j]? = some x→W.cell? ⟨B,j,none⟩=some (.string x))
  (hn:xs.length≤1000) (b5:(qab xs).size≤1024) (b1:qhm W b 4 qpv (fun _=>#[]) (qf6 K M o R T U))
  (z:¬S K∧¬S M∧¬S T∧¬S U∧¬S b∧¬S B∧¬S o∧¬S R) (w:K≠o∧M≠o∧T≠o∧U≠o∧b≠o∧B≠o∧R≠o) (b9:B<W.heap.size) (c3:b<W.heap.size) (b0:o≠4∧o≠1) :
  Calls Tryz.prog 66 #[.pointer (some ⟨g,0,none⟩),.slice (some ⟨b,0,none⟩) 4 4] W fun e w'=>Upd (fun k=>S k∨k=o∨W.heap.size≤k) W w'∧qsv 4 (zay W g S sp en lo o l c' (qab xs)) (fun _ _=>False) e w':=by
 have J:=h.lt
 have c2:=hM.lt
 have a8:=zi P
 have Z:∀ {a:World} {k:Nat},k<W.heap.size→¬S k→¬Fr S W a k:=fun t hs e=>e.elim hs (fun e=>by omega)
 have b7:∀ {a:World},Upd (fun k=>S k∨k=o) W a→Tabs a:=fun u=>hT.upd u (fun e=>e.elim hA.c (fun e=>b0.1 e.symm)) (fun e=>e.elim hA.d (fun e=>b0.2 e.symm))
 refine qrn g b 4 qpv (fun _=>#[]) (qf6 K M o R T U) (fun k=>S k∨k=o∨W.heap.size≤k) _ _ W (by decide) (t.dead▸qk h.at_ 6) b1 ?_ ?_ ?_
 ·rintro (e | e | e)
  ·exact z.2.2.2.2.1 e
  ·exact w.2.2.2.2.1 e
  ·omega
 ·intro i hi a hC;rcases (by omega:i=0∨i=1∨i=2∨i=3) with rfl | rfl | rfl | rfl
  ·refine⟨enters_of Tryz.func106 (by kernel_rfl) rfl,?_⟩;have X:qq W a:=hC;have N:¬Y o:=fun e=>z.2.2.2.2.2.2.1 (h.inC _ e)
   refine(qpu K M o g S l sp en lo Y SJ m c' [] 0 v0 a (h.new X) (X.cell cL (fun h=>h)) (hM.new X) (X.old P (fun h=>h)) N (fun W' n=>hF W' (X.trans n))).mono ?_;rintro e O ⟨rfl,a0,a1,v,n0,u1,b4,hv,rfl⟩;obtain⟨C,D,rfl⟩:∃a c,v = .slice a 0 c:=qaa hv;have nB:=X.trans n0;have h1:=(h.new nB).chan u1 b4;have z0:=nB.size;have z1:=u1.size;have b3:=u1.old (nB.old P (fun h=>h)) N;have a7:=zq b3 0 (.slice C 0 D);have E:Upd (· = o) a1 (a1.setCell ⟨o,0,none⟩ (.slice C 0 D)):=(Upd.refl _ _).set1 _ _;generalize a1.setCell ⟨o,0,none⟩ (.slice C 0 D)=a2 at a7 E ⊢;have z2:=E.size;have h2:=h1.upd E (fun k t e=>by
    rcases t with t | t
    ·exact z.2.2.2.2.2.2.1 (e▸t)
    ·omega)
   have h3:LkP a2 g (Fr S W a2) {l with c:=c'} sp en lo (Fr Y a0 a1) SJ:=h2.wider (fun k t=>t.elim .inl (fun e=> .inr ⟨by omega,by omega⟩)) (fun k t=>t.elim (fun e=>by have:=J k e;omega) (fun e=>e.2));have u:Upd (fun k=>S k∨k=o) W a2:=((nB.mono (fun _ _ h=>h.elim)).trans (u1.mono (fun k _ e=> .inl (h.inC k e)))).trans (E.mono (fun k _ e=> .inr e));refine⟨((n0.mono (fun _ _ h=>h.elim)).trans (u1.mono (fun k _ e=> .inl (h.inC k e)))).trans (E.mono (fun k _ e=> .inr (.inl e))),.inl ⟨rfl,?_⟩⟩;show QSt W g S sp en lo o {l with c:=c'} a2;exact⟨u,⟨C,D,qk a7 0⟩,_,_,h3⟩
  ·refine⟨enters_of Tryz.func112 (by kernel_rfl) rfl,?_⟩;obtain⟨u,⟨C,D,y⟩,H,I,V⟩:QSt W g S sp en lo o {l with c:=c'} a:=hC;have z0:=u.size;have a6:=World.block_lt_of_cell? W _ c0;refine(qqd T U B g (Fr S W a) {l with c:=c'} sp en lo H I xs a V t.dead t.fused t.off ⟨t.many.1,by have:=t.many.2;show l.j.many<_;omega⟩ (by have:=t.len;show l.j.bs.size≤_;omega) (b7 u) hn b5
    (u.cell c0 (fun e=>e.elim z.2.2.1 w.2.2.1)) (u.cell c1 (fun e=>e.elim z.2.2.2.1 w.2.2.2.1)) (fun j x e=>u.cell (hx j x e) (fun e=>e.elim z.2.2.2.2.2.1 w.2.2.2.2.2.1)) (by omega) (Z a6 z.2.2.1)).mono ?_
   rintro e O ⟨rfl,⟨b8,h2⟩,E⟩;have z2:=E.size;refine⟨E.mono (fun k t e=>e.elim .inl (fun e=> .inr (.inr e.1))),.inl ⟨rfl,?_⟩⟩;show QSt W g S sp en lo o {l with c:=c',j:=l.j.app (qab xs)} O;refine⟨?_,⟨C,D,E.cell y (Z a8 z.2.2.2.2.2.2.1)⟩,?_⟩
   ·exact u.then E (fun k t e=>e.elim .inl (fun e=>by omega))
   ·exact⟨_,_,h2.wider (fun k t=>t.elim (fun e=>e.elim .inl (fun e=> .inr ⟨e.1,by omega⟩)) (fun e=> .inr ⟨by omega,e.2⟩)) (fun k t=>t.elim (fun e=>by have:=J k e;omega) (fun e=>e.2))⟩
  ·refine⟨enters_of Tryz.func108 (by kernel_rfl) rfl,?_⟩;obtain⟨u,⟨C,D,y⟩,H,I,V⟩:QSt W g S sp en lo o {l with c:=c',j:=l.j.app (qab xs)} a:=hC;refine(qnh K o g C D a (u.cell cL (fun e=>e.elim z.1 w.1)) y).mono ?_;rintro e O ⟨rfl,q⟩;have n:qq a O:=q.upd _;have zn:=n.size;refine⟨q.upd _,.inl ⟨rfl,?_⟩⟩;show QSt W g S sp en lo o {l with c:=c',j:=l.j.app (qab xs)} O;exact⟨u.trans (q.upd _),⟨C,D,n.cell y (fun h=>h)⟩,_,_,(V.new n).wider (fun k t=>t.elim .inl (fun e=> .inr ⟨e.1,by omega⟩)) (fun k t=>t.elim (fun e=>by have:=J k e;have:=u.size;omega) (fun e=>e.2))⟩
  ·refine⟨enters_of Tryz.func109 (by kernel_rfl) rfl,?_⟩;obtain⟨u,⟨C,D,y⟩,H,I,V⟩:QSt W g S sp en lo o {l with c:=c',j:=l.j.app (qab xs)} a:=hC;refine(qtr K M R g _ _ sp en lo H I m va vc a V b6 h4 h9 (u.cell cL (fun e=>e.elim z.1 w.1)) (hM.upd u (fun e=>e.elim z.2.1 w.2.1)) (u.cell b2 (fun e=>e.elim z.2.2.2.2.2.2.2 w.2.2.2.2.2.2))).mono ?_;rintro e O ⟨rfl,n⟩;have zn:=n.size;refine⟨n.mono (fun _ _ h=>h.elim),.inl ⟨rfl,?_⟩⟩;show QSt W g S sp en lo o {l with c:=c',j:=l.j.app (qab xs)} O;exact⟨u.trans (n.mono (fun _ _ h=>h.elim)),⟨C,D,n.cell y (fun h=>h)⟩,_,_,(V.new n).wider (fun k t=>t.elim .inl (fun e=> .inr ⟨e.1,by omega⟩)) (fun k t=>t.elim (fun e=>by have:=J k e;have:=u.size;omega) (fun e=>e.2))⟩
 ·exact Upd.refl _ _
attribute [local go_sem ↓ high] ze zf zg zj qak
attribute [local go_sem] qau qav qaw qy zz qck
theorem qt3(g:Nat)(S:Nat→Prop)(l:Lk)(sp en lo:Nat)(SC SJ:Nat→Prop)(m:MsgV)(c':Ch)(o:ByteArray)(w:World)(h:LkP w g S l sp en lo SC SJ)(D:LkOk l)(hT:Tabs w)(hA:ApD S)(a1:l.c.xs=[])(d1:c'.xs=[])(h4:(m.kind==4)=false)(h9:(m.kind==9)=false)(c9:m.hash.length=32)(e6:o.size≤1000)
  (hD:∀W,Calls Tryz.prog 105 #[.string o] W (qar (.tuple #[.agg m.cells.toArray,.int .i64 0]) W))
  (hF:∀a,qq w a→Calls Tryz.prog 107 #[.pointer (some ⟨en,0,none⟩),.agg m.cells.toArray] a (qdx en SC a c' [] 0)) :
  Calls Tryz.prog 65 #[.pointer (some ⟨g,0,none⟩),.string o] w fun e w'=>e = .returned (.int .i64 0)∧Upd S w w'∧LkE w' g (Fr S w w') sp en lo {l with c:=c',j:=l.j.app (qab [zr 6 1,o])} := by
 have e5:∀(fn:Fn) (first cap:Array Value) (w:World),(Instr.makeFunc fn first cap).run Tryz.prog w = .ok (.func fn first cap) w:=fun _ _ _ _=>rfl
 have c1:w.cell? ⟨g,1,none⟩=some (.pointer (some ⟨en,0,none⟩)):=qk h.at_ 1
 have HX:=qj (And.intro h (And.intro D (And.intro hF (And.intro hT hA))))
 have b2:=qj h.lt
 have b8:=fun W (n:qq w W)=>qp4 ((h.new n).chn) a1
 clear h D hF hT hA
 go_enter Tryz.func65,Tryz.ntmps65
 go_upto_region 1 with fail
 have b0:=ql w (.cells #[.pointer (some ⟨g,0,none⟩)] 28)
 have n0:qq w (w.alloc (.cells #[.pointer (some ⟨g,0,none⟩)] 28)):=(Upd.refl _ _).alloc _
 have z0:(w.alloc (.cells #[.pointer (some ⟨g,0,none⟩)] 28)).heap.size=w.heap.size+1:=World.size_alloc _ _
 generalize w.alloc (.cells #[.pointer (some ⟨g,0,none⟩)] 28)=w0 at b0 n0 z0 ⊢
 generalize a8:w.heap.size=q at b0 z0 ⊢
 have c6:=qj a8
 have Z0:=qj z0
 have B0:=qj b0
 have N0:=qj n0
 clear a8 b0 n0 z0
 go_wp2_with fail
 refine(hD w0).mono ?_
 rintro e w1 ⟨rfl,n1⟩
 have N1:=qj ((qg N0).trans n1)
 have B1:=qj (n1.old (qg B0) (fun h=>h))
 have Z1:=qj n1.size
 clear n1 hD N0 B0
 obtain⟨t,O,H⟩:=qgg w1 m c9
 go_upto_region 2 with fail
 change Code.wp _ _ _ _ (qhi w1 m)
 generalize qhi w1 m=w2 at O H ⊢
 generalize P:w1.heap.size=M at O t ⊢
 have c2:=H.cell ((qg N1).cell c1 (fun h=>h)) (fun h=>h)
 have b6:=b8 w2 ((qg N1).trans H)
 have d2:w2.cell? ⟨q,0,none⟩=some (.pointer (some ⟨g,0,none⟩)):=H.cell (qk (qg B1) 0) (fun h=>h)
 have H2:=qj (And.intro O (And.intro H P))
 clear t O H P b8 c1
 go_wp2_with fail
 refine b6.mono ?_
 rintro e w3 ⟨la,lk,rfl,n3⟩
 have d3:=n3.cell d2 (fun h=>h)
 have H3:=qj n3
 clear b6 n3 c2 d2
 go_upto_region 5 with fail
 have b4:=ql w3 (.cells #[.slice la 0 lk] 46)
 have n4:qq w3 (w3.alloc (.cells #[.slice la 0 lk] 46)):=(Upd.refl _ _).alloc _
 have z4:(w3.alloc (.cells #[.slice la 0 lk] 46)).heap.size=w3.heap.size+1:=World.size_alloc _ _
 generalize w3.alloc (.cells #[.slice la 0 lk] 46)=w4 at b4 n4 z4 ⊢
 generalize v:w3.heap.size=BF at b4 z4 ⊢
 have H4:=qj (And.intro b4 (And.intro n4 (And.intro z4 v)))
 have d4:=n4.cell d3 (fun h=>h)
 clear b4 n4 z4 v d3
 go_upto_region 6 with fail
 have X:=ql w4 (.cells #[.slice none 0 0] 124)
 have n5:qq w4 (w4.alloc (.cells #[.slice none 0 0] 124)):=(Upd.refl _ _).alloc _
 have z5:(w4.alloc (.cells #[.slice none 0 0] 124)).heap.size=w4.heap.size+1:=World.size_alloc _ _
 generalize w4.alloc (.cells #[.slice none 0 0] 124)=w5 at X n5 z5 ⊢
 generalize y:w4.heap.size=E at X z5 ⊢
 have H5:=qj (And.intro X (And.intro n5 (And.intro z5 y)))
 have d5:w5.drew.cell? ⟨q,0,none⟩=some (.pointer (some ⟨g,0,none⟩)):=n5.cell d4 (fun h=>h)
 clear X n5 z5 y d4
 refine qay (fun w'=>w'.cell? ⟨q,0,none⟩=some (.pointer (some ⟨g,0,none⟩))) [0,2] (.of [0,1,2,3,4,5,6,7,8,9,10,11]) (by kernel_rfl) (by kernel_rfl) d5 ?_
 simp only[Plan.of]
 go_wp2_with ((with_reducible first|rfl|refine' ut ?_ ?_;rotate_left|refine' uu ?_)<;>intros)
 refine(qcy 6 1 w5.drew (by decide) (by decide) (by decide)).mono ?_
 rintro e I ⟨rfl,n6⟩
 have n6:=n6.ofDrew
 have d6:I.cell? ⟨q,0,none⟩=some (.pointer (some ⟨g,0,none⟩)):=n6.cell d5 (fun h=>h)
 have H6:=qj n6
 clear n6 d5
 go_wp2_with (first | ((with_reducible first|rfl|refine' ut ?_ ?_;rotate_left|refine' uu ?_)<;>intros) | refine⟨d6,?_⟩)
 have b7:=ql I (.cells #[.string (zr 6 1),.string o] 9)
 have n7:qq I (I.alloc (.cells #[.string (zr 6 1),.string o] 9)):=(Upd.refl _ _).alloc _
 have z7:(I.alloc (.cells #[.string (zr 6 1),.string o] 9)).heap.size=I.heap.size+1:=World.size_alloc _ _
 generalize I.alloc (.cells #[.string (zr 6 1),.string o] 9)=w7 at b7 n7 z7 ⊢
 generalize N:I.heap.size=B at b7 z7 ⊢
 have d7:=n7.cell d6 (fun h=>h)
 have H7:=qj (And.intro b7 (And.intro n7 (And.intro z7 N)))
 clear b7 n7 z7 N d6
 refine⟨d7,?_⟩
 go_wp2_with ((with_reducible first|rfl|refine' ut ?_ ?_;rotate_left|refine' uu ?_)<;>intros)
 refine(qjn g _ _ _ w7).mono ?_
 rintro e w8 ⟨P0,P1,rfl,n8,J,K,T,U,p0,p1⟩
 have d8:=n8.cell d7 (fun h=>h)
 have H8:=qj (And.intro n8 (And.intro J (And.intro K (And.intro T (And.intro U (And.intro p0 p1))))))
 clear n8 J K T U p0 p1 d7
 go_wp2_with (first | ((with_reducible first|rfl|refine' ut ?_ ?_;rotate_left|refine' uu ?_)<;>intros) | refine⟨d8,?_⟩)
 have b9:=ql w8 (.cells #[.func (.func 106) #[] #[.pointer (some ⟨q,0,none⟩),.pointer (some ⟨M,0,none⟩),.pointer (some ⟨E,0,none⟩)],.func (.func 112) #[] #[.pointer (some ⟨P0,0,none⟩),.pointer (some ⟨P1,0,none⟩)],.func (.func 108) #[] #[.pointer (some ⟨q,0,none⟩),.pointer (some ⟨E,0,none⟩)],.func (.func 109) #[] #[.pointer (some ⟨q,0,none⟩),.pointer (some ⟨M,0,none⟩),.pointer (some ⟨BF,0,none⟩)]] 62)
 have n9:qq w8 (w8.alloc (.cells #[.func (.func 106) #[] #[.pointer (some ⟨q,0,none⟩),.pointer (some ⟨M,0,none⟩),.pointer (some ⟨E,0,none⟩)],.func (.func 112) #[] #[.pointer (some ⟨P0,0,none⟩),.pointer (some ⟨P1,0,none⟩)],.func (.func 108) #[] #[.pointer (some ⟨q,0,none⟩),.pointer (some ⟨E,0,none⟩)],.func (.func 109) #[] #[.pointer (some ⟨q,0,none⟩),.pointer (some ⟨M,0,none⟩),.pointer (some ⟨BF,0,none⟩)]] 62)):=(Upd.refl _ _).alloc _
 generalize w8.alloc (.cells #[.func (.func 106) #[] #[.pointer (some ⟨q,0,none⟩),.pointer (some ⟨M,0,none⟩),.pointer (some ⟨E,0,none⟩)],.func (.func 112) #[] #[.pointer (some ⟨P0,0,none⟩),.pointer (some ⟨P1,0,none⟩)],.func (.func 108) #[] #[.pointer (some ⟨q,0,none⟩),.pointer (some ⟨E,0,none⟩)],.func (.func 109) #[] #[.pointer (some ⟨q,0,none⟩),.pointer (some ⟨M,0,none⟩),.pointer (some ⟨BF,0,none⟩)]] 62)=W at b9 n9 ⊢
 have d9:=n9.cell d8 (fun h=>h)
 refine⟨d9,?_⟩
 obtain⟨h,D,hF,hT,hA⟩:=qg HX
 obtain⟨hM,H,P⟩:=qg H2
 obtain⟨b4,n4,z4,v⟩:=qg H4
 obtain⟨X,n5,z5,y⟩:=qg H5
 obtain⟨b7,n7,z7,N⟩:=qg H7
 obtain⟨n8,J,K,T,U,p0,p1⟩:=qg H8
 have b1:=qg c6
 have V:=n8.trans n9
 have c5:=n7.trans V
 have a7:=(qg H6).trans c5
 have a6:=n5.trans a7
 have c4:=n4.trans a6
 have a2:=(qg H3).trans c4
 have c3:=H.trans a2
 have Z:qq w W:=(qg N1).trans c3
 have s1:=(qg N1).size
 have s0:=qg Z0
 have e1:=qg Z1
 have s2:=H.size
 have s3:=(qg H3).size
 have s6:=(qg H6).size
 have s8:=n8.size
 have c7:=hM.lt
 have R:∀k,w.heap.size≤k→¬S k:=fun k D e=>by have:=qg b2 k e;omega
 have d0:=hT.lt
 have Y:qhm W w8.heap.size 4 qpv (fun _=>#[]) (qf6 q M E BF P0 P1):=by
  intro i hi;rcases (by omega:i=0∨i=1∨i=2∨i=3) with rfl | rfl | rfl | rfl
  ·exact qk b9 0
  ·exact qk b9 1
  ·exact qk b9 2
  ·exact qk b9 3
 have c0:∀j x,[zr 6 1,o][j]? = some x→W.cell? ⟨B,j,none⟩=some (.string x):=by
  intro j x e;rw[qk (V.old b7 (fun h=>h)) j]
  match j,e with
  | 0,e=>cases e;rfl
  | 1,e=>cases e;rfl
 have b3:(qab [zr 6 1,o]).size≤1024:=by
  have e0:(⟨#[]⟩:ByteArray).size=0:=rfl;unfold qab qab qab;simp only[ByteArray.size_append,qaq];omega
 have C:=qv9 g w8.heap.size q M E BF P0 P1 B S l sp en lo SC SJ m c' [zr 6 1,o] (.slice none 0 0) la lk W (h.new Z) D (hT.new Z) hA a1 d1 h4 h9 (fun a na=>hF a (Z.trans na)) d9 (hM.new a2) (a7.old X (fun h=>h)) (qk (a6.old b4 (fun h=>h)) 0)
  (n9.cell p0 (fun h=>h)) (n9.cell p1 (fun h=>h)) c0 (by simp) b3 Y
  ⟨R _ (by omega),R _ (by omega),R _ (by omega),R _ (by omega),R _ (by omega),R _ (by omega),R _ (by omega),R _ (by omega)⟩ ⟨by omega,by omega,by omega,by omega,by omega,by omega,by omega⟩ (by have:=V.size;omega) (by have:=zi b9;omega) ⟨by omega,by omega⟩
 have NN:=qj (And.intro Z (by have:=zi X;omega:w.heap.size≤E))
 have HC:=qj C
 clear C Y c0 b3 d0 R V c5 a7 a6 c4 a2 c3 Z s1 s0 e1 s2 s3 s6 s8 c7 h D hF hT hA hM H P b4 n4 z4 v X n5 z5 y b7 n7 z7 N n8 J K T U p0 p1 b1 b9 n9 d8 d9 H2 H3 H4 H5 H6 H7 H8
 go_wp2_with ((with_reducible first|rfl|refine' ut ?_ ?_;rotate_left|refine' uu ?_)<;>intros)
 refine(qg HC).mono ?_
 rintro e I ⟨u6,(⟨rfl,t⟩ | ⟨x,a1,rfl,hf⟩)⟩
 ·have HQ:=qj (And.intro u6 t);clear u6 t HC;go_wp2_with ((with_reducible first|rfl|refine' ut ?_ ?_;rotate_left|refine' uu ?_)<;>intros);go_ret;obtain⟨u6,t⟩:=qg HQ;obtain⟨Z,e4⟩:=qg NN;obtain⟨u,-,e2,e3,hl⟩:QSt W g S sp en lo E {l with c:=c',j:=l.j.app (qab [zr 6 1,o])} I:=t;have z:=Z.size;have c8:=qg b2;refine⟨rfl,Z.mono (fun _ _ h=>h.elim) |>.then u (fun k D e=>e.elim id (fun e=>by omega)),_,_,hl.wider (fun k D=>D.elim .inl (fun e=> .inr ⟨by omega,e.2⟩)) (fun k D=>D.elim (fun e=>by have:=c8 k e;have:=u.size;omega) (fun e=>e.2))⟩
 ·exact hf.elim
end
section
open Go.RowKit
attribute [local go_sem ↓ high] ze zf zg zj qak
attribute [local go_sem] qau qav qaw qy zz qck
theorem qw3{w:World}{base i:Nat}{e:TypeId}{size:Nat}{v:Value}{n:Nat}{xs:List Value}(h:w.ownsRow base e size v n xs)(t:i≤base):w.ownsRow i e size v n xs:=by
 refine⟨h.1,?_⟩;rcases h.2 with h | ⟨g,cap,m,o,q,r⟩
 ·exact .inl h
 ·exact .inr ⟨g,cap,m,o,Nat.le_trans t q,r⟩
structure GSt(W:World)(g:Nat)(S:Nat→Prop)(sp en lo SD:Nat)(SJ:Nat→Prop)(ms:List MsgV)(L:Lk)(a:World):Prop where
 upd:Upd (fun k=>S k∨k=SD) W a
 said:∃v,a.cell? ⟨SD,0,none⟩=some v∧qbp W.heap.size a v ms
 lk:∃SC,LkP a g (Fr S W a) L sp en lo SC SJ
structure GS2(W:World)(g:Nat)(S:Nat→Prop)(sp en lo SD:Nat)(ms:List MsgV)(L:Lk)(a:World):Prop where
 upd:Upd (fun k=>S k∨k=SD) W a
 said:∃v,a.cell? ⟨SD,0,none⟩=some v∧qbp W.heap.size a v ms
 lk:∃SC SJ,LkP a g (Fr S W a) L sp en lo SC SJ
structure GS3(W:World)(g:Nat)(S:Nat→Prop)(sp en lo SD:Nat)(L:Lk)(a:World):Prop where
 upd:Upd (fun k=>S k∨k=SD) W a
 lk:∃SC SJ,LkP a g (Fr S W a) L sp en lo SC SJ
end
section
open Go.RowKit
def LvB(w:World)(base:Nat)(v:Value)(xs:List Live):Prop:=(∃a k,v = .slice a 0 k∧xs=[])∨∃g cap,v = .slice (some ⟨g,0,none⟩) xs.length cap∧base≤g∧qdf w g 0 xs
theorem LvB.toO{w:World}{base:Nat}{v:Value}{xs:List Live}(h:LvB w base v xs):LvO w v xs:=h.imp id (fun⟨g,cap,e,_,i⟩=>⟨g,cap,e,i⟩)
theorem LvB.upd{T:Nat→Prop}{w w':World}{base:Nat}{v:Value}{xs:List Live}(h:LvB w base v xs)(u:Upd T w w')(o:∀k,base≤k→k<w.heap.size→¬T k):LvB w' base v xs :=
 h.imp id (fun⟨g,cap,e,i,m⟩=>⟨g,cap,e,i,m.upd u (o g i m.toL.lt)⟩)
theorem LvB.upd2{T:Nat→Prop}{w0 w w':World}{base:Nat}{v:Value}{xs:List Live}(h:LvB w base v xs)(_:w0.heap.size≤w.heap.size)(m:LvB w0 base v xs)(u:Upd T w w')(x:∀k,base≤k→k<w0.heap.size→¬T k):LvB w' base v xs:=by
 rcases h with h | ⟨g,cap,e,t,C⟩
 ·exact .inl h
 ·rcases m with m | ⟨i,q,e0,y,o⟩
  ·exact .inl m
  ·have z:i=g:=by
    rw[e0] at e;injection e with e1;injection e1 with e1;injection e1
   subst z;exact .inr ⟨i,cap,e,t,C.upd u (x i t o.toL.lt)⟩
theorem qt7{en:Nat}{i:Nat→Prop}{c:Ch}{w:World}(h:ChS w en i c):Calls Tryz.prog 20 #[.pointer (some ⟨en,0,none⟩)] w fun e w'=>∃u,e = .returned u∧qq w w'∧LvB w' w.heap.size u c.xs:=by
 refine(qp3 en i c w h).mono ?_;rintro e w' ⟨u,rfl,n,(⟨a,k,rfl,t⟩ | ⟨m,cap,rfl,o,q⟩)⟩
 ·exact⟨_,rfl,n,.inl ⟨a,k,rfl,t⟩⟩
 ·exact⟨_,rfl,n,.inr ⟨m,cap,rfl,o,q⟩⟩
attribute [local go_sem ↓ high] ze zf zg zj qak
attribute [local go_sem] qau qav qaw qy zz qck
end
section
open Go.RowKit
theorem quq(g:Nat)(w:World)(i:w.cell? ⟨g,8,none⟩=some (.bool true)):Calls Tryz.prog 87 #[.pointer (some ⟨g,0,none⟩)] w fun e w'=>e = .returned (.int .i64 5)∧w=w':=by
 go_enter Tryz.func87,Tryz.ntmps87;go_wp2_with fail;go_ret;exact⟨rfl,rfl⟩
attribute [local go_sem ↓ high] ze zf zg zj
attribute [local go_sem] qau qav qaw zz qs1 qy
def qx5(id r:Int):MsgV:=⟨5,0,id,0,zm,0,r⟩
def Ch.fail(c:Ch)(id r:Int):Ch × MsgV × Int:=match qf2 false id c.xs with
 | none=>(c,MsgV.zero,3)
 | some p=>if r<0∨65535<r then (c,MsgV.zero,1) else ((c.removed p.1 p.2 false).say (qx5 id r),(qx5 id r).on c.s.ch,0)
end
section
open Go.RowKit
attribute [local go_sem ↓ high] zl qaf qah qa1 qti
attribute [local go_sem] qa9 qb3 qb7 qdp qy
def ofI(p:List Int):List Int:=qeq (strOfNums p)
def qn0(p h:List Int):Bool:=ofI p==h
theorem qxa(p:List Int)(D:p.length=32)(w:World)(O:Tabs w) :
  Calls Tryz.prog 130 #[.agg (qw p).toArray] w (qar (.agg (qw (ofI p)).toArray) w):=by
 have C:(ofI p).length=32:=qb9 _
 go_enter Tryz.func130,Tryz.ntmps130
 go_upto_region 1 with fail
 have y:=(qcr w p D).new ((Upd.refl _ _).alloc (.cells (qw zm).toArray 35))
 have v:=qcr (w.alloc (.cells (qw p).toArray 35)) zm qu
 rw[World.size_alloc] at v
 have z:qq w ((w.alloc (.cells (qw p).toArray 35)).alloc (.cells (qw zm).toArray 35)):=((Upd.refl _ _).alloc _).alloc _
 generalize (w.alloc (.cells (qw p).toArray 35)).alloc (.cells (qw zm).toArray 35)=w1 at y v z ⊢
 obtain⟨A,t⟩:∃A,A=w.heap.size:=⟨_,rfl⟩
 obtain⟨B,x⟩:∃B,B=w.heap.size+1:=⟨_,rfl⟩
 rw[←x] at v ⊢
 rw[←t] at y ⊢
 have M:w.heap.size≤B:=by omega
 clear t x
 have q:(convert 95 9 (.slice (some ⟨A,0,none⟩) 32 32)).run Tryz.prog w1 = .ok (.string (strOfNums p)) w1 :=
  qdd w1 _ _ _ Tryz.underlying95 Tryz.underlying5 Tryz.underlying9 A 32 _ _ _ 32 D y.at_
 have m:Calls Tryz.prog 164 #[.string (strOfNums p)] w1 (fun e w'=>e = .returned (.agg (qw (ofI p)).toArray)∧qq w1 w'):=qft (strOfNums p) w1 (by rw[strOfNums_size,D];omega) (O.new z)
 have H:=qj v
 clear y v
 generalize ofI p=K at *
 go_wp2_with fail
 refine m.mono ?_
 rintro e R ⟨rfl,E⟩
 have o:=(qg H).new E
 have P:=o.stOk K C
 have I:=qj (o.put K C)
 have J:=qj ((z.trans E).then (zy (w:=R) (b:=B) (qw K)) (fun i T e=>by omega))
 clear o z E m q
 go_wp2_with fail
 have N:=qg I
 exact bodyPost_ret (results_cell_row rfl _ _ B _ _ _ _ rfl N.at_ Tryz.underlying35 rfl (by rw[List.size_toArray,qal,C];exact Tryz.infoHsh)) rfl ⟨rfl,qg J⟩
theorem q0y(p h:List Int)(E:p.length=32)(C:h.length=32)(R:qbt h)(w:World)(O:Tabs w) :
  Calls Tryz.prog 99 #[.agg (qw p).toArray,.agg (qw h).toArray] w (qar (.bool (qn0 p h)) w):=by
 have U:(ofI p).length=32:=qb9 _
 have y:qbt (ofI p):=qhd _
 go_enter Tryz.func99,Tryz.ntmps99
 go_upto_region 1 with fail
 have v:=(qcr w p E).new ((Upd.refl _ _).alloc (.cells (qw h).toArray 35))
 have m:=qcr (w.alloc (.cells (qw p).toArray 35)) h C
 rw[World.size_alloc] at m
 have x:qq w ((w.alloc (.cells (qw p).toArray 35)).alloc (.cells (qw h).toArray 35)):=((Upd.refl _ _).alloc _).alloc _
 generalize (w.alloc (.cells (qw p).toArray 35)).alloc (.cells (qw h).toArray 35)=w1 at v m x ⊢
 obtain⟨A,o⟩:∃A,A=w.heap.size:=⟨_,rfl⟩
 obtain⟨B,q⟩:∃B,B=w.heap.size+1:=⟨_,rfl⟩
 rw[←q] at m ⊢
 rw[←o] at v ⊢
 clear o q
 have T:=fun W=>q9u U C y R W
 have t:=fun W (P:Tabs W)=>qxa p E W P
 have D:qn0 p h=(ofI p==h):=rfl
 have N:=qj D
 clear D
 generalize ofI p=K at *
 have V:zt w1.drew A 0 32=some (qw p).toArray:=v.row
 have I:zt w1.drew B 0 32=some (qw h).toArray:=m.row
 have J:=qj m
 refine qay (fun w'=>zt w' B 0 32=some (qw h).toArray) [2] (.of [0,1,2,3,4]) (by kernel_rfl) (by kernel_rfl) I ?_
 simp only[Plan.of]
 clear v m
 go_wp2_with ((with_reducible first|rfl|refine' ut ?_ ?_;rotate_left|refine' uu ?_)<;>intros)
 refine(t w1.drew (O.new (x.drew))).mono ?_
 rintro e X ⟨rfl,H⟩
 have i:qq w1 X:=H.ofDrew
 have z:=((qg J).new i).row
 have M:=qj (x.trans i)
 clear t V I H i x
 go_wp2_with ((with_reducible first|rfl|refine' ut ?_ ?_;rotate_left|refine' uu ?_)<;>intros)
 refine⟨z,?_⟩
 go_wp2_with ((with_reducible first|rfl|refine' ut ?_ ?_;rotate_left|refine' uu ?_)<;>intros)
 go_ret
 exact⟨by rw[qg N];rfl,qg M⟩
end
section
open Go.RowKit
theorem qij{w:World}{b o n:Nat}{A:Array Value}(h:zt w b o n=some A)(i k:Nat)(q:i+k≤n):zt w b (o+i) k=some (A.extract i (i+k)):=by
 unfold zt at h ⊢;cases m:w.heap[b]? with
 | none=>rw[m] at h;cases h
 | some t =>
  rw[m] at h;cases t with
  | cells C T v =>
   simp only at h ⊢;split at h
   ·injection h with h;subst h;rw[if_pos (by omega),Array.extract_extract];congr 2;omega
   ·cases h
  | _=>simp at h
theorem q0h(x:Live):(qm x).toArray.extract 2 (2+32)=(qw x.h.hash.toList).toArray:=by
 apply Array.ext';rw[Array.toList_extract];unfold qm qv qw;simp
theorem ChP.hash{w:World}{g:Nat}{S:Nat→Prop}{c:Ch}{v D y:Value}(h:ChP w g S c v D y){i:Nat}{x:Live}(t:c.xs[i]? = some x):∃q cap,v = .slice (some ⟨q,0,none⟩) c.xs.length cap∧zt w q (i*38+2) 32=some (qw x.h.hash.toList).toArray:=by
 have o:=(List.getElem?_eq_some_iff.1 t).1;rcases (qc0 h.live).2 with ⟨e,e0⟩ | ⟨z,m,e,-,C⟩
 ·rw[e0] at o;simp at o
 ·refine⟨z,m,e,?_⟩;have:=qij (C.row t) 2 32 (by omega);rw[q0h,Nat.zero_add] at this;exact this
def Ch.hearFulfill(c:Ch)(m:MsgV):Ch × Int:=match qf2 true m.id c.xs with
 | none=>(c,3)
 | some p=>if qn0 m.hash p.2.h.hash.toList=true then (c.removed p.1 p.2 true,0) else (c,132)
theorem qrr{c:Ch}{m:MsgV}(h:qf2 true m.id c.xs=none):c.hearFulfill m=(c,3):=by unfold Ch.hearFulfill;rw[h]
theorem qrs{c:Ch}{m:MsgV}{i:Nat}{x:Live}(h:qf2 true m.id c.xs=some (i,x)):c.hearFulfill m=if qn0 m.hash x.h.hash.toList=true then (c.removed i x true,0) else (c,132):=by unfold Ch.hearFulfill;rw[h]
attribute [local go_sem ↓ high] ze zf zg zj zl qaf qah
attribute [local go_sem] qau qav qaw zz qa9 qb3 qb7 qy
theorem ql6(g:Nat)(S:Nat→Prop)(c:Ch)(m:MsgV)(hm:MsgOk m)(w:World)(h:ChS w g S c)(hT:Tb w) :
  Calls Tryz.prog 177 #[.pointer (some ⟨g,0,none⟩),.agg m.cells.toArray] w fun e w' =>
   e = .returned (.tuple #[qcb,.int .i64 (c.hearFulfill m).2])∧ChS w' g (Fr S w w') (c.hearFulfill m).1∧Upd S w w':=by
 obtain⟨X,nv,av,h⟩:=h
 go_enter Tryz.func177,Tryz.ntmps177
 go_upto_region 1 with fail
 have M:=qa6 w m hm.len
 have R:qq w (w.alloc (.cells m.cells.toArray 101)):=(Upd.refl _ _).alloc _
 generalize w.alloc (.cells m.cells.toArray 101)=w1 at R M ⊢
 generalize w.heap.size=A at M ⊢
 have h1:=h.new R
 obtain⟨-,-,m2,-,-,-,-⟩:=M.cells
 have hb:=qs4 g S c true m.id w1 ⟨X,nv,av,h1⟩
 have HA:=qj M
 have N:=hT.new R
 clear M hT
 go_wp2_with fail
 refine hb.mono ?_
 rintro e w2 ⟨rfl,U⟩
 have D:=h1.new U
 have z:=(qg HA).new U
 have y:=R.trans U
 have C:=N.new U
 clear hb m2 h1 U R N HA
 cases H:qf2 true m.id c.xs with
 | none =>
  have P:=qm2 H;have I:=qj (qrr H);have H2:=qj (D.fr w);have HU:=qj (y.mono (T:=S) (fun _ _ h=>h.elim));rw[P];clear h D y H P z C;go_wp2_with fail;go_ret2;rw[qg I];exact⟨rfl,qg H2,qg HU⟩
 | some p =>
  obtain⟨i,x⟩:=p;obtain⟨P,q,-⟩:=qm3 H;have E:=qrs H;have b3:=(List.getElem?_eq_some_iff.1 q).1;have b0:=h.ok.few;obtain⟨gl,cap,a7,Z⟩:=D.hash q;have K:w2.cell? ⟨g,47,none⟩=some X:=D.toR.live;rw[a7] at K;obtain⟨-,-,-,-,-,-,Y⟩:=z.cells;have a8:=(h.ok.xs x (List.mem_of_getElem? q)).h.hash;have o:=fun W (nW:qq w2 W)=>q0y m.hash x.h.hash.toList hm.len (by simp) a8 W (C.new nW).tabs
  have t:=fun W (hW:ChP W g S c X nv av)=>qn9 g S c X nv av i x true W hW q
  have HI:=qj h.inL;have HU:=qj (y.mono (T:=S) (fun _ _ h=>h.elim));have H2:=qj D;have b2:(i:Int)<(c.xs.length:Int):=by omega
  have I:=qj E;have b1:(c.xs.length:Int)≤1000000:=by omega
  rw[P];clear h D y H P z C q E;generalize hO:qn0 m.hash x.h.hash.toList=O at o I;have RA:=qj Y;have RH:=qj Z;have a1:=qj o;have a2:=qj t;clear Y Z o t hO;go_upto_region 4 with ((with_reducible first|rfl|refine' ut ?_ ?_;rotate_left|refine' uu ?_)<;>intros);have Y:=qg RA;have Z:=qg RH;clear RA RH;go_wp2_with ((with_reducible first|rfl|refine' ut ?_ ?_;rotate_left|refine' uu ?_)<;>intros);have o:=qg a1;have t:=qg a2;refine(o _ ((Upd.refl _ _).drew)).mono ?_;rintro e w3 ⟨rfl,n3⟩;have h3:=((qg H2).new ((Upd.refl (fun _=>False) w2).drew)).new n3;have V:qq w2 w3:=n3.ofDrew;have v:=t w3 h3;have H3:=qj (h3.fr w);have J:=qj ((qg HU).trans (V.mono (T:=S) (fun _ _ h=>h.elim)));clear o t K Y Z h3 n3 V;cases O with
  | false =>
   clear v;go_wp2_with ((with_reducible first|rfl|refine' ut ?_ ?_;rotate_left|refine' uu ?_)<;>intros);go_ret2;have E:c.hearFulfill m=(c,132):=by rw[qg I];simp
   rw[E];exact⟨rfl,qg H3,qg J⟩
  | true =>
   go_wp2_with ((with_reducible first|rfl|refine' ut ?_ ?_;rotate_left|refine' uu ?_)<;>intros);refine v.mono ?_;rintro e w4 ⟨rfl,h4,u4⟩;have H4:=qj (h4.fr w);have a6:=qj ((qg J).trans (u4.mono (T:=S) (fun k _ e=>qg HI k e)));clear v h4 u4;go_wp2_with ((with_reducible first|rfl|refine' ut ?_ ?_;rotate_left|refine' uu ?_)<;>intros);go_ret2;have E:c.hearFulfill m=(c.removed i x true,0):=by rw[qg I];simp
   rw[E];exact⟨rfl,qg H4,qg a6⟩
theorem qrw(g:Nat)(S:Nat→Prop)(c:Ch)(m:MsgV)(q:MsgOk m)(w:World)(h:ChS w g S c)(o:qap m=true)(i:m.ch=c.s.ch)(C:m.kind=4)(x:Tb w) :
  Calls Tryz.prog 107 #[.pointer (some ⟨g,0,none⟩),.agg m.cells.toArray] w (qdx g S w (c.hearFulfill m).1 [] (c.hearFulfill m).2) :=
 qg1 _ g S c _ _ _ m q w h o i (enters_of Tryz.func177 (by kernel_rfl) rfl) (fun v=>by rw[C];exact q91 v) (fun W t=>(ql6 g S c m q W (h.new t) (x.new t)).mono (by
  rintro e w' ⟨z,y,D⟩;exact⟨_,z,qbp.nil _ _,y,D⟩))
end
section
open Go.RowKit
structure Ch.Inv(c:Ch):Prop where
 shelf:qq3 c
 peer:c.s.peer.size≤100000000
 ch:0≤c.s.ch∧c.s.ch<4294967296
 heard:c.k.heard<4294967295
 few:c.xs.length≤16
noncomputable def Ch.hear(c:Ch)(m:MsgV):Ch × List MsgV × Int :=
 if qap m=false∨m.ch≠c.s.ch then (c,[],1)
 else if m.kind=3 then ((c.hearAdd m).1,[],(c.hearAdd m).2)
 else if m.kind=4 then ((c.hearFulfill m).1,[],(c.hearFulfill m).2)
 else if m.kind=5 then ((c.hearFail m).1,[],(c.hearFail m).2)
 else if m.kind=6 then c.hearSign m
 else if m.kind=7 then ((c.hearRevoke m).1,[],(c.hearRevoke m).2)
 else (c.hearShut.1,[],c.hearShut.2)
theorem q34(g:Nat)(S:Nat→Prop)(c:Ch)(m:MsgV)(t:MsgOk m)(w:World)(h:ChS w g S c)(v:c.Inv)(y:Tb w)(z:Apart S)(i:m.kind=3∨m.kind=4∨m.kind=5∨m.kind=6∨m.kind=7∨m.kind=8) :
  Calls Tryz.prog 107 #[.pointer (some ⟨g,0,none⟩),.agg m.cells.toArray] w (qdx g S w (c.hear m).1 (c.hear m).2.1 (c.hear m).2.2):=by
 by_cases x:qap m=false∨m.ch≠c.s.ch
 ·have e:c.hear m=(c,[],1):=by unfold Ch.hear;rw[if_pos x]
  rw[e];refine(qtt g S c m t w h x).mono ?_;rintro e w' ⟨D,C⟩;exact⟨_,D,qbp.nil _ _,(h.new C).frW,C.mono (fun _ _ h=>h.elim)⟩
 ·have q:qap m=true:=by
   cases E:qap m with
   | true=>rfl
   | false=>exact absurd (.inl E) x
  have o:m.ch=c.s.ch:=Decidable.of_not_not (fun e=>x (.inr e));have e:c.hear m=if m.kind=3 then ((c.hearAdd m).1,[],(c.hearAdd m).2) else if m.kind=4 then ((c.hearFulfill m).1,[],(c.hearFulfill m).2) else if m.kind=5 then ((c.hearFail m).1,[],(c.hearFail m).2) else if m.kind=6 then c.hearSign m else if m.kind=7 then ((c.hearRevoke m).1,[],(c.hearRevoke m).2) else (c.hearShut.1,[],c.hearShut.2):=by unfold Ch.hear;rw[if_neg x]
  rcases i with i | i | i | i | i | i
  ·rw[e,if_pos i];exact q33 g S c m t w h q o i (by have:=v.few;omega)
  ·rw[e,if_neg (by omega),if_pos i];exact qrw g S c m t w h q o i y
  ·rw[e,if_neg (by omega),if_neg (by omega),if_pos i];exact qz4 g S c m t w h q o i
  ·rw[e,if_neg (by omega),if_neg (by omega),if_neg (by omega),if_pos i];exact qz5 g S c m t w h q o i y z v.peer v.ch v.heard v.few
  ·rw[e,if_neg (by omega),if_neg (by omega),if_neg (by omega),if_neg (by omega),if_pos i];exact qtu g S c m t w h q o i v.shelf y z
  ·rw[e,if_neg (by omega),if_neg (by omega),if_neg (by omega),if_neg (by omega),if_neg (by omega)];exact qpw g S c m t w h q o i
end
end Go.Proofs.YtfmkdoachjgjbaaGreatDoor
