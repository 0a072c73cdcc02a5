/-
  A link hears: whole.
-/
import Derived.Test.YtfmkdoachjgjbaaGreatDoorMde
import Derived.Test.YtfmkdoachjgjbaaGreatDoorMdc
import Derived.Test.YtfmkdoachjgjbaaGreatDoorMcg
import Derived.Test.YtfmkdoachjgjbaaGreatDoorMbg
set_option maxRecDepth 100000
set_option maxHeartbeats 2000000
set_option linter.unusedVariables false
set_option linter.unusedSimpArgs false
namespace Go.Proofs.YtfmkdoachjgjbaaGreatDoor
section
open Go.RowKit
structure LvP(w:World)(g:Nat)(S S0:Nat→Prop)(l:Lk)(ev:Value)(es:List EvV)(sp en lo:Nat)(SC SJ:Nat→Prop):Prop where
 lk:LkP w g S0 {l with ev:=ev} sp en lo SC SJ
 row:qka w ev es
 out:∀k,ev.ownBlock=some k→¬S0 k
 inE:∀k,ev.ownBlock=some k→S k
 in0:∀k,S0 k→S k
 lt:∀k,S k→k<w.heap.size
def qb6(w:World)(g:Nat)(S:Nat→Prop)(l:Lk)(es:List EvV)(sp en lo:Nat):Prop:=∃i m o ev,LvP w g S i l ev es sp en lo m o
def Lk.hearR(l:Lk)(c':Ch)(q:List MsgV)(m:MsgV)(i:ByteArray)(o:Int):Lk:=if o=0 then Lk.heard {l with c:=c',j:=l.j.app (qab [zr 6 1,i]),out:=qdg q l.out} m else {l with c:=c'}
def qkh(es:List EvV)(m:MsgV)(waits:Bool)(i o:List Live)(q:Int):List EvV:=if q=0 then es++qfe m waits i o else es
def LkV(w:World)(g:Nat)(S:Nat→Prop)(l:Lk)(es:List EvV):Prop:=∃sp en lo,qb6 w g S l es sp en lo
attribute [local go_sem ↓ high] ze zf zg zj qak
attribute [local go_sem] qau qav qaw qy zz qck
theorem q0g(g:Nat)(S S0:Nat→Prop)(l:Lk)(ev:Value)(es:List EvV)(sp en lo:Nat)(SC SJ:Nat→Prop)(m:MsgV)(c':Ch)(ms:List MsgV)(er:Int)(o:ByteArray)(w:World)(h:LvP w g S S0 l ev es sp en lo SC SJ)(hk:LkOkW l)(hT:Tabs w)(hA:ApD S)(N:∀m∈ms,SayOk m)(K:ms.length≤1000)(q:l.c.xs.length≤1000)(t:c'.xs.length≤1000)(v:es.length≤10000)(f0:m.hash.length=32)(f5:o.size≤1000)
  (hD:∀W,Calls Tryz.prog 105 #[.string o] W (qar (.tuple #[.agg m.cells.toArray,.int .i64 0]) W))
  (hF:∀a,qq w a→Calls Tryz.prog 107 #[.pointer (some ⟨en,0,none⟩),.agg m.cells.toArray] a (qdx en SC a c' ms er)) :
  Calls Tryz.prog 65 #[.pointer (some ⟨g,0,none⟩),.string o] w fun e w'=>e = .returned (.int .i64 er)∧Upd S w w'∧qb6 w' g (Fr S w w') (l.hearR c' ms m o er) (qkh es m l.waits l.c.xs c'.xs er) sp en lo:=by
 have f4:∀(fn:Fn) (first cap:Array Value) (w:World),(Instr.makeFunc fn first cap).run Tryz.prog w = .ok (.func fn first cap) w:=fun _ _ _ _=>rfl
 have c1:w.cell? ⟨g,1,none⟩=some (.pointer (some ⟨en,0,none⟩)):=qk h.lk.at_ 1
 have HX:=qj (And.intro h (And.intro hk (And.intro hF (And.intro hT hA))))
 have e8:=qj h.lt
 have c7:=fun W (n:qq w W)=>qt7 ((h.lk.new n).chn)
 have e2:=qj (And.intro N (And.intro K (And.intro q (And.intro t v))))
 clear N K q t v
 clear h hk hF hT hA
 go_enter Tryz.func65,Tryz.ntmps65
 go_upto_region 1 with fail
 have b0:=ql w (.cells #[.pointer (some ⟨g,0,none⟩)] 28)
 have n0:qq w (w.alloc (.cells #[.pointer (some ⟨g,0,none⟩)] 28)):=(Upd.refl _ _).alloc _
 have z0:(w.alloc (.cells #[.pointer (some ⟨g,0,none⟩)] 28)).heap.size=w.heap.size+1:=World.size_alloc _ _
 generalize w.alloc (.cells #[.pointer (some ⟨g,0,none⟩)] 28)=w0 at b0 n0 z0 ⊢
 generalize c3:w.heap.size=y at b0 z0 ⊢
 have e3:=qj c3
 have Z0:=qj z0
 have B0:=qj b0
 have N0:=qj n0
 clear c3 b0 n0 z0
 go_wp2_with fail
 refine(hD w0).mono ?_
 rintro e w1 ⟨rfl,n1⟩
 have N1:=qj ((qg N0).trans n1)
 have B1:=qj (n1.old (qg B0) (fun h=>h))
 have Z1:=qj n1.size
 clear n1 hD N0 B0
 obtain⟨C,X,O⟩:=qgg w1 m f0
 go_upto_region 2 with fail
 change Code.wp _ _ _ _ (qhi w1 m)
 generalize qhi w1 m=w2 at X O ⊢
 generalize Y:w1.heap.size=M at X C ⊢
 have c2:=O.cell ((qg N1).cell c1 (fun h=>h)) (fun h=>h)
 have c6:=c7 w2 ((qg N1).trans O)
 have d2:w2.cell? ⟨y,0,none⟩=some (.pointer (some ⟨g,0,none⟩)):=O.cell (qk (qg B1) 0) (fun h=>h)
 have H2:=qj (And.intro X (And.intro O Y))
 clear C X O Y c7 c1
 go_wp2_with fail
 refine c6.mono ?_
 rintro e w3 ⟨lu,rfl,n3,b2⟩
 obtain⟨la,ln,lk,rfl⟩:∃a n k,lu = .slice a n k:=b2.elim (fun⟨a,k,e,_⟩=>⟨a,0,k,e⟩) (fun⟨g,cap,e,_,_⟩=>⟨_,_,_,e⟩)
 have c0:=qj b2
 clear b2
 have d3:=n3.cell d2 (fun h=>h)
 have H3:=qj n3
 clear c6 n3 c2 d2
 go_upto_region 5 with fail
 have b4:=ql w3 (.cells #[.slice la ln lk] 46)
 have n4:qq w3 (w3.alloc (.cells #[.slice la ln lk] 46)):=(Upd.refl _ _).alloc _
 have z4:(w3.alloc (.cells #[.slice la ln lk] 46)).heap.size=w3.heap.size+1:=World.size_alloc _ _
 generalize w3.alloc (.cells #[.slice la ln lk] 46)=w4 at b4 n4 z4 ⊢
 generalize D:w3.heap.size=BF at b4 z4 ⊢
 have H4:=qj (And.intro b4 (And.intro n4 (And.intro z4 D)))
 have d4:=n4.cell d3 (fun h=>h)
 clear b4 n4 z4 D d3
 go_upto_region 6 with fail
 have b5:=ql w4 (.cells #[.slice none 0 0] 124)
 have n5:qq w4 (w4.alloc (.cells #[.slice none 0 0] 124)):=(Upd.refl _ _).alloc _
 have z5:(w4.alloc (.cells #[.slice none 0 0] 124)).heap.size=w4.heap.size+1:=World.size_alloc _ _
 generalize w4.alloc (.cells #[.slice none 0 0] 124)=w5 at b5 n5 z5 ⊢
 generalize E:w4.heap.size=I at b5 z5 ⊢
 have H5:=qj (And.intro b5 (And.intro n5 (And.intro z5 E)))
 have d5:w5.drew.cell? ⟨y,0,none⟩=some (.pointer (some ⟨g,0,none⟩)):=n5.cell d4 (fun h=>h)
 clear b5 n5 z5 E d4
 refine qay (fun w'=>w'.cell? ⟨y,0,none⟩=some (.pointer (some ⟨g,0,none⟩))) [0,2] (.of [0,1,2,3,4,5,6,7,8,9,10,11]) (by kernel_rfl) (by kernel_rfl) d5 ?_
 simp only[Plan.of]
 go_wp2_with ((with_reducible first|rfl|refine' ut ?_ ?_;rotate_left|refine' uu ?_)<;>intros)
 refine(qcy 6 1 w5.drew (by decide) (by decide) (by decide)).mono ?_
 rintro e P ⟨rfl,n6⟩
 have n6:=n6.ofDrew
 have d6:P.cell? ⟨y,0,none⟩=some (.pointer (some ⟨g,0,none⟩)):=n6.cell d5 (fun h=>h)
 have H6:=qj n6
 clear n6 d5
 go_wp2_with (first | ((with_reducible first|rfl|refine' ut ?_ ?_;rotate_left|refine' uu ?_)<;>intros) | refine⟨d6,?_⟩)
 have b7:=ql P (.cells #[.string (zr 6 1),.string o] 9)
 have n7:qq P (P.alloc (.cells #[.string (zr 6 1),.string o] 9)):=(Upd.refl _ _).alloc _
 have z7:(P.alloc (.cells #[.string (zr 6 1),.string o] 9)).heap.size=P.heap.size+1:=World.size_alloc _ _
 generalize P.alloc (.cells #[.string (zr 6 1),.string o] 9)=w7 at b7 n7 z7 ⊢
 generalize V:P.heap.size=B at b7 z7 ⊢
 have d7:=n7.cell d6 (fun h=>h)
 have H7:=qj (And.intro b7 (And.intro n7 (And.intro z7 V)))
 clear b7 n7 z7 V d6
 refine⟨d7,?_⟩
 go_wp2_with ((with_reducible first|rfl|refine' ut ?_ ?_;rotate_left|refine' uu ?_)<;>intros)
 refine(qjn g _ _ _ w7).mono ?_
 rintro e w8 ⟨P0,P1,rfl,n8,T,U,Z,a1,p0,p1⟩
 have d8:=n8.cell d7 (fun h=>h)
 have H8:=qj (And.intro n8 (And.intro T (And.intro U (And.intro Z (And.intro a1 (And.intro p0 p1))))))
 clear n8 T U Z a1 p0 p1 d7
 go_wp2_with (first | ((with_reducible first|rfl|refine' ut ?_ ?_;rotate_left|refine' uu ?_)<;>intros) | refine⟨d8,?_⟩)
 have b9:=ql w8 (.cells #[.func (.func 106) #[] #[.pointer (some ⟨y,0,none⟩),.pointer (some ⟨M,0,none⟩),.pointer (some ⟨I,0,none⟩)],.func (.func 112) #[] #[.pointer (some ⟨P0,0,none⟩),.pointer (some ⟨P1,0,none⟩)],.func (.func 108) #[] #[.pointer (some ⟨y,0,none⟩),.pointer (some ⟨I,0,none⟩)],.func (.func 109) #[] #[.pointer (some ⟨y,0,none⟩),.pointer (some ⟨M,0,none⟩),.pointer (some ⟨BF,0,none⟩)]] 62)
 have n9:qq w8 (w8.alloc (.cells #[.func (.func 106) #[] #[.pointer (some ⟨y,0,none⟩),.pointer (some ⟨M,0,none⟩),.pointer (some ⟨I,0,none⟩)],.func (.func 112) #[] #[.pointer (some ⟨P0,0,none⟩),.pointer (some ⟨P1,0,none⟩)],.func (.func 108) #[] #[.pointer (some ⟨y,0,none⟩),.pointer (some ⟨I,0,none⟩)],.func (.func 109) #[] #[.pointer (some ⟨y,0,none⟩),.pointer (some ⟨M,0,none⟩),.pointer (some ⟨BF,0,none⟩)]] 62)):=(Upd.refl _ _).alloc _
 generalize w8.alloc (.cells #[.func (.func 106) #[] #[.pointer (some ⟨y,0,none⟩),.pointer (some ⟨M,0,none⟩),.pointer (some ⟨I,0,none⟩)],.func (.func 112) #[] #[.pointer (some ⟨P0,0,none⟩),.pointer (some ⟨P1,0,none⟩)],.func (.func 108) #[] #[.pointer (some ⟨y,0,none⟩),.pointer (some ⟨I,0,none⟩)],.func (.func 109) #[] #[.pointer (some ⟨y,0,none⟩),.pointer (some ⟨M,0,none⟩),.pointer (some ⟨BF,0,none⟩)]] 62)=W at b9 n9 ⊢
 have d9:=n9.cell d8 (fun h=>h)
 refine⟨d9,?_⟩
 obtain⟨h,hk,hF,hT,hA⟩:=qg HX
 obtain⟨hM,O,Y⟩:=qg H2
 obtain⟨b4,n4,z4,D⟩:=qg H4
 obtain⟨b5,n5,z5,E⟩:=qg H5
 obtain⟨b7,n7,z7,V⟩:=qg H7
 obtain⟨n8,T,U,Z,a1,p0,p1⟩:=qg H8
 have c4:=qg e3
 have a6:=n8.trans n9
 have e1:=n7.trans a6
 have b8:=(qg H6).trans e1
 have b6:=n5.trans b8
 have a2:=n4.trans b6
 have b3:=(qg H3).trans a2
 have d1:=O.trans b3
 have H:qq w W:=(qg N1).trans d1
 have s1:=(qg N1).size
 have s0:=qg Z0
 have f3:=qg Z1
 have s2:=O.size
 have s3:=(qg H3).size
 have s6:=(qg H6).size
 have s8:=n8.size
 have e7:=hM.lt
 have R:∀k,w.heap.size≤k→¬S k:=fun k hk e=>by have:=qg e8 k e;omega
 have f2:=hT.lt
 have a7:qhm W w8.heap.size 4 qpv (fun _=>#[]) (qf6 y M I BF P0 P1):=by
  intro i hi;rcases (by omega:i=0∨i=1∨i=2∨i=3) with rfl | rfl | rfl | rfl
  ·exact qk b9 0
  ·exact qk b9 1
  ·exact qk b9 2
  ·exact qk b9 3
 have d0:∀j x,[zr 6 1,o][j]? = some x→W.cell? ⟨B,j,none⟩=some (.string x):=by
  intro j x e;rw[qk (a6.old b7 (fun h=>h)) j]
  match j,e with
  | 0,e=>cases e;rfl
  | 1,e=>cases e;rfl
 have c5:(qab [zr 6 1,o]).size≤1024:=by
  have e0:(⟨#[]⟩:ByteArray).size=0:=rfl;unfold qab qab qab;simp only[ByteArray.size_append,qaq];omega
 obtain⟨N,K,q,t,v⟩:=qg e2
 have f1:=O.size
 have c8:∀a,Upd (fun k=>S k∨k=I) W a→LvO a (.slice la ln lk) l.c.xs:=fun a u=>(((qg c0).upd a2 (fun _ _ _ h=>h)).upd2 (a2.size:w3.heap.size≤W.heap.size) (qg c0) u (fun k h1 h2 e=>e.elim (R k (by omega)) (fun e=>by omega))).toO
 have J:=qtv g w8.heap.size y M I BF P0 P1 B S0 S l ev es sp en lo SC SJ m c' ms er [zr 6 1,o] (.slice none 0 0) (.slice la ln lk) W (h.lk.new H) (h.row.upd H (fun _ _ h=>h)) h.out h.inE h.in0 (fun k e=>Nat.lt_of_lt_of_le (h.lt k e) H.size) hk (hT.new H) hA N K q t v c8 (fun a na=>hF a (H.trans na)) d9 (hM.new b3) (b8.old b5 (fun h=>h)) (qk (b6.old b4 (fun h=>h)) 0)
  (n9.cell p0 (fun h=>h)) (n9.cell p1 (fun h=>h)) d0 (by simp) c5 a7
  ⟨R _ (by omega),R _ (by omega),R _ (by omega),R _ (by omega),R _ (by omega),R _ (by omega),R _ (by omega),R _ (by omega)⟩ ⟨by omega,by omega,by omega,by omega,by omega,by omega,by omega⟩ (by have:=a6.size;omega) (by have:=zi b9;omega) ⟨by omega,by omega⟩
 have HH:=qj h
 have NN:=qj (And.intro H (by have:=zi b5;omega:w.heap.size≤I))
 have HC:=qj J
 clear J a7 d0 c5 f2 R a6 e1 b8 b6 a2 b3 d1 H s1 s0 f3 s2 s3 s6 s8 e7 h hk hF hT hA hM O Y b4 n4 z4 D b5 n5 z5 E b7 n7 z7 V n8 T U Z a1 p0 p1 c4 b9 n9 d8 d9 H2 H3 H4 H5 H6 H7 H8 c8 N K q t v f1
 go_wp2_with ((with_reducible first|rfl|refine' ut ?_ ?_;rotate_left|refine' uu ?_)<;>intros)
 refine(qg HC).mono ?_
 rintro e P ⟨u6,(⟨rfl,C⟩ | ⟨x,c9,rfl,hf⟩)⟩
 ·have HQ:=qj (And.intro u6 C);clear u6 C HC;go_wp2_with ((with_reducible first|rfl|refine' ut ?_ ?_;rotate_left|refine' uu ?_)<;>intros);go_ret;obtain⟨u6,C⟩:=qg HQ;obtain⟨H,e9⟩:=qg NN;obtain⟨he,u,S1,a8,e5,e6,hl,hr,ho,hi,h1⟩:er=0∧HFin W g S0 S sp en lo I (Lk.heard {l with c:=c',j:=l.j.app (qab [zr 6 1,o]),out:=qdg ms l.out} m) (es++qfe m l.waits l.c.xs c'.xs) P:=C;have h:=qg HH;have z:=H.size;have zu:=u.size;unfold Lk.hearR qkh;rw[if_pos he,if_pos he];refine⟨by rw[he];rfl,H.mono (fun _ _ h=>h.elim) |>.then u (fun k hk e=>e.elim id (fun e=>by omega)),S1,a8,e5,e6,hl,hr,ho,?_,?_,?_⟩
  ·intro k e;have b1:=hr.lt k e;exact(hi k e).imp id (fun e=>⟨by omega,b1⟩)
  ·intro k e;have b1:=hl.lt k e;exact(h1 k e).imp (h.in0 k) (fun e=>⟨by omega,b1⟩)
  ·rintro k (e | e)
   ·have:=h.lt k e;omega
   ·exact e.2
 ·have HQ:=qj (And.intro u6 hf);have e4:=qj c9;clear u6 hf HC c9;go_wp2_with ((with_reducible first|rfl|refine' ut ?_ ?_;rotate_left|refine' uu ?_)<;>intros);go_ret;obtain⟨u6,hx,u,-,a8,hl⟩:_∧x=er∧GSt W g S0 sp en lo I SJ ms {l with c:=c',ev:=ev} P:=qg HQ;obtain⟨H,e9⟩:=qg NN;have he:¬er=0:=by rw[←hx];exact qg e4
  have h:=qg HH;have z:=H.size;have zu:=u.size;have v:=h.row.lt;unfold Lk.hearR qkh;rw[if_neg he,if_neg he];refine⟨by rw[hx];rfl,H.mono (fun _ _ h=>h.elim) |>.then u (fun k hk e=>e.elim (h.in0 k) (fun e=>by omega)),_,a8,SJ,ev,hl,?_,?_,?_,?_,?_⟩
  ·exact(h.row.upd H (fun _ _ h=>h)).upd u (fun k e e'=>e'.elim (h.out k e) (fun e'=>by have:=v k e;omega))
  ·intro k e e';have:=v k e;exact e'.elim (h.out k e) (fun e'=>by omega)
  ·exact fun k e=> .inl (h.inE k e)
  ·exact fun k e=>e.imp (h.in0 k) (fun e=>⟨by omega,e.2⟩)
  ·rintro k (e | e)
   ·have:=h.lt k e;omega
   ·exact e.2
end
section
open Go.RowKit
section
variable {w w':World}{g:Nat}{S T:Nat→Prop}{l:Lk}{sp en lo:Nat}{SC SJ:Nat→Prop}
theorem LkP.split(h:LkP w g S l sp en lo SC SJ)(u:Upd (fun k=>k=sp) w w'){r:ByteArray}(m:Spl w' sp r):LkP w' g S {l with rest:=r} sp en lo SC SJ :=
 ⟨u.old h.at_ h.ne,m,h.chn.upd u (fun k i e=>h.sC (e▸i)),h.jou.upd u (fun k i e=>h.sJ (e▸i)),h.inG,h.inS,h.inC,h.inJ,h.gC,h.gJ,h.sC,h.sJ,h.cJ,fun k i=>Nat.lt_of_lt_of_le (h.lt k i) u.size⟩
end
theorem qwj(g:Nat)(S:Nat→Prop)(l l':Lk)(s t:ByteArray)(w:World)(h:LkS w g S l)(a2:l.dead=false)(hb:l.broken=false)(hr:l.rest=⟨#[]⟩)(a7:s.size≤100000)(hR:qfl s)(ht:(s.extract 0 (2+hd s).toNat).extract 2 (2+hd s).toNat=t)(hz:(s.extract (2+hd s).toNat s.size)=⟨#[]⟩)(D:l'.rest=⟨#[]⟩)
  (hH:∀W sp en lo SC SJ,Upd S w W→LkP W g S l sp en lo SC SJ→Calls Tryz.prog 65 #[.pointer (some ⟨g,0,none⟩),.string t] W fun e W'=>e = .returned (.int .i64 0)∧Upd S W W'∧LkE W' g (Fr S W W') sp en lo l') :
  Calls Tryz.prog 24 #[.pointer (some ⟨g,0,none⟩),.string s] w fun e w'=>e = .returned (.int .i64 0)∧LkS w' g (Fr S w w') l'∧Upd S w w':=by
 obtain⟨sp,en,lo,SC,SJ,h⟩:=h
 have v:Spl w sp ⟨#[]⟩:=hr▸h.spl
 have c0:w.cell? ⟨g,0,none⟩=some (.pointer (some ⟨sp,0,none⟩)):=qk h.at_ 0
 have c6:w.cell? ⟨g,6,none⟩=some (.bool false):=a2▸qk h.at_ 6
 have c7:w.cell? ⟨g,7,none⟩=some (.bool false):=hb▸qk h.at_ 7
 have E:qdv (⟨#[]⟩:ByteArray)=false:=rfl
 have a6:¬qfl (⟨#[]⟩:ByteArray):=fun e=>absurd e.1 (by decide)
 have e0:(⟨#[]⟩:ByteArray)++s=s:=ByteArray.empty_append
 have R:=qj h
 clear h
 go_enter Tryz.func24,Tryz.ntmps24
 go_wp2_with fail
 refine(qez sp _ w v.cell E).mono ?_
 rintro e w1 ⟨rfl,P⟩
 have hp:=qyh sp _ s w1 (v.q P) E (by show 0+s.size≤_;omega)
 rw[e0] at hp
 have d0:=P.cell c0
 have z:=qj ((qg R).new (P.upd _))
 have U1:=qj (P.upd (fun _=>False))
 clear P v c0 c6 c7
 go_wp2_with fail
 refine hp.mono ?_
 rintro e w2 ⟨rfl,Y,s2⟩
 have J:=qnx sp s w2 s2 hR
 rw[ht,hz] at J
 have N:=(qg z).split Y s2
 have d2:=Y.cell d0 (qg z).ne
 have M:=qj N
 have U2:=qj (((qg U1).mono (fun _ _ h=>h.elim)).trans Y)
 clear hp Y s2 N d0 z U1
 go_wp2_with fail
 refine J.mono ?_
 rintro e w3 ⟨rfl,u3,s3⟩
 have C:LkP w3 g S l sp en lo SC SJ:=by
  have:=(qg M).split u3 s3;rw[←hr] at this;exact this
 have U3:=qj (show Upd S w w3 from((qg U2).trans u3).mono (fun k _ e=>by have e:k=sp:=e;rw[e];exact C.inS))
 have a1:=qj C
 clear J u3 s3 C d2 M U2
 go_wp2_with fail
 go_loopw [5,6,7] (fun tv U ev wr=>(tv = .string t∧U = .bool true∧wr=w3)∨(tv = .string ⟨#[]⟩∧U = .bool false∧Hid (∃SC SJ,Upd S w wr∧LkP wr g (Fr S w wr) l' sp en lo SC SJ))) (fun _ U _ _=>match U with | .bool true=>1 | _=>0)
 case atStart=>exact .inl ⟨rfl,rfl,rfl⟩
 case round =>
  obtain⟨I,rfl⟩:∃I:World,I=wr:=⟨_,rfl⟩;rcases hrel with ⟨rfl,rfl,rfl⟩ | ⟨rfl,rfl,H⟩
  ·have hh:=hH I sp en lo SC SJ (qg U3) (qg a1);clear hH;go_wp2_with fail;refine hh.mono ?_;rintro e K ⟨rfl,u4,m,o,h4⟩;have a8:=(qg U3).size;have x:=(qg R).lt;have V:LkP K g (Fr S w K) l' sp en lo m o:=h4.wider (fun k i=>i.elim .inl (fun e=> .inr ⟨by omega,e.2⟩)) (fun k i=>i.elim (fun e=>by have:=x k e;have:=u4.size;omega) (fun e=>e.2));have J:=que sp _ K (D▸V.spl:Spl K sp ⟨#[]⟩) a6;have c4:K.cell? ⟨g,0,none⟩=some (.pointer (some ⟨sp,0,none⟩)):=qk V.at_ 0;have H5:=qj (And.intro V ((qg U3).trans u4));clear hh u4 h4 V;go_wp2_with fail;refine J.mono ?_;rintro e y ⟨rfl,Z,s5⟩;have h6:LkP y g (Fr S w K) l' sp en lo m o:=by
    have:=(qg H5).1.split Z s5;rw[←D] at this;exact this
   have b0:=Z.size;have U5:Upd S w y:=(qg H5).2.then Z (fun k i e=>by
    have:=(qg R).inS;rw[e];exact this)
   have H6:Hid (∃SC SJ,Upd S w y∧LkP y g (Fr S w y) l' sp en lo SC SJ):=qj ⟨_,_,U5,h6.wider (fun k i=>i.elim .inl (fun e=> .inr ⟨e.1,by omega⟩)) (fun k i=>i.elim (fun e=>by have:=x k e;have:=U5.size;omega) (fun e=>e.2))⟩;clear J Z s5 h6 U5 c4;go_wp2_with fail;go_roundw
   case rel=>exact .inr ⟨rfl,rfl,H6⟩
   case measure=>decide
  ·obtain⟨m,o,u,h⟩:=qg H;have hs:Spl I sp ⟨#[]⟩:=D▸h.spl;have c4:I.cell? ⟨g,0,none⟩=some (.pointer (some ⟨sp,0,none⟩)):=qk h.at_ 0;have O:=qez sp _ I hs.cell E;have H7:=qj (And.intro u h);clear u h hs hH;go_wp2_with fail;refine O.mono ?_;rintro e y ⟨rfl,X⟩;have H8:Hid (Upd S w y∧LkP y g (Fr S w I) l' sp en lo m o):=qj ⟨(qg H7).1.trans (X.upd _),(qg H7).2.new (X.upd _)⟩;have hz:=(X.upd (fun _=>False)).size;clear O X;go_wp2_with fail;go_ret;have x:=(qg R).lt;obtain⟨u,h⟩:=qg H8;exact⟨rfl,⟨sp,en,lo,m,o,h.wider (fun k i=>i.elim .inl (fun e=> .inr ⟨e.1,by omega⟩)) (fun k i=>i.elim (fun e=>by have:=x k e;have:=u.size;omega) (fun e=>e.2))⟩,u⟩
def rdN(s:ByteArray):Nat→Int
 | 0=>0
 | n+1=>rdN s n*256+bt s n
theorem qd2(s:ByteArray):∀n,0≤rdN s n∧rdN s n<256 ^ n
 | 0=>⟨Int.le_refl _,by show (0:Int)<1;decide⟩
 | n+1=>by
  have h:=qd2 s n;have b:=qf3 s n;rw[Int.pow_succ];unfold rdN;omega
theorem qm4(s:ByteArray)(n i:Nat)(o:i<n)(q:n≤s.size):bt (s.extract 0 n) i=bt s i:=by
 have m:i<(s.extract 0 n).size:=by rw[ByteArray.size_extract];omega
 rw[←q2r _ i m,←q2r s i (by omega),ByteArray.getElem_extract];simp
def rdH(s:ByteArray):List Int:=(List.range 32).map (bt s)
theorem qex(s:ByteArray):(rdH s).length=32:=by unfold rdH;simp
theorem q05(s:ByteArray):∀b∈rdH s,0≤b∧b≤255:=by
 intro b m;obtain⟨i,-,rfl⟩:=List.mem_map.1 m;exact qf3 s i
def Fld.wid:Fld→Nat
 | .ch=>4
 | .id=>8
 | .amount=>8
 | .hash=>32
 | .expiry=>4
 | .number=>2
def Fld.get(x:Fld)(s:ByteArray)(m:MsgV):MsgV :=
 match x with
 | .ch=> {m with ch:=rdN s 4}
 | .id=> {m with id:=rdN s 8}
 | .amount=> {m with amount:=rdN s 8}
 | .hash=> {m with hash:=rdH s}
 | .expiry=> {m with expiry:=rdN s 4}
 | .number=> {m with number:=rdN s 2}
theorem q9w{m:MsgV}(h:MsgOk m)(x:Fld)(s:ByteArray):MsgOk (x.get s m):=by
 have q:0≤rdN s 2∧rdN s 2<65536:=qd2 s 2;have o:0≤rdN s 4∧rdN s 4<4294967296:=qd2 s 4;have i:0≤rdN s 8∧rdN s 8<18446744073709551616:=qd2 s 8;cases x
 ·exact⟨h.kind,o,h.id,h.amount,h.len,h.hash,h.expiry,h.number⟩
 ·exact⟨h.kind,h.ch,i,h.amount,h.len,h.hash,h.expiry,h.number⟩
 ·exact⟨h.kind,h.ch,h.id,i,h.len,h.hash,h.expiry,h.number⟩
 ·exact⟨h.kind,h.ch,h.id,h.amount,qex s,q05 s,h.expiry,h.number⟩
 ·exact⟨h.kind,h.ch,h.id,h.amount,h.len,h.hash,⟨show -9223372036854775808≤rdN s 4 by omega,show rdN s 4≤9223372036854775807 by omega⟩,h.number⟩
 ·exact⟨h.kind,h.ch,h.id,h.amount,h.len,h.hash,h.expiry,⟨show -9223372036854775808≤rdN s 2 by omega,show rdN s 2≤9223372036854775807 by omega⟩⟩
theorem q3w(x:Fld)(s:ByteArray)(m:MsgV):(x.get s m).kind=m.kind:=by cases x<;>rfl
def qdi:List Fld→ByteArray→MsgV→Option (MsgV × ByteArray)
 | [],s,m=>some (m,s)
 | x::xs,s,m=>if s.size<x.wid then none else qdi xs (s.extract x.wid s.size) (x.get s m)
theorem qps(x:Fld):∀(xs:List Fld) (s:ByteArray) (m:MsgV),qdi (xs++[x]) s m=(qdi xs s m).bind fun p=>if p.2.size<x.wid then none else some (x.get p.2 p.1,p.2.extract x.wid p.2.size)
 | [],s,m=>rfl
 | y::ys,s,m=>by
  show (if s.size<y.wid then none else qdi (ys++[x]) _ _)=_;rw[qdi];split
  ·rfl
  ·exact qps x ys _ _
theorem qzz{xs:List Fld}{i:Nat}{x:Fld}(h:xs[i]? = some x){s r:ByteArray}{m n:MsgV}(o:qdi (xs.take i) s m=some (n,r)):qdi (xs.take (i+1)) s m=if r.size<x.wid then none else some (x.get r n,r.extract x.wid r.size):=by
 rw[List.take_add_one,h];show qdi (xs.take i++[x]) s m=_;rw[qps,o];rfl
theorem qzy{s:ByteArray}{m:MsgV} : ∀(xs i:List Fld),qdi xs s m=none→qdi (xs++i) s m=none:=by
 intro xs
 induction xs generalizing s m with
 | nil=>intro i h;cases h
 | cons x xs q =>
  intro i h;show (if s.size<x.wid then none else qdi (xs++i) _ _)=none;rw[qdi] at h;split
  ·rfl
  ·rename_i o;rw[if_neg o] at h;exact q i h
theorem qml{r:ByteArray}{n:MsgV} : ∀(xs:List Fld) (s:ByteArray) (m:MsgV),MsgOk m→qdi xs s m=some (n,r)→MsgOk n∧n.kind=m.kind∧r.size≤s.size
 | [],s,m,h,e=>by
  cases e;exact⟨h,rfl,Nat.le_refl _⟩
 | x::xs,s,m,h,e=>by
  rw[qdi] at e;split at e
  ·cases e
  ·obtain⟨i,o,q⟩:=qml xs _ _ (q9w h x s) e;rw[ByteArray.size_extract] at q;exact⟨i,o.trans (q3w x s m),by omega⟩
def qcc(s:ByteArray):MsgV × Int :=
 if s.size=0 then (MsgV.zero,10) else
 match fieldsOf (bt s 0) with
 | none=>(MsgV.zero,70)
 | some xs=>match qdi xs (s.extract 1 s.size) (qbn (bt s 0)) with
  | none=>(MsgV.zero,10)
  | some (m,r)=>if r.size≠0 then (MsgV.zero,11) else if qap m=true then (m,0) else (MsgV.zero,1)
theorem qzj{s:ByteArray}(h:s.size=0):qcc s=(MsgV.zero,10):=by unfold qcc;rw[if_pos h]
theorem q3b{s:ByteArray}(h:s.size≠0)(i:fieldsOf (bt s 0)=none):qcc s=(MsgV.zero,70):=by unfold qcc;rw[if_neg h,i]
theorem qzk{s:ByteArray}{xs:List Fld}(h:s.size≠0)(i:fieldsOf (bt s 0)=some xs)(m:qdi xs (s.extract 1 s.size) (qbn (bt s 0))=none):qcc s=(MsgV.zero,10):=by unfold qcc;rw[if_neg h,i];simp only[];rw[m]
theorem q3c{s r:ByteArray}{m:MsgV}{xs:List Fld}(h:s.size≠0)(i:fieldsOf (bt s 0)=some xs)(o:qdi xs (s.extract 1 s.size) (qbn (bt s 0))=some (m,r))(q:r.size≠0):qcc s=(MsgV.zero,11):=by unfold qcc;rw[if_neg h,i];simp only[];rw[o];simp only[];rw[if_pos q]
theorem q7b{s r:ByteArray}{m:MsgV}{xs:List Fld}(h:s.size≠0)(i:fieldsOf (bt s 0)=some xs)(o:qdi xs (s.extract 1 s.size) (qbn (bt s 0))=some (m,r))(t:r.size=0)(q:qap m=true):qcc s=(m,0):=by unfold qcc;rw[if_neg h,i];simp only[];rw[o];simp only[];rw[if_neg (by omega),if_pos q]
theorem q7c{s r:ByteArray}{m:MsgV}{xs:List Fld}(h:s.size≠0)(i:fieldsOf (bt s 0)=some xs)(o:qdi xs (s.extract 1 s.size) (qbn (bt s 0))=some (m,r))(t:r.size=0)(q:qap m=false):qcc s=(MsgV.zero,1):=by unfold qcc;rw[if_neg h,i];simp only[];rw[o];simp only[];rw[if_neg (by omega),if_neg (by rw[q];decide)]
end
end Go.Proofs.YtfmkdoachjgjbaaGreatDoor
