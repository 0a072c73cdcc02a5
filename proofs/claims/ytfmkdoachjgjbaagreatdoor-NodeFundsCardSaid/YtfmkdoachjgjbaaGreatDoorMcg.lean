/-
  A link: Shut, Sign (of Tick), Out.
-/
import Derived.Test.YtfmkdoachjgjbaaGreatDoorMcf
import Derived.Test.YtfmkdoachjgjbaaGreatDoorSgn
import Derived.Test.YtfmkdoachjgjbaaGreatDoorMcd
import Derived.Test.YtfmkdoachjgjbaaGreatDoorMbd
set_option maxRecDepth 100000
set_option maxHeartbeats 4000000
set_option linter.unusedVariables false
set_option linter.unusedSimpArgs false
namespace Go.Proofs.YtfmkdoachjgjbaaGreatDoor
section
open Go.RowKit
theorem LkS.wider{w:World}{g:Nat}{S T:Nat→Prop}{l:Lk}(h:LkS w g S l)(q:∀k,S k→T k)(o:∀k,T k→k<w.heap.size):LkS w g T l:=by
 obtain⟨sp,en,lo,i,m,h⟩:=h;exact⟨sp,en,lo,i,m,h.wider q o⟩
theorem LkS.later{S:Nat→Prop}{w1 o i:World}{g:Nat}{l:Lk}(h:LkS i g (Fr S o i) l)(q:w1.heap.size≤o.heap.size):LkS i g (Fr S w1 i) l :=
 h.wider (fun k m=>m.elim .inl (fun e=> .inr ⟨by omega,e.2⟩)) (fun k m=>m.elim (fun e=>h.lt k (.inl e)) (fun e=>e.2))
def ql3(m:MsgV)(i:Int):MsgV:=if i=0 then m else MsgV.zero
def Lk.acts(l:Lk)(c':Ch)(rec:ByteArray)(m:MsgV)(i:Int):Lk:=if i=0 then l.says c' rec m else {l with c:=c'}
theorem qmu{m:MsgV}{i:Int}(h:m.hash.length=32):(ql3 m i).hash.length=32:=by
 unfold ql3;split
 ·exact h
 ·exact qu
theorem qgt(g B:Nat)(S:Nat→Prop)(l:Lk)(sp en lo:Nat)(v J:Nat→Prop)(F:FuncId)(y i:Array Value)(m:MsgV)(o:Int)(c':Ch)(xs:List ByteArray)(w:World)
  (h:LkP w g S l sp en lo v J) (P:LkOk l) (H:m.hash.length=32) (q:o=0→SayOk m) (O:Tabs w) (M:ApD S)
  (D:∀args w,(callFunc F args).run Tryz.prog w = .ok (.enter F args) w) (N:∀a,qq w a→Calls Tryz.prog F (y++i) a fun e K=>SaysIt en v m o c' e a K)
  (T:∀j x,xs[j]? = some x→w.cell? ⟨B,j,none⟩=some (.string x)) (R:xs.length≤1000) (I:(qab xs).size≤1024) (C:B<w.heap.size) (z:¬S B) :
  Calls Tryz.prog 45 #[.pointer (some ⟨g,0,none⟩),.func (.func F) y i,.slice (some ⟨B,0,none⟩) xs.length xs.length] w fun e w'=>e = .returned (.tuple #[.agg (ql3 m o).cells.toArray,.int .i64 o])∧LkE w' g (Fr S w w') sp en lo (l.acts c' (qab xs) m o)∧Upd S w w':=by
 refine(q6l g B S l sp en lo v J F y i m o c' xs w h P H q O M D N T R I C z).mono ?_
 rintro e w' ⟨u,(⟨t,rfl,E⟩ | ⟨t,rfl,E⟩)⟩
 ·unfold ql3 Lk.acts;rw[if_neg t,if_neg t];exact⟨rfl,E,u⟩
 ·subst t;exact⟨rfl,E,u⟩
theorem qx9(a:ByteArray):qab [a]=a:=by
 show a++(⟨#[]⟩:ByteArray)=a;exact ByteArray.append_empty
attribute [local go_sem ↓ high] ze zf zg zj qak
attribute [local go_sem] qau qav qaw qy zz qck
def Lk.shut(l:Lk):Lk:=l.acts l.c.shut.1 (zr 5 1) l.c.shut.2.1 l.c.shut.2.2
theorem qp6(g:Nat)(S:Nat→Prop)(l:Lk)(w:World)(h:LkS w g S l)(hk:LkOk l)(C:l.c.shut.2.2=0→SayOk l.c.shut.2.1)(J:l.c.shut.2.1.hash.length=32)(hT:Tabs w)(hA:ApD S) :
  Calls Tryz.prog 27 #[.pointer (some ⟨g,0,none⟩)] w fun e w'=>e = .returned (.int .i64 l.c.shut.2.2)∧LkS w' g (Fr S w w') l.shut∧Upd S w w':=by
 have h0:∀(fn:Fn) (first cap:Array Value) (w:World),(Instr.makeFunc fn first cap).run Tryz.prog w = .ok (.func fn first cap) w:=fun _ _ _ _=>rfl
 have t:=h.lt
 obtain⟨sp,en,lo,SC,SJ,h⟩:=h
 have c1:w.drew.cell? ⟨g,1,none⟩=some (.pointer (some ⟨en,0,none⟩)):=qk h.at_ 1
 have o:∀X,qq w X→X.cell? ⟨g,1,none⟩=some (.pointer (some ⟨en,0,none⟩)):=fun X n=>n.cell (qk h.at_ 1) (fun h=>h)
 have hF:∀a,qq w a→Calls Tryz.prog 74 (#[.pointer (some ⟨en,0,none⟩)]++#[]) a fun e a'=>SaysIt en SC l.c.shut.2.1 l.c.shut.2.2 l.c.shut.1 e a a':=fun a Z=>by
  refine(q5n en SC l.c a (h.chn.new Z)).mono ?_;rintro e a' ⟨he,hc,u⟩;exact⟨he,hc,u⟩
 have h1:qq w w.drew:=(Upd.refl _ _).drew
 have HL:=qj h
 have W:(qab [zr 5 1]).size≤1024:=by rw[qx9,qaq];decide
 unfold Lk.shut
 rw[←qx9 (zr 5 1)]
 generalize l.c.shut.1=c' at *
 generalize l.c.shut.2.1=D at *
 generalize l.c.shut.2.2=er at *
 obtain⟨MM,a7⟩:∃MM,MM=ql3 D er:=⟨_,rfl⟩
 have y:MM.hash.length=32:=by rw[a7];exact qmu J
 have O:=qj a7
 obtain⟨LL,d6⟩:∃LL,LL=l.acts c' (qab [zr 5 1]) D er:=⟨_,rfl⟩
 have I:=qj d6
 clear a7 d6
 have f3:∀X S',LkE X g S' sp en lo LL→Upd S w X→X.cell? ⟨g,1,none⟩=some (.pointer (some ⟨en,0,none⟩)):=fun X S' h _=>h.end_
 clear h
 go_enter Tryz.func27,Tryz.ntmps27
 go_upto_region 1 with fail
 go_cut [3,4] from 5 to 16 (fun kv ev wx=>∃K,kv = .pointer (some ⟨K,0,none⟩)∧ev = .int .i64 er∧MsB wx K MM∧LkE wx g (Fr S w wx) sp en lo LL∧Upd S w wx∧w.heap.size≤K)
 case first =>
  refine qay (fun w'=>w'.cell? ⟨g,1,none⟩=some (.pointer (some ⟨en,0,none⟩))) [4] (.fork (.of [12,0,1,2,3,4,5,6,7,8,9,10,11,13,14]) (Plan.pre [0,1,2,3,4,5,6] (.fork (.of [12,7,8,9,10,11,13,14]) (Plan.pre [7] (.fork (.of [12,8,9,10,11,13,14]) (.of [8,9,10,11,12,13,14])))))) (by kernel_rfl) (by kernel_rfl) c1 ?_;simp only[Plan.of,Plan.pre];refine qf ?_ ?_
  ·skip
   try go_wp2_with ((with_reducible first|rfl|refine' ut ?_ ?_;rotate_left|refine' uu ?_)<;>intros)
   have m1:qq w (w.alloc (.cells MsgV.zero.cells.toArray 101)).drew:=((Upd.refl _ _).alloc _).drew;have b1:MsB (w.alloc (.cells MsgV.zero.cells.toArray 101)).drew w.heap.size MsgV.zero:=(qa6 w MsgV.zero qu).new (Upd.drew (Upd.refl (fun _=>False) _));obtain⟨K1,e1⟩:∃K,K=w.heap.size:=⟨_,rfl⟩;have n1:qq w (w.alloc (.cells MsgV.zero.cells.toArray 101)).drew:=m1
   first | refine⟨o _ n1,?_⟩ | skip
   have y1:=b1.lt;generalize (w.alloc (.cells MsgV.zero.cells.toArray 101)).drew=f8 at m1 b1 n1 y1 ⊢;have q1:=o _ n1;rw[←e1] at b1 y1 ⊢;have E1:=qj e1;have g1:w.heap.size≤K1:=by rw[e1];exact Nat.le_refl _
   clear e1
   try go_wp2_with ((with_reducible first|rfl|refine' ut ?_ ?_;rotate_left|refine' uu ?_)<;>intros)
   refine(qcy 5 1 f8 (by decide) (by decide) (by decide)).mono ?_;rintro e e6 ⟨rfl,m2⟩;have n2:qq w e6:=n1.trans m2;have b2:=b1.new m2;have q2:=o _ n2;go_wp2_with (first | ((with_reducible first|rfl|refine' ut ?_ ?_;rotate_left|refine' uu ?_)<;>intros) | refine⟨o _ n2,?_⟩);obtain⟨B3,g0,i3,e3,m3,r3,z3⟩:=qer e6 #[.string (zr 5 1)];have n3:=n2.trans m3;have y3:=n2.size;have b3:=b2.new m3;have a3:=b2.lt;rw[i3,e3]
   first | refine⟨o _ n3,?_⟩ | skip
   clear m3 i3;have q3:=o _ n3
   try go_wp2_with ((with_reducible first|rfl|refine' ut ?_ ?_;rotate_left|refine' uu ?_)<;>intros)
   have m:=qgt g B3 S l sp en lo SC SJ 74 #[.pointer (some ⟨en,0,none⟩)] #[] D er c' [zr 5 1] g0 ((qg HL).new n3) hk J C (hT.new n3) hA (enters_of Tryz.func74 (by kernel_rfl) rfl) (fun a Z=>hF a (n3.trans Z)) (fun j x M=>by
    cases j with
    | zero =>
     obtain rfl:zr 5 1=x:=by simpa using M
     exact qk r3 0
    | succ j=>simp at M) (by decide) W (by omega) (fun e=>by have:=t _ e;omega)
   rw[←qg O,←qg I] at m;refine m.mono ?_;rintro e c4 ⟨rfl,l4,v4⟩;have u4:Upd S w c4:=(n3.mono (fun _ _ h=>h.elim)).trans v4;have x4:=n3.size;have y4:=v4.size;have b4:=b3.upd v4 (fun e=>by have:=t _ e;omega);clear m v4;have b0:=b4.stOk y;have c5:=b4.put y;have x5:Upd (· = K1) c4 _:=zy (w:=c4) (b:=K1) MM.cells;have H:=qj (And.intro c5 (And.intro x5 (And.intro l4 u4)));have h6:=x5.size;clear c5 x5
   try go_wp2_with ((with_reducible first|rfl|refine' ut ?_ ?_;rotate_left|refine' uu ?_)<;>intros)
   go_meet
   case rel =>
    obtain⟨c,x,l,u⟩:=qg H;have E:=qg E1;exact⟨K1,rfl,rfl,c,qdm l x t (by omega) (by omega) (by omega),u.then x (fun i hi e=>by omega),by omega⟩
  ·skip
   try go_wp2_with ((with_reducible first|rfl|refine' ut ?_ ?_;rotate_left|refine' uu ?_)<;>intros)
   refine(qcy 5 1 w.drew (by decide) (by decide) (by decide)).mono ?_;rintro e c3 ⟨rfl,m6⟩;replace m6:=m6.ofDrew;have n6:qq w c3:=m6;have q6:=o _ n6;go_wp2_with (first | ((with_reducible first|rfl|refine' ut ?_ ?_;rotate_left|refine' uu ?_)<;>intros) | refine⟨o _ n6,?_⟩);refine qf ?_ ?_
   ·skip
    try go_wp2_with ((with_reducible first|rfl|refine' ut ?_ ?_;rotate_left|refine' uu ?_)<;>intros)
    obtain⟨K7,f9,i7,e7,m7,b7⟩:=qgv c3;rw[i7,e7];have n7:=n6.trans m7
    first | refine⟨o _ n7,?_⟩ | skip
    have y7:=b7.lt;have q7:=o _ n7;have E7:=qj e7.symm;have g7:w.heap.size≤K7:=by rw[←e7];exact n6.size
    clear e7 i7
    try go_wp2_with ((with_reducible first|rfl|refine' ut ?_ ?_;rotate_left|refine' uu ?_)<;>intros)
    obtain⟨B8,g2,i8,e8,m8,r8,z8⟩:=qer f9 #[.string (zr 5 1)];have n8:=n7.trans m8;have y8:=n7.size;have b8:=b7.new m8;have a8:=b7.lt;rw[i8,e8]
    first | refine⟨o _ n8,?_⟩ | skip
    clear m8 i8;have q8:=o _ n8
    try go_wp2_with ((with_reducible first|rfl|refine' ut ?_ ?_;rotate_left|refine' uu ?_)<;>intros)
    have m:=qgt g B8 S l sp en lo SC SJ 74 #[.pointer (some ⟨en,0,none⟩)] #[] D er c' [zr 5 1] g2 ((qg HL).new n8) hk J C (hT.new n8) hA (enters_of Tryz.func74 (by kernel_rfl) rfl) (fun a Z=>hF a (n8.trans Z)) (fun j x M=>by
     cases j with
     | zero =>
      obtain rfl:zr 5 1=x:=by simpa using M
      exact qk r8 0
     | succ j=>simp at M) (by decide) W (by omega) (fun e=>by have:=t _ e;omega)
    rw[←qg O,←qg I] at m;refine m.mono ?_;rintro e c6 ⟨rfl,l9,v9⟩;have u9:Upd S w c6:=(n8.mono (fun _ _ h=>h.elim)).trans v9;have x9:=n8.size;have y9:=v9.size;have b9:=b8.upd v9 (fun e=>by have:=t _ e;omega);clear m v9;have b0:=b9.stOk y;have d3:=b9.put y;have c7:Upd (· = K7) c6 _:=zy (w:=c6) (b:=K7) MM.cells;have H:=qj (And.intro d3 (And.intro c7 (And.intro l9 u9)));have g4:=c7.size;clear d3 c7
    try go_wp2_with ((with_reducible first|rfl|refine' ut ?_ ?_;rotate_left|refine' uu ?_)<;>intros)
    go_meet
    case rel =>
     obtain⟨c,x,l,u⟩:=qg H;have E:=qg E7;exact⟨K7,rfl,rfl,c,qdm l x t (by omega) (by omega) (by omega),u.then x (fun i hi e=>by omega),by omega⟩
   ·skip
    try go_wp2_with ((with_reducible first|rfl|refine' ut ?_ ?_;rotate_left|refine' uu ?_)<;>intros)
    obtain⟨d0,a6,d7,f2,d9,e2,g3⟩:=qer c3 #[.string (zr 5 1)];have v:=n6.trans d9;have h7:=n6.size;rw[d7,f2]
    first | refine⟨o _ v,?_⟩ | skip
    clear d9 d7;have h2:=o _ v;refine qf ?_ ?_
    ·skip
     try go_wp2_with ((with_reducible first|rfl|refine' ut ?_ ?_;rotate_left|refine' uu ?_)<;>intros)
     obtain⟨P,e5,d8,U,b6,d1⟩:=qgv a6;rw[d8,U];have z:=v.trans b6
     first | refine⟨o _ z,?_⟩ | skip
     have h8:=d1.lt;have h3:=o _ z;have f6:=b6.old e2 (fun h=>h);have i1:=Nat.lt_of_lt_of_le g3 b6.size;have f0:=qj U.symm;have g8:w.heap.size≤P:=by rw[←U];exact v.size
     clear U d8
     try go_wp2_with ((with_reducible first|rfl|refine' ut ?_ ?_;rotate_left|refine' uu ?_)<;>intros)
     have m:=qgt g d0 S l sp en lo SC SJ 74 #[.pointer (some ⟨en,0,none⟩)] #[] D er c' [zr 5 1] e5 ((qg HL).new z) hk J C (hT.new z) hA (enters_of Tryz.func74 (by kernel_rfl) rfl) (fun a Z=>hF a (z.trans Z)) (fun j x M=>by
      cases j with
      | zero =>
       obtain rfl:zr 5 1=x:=by simpa using M
       exact qk f6 0
      | succ j=>simp at M) (by decide) W (by omega) (fun e=>by have:=t _ e;omega)
     rw[←qg O,←qg I] at m;refine m.mono ?_;rintro e N ⟨rfl,f4,a1⟩;have f7:Upd S w N:=(z.mono (fun _ _ h=>h.elim)).trans a1;have h4:=z.size;have h9:=a1.size;have d2:=d1.upd a1 (fun e=>by have:=t _ e;omega);clear m a1;have b0:=d2.stOk y;have d4:=d2.put y;have c8:Upd (· = P) N _:=zy (w:=N) (b:=P) MM.cells;have H:=qj (And.intro d4 (And.intro c8 (And.intro f4 f7)));have g5:=c8.size;clear d4 c8
     try go_wp2_with ((with_reducible first|rfl|refine' ut ?_ ?_;rotate_left|refine' uu ?_)<;>intros)
     go_meet
     case rel =>
      obtain⟨c,x,l,u⟩:=qg H;have E:=qg f0;exact⟨P,rfl,rfl,c,qdm l x t (by omega) (by omega) (by omega),u.then x (fun i hi e=>by omega),by omega⟩
    ·skip
     try go_wp2_with ((with_reducible first|rfl|refine' ut ?_ ?_;rotate_left|refine' uu ?_)<;>intros)
     have m:=qgt g d0 S l sp en lo SC SJ 74 #[.pointer (some ⟨en,0,none⟩)] #[] D er c' [zr 5 1] a6 ((qg HL).new v) hk J C (hT.new v) hA (enters_of Tryz.func74 (by kernel_rfl) rfl) (fun a Z=>hF a (v.trans Z)) (fun j x M=>by
      cases j with
      | zero =>
       obtain rfl:zr 5 1=x:=by simpa using M
       exact qk e2 0
      | succ j=>simp at M) (by decide) W (by omega) (fun e=>by have:=t _ e;omega)
     rw[←qg O,←qg I] at m;refine m.mono ?_;rintro e q ⟨rfl,f5,c2⟩;have e4:Upd S w q:=(v.mono (fun _ _ h=>h.elim)).trans c2;have h5:=v.size;have i0:=c2.size;clear m c2
     try go_wp2_with ((with_reducible first|rfl|refine' ut ?_ ?_;rotate_left|refine' uu ?_)<;>intros)
     have Y:qq q (q.alloc (.cells MsgV.zero.cells.toArray 101)):=((Upd.refl _ _).alloc _);have T:MsB (q.alloc (.cells MsgV.zero.cells.toArray 101)) q.heap.size MsgV.zero:=qa6 q MsgV.zero qu;obtain⟨R,V⟩:∃K,K=q.heap.size:=⟨_,rfl⟩;have b5:=f5.new Y;have c0:=e4.trans (Y.mono (fun _ _ h=>h.elim));have e9:=Y.size;generalize (q.alloc (.cells MsgV.zero.cells.toArray 101))=a2 at Y T b5 c0 e9 ⊢
     first | refine⟨f3 _ _ b5 c0,?_⟩ | skip
     rw[←V] at T e9 ⊢;have f1:=qj V;have g9:w.heap.size≤R:=by rw[V];exact e4.size
     clear V;have b0:=T.stOk y;have d5:=T.put y;have c9:Upd (· = R) a2 _:=zy (w:=a2) (b:=R) MM.cells;have H:=qj (And.intro d5 (And.intro c9 (And.intro b5 c0)));have g6:=c9.size;clear d5 c9
     try go_wp2_with ((with_reducible first|rfl|refine' ut ?_ ?_;rotate_left|refine' uu ?_)<;>intros)
     go_meet
     case rel =>
      obtain⟨c,x,l,u⟩:=qg H;have E:=qg f1;exact⟨R,rfl,rfl,c,qnu l x t (by omega) (by omega) (by omega),u.then x (fun i hi e=>by omega),by omega⟩
 case rest =>
  obtain⟨K,rfl,rfl,hM,hl,u,hK⟩:=hcut;obtain⟨w3,rfl⟩:∃w3:World,w3=wc:=⟨_,rfl⟩;have H:=qj (And.intro hl u);clear hl u;go_wp2_with ((with_reducible first|rfl|refine' ut ?_ ?_;rotate_left|refine' uu ?_)<;>intros);go_ret;rw[qg I] at H;exact⟨rfl,(qg H).1.s,(qg H).2⟩
end
section
open Go.RowKit
attribute [local go_sem ↓ high] ze zf zg zj qak zl
attribute [local go_sem] qau qav qaw qy zz qck qa9
end
section
open Go.RowKit
structure RelV where
 ci:Nat
 peers:Value
 invoices:Value
 known:Value
 routes:Value
 payments:Value
 drains:Bool
 bs:Nat
def RelV.cells(r:RelV):List Value:=[qr8 r.ci,r.peers,r.invoices,r.known,r.routes,r.payments,.bool r.drains]
def ReR(w:World)(g:Nat)(r:RelV):Prop:=w.heap[g]? = some (.cells r.cells.toArray 157 (0,0))
structure NodeV where
 re:Nat
 funds:Int
 drains:Bool
 shut:List Bool
 swept:List Bool
def NodeV.cells(n:NodeV):List Value:=qr8 n.re :: .int .u64 n.funds :: .bool n.drains::(n.shut.map Value.bool++n.swept.map Value.bool)
def NoR(w:World)(g:Nat)(n:NodeV):Prop:=w.heap[g]? = some (.cells n.cells.toArray 149 (0,0))
def qo6(b:Nat):Value:= .map (some b)
def EmM(w:World)(b:Nat):Prop:=w.heap[b]? = some (.map #[] 0)
theorem q0o(a b:Int)(w:World):Calls Tryz.prog 122 #[.int .u64 a,.int .u64 b] w fun e w'=>∃g,e = .returned (.pointer (some ⟨g,0,none⟩))∧w.heap.size≤g∧g<w'.heap.size∧qq w w':=by
 have i:=@run_makeMap Tryz.prog;go_enter Tryz.func122,Tryz.ntmps122;go_wp2_with fail;go_ret;refine⟨w.heap.size+2,rfl,by omega,?_,(((Upd.refl _ _).alloc _).alloc _).alloc _⟩;rw[World.size_alloc,World.size_alloc,World.size_alloc];omega
structure NewR(w:World)(B g:Nat)(r:RelV):Prop where
 at_:ReR w g r
 peers:r.peers=qcb
 drains:r.drains=false
 bs:r.bs=B
 maps:∃m1 m2 m3 m4,r.invoices=qo6 m1∧r.known=qo6 m2∧r.routes=qo6 m3∧r.payments=qo6 m4∧EmM w m1∧EmM w m2∧EmM w m3∧EmM w m4∧B≤m1∧m1<m2∧m2<m3∧m3<m4∧m4<g
theorem NewR.lt{w:World}{B g:Nat}{r:RelV}(h:NewR w B g r):g<w.heap.size:=zi h.at_
theorem NewR.new{w w':World}{B g:Nat}{r:RelV}(h:NewR w B g r)(n:qq w w'):NewR w' B g r:=by
 obtain⟨a,p,d,m,E,H,I,J,y,z,C,D,o,q,t,v,l⟩:=h;have i (x:False):False:=x;exact⟨n.old a i,p,d,m,E,H,I,J,y,z,C,D,n.old o i,n.old q i,n.old t i,n.old v i,l⟩
theorem q4w(a b:Int)(w:World):Calls Tryz.prog 76 #[.int .u64 a,.int .u64 b] w fun e w'=>∃g r,e = .returned (.pointer (some ⟨g,0,none⟩))∧w.heap.size≤g∧NewR w' w.heap.size g r∧qq w w':=by
 have T:=@run_makeMap Tryz.prog;go_enter Tryz.func76,Tryz.ntmps76;go_wp2_with fail;refine(q0o a b w).mono ?_;rintro e w1 ⟨c,rfl,X,R,H⟩;go_wp2_with fail;go_ret;have W:=H.size;obtain⟨m,v⟩:∃m,m=w1.alloc (.map #[] 0):=⟨_,rfl⟩;obtain⟨o,y⟩:∃o,o=m.alloc (.map #[] 0):=⟨_,rfl⟩;obtain⟨q,z⟩:∃q,q=o.alloc (.map #[] 0):=⟨_,rfl⟩;obtain⟨i,C⟩:∃i,i=q.alloc (.map #[] 0):=⟨_,rfl⟩;have J:m.heap.size=w1.heap.size+1:=by rw[v];exact World.size_alloc _ _
 have z3:o.heap.size=w1.heap.size+2:=by rw[y,World.size_alloc,J]
 have z4:q.heap.size=w1.heap.size+3:=by rw[z,World.size_alloc,z3]
 have z5:i.heap.size=w1.heap.size+4:=by rw[C,World.size_alloc,z4]
 have K:EmM m w1.heap.size:=by rw[v];exact ql _ _
 have M:EmM o (w1.heap.size+1):=by rw[y,←J];exact ql _ _
 have N:EmM q (w1.heap.size+2):=by rw[z,←z3];exact ql _ _
 have O:EmM i (w1.heap.size+3):=by rw[C,←z4];exact ql _ _
 have V:qq w1 m:=by rw[v];exact(Upd.refl _ _).alloc _
 have I:qq m o:=by rw[y];exact(Upd.refl _ _).alloc _
 have E:qq o q:=by rw[z];exact(Upd.refl _ _).alloc _
 have D:qq q i:=by rw[C];exact(Upd.refl _ _).alloc _
 rw[←v,←y,←z,←C];obtain⟨r,U⟩:∃r:RelV,r=⟨c,qcb,qo6 w1.heap.size,qo6 (w1.heap.size+1),qo6 (w1.heap.size+2),qo6 (w1.heap.size+3),false,w.heap.size⟩:=⟨_,rfl⟩;have P:ReR (i.alloc (.cells r.cells.toArray 157)) (w1.heap.size+4) r:=by
  have:=ql i (.cells r.cells.toArray 157);rwa [z5] at this
 have t:qq i (i.alloc (.cells r.cells.toArray 157)):=(Upd.refl _ _).alloc _;subst U;have n (x:False):False:=x;exact⟨w1.heap.size+4,_,rfl,by omega,⟨P,rfl,rfl,rfl,_,_,_,_,rfl,rfl,rfl,rfl,(I.trans (E.trans (D.trans t))).old K n,(E.trans (D.trans t)).old M n,(D.trans t).old N n,t.old O n,W,by omega,by omega,by omega,by omega⟩,H.trans (V.trans (I.trans (E.trans (D.trans t))))⟩
def NodeV.new(re:Nat)(funds:Int):NodeV:=⟨re,funds,false,List.replicate 8 false,List.replicate 8 false⟩
theorem quc(f a b:Int)(x:0≤f∧f<18446744073709551616)(w:World):Calls Tryz.prog 30 #[.int .u64 f,.int .u64 a,.int .u64 b] w fun e w' =>
  (f≤1125899906842624∧∃g r R,e = .returned (.pointer (some ⟨g,0,none⟩))∧w.heap.size≤r∧r<g∧NoR w' g (.new r f)∧NewR w' w.heap.size r R∧qq w w')∨(1125899906842624<f∧e = .returned (.pointer none)∧qq w w'):=by
 go_enter Tryz.func30,Tryz.ntmps30
 by_cases o:1125899906842624<f
 ·go_wp2_with fail;go_ret;exact .inr ⟨o,rfl,Upd.refl _ _⟩
 ·go_wp2_with fail;refine(q4w a b w).mono ?_;rintro e w1 ⟨r,R,rfl,t,i,v⟩;go_wp2_with fail;go_ret;have m:qq w1 (w1.alloc (.cells (NodeV.new r f).cells.toArray 149)):=(Upd.refl _ _).alloc _;have q:NoR (w1.alloc (.cells (NodeV.new r f).cells.toArray 149)) w1.heap.size (.new r f):=ql _ _;exact .inl ⟨by omega,w1.heap.size,r,R,rfl,t,i.lt,q,i.new m,v.trans m⟩
theorem qlg{α:Type}(f:α→List Value)(k:Nat)(m:∀x,(f x).length=k):∀(X:List α) (i j:Nat) (x:α),X[i]? = some x→j<k→(X.flatMap f)[i*k+j]? = (f x)[j]? := by
 intro X
 induction X with
 | nil=>intro i j x h;simp at h
 | cons y X t =>
  intro i j x o q;rw[List.flatMap_cons];cases i with
  | zero =>
   rw[List.getElem?_append_left (by rw[m];omega),Nat.zero_mul,Nat.zero_add];have:y=x:=by simpa using o
   rw[this]
  | succ i =>
   rw[List.getElem?_append_right (by rw[m,Nat.succ_mul];omega),m,show (i+1)*k+j-k=i*k+j by rw[Nat.succ_mul];omega];exact t i j x (by simpa using o) q
theorem qjs{α:Type}(f:α→List Value)(k:Nat)(y:∀x,(f x).length=k){w:World}{base:Nat}{T:TypeId}{v:Value}{n:Nat}{X:List α}(h:w.ownsRow base T k v n (X.flatMap f))(H:n=X.length) :
  (v = .slice none 0 0∧X=[])∨∃g cap,v = .slice (some ⟨g,0,none⟩) n cap∧base≤g∧(∃m,w.heap[g]? = some (.cells m T (0,0)))∧∀i j x,X[i]? = some x→j<k→w.cell? ⟨g,i*k+j,none⟩=(f x)[j]? := by
 rcases h.2 with ⟨e,e0⟩ | ⟨g,cap,m,e,t,o,D,J,I,C⟩
 ·exact .inl ⟨e,List.length_eq_zero_iff.1 (by omega)⟩
 ·refine .inr ⟨g,cap,e,t,⟨m,o⟩,fun i j x q z=> ?_⟩;have E:=(List.getElem?_eq_some_iff.1 q).1;rw[qk o,←Array.getElem?_toList,←qlg f k y X i j x q z,←C,List.getElem?_take_of_lt];have:=Nat.mul_le_mul_right k (show i+1≤n from by omega);rw[Nat.succ_mul] at this;omega
structure PeerV where
 ch:Int
 lk:Nat
 l:LinkV
 c:ChanV
def PeerV.cells(p:PeerV):List Value:=[.int .u32 p.ch,qr8 p.lk]
theorem PeerV.len(p:PeerV):p.cells.length=2:=rfl
structure RelI(w:World)(r:Nat)(R:RelV)(ps:List PeerV):Prop where
 at_:ReR w r R
 row:w.ownsRow R.bs 159 2 R.peers ps.length (ps.flatMap PeerV.cells)
 links:∀p∈ps,LkR w p.lk p.l∧ChR w p.l.en p.c
 bsle:R.bs≤w.heap.size
theorem RelI.shape{w:World}{r:Nat}{R:RelV}{ps:List PeerV}(h:RelI w r R ps):∃a cap,R.peers = .slice a ps.length cap:=by
 rcases qjs PeerV.cells 2 PeerV.len h.row rfl with ⟨e,e0⟩ | ⟨g,cap,e,-⟩
 ·exact⟨none,0,by rw[e,e0];rfl⟩
 ·exact⟨_,cap,e⟩
theorem qvq(r:Nat)(R:RelV)(ps:List PeerV)(w:World)(h:RelI w r R ps)(ch:Int)(hl:ps.length≤1048576) :
  Calls Tryz.prog 123 #[.pointer (some ⟨r,0,none⟩),.int .u32 ch] w fun e w' =>
   ((∃p∈ps,p.ch=ch∧e = .returned (.pointer (some ⟨p.lk,0,none⟩)))∨((∀p∈ps,p.ch≠ch)∧e = .returned (.pointer none)))∧qq w w':=by
 have P:w.cell? ⟨r,1,none⟩=some R.peers:=qk h.at_ 1
 have o:=qjs PeerV.cells 2 PeerV.len h.row rfl
 obtain⟨a,cap,M⟩:=h.shape
 rw[M] at P o
 have W:(ps.length:Int)≤1048576:=by omega
 go_enter Tryz.func123,Tryz.ntmps123
 go_wp2_with fail
 clear P
 go_loopw [12] (fun N wr=>∃i:Nat,N = .int .i64 (i:Int)∧i≤ps.length∧(∀j x,j<i→ps[j]? = some x→x.ch≠ch)∧qq w wr) (fun N _=>ps.length-(intOf N).toNat)
 case atStart=>exact⟨0,rfl,Nat.zero_le _,fun j x h=>by omega,Upd.refl _ _⟩
 case round =>
  obtain⟨i,rfl,hi,E,D⟩:=hrel;obtain⟨t,rfl⟩:∃t:World,t=wr:=⟨_,rfl⟩;by_cases q:i<ps.length
  ·have z:ps[i]? = some ps[i]:=List.getElem?_eq_getElem q;generalize ps[i]=x at z;rcases o with ⟨e,e0⟩ | ⟨g,Y,e,-,-,m⟩
   ·rw[e0] at q;simp at q
   ·injection e with e1 e2 e3;subst e1 e3;have T:t.cell? ⟨g,i*2+0,none⟩=some (.int .u32 x.ch):=D.cell (m i 0 x z (by omega)) (fun h=>h);have Z:t.cell? ⟨g,i*2+1,none⟩=some (.pointer (some ⟨x.lk,0,none⟩)):=D.cell (m i 1 x z (by omega)) (fun h=>h);rw[Nat.add_zero] at T;have V:(i:Int)<(ps.length:Int):=by omega
    by_cases I:x.ch=ch
    ·have O:qq w (t.alloc (.cells #[.int .u32 ch,.pointer (some ⟨x.lk,0,none⟩)] 159)):=D.alloc _;have U:=qj (List.mem_of_getElem? z);rw[I] at T;go_wp2_with fail;go_ret;exact⟨.inl ⟨x,qg U,I,rfl⟩,O⟩
    ·have O:qq w (t.alloc (.cells #[.int .u32 x.ch,.pointer (some ⟨x.lk,0,none⟩)] 159)):=D.alloc _;have v:∀j y,j<i+1→ps[j]? = some y→y.ch≠ch:=by
      intro j y J C;by_cases K:j<i
      ·exact E j y K C
      ·obtain rfl:j=i:=by omega
       rw[z] at C;injection C with C;exact C▸I
     have H:=qj v;clear E v;go_wp2_with fail;go_roundw
     case rel=>exact⟨i+1,rfl,by omega,qg H,O⟩
     case measure=>simp[intOf];omega
  ·obtain rfl:i=ps.length:=by omega
   have H:=qj E;clear E o;go_wp2_with fail;go_ret;refine⟨.inr ⟨fun p X=> ?_,rfl⟩,D⟩;obtain⟨j,J,e⟩:=List.mem_iff_getElem.1 X;exact qg H j p J (by rw[List.getElem?_eq_getElem J,e])
end
end Go.Proofs.YtfmkdoachjgjbaaGreatDoor
