/-
  A link: Tick, Out.
-/
import Derived.Test.YtfmkdoachjgjbaaGreatDoorMcf
import Derived.Test.YtfmkdoachjgjbaaGreatDoorMdf
import Derived.Test.YtfmkdoachjgjbaaGreatDoorMda
import Derived.Test.YtfmkdoachjgjbaaGreatDoorLw2
set_option linter.unusedVariables false
set_option linter.unusedSimpArgs false
namespace Go.Proofs.YtfmkdoachjgjbaaGreatDoor
open Go.RowKit
attribute [local go_sem ↓ high] qz zb zc zf qah
attribute [local go_sem] qaw qax qa1 qw zt qcl
theorem qzl{l:Lk}{c':Ch}{rec:ByteArray}{m:MsgV}{er:Int} : (l.acts c' rec m er).dead=l.dead:=by
 unfold Lk.acts;split<;>rfl
set_option maxHeartbeats 1000000 in
theorem q9c(g:Nat)(S:Nat→Prop)(l:Lk)(w:World)(h:LkS w g S l)(hd:l.dead=false) :
  Calls Tryz.prog 44 #[.pointer (some ⟨g,0,none⟩)] w fun e w'=>e = .returned (.string l.out)∧LkS w' g S {l with out:=⟨#[]⟩} ∧ Upd S w w':=by
 obtain⟨sp,en,lo,i,m,h⟩:=h
 have v:w.cell? ⟨g,6,none⟩=some (.bool false):=hd▸qg h.at_ 6
 have q:w.cell? ⟨g,3,none⟩=some (.string l.out):=qg h.at_ 3
 have z:=qu h.at_ 3
 have u:Upd (· = g) w (w.setCell ⟨g,3,none⟩ (.string ⟨#[]⟩)):=(Upd.refl _ _).set1 _ _
 have f:=qb (And.intro (h.put_out ⟨#[]⟩) (u.mono (T:=S) (fun k _ e=>by rw[e];exact h.inG)))
 clear h u
 go_enter Tryz.func44,Tryz.ntmps44
 go_wp2_with fail
 go_ret
 exact⟨rfl,⟨sp,en,lo,i,m,(qa f).1⟩,(qa f).2⟩
set_option maxRecDepth 100000 in
set_option maxHeartbeats 2000000 in
theorem qsy(g:Nat)(S:Nat→Prop)(l:Lk)(n:Nat)(w:World)(h:LkS w g S l)(C:LkOk l)(E:l.ticks=n)(q:n<1000000)(L:(n+1)%3≠0) :
  Calls Tryz.prog 28 #[.pointer (some ⟨g,0,none⟩)] w fun e w'=>e = .returned (.int .i64 0)∧LkS w' g S {l with ticks:=(n:Int)+1} ∧ Upd S w w':=by
 obtain⟨sp,en,lo,v,z,h⟩:=h
 have H:w.cell? ⟨g,6,none⟩=some (.bool false):=C.dead▸qg h.at_ 6
 have F:w.cell? ⟨g,5,none⟩=some (.int .i64 (n:Int)):=by rw[←E];exact qg h.at_ 5
 have K:=qu h.at_ 5
 have u:Upd (· = g) w (w.setCell ⟨g,5,none⟩ (.int .i64 ((n:Int)+1))):=(Upd.refl _ _).set1 _ _
 have i:=h.put_ticks ((n:Int)+1)
 have I:(w.setCell ⟨g,5,none⟩ (.int .i64 ((n:Int)+1))).cell? ⟨g,5,none⟩=some (.int .i64 ((n:Int)+1)):=qg i.at_ 5
 have J:(w.setCell ⟨g,5,none⟩ (.int .i64 ((n:Int)+1))).cell? ⟨g,8,none⟩=some (.bool false):=C.waits▸qg i.at_ 8
 have f:=qb (And.intro i (u.mono (T:=S) (fun k _ e=>by rw[e];exact h.inG)))
 have m:((n:Int)+1)%3=1∨((n:Int)+1)%3=2:=by omega
 have M:(n:Int)<1000000:=by omega
 clear h i u E q L
 go_enter Tryz.func28,Tryz.ntmps28
 go_upto_region 4 with fail
 generalize w.setCell ⟨g,5,none⟩ (.int .i64 ((n:Int)+1))=w1 at I J f ⊢
 clear H F K
 rcases m with m | m
 ·go_wp2_with fail;go_ret;exact⟨rfl,⟨sp,en,lo,v,z,(qa f).1⟩,(qa f).2⟩
 ·go_wp2_with fail;go_ret;exact⟨rfl,⟨sp,en,lo,v,z,(qa f).1⟩,(qa f).2⟩
noncomputable def Lk.signs(l:Lk):Lk:=l.acts l.c.sign.1 (qx 4 1) l.c.sign.2.1 l.c.sign.2.2
def qlm(er:Int):Int:=if er=5 then 0 else er
set_option maxRecDepth 100000 in
set_option maxHeartbeats 4000000 in
theorem qyb(g:Nat)(S:Nat→Prop)(l:Lk)(n:Nat)(w:World)(h:LkS w g S l)(f:LkOk l)(hn:l.ticks=n)(h9:n<1000000)(h3:(n+1)%3=0)(J:l.c.sign.2.2=0→SayOk l.c.sign.2.1)(U:l.c.sign.2.1.hash.length=32)(hT:Tc w)(hA:ApC S)
  (Y:l.c.s.key.size≤100000000) (e0:0≤l.c.s.ch∧l.c.s.ch<4294967296) (W:l.c.news.length<1000000) (e4:l.c.xs.length≤16) :
  Calls Tryz.prog 28 #[.pointer (some ⟨g,0,none⟩)] w fun e w'=>e = .returned (.int .i64 (qlm l.c.sign.2.2))∧LkS w' g (Fr S w w') ({l with ticks:=(n:Int)+1} : Lk).signs∧Upd S w w':=by
 have j2:∀(fn:Fn) (first cap:Array Value) (w:World),(Instr.makeFunc fn first cap).run Tryz.prog w = .ok (.func fn first cap) w:=fun _ _ _ _=>rfl
 obtain⟨sp,en,lo,SC,SJ,h⟩:=h
 have c6:w.cell? ⟨g,6,none⟩=some (.bool false):=f.dead▸qg h.at_ 6
 have c5:w.cell? ⟨g,5,none⟩=some (.int .i64 (n:Int)):=by rw[←hn];exact qg h.at_ 5
 have f5:=qu h.at_ 5
 have u0:Upd (· = g) w (w.setCell ⟨g,5,none⟩ (.int .i64 ((n:Int)+1))):=(Upd.refl _ _).set1 _ _
 have c7:=hT.upd (u0.mono (T:=S) (fun k _ e=>by rw[e];exact h.inG)) hA
 have V:=h.put_ticks ((n:Int)+1)
 have d5:(w.setCell ⟨g,5,none⟩ (.int .i64 ((n:Int)+1))).cell? ⟨g,5,none⟩=some (.int .i64 ((n:Int)+1)):=qg V.at_ 5
 have d8:(w.setCell ⟨g,5,none⟩ (.int .i64 ((n:Int)+1))).cell? ⟨g,8,none⟩=some (.bool false):=f.waits▸qg V.at_ 8
 have d4:=qb (u0.mono (T:=S) (fun k _ e=>by rw[e];exact h.inG))
 have hm:((n:Int)+1)%3=0:=by omega
 have j3:(n:Int)<1000000:=by omega
 obtain⟨l0,c8⟩:∃l0:Lk,l0 = {l with ticks:=(n:Int)+1} := ⟨_,rfl⟩
 have e2:LkOk l0:=by rw[c8];exact⟨f.dead,f.waits,f.fused,f.off,f.many,f.len,f.out⟩
 have g4:l0.c=l.c:=by rw[c8]
 rw[←c8] at V ⊢
 rw[←g4] at J U Y e0 W e4 ⊢
 have HZ:=qb u0.size
 have h6:∀a,ChS a en SC l0.c→Tc a→Calls Tryz.prog 75 (#[.pointer (some ⟨en,0,none⟩)]++#[]) a fun e a'=>SaysIt en SC l0.c.sign.2.1 l0.c.sign.2.2 l0.c.sign.1 e a a':=fun a hc ta=>by
  refine(q2r en SC l0.c a hc ta (hA.mono V.inC) Y e0 W e4).mono ?_;rintro e a' ⟨he,hc,u⟩;exact⟨he,hc,u⟩
 unfold Lk.signs
 rw[←zaa (qx 4 1)]
 obtain⟨l,rfl⟩:∃l,l=l0:=⟨_,rfl⟩
 generalize l.c.sign.1=c' at *
 generalize l.c.sign.2.1=R at *
 generalize l.c.sign.2.2=er at *
 obtain⟨MM,d9⟩:∃MM,MM=qri R er:=⟨_,rfl⟩
 have I:MM.hash.length=32:=by rw[d9];exact qs5 U
 have a7:=qb d9
 obtain⟨LL,d7⟩:∃LL,LL=l.acts c' (zx [qx 4 1]) R er:=⟨_,rfl⟩
 have h7:LL.dead=false:=by rw[d7,qzl];exact e2.dead
 have P:=qb d7
 clear d9 d7 Y e0 W e4
 clear h hn h9 h3 f u0 hT c8 g4
 go_enter Tryz.func28,Tryz.ntmps28
 go_upto_region 4 with fail
 generalize w.setCell ⟨g,5,none⟩ (.int .i64 ((n:Int)+1))=w1 at d5 d8 V c7 d4 HZ ⊢
 clear c6 c5 f5
 have z:=V.lt
 have c1:w1.drew.cell? ⟨g,1,none⟩=some (.pointer (some ⟨en,0,none⟩)):=qg V.at_ 1
 have q:∀X,qq w1 X→X.cell? ⟨g,1,none⟩=some (.pointer (some ⟨en,0,none⟩)):=fun X n=>n.cell (qg V.at_ 1) (fun h=>h)
 have hF:=fun a (na:qq w1 a)=>h6 a (V.chn.new na) (c7.new na)
 have j4:qq w1 w1.drew:=(Upd.refl _ _).drew
 have HL:=qb V
 have c9:(zx [qx 4 1]).size≤1024:=by rw[zaa,qaq];decide
 have hT:=c7.tabs
 have g3:=hA
 have hA:ApD S:=⟨g3.c,g3.d⟩
 have f:=e2
 go_upto_region 6 with fail
 rw[hm]
 clear d5 d8 hm
 have h8:∀X S',LkE X g S' sp en lo LL→Upd S w1 X→X.cell? ⟨g,1,none⟩=some (.pointer (some ⟨en,0,none⟩)):=fun X S' h _=>h.end_
 clear V c7 e2
 go_cut [3,4] from 28 to 39 (fun kv ev wx=>∃K,kv = .pointer (some ⟨K,0,none⟩)∧ev = .int .i64 er∧MsB wx K MM∧LkE wx g (Fr S w1 wx) sp en lo LL∧Upd S w1 wx∧w1.heap.size≤K)
 case first =>
  refine qa2 (fun w'=>w'.cell? ⟨g,1,none⟩=some (.pointer (some ⟨en,0,none⟩))) [4] (.fork (.of [12,0,1,2,3,4,5,6,7,8,9,10,11,13,14]) (Plan.pre [0,1,2,3,4,5,6] (.fork (.of [12,7,8,9,10,11,13,14]) (Plan.pre [7] (.fork (.of [12,8,9,10,11,13,14]) (.of [8,9,10,11,12,13,14])))))) (by kernel_rfl) (by kernel_rfl) c1 ?_;simp only[Plan.of,Plan.pre];refine qf ?_ ?_
  ·skip
   try go_wp2_with (with_reducible first|(first|refine' zy (qh ?_) ?_|refine' zz (qh ?_) ?_|refine' qw3 (qh ?_) ?_);rotate_left|refine' qw4 (qh ?_)|refine' qw5 (qh ?_)|rfl|apply qn)
   have m1:qq w1 (w1.alloc (.cells MsgV.zero.cells.toArray 101)).drew:=((Upd.refl _ _).alloc _).drew;have b1:MsB (w1.alloc (.cells MsgV.zero.cells.toArray 101)).drew w1.heap.size MsgV.zero:=(qai w1 MsgV.zero qo).new (Upd.drew (Upd.refl (fun _=>False) _));obtain⟨K1,e1⟩:∃K,K=w1.heap.size:=⟨_,rfl⟩;have n1:qq w1 (w1.alloc (.cells MsgV.zero.cells.toArray 101)).drew:=m1
   first | refine⟨q _ n1,?_⟩ | skip
   have y1:=b1.lt;generalize (w1.alloc (.cells MsgV.zero.cells.toArray 101)).drew=i4 at m1 b1 n1 y1 ⊢;have q1:=q _ n1;rw[←e1] at b1 y1 ⊢;have E1:=qb e1;have g1:w1.heap.size≤K1:=by rw[e1];exact Nat.le_refl _
   clear e1
   try go_wp2_with (with_reducible first|(first|refine' zy (qh ?_) ?_|refine' zz (qh ?_) ?_|refine' qw3 (qh ?_) ?_);rotate_left|refine' qw4 (qh ?_)|refine' qw5 (qh ?_)|rfl|apply qn)
   refine(qcv 4 1 i4 (by decide) (by decide) (by decide)).mono ?_;rintro e M ⟨rfl,m2⟩;have n2:qq w1 M:=n1.trans m2;have b2:=b1.new m2;have q2:=q _ n2;go_wp2_with (first | (with_reducible first|(first|refine' zy (qh ?_) ?_|refine' zz (qh ?_) ?_|refine' qw3 (qh ?_) ?_);rotate_left|refine' qw4 (qh ?_)|refine' qw5 (qh ?_)|rfl|apply qn) | refine⟨q _ n2,?_⟩)
   try go_wp2_with (with_reducible first|(first|refine' zy (qh ?_) ?_|refine' zz (qh ?_) ?_|refine' qw3 (qh ?_) ?_);rotate_left|refine' qw4 (qh ?_)|refine' qw5 (qh ?_)|rfl|apply qn)
   have m3:qq M (M.alloc (.cells #[.string (qx 4 1)] 9)):=(Upd.refl _ _).alloc _;have n3:=n2.trans m3;have r3:=qj M (.cells #[.string (qx 4 1)] 9);have z3:M.heap.size<(M.alloc (.cells #[.string (qx 4 1)] 9)).heap.size:=by rw[World.size_alloc];omega
   have y3:=n2.size;have b3:=b2.new m3;have a3:=b2.lt;generalize M.alloc (.cells #[.string (qx 4 1)] 9)=i5 at m3 n3 r3 z3 b3 ⊢
   first | refine⟨q _ n3,?_⟩ | skip
   clear m3;have q3:=q _ n3;generalize M.heap.size=B3 at *
   try go_wp2_with (with_reducible first|(first|refine' zy (qh ?_) ?_|refine' zz (qh ?_) ?_|refine' qw3 (qh ?_) ?_);rotate_left|refine' qw4 (qh ?_)|refine' qw5 (qh ?_)|rfl|apply qn)
   have m:=qnw g B3 S l sp en lo SC SJ 75 #[.pointer (some ⟨en,0,none⟩)] #[] R er c' [qx 4 1] i5 ((qa HL).new n3) f U J (hT.new n3) hA (enters_of Tryz.func75 (by kernel_rfl) rfl) (fun a na=>hF a (n3.trans na)) (fun j x Z=>by
    cases j with
    | zero =>
     obtain rfl:qx 4 1=x:=by simpa using Z
     exact qg r3 0
    | succ j=>simp at Z) (by decide) c9 (by omega) (fun e=>by have:=z _ e;omega)
   rw[←qa a7,←qa P] at m;refine m.mono ?_;rintro e f1 ⟨rfl,l4,v4⟩;have u4:Upd S w1 f1:=(n3.mono (fun _ _ h=>h.elim)).trans v4;have x4:=n3.size;have y4:=v4.size;have b4:=b3.upd v4 (fun e=>by have:=z _ e;omega);clear m v4;have e3:=b4.stOk I;have c5:=b4.put I;have x5:Upd (· = K1) f1 _:=zj (w:=f1) (b:=K1) MM.cells;have O:=qb (And.intro c5 (And.intro x5 (And.intro l4 u4)));have j9:=x5.size;clear c5 x5
   try go_wp2_with (with_reducible first|(first|refine' zy (qh ?_) ?_|refine' zz (qh ?_) ?_|refine' qw3 (qh ?_) ?_);rotate_left|refine' qw4 (qh ?_)|refine' qw5 (qh ?_)|rfl|apply qn)
   go_meet
   case rel =>
    obtain⟨c,x,l,u⟩:=qa O;refine⟨K1,rfl,rfl,c,?_,u.then x (fun i hi e=>by omega),by omega⟩;have E:=qa E1;refine(l.upd x (fun k f e=> ?_)).wider (fun k f=> ?_) (fun k f=> ?_)
    ·rcases f with f | f
     ·have:=z k f;omega
     ·omega
    ·rcases f with f | f
     ·exact .inl f
     ·exact .inr ⟨by omega,by omega⟩
    ·rcases f with f | f
     ·have:=z k f;omega
     ·exact f.2
  ·skip
   try go_wp2_with (with_reducible first|(first|refine' zy (qh ?_) ?_|refine' zz (qh ?_) ?_|refine' qw3 (qh ?_) ?_);rotate_left|refine' qw4 (qh ?_)|refine' qw5 (qh ?_)|rfl|apply qn)
   refine(qcv 4 1 w1.drew (by decide) (by decide) (by decide)).mono ?_;rintro e v ⟨rfl,m6⟩;replace m6:=m6.ofDrew;have n6:qq w1 v:=m6;have q6:=q _ n6;go_wp2_with (first | (with_reducible first|(first|refine' zy (qh ?_) ?_|refine' zz (qh ?_) ?_|refine' qw3 (qh ?_) ?_);rotate_left|refine' qw4 (qh ?_)|refine' qw5 (qh ?_)|rfl|apply qn) | refine⟨q _ n6,?_⟩);refine qf ?_ ?_
   ·skip
    try go_wp2_with (with_reducible first|(first|refine' zy (qh ?_) ?_|refine' zz (qh ?_) ?_|refine' qw3 (qh ?_) ?_);rotate_left|refine' qw4 (qh ?_)|refine' qw5 (qh ?_)|rfl|apply qn)
    have m7:qq v (v.alloc (.cells MsgV.zero.cells.toArray 101)):=((Upd.refl _ _).alloc _);have b7:MsB (v.alloc (.cells MsgV.zero.cells.toArray 101)) v.heap.size MsgV.zero:=qai v MsgV.zero qo;obtain⟨K7,e7⟩:∃K,K=v.heap.size:=⟨_,rfl⟩;have n7:qq w1 (v.alloc (.cells MsgV.zero.cells.toArray 101)):=n6.trans m7
    first | refine⟨q _ n7,?_⟩ | skip
    have y7:=b7.lt;generalize (v.alloc (.cells MsgV.zero.cells.toArray 101))=N at m7 b7 n7 y7 ⊢;have q7:=q _ n7;rw[←e7] at b7 y7 ⊢;have E7:=qb e7;have g7:w1.heap.size≤K7:=by rw[e7];exact n6.size
    clear e7
    try go_wp2_with (with_reducible first|(first|refine' zy (qh ?_) ?_|refine' zz (qh ?_) ?_|refine' qw3 (qh ?_) ?_);rotate_left|refine' qw4 (qh ?_)|refine' qw5 (qh ?_)|rfl|apply qn)
    have m8:qq N (N.alloc (.cells #[.string (qx 4 1)] 9)):=(Upd.refl _ _).alloc _;have n8:=n7.trans m8;have r8:=qj N (.cells #[.string (qx 4 1)] 9);have z8:N.heap.size<(N.alloc (.cells #[.string (qx 4 1)] 9)).heap.size:=by rw[World.size_alloc];omega
    have y8:=n7.size;have b8:=b7.new m8;have a8:=b7.lt;generalize N.alloc (.cells #[.string (qx 4 1)] 9)=i6 at m8 n8 r8 z8 b8 ⊢
    first | refine⟨q _ n8,?_⟩ | skip
    clear m8;have q8:=q _ n8;generalize N.heap.size=B8 at *
    try go_wp2_with (with_reducible first|(first|refine' zy (qh ?_) ?_|refine' zz (qh ?_) ?_|refine' qw3 (qh ?_) ?_);rotate_left|refine' qw4 (qh ?_)|refine' qw5 (qh ?_)|rfl|apply qn)
    have m:=qnw g B8 S l sp en lo SC SJ 75 #[.pointer (some ⟨en,0,none⟩)] #[] R er c' [qx 4 1] i6 ((qa HL).new n8) f U J (hT.new n8) hA (enters_of Tryz.func75 (by kernel_rfl) rfl) (fun a na=>hF a (n8.trans na)) (fun j x Z=>by
     cases j with
     | zero =>
      obtain rfl:qx 4 1=x:=by simpa using Z
      exact qg r8 0
     | succ j=>simp at Z) (by decide) c9 (by omega) (fun e=>by have:=z _ e;omega)
    rw[←qa a7,←qa P] at m;refine m.mono ?_;rintro e f2 ⟨rfl,l9,v9⟩;have u9:Upd S w1 f2:=(n8.mono (fun _ _ h=>h.elim)).trans v9;have x9:=n8.size;have y9:=v9.size;have b9:=b8.upd v9 (fun e=>by have:=z _ e;omega);clear m v9;have e3:=b9.stOk I;have f9:=b9.put I;have f3:Upd (· = K7) f2 _:=zj (w:=f2) (b:=K7) MM.cells;have O:=qb (And.intro f9 (And.intro f3 (And.intro l9 u9)));have i7:=f3.size;clear f9 f3
    try go_wp2_with (with_reducible first|(first|refine' zy (qh ?_) ?_|refine' zz (qh ?_) ?_|refine' qw3 (qh ?_) ?_);rotate_left|refine' qw4 (qh ?_)|refine' qw5 (qh ?_)|rfl|apply qn)
    go_meet
    case rel =>
     obtain⟨c,x,l,u⟩:=qa O;refine⟨K7,rfl,rfl,c,?_,u.then x (fun i hi e=>by omega),by omega⟩;have E:=qa E7;refine(l.upd x (fun k f e=> ?_)).wider (fun k f=> ?_) (fun k f=> ?_)
     ·rcases f with f | f
      ·have:=z k f;omega
      ·omega
     ·rcases f with f | f
      ·exact .inl f
      ·exact .inr ⟨by omega,by omega⟩
     ·rcases f with f | f
      ·have:=z k f;omega
      ·exact f.2
   ·skip
    try go_wp2_with (with_reducible first|(first|refine' zy (qh ?_) ?_|refine' zz (qh ?_) ?_|refine' qw3 (qh ?_) ?_);rotate_left|refine' qw4 (qh ?_)|refine' qw5 (qh ?_)|rfl|apply qn)
    have e6:qq v (v.alloc (.cells #[.string (qx 4 1)] 9)):=(Upd.refl _ _).alloc _;have H:=n6.trans e6;have e8:=qj v (.cells #[.string (qx 4 1)] 9);have h0:v.heap.size<(v.alloc (.cells #[.string (qx 4 1)] 9)).heap.size:=by rw[World.size_alloc];omega
    have k0:=n6.size;generalize v.alloc (.cells #[.string (qx 4 1)] 9)=C at e6 H e8 h0 ⊢
    first | refine⟨q _ H,?_⟩ | skip
    clear e6;have j5:=q _ H;generalize v.heap.size=f7 at *
    refine qf ?_ ?_
    ·skip
     try go_wp2_with (with_reducible first|(first|refine' zy (qh ?_) ?_|refine' zz (qh ?_) ?_|refine' qw3 (qh ?_) ?_);rotate_left|refine' qw4 (qh ?_)|refine' qw5 (qh ?_)|rfl|apply qn)
     have d0:qq C (C.alloc (.cells MsgV.zero.cells.toArray 101)):=((Upd.refl _ _).alloc _);have c0:MsB (C.alloc (.cells MsgV.zero.cells.toArray 101)) C.heap.size MsgV.zero:=qai C MsgV.zero qo;obtain⟨b5,c3⟩:∃K,K=C.heap.size:=⟨_,rfl⟩;have L:qq w1 (C.alloc (.cells MsgV.zero.cells.toArray 101)):=H.trans d0
     first | refine⟨q _ L,?_⟩ | skip
     have g8:=c0.lt;generalize (C.alloc (.cells MsgV.zero.cells.toArray 101))=g6 at d0 c0 L g8 ⊢;have j6:=q _ L;have i2:=d0.old e8 (fun h=>h);have k5:=Nat.lt_of_lt_of_le h0 d0.size;rw[←c3] at c0 g8 ⊢;have h2:=qb c3;have j0:w1.heap.size≤b5:=by rw[c3];exact H.size
     clear c3
     try go_wp2_with (with_reducible first|(first|refine' zy (qh ?_) ?_|refine' zz (qh ?_) ?_|refine' qw3 (qh ?_) ?_);rotate_left|refine' qw4 (qh ?_)|refine' qw5 (qh ?_)|rfl|apply qn)
     have m:=qnw g f7 S l sp en lo SC SJ 75 #[.pointer (some ⟨en,0,none⟩)] #[] R er c' [qx 4 1] g6 ((qa HL).new L) f U J (hT.new L) hA (enters_of Tryz.func75 (by kernel_rfl) rfl) (fun a na=>hF a (L.trans na)) (fun j x Z=>by
      cases j with
      | zero =>
       obtain rfl:qx 4 1=x:=by simpa using Z
       exact qg i2 0
      | succ j=>simp at Z) (by decide) c9 (by omega) (fun e=>by have:=z _ e;omega)
     rw[←qa a7,←qa P] at m;refine m.mono ?_;rintro e a6 ⟨rfl,i0,d2⟩;have i3:Upd S w1 a6:=(L.mono (fun _ _ h=>h.elim)).trans d2;have j7:=L.size;have k3:=d2.size;have f8:=c0.upd d2 (fun e=>by have:=z _ e;omega);clear m d2;have e3:=f8.stOk I;have g0:=f8.put I;have f4:Upd (· = b5) a6 _:=zj (w:=a6) (b:=b5) MM.cells;have O:=qb (And.intro g0 (And.intro f4 (And.intro i0 i3)));have i8:=f4.size;clear g0 f4
     try go_wp2_with (with_reducible first|(first|refine' zy (qh ?_) ?_|refine' zz (qh ?_) ?_|refine' qw3 (qh ?_) ?_);rotate_left|refine' qw4 (qh ?_)|refine' qw5 (qh ?_)|rfl|apply qn)
     go_meet
     case rel =>
      obtain⟨c,x,l,u⟩:=qa O;refine⟨b5,rfl,rfl,c,?_,u.then x (fun i hi e=>by omega),by omega⟩;have E:=qa h2;refine(l.upd x (fun k f e=> ?_)).wider (fun k f=> ?_) (fun k f=> ?_)
      ·rcases f with f | f
       ·have:=z k f;omega
       ·omega
      ·rcases f with f | f
       ·exact .inl f
       ·exact .inr ⟨by omega,by omega⟩
      ·rcases f with f | f
       ·have:=z k f;omega
       ·exact f.2
    ·skip
     try go_wp2_with (with_reducible first|(first|refine' zy (qh ?_) ?_|refine' zz (qh ?_) ?_|refine' qw3 (qh ?_) ?_);rotate_left|refine' qw4 (qh ?_)|refine' qw5 (qh ?_)|rfl|apply qn)
     have m:=qnw g f7 S l sp en lo SC SJ 75 #[.pointer (some ⟨en,0,none⟩)] #[] R er c' [qx 4 1] C ((qa HL).new H) f U J (hT.new H) hA (enters_of Tryz.func75 (by kernel_rfl) rfl) (fun a na=>hF a (H.trans na)) (fun j x Z=>by
      cases j with
      | zero =>
       obtain rfl:qx 4 1=x:=by simpa using Z
       exact qg e8 0
      | succ j=>simp at Z) (by decide) c9 (by omega) (fun e=>by have:=z _ e;omega)
     rw[←qa a7,←qa P] at m;refine m.mono ?_;rintro e F ⟨rfl,i1,f0⟩;have g5:Upd S w1 F:=(H.mono (fun _ _ h=>h.elim)).trans f0;have j8:=H.size;have k4:=f0.size;clear m f0
     try go_wp2_with (with_reducible first|(first|refine' zy (qh ?_) ?_|refine' zz (qh ?_) ?_|refine' qw3 (qh ?_) ?_);rotate_left|refine' qw4 (qh ?_)|refine' qw5 (qh ?_)|rfl|apply qn)
     have d1:qq F (F.alloc (.cells MsgV.zero.cells.toArray 101)):=((Upd.refl _ _).alloc _);have c2:MsB (F.alloc (.cells MsgV.zero.cells.toArray 101)) F.heap.size MsgV.zero:=qai F MsgV.zero qo;obtain⟨b6,c4⟩:∃K,K=F.heap.size:=⟨_,rfl⟩;have e5:=i1.new d1;have e9:=g5.trans (d1.mono (fun _ _ h=>h.elim));have g9:=d1.size;generalize (F.alloc (.cells MsgV.zero.cells.toArray 101))=d3 at d1 c2 e5 e9 g9 ⊢
     first | refine⟨h8 _ _ e5 e9,?_⟩ | skip
     rw[←c4] at c2 g9 ⊢;have h4:=qb c4;have j1:w1.heap.size≤b6:=by rw[c4];exact g5.size
     clear c4;have e3:=c2.stOk I;have g2:=c2.put I;have f6:Upd (· = b6) d3 _:=zj (w:=d3) (b:=b6) MM.cells;have O:=qb (And.intro g2 (And.intro f6 (And.intro e5 e9)));have i9:=f6.size;clear g2 f6
     try go_wp2_with (with_reducible first|(first|refine' zy (qh ?_) ?_|refine' zz (qh ?_) ?_|refine' qw3 (qh ?_) ?_);rotate_left|refine' qw4 (qh ?_)|refine' qw5 (qh ?_)|rfl|apply qn)
     go_meet
     case rel =>
      obtain⟨c,x,l,u⟩:=qa O;refine⟨b6,rfl,rfl,c,?_,u.then x (fun i hi e=>by omega),by omega⟩;have E:=qa h4;refine(l.upd x (fun k f e=> ?_)).wider (fun k f=> ?_) (fun k f=> ?_)
      ·rcases f with f | f
       ·have:=z k f;omega
       ·omega
      ·rcases f with f | f
       ·exact .inl f
       ·exact .inr ⟨by omega,by omega⟩
      ·rcases f with f | f
       ·have:=z k f;omega
       ·exact f.2
 case rest =>
  obtain⟨K,rfl,rfl,hM,hl,u,hK⟩:=hcut;obtain⟨w3,rfl⟩:∃w3:World,w3=wc:=⟨_,rfl⟩;have d6:w3.cell? ⟨g,6,none⟩=some (.bool false):=by
   obtain⟨_,_,hl⟩:=hl;exact h7▸qg hl.at_ 6
  have O:=qb (And.intro hl u);clear hl u hM;by_cases h5:er=5
  ·subst h5;go_wp2_with (with_reducible first|(first|refine' tw1 (qh ?_) ?_|refine' tw2 (qh ?_) ?_);rotate_left|refine' tw3 (qh ?_)|rfl|apply tn|refine' tw4 ?_);go_ret;rw[qa P] at O;exact⟨rfl,((qa O).1.s).later (qa HZ),(qa d4).trans (qa O).2⟩
  ·go_wp2_with (with_reducible first|(first|refine' tw1 (qh ?_) ?_|refine' tw2 (qh ?_) ?_);rotate_left|refine' tw3 (qh ?_)|rfl|apply tn|refine' tw4 ?_);go_ret;rw[qa P] at O;refine⟨?_,((qa O).1.s).later (qa HZ),(qa d4).trans (qa O).2⟩;unfold qlm;rw[if_neg h5];rfl
end Go.Proofs.YtfmkdoachjgjbaaGreatDoor
namespace Go.Proofs.YtfmkdoachjgjbaaGreatDoor
open Go.RowKit
set_option maxRecDepth 100000 in
set_option maxHeartbeats 2000000 in
theorem qyc(g:Nat)(S:Nat→Prop)(l:Lk)(n:Nat)(w:World)(h:LkS w g S l)(f:l.dead=false)(i:l.waits=true)(z:l.ticks=n)(v:n<1000000) :
  Calls Tryz.prog 28 #[.pointer (some ⟨g,0,none⟩)] w fun e w'=>e = .returned (.int .i64 0)∧LkS w' g S {l with ticks:=(n:Int)+1} ∧ Upd S w w':=by
 obtain⟨sp,en,lo,C,E,h⟩:=h
 have H:w.cell? ⟨g,6,none⟩=some (.bool false):=f▸qg h.at_ 6
 have F:w.cell? ⟨g,5,none⟩=some (.int .i64 (n:Int)):=by rw[←z];exact qg h.at_ 5
 have K:=qu h.at_ 5
 have u:Upd (· = g) w (w.setCell ⟨g,5,none⟩ (.int .i64 ((n:Int)+1))):=(Upd.refl _ _).set1 _ _
 have m:=h.put_ticks ((n:Int)+1)
 have I:(w.setCell ⟨g,5,none⟩ (.int .i64 ((n:Int)+1))).cell? ⟨g,5,none⟩=some (.int .i64 ((n:Int)+1)):=qg m.at_ 5
 have J:(w.setCell ⟨g,5,none⟩ (.int .i64 ((n:Int)+1))).cell? ⟨g,8,none⟩=some (.bool true):=i▸qg m.at_ 8
 have q:=qb (And.intro m (u.mono (T:=S) (fun k _ e=>by rw[e];exact h.inG)))
 have L:(n:Int)<1000000:=by omega
 clear h m u z v f i
 go_enter Tryz.func28,Tryz.ntmps28
 go_upto_region 4 with fail
 generalize w.setCell ⟨g,5,none⟩ (.int .i64 ((n:Int)+1))=w1 at I J q ⊢
 clear H F K
 go_wp2_with fail
 go_ret
 exact⟨rfl,⟨sp,en,lo,C,E,(qa q).1⟩,(qa q).2⟩
theorem q72(g B:Nat)(S:Nat→Prop)(l:Lk)(sp en lo:Nat)(m q:Nat→Prop)(F:FuncId)(v f:Array Value)(xs:List ByteArray)(w:World)(h:LkP w g S l sp en lo m q)(i:l.dead=false∧l.waits=true) :
  Calls Tryz.prog 45 #[.pointer (some ⟨g,0,none⟩),.func (.func F) v f,.slice (some ⟨B,0,none⟩) xs.length xs.length] w fun e w'=>e = .returned (.tuple #[.agg MsgV.zero.cells.toArray,.int .i64 5])∧LkE w' g (Fr S w w') sp en lo l∧Upd S w w':=by
 refine(qs7 g S l sp en lo m q F v f _ _ _ w h i.1 i.2).mono ?_
 rintro e w' ⟨rfl,n⟩
 have C:=n.size
 have z:=h.lt
 exact⟨rfl,⟨m,q,(h.new n).wider (fun k i=> .inl i) (fun k i=>i.elim (fun e=>by have:=z k e;omega) (fun e=>e.2))⟩,n.mono (fun _ _ h=>h.elim)⟩
attribute [local go_sem ↓ high] qz zb zc zf qah
attribute [local go_sem] qaw qax qa1 qw zt qcl
end Go.Proofs.YtfmkdoachjgjbaaGreatDoor
namespace Go.Proofs.YtfmkdoachjgjbaaGreatDoor
open Go.RowKit
attribute [local go_sem ↓ high] qz zb zc zf zq qad qag
attribute [local go_sem] qaw qax qa1 zt qv1 qbi qch qck qw
def qr5(id:Int)(p:List Int):MsgV:=⟨4,0,id,0,p,0,0⟩
def Ch.fulfill(c:Ch)(id:Int)(p:List Int):Ch × MsgV × Int:=match qdl false id c.xs with
 | none=>(c,MsgV.zero,3)
 | some q=>if qf1 p q.2.h.hash.toList=true then ((c.removed q.1 q.2 true).say (qr5 id p),(qr5 id p).on c.s.ch,0) else (c,MsgV.zero,132)
theorem q5a{c:Ch}{id:Int}{p:List Int}{i:Nat}{x:Live}(h:qdl false id c.xs=some (i,x)):c.fulfill id p=if qf1 p x.h.hash.toList=true then ((c.removed i x true).say (qr5 id p),(qr5 id p).on c.s.ch,0) else (c,MsgV.zero,132):=by unfold Ch.fulfill;rw[h]
end Go.Proofs.YtfmkdoachjgjbaaGreatDoor
namespace Go.Proofs.YtfmkdoachjgjbaaGreatDoor
open Go.RowKit
attribute [local go_sem ↓ high] qz zb zc zf qah zq
attribute [local go_sem] qaw qax qa1 qw zt qcl qbi
set_option maxRecDepth 100000 in
set_option maxHeartbeats 2000000 in
theorem q0c(L N O g en:Nat)(H:Nat→Prop)(c c':Ch)(M:MsgV)(er:Int)(n x:Int)(w:World)(J:∀k,H k→k<w.heap.size)(q:M.hash.length=32)
  (f:∀w',qq w w'→Calls Tryz.prog 53 #[.pointer (some ⟨en,0,none⟩),.int .u64 n,.int .i64 x] w' fun e v=>e = .returned (.tuple #[.agg M.cells.toArray,.int .i64 er])∧ChS v en (Fr H w' v) c'∧Upd H w' v)
  (R:w.cell? ⟨L,0,none⟩=some (.pointer (some ⟨g,0,none⟩))) (P:w.cell? ⟨g,1,none⟩=some (.pointer (some ⟨en,0,none⟩))) (S:w.cell? ⟨N,0,none⟩=some (.int .u64 n)) (T:w.cell? ⟨O,0,none⟩=some (.int .i64 x)) :
  Calls Tryz.prog 52 (#[]++#[.pointer (some ⟨L,0,none⟩),.pointer (some ⟨N,0,none⟩),.pointer (some ⟨O,0,none⟩)]) w fun e w'=>SaysIt en H M er c' e w w':=by
 have m:qq w (w.alloc (.cells MsgV.zero.cells.toArray 101)):=(Upd.refl _ _).alloc _
 have b1:=qai w MsgV.zero qo
 have W:w.heap.size<(w.alloc (.cells MsgV.zero.cells.toArray 101)).heap.size:=by rw[World.size_alloc];omega
 have Z:=qb J
 clear J
 show Calls Tryz.prog 52 #[.pointer (some ⟨L,0,none⟩),.pointer (some ⟨N,0,none⟩),.pointer (some ⟨O,0,none⟩)] w _
 go_enter Tryz.func52,Tryz.ntmps52
 go_upto_region 1 with fail
 generalize w.alloc (.cells MsgV.zero.cells.toArray 101)=w1 at m b1 W ⊢
 replace R:=m.cell R (fun h=>h)
 replace P:=m.cell P (fun h=>h)
 replace S:=m.cell S (fun h=>h)
 replace T:=m.cell T (fun h=>h)
 replace f:=f w1.drew m.drew
 obtain⟨K,e⟩:∃K,K=w.heap.size:=⟨_,rfl⟩
 rw[←e] at b1 W ⊢
 have E:=qb e
 clear e
 go_wp2_with (with_reducible first|(first|refine' tw1 (qh ?_) ?_|refine' tw2 (qh ?_) ?_);rotate_left|refine' tw3 (qh ?_)|rfl|apply tn|refine' tw4 ?_)
 refine f.mono ?_
 rintro e U ⟨rfl,i,C⟩
 have X:=C.size
 have z1:=m.size
 have I:¬H K:=fun e=>by have:=qa Z K e;have:=qa E;omega
 have b2:=b1.upd C.ofDrew I
 have a6:=b2.stOk q
 have V:=b2.put q
 have F:Upd (· = K) U (U.setCells K 0 M.cells):=zj _
 have hF:=V.at_
 have Y:=qb (And.intro i (And.intro C F))
 have z3:=F.size
 clear f i C b2 V F R P S T b1
 go_wp2_with (with_reducible first|(first|refine' tw1 (qh ?_) ?_|refine' tw2 (qh ?_) ?_);rotate_left|refine' tw3 (qh ?_)|rfl|apply tn|refine' tw4 ?_)
 refine bodyPost_ret (qy rfl _ _ K _ _ _ _ rfl hF Tryz.underlying101 rfl (by rw[List.size_toArray,M.len q];exact Tryz.infoMsg)) rfl ?_
 obtain⟨i,C,F⟩:=qa Y
 have e:=qa E
 have X:w1.heap.size≤U.heap.size:=X
 refine⟨rfl,?_,((m.mono (fun _ _ h=>h.elim)).trans C.ofDrew).then F (fun k z e=>by omega)⟩
 have h3:=i.upd F (fun k z e=>by
  rcases z with z | z
  ·exact I (e▸z)
  ·have:w1.heap.size≤k:=z.1;omega)
 exact ChS.later (ChS.grow (w0:=w1) h3 z3) z1
set_option maxRecDepth 100000 in
set_option maxHeartbeats 2000000 in
theorem qxm(N O L P g en:Nat)(H:Nat→Prop)(c c':Ch)(M:MsgV)(er:Int)(n x:Int)(h:List Int)(w:World)(J:∀k,H k→k<w.heap.size)(q:M.hash.length=32)
  (f:∀w',qq w w'→Calls Tryz.prog 47 #[.pointer (some ⟨en,0,none⟩),.int .u64 n,.agg (qv h).toArray,.int .i64 x] w' fun e v=>e = .returned (.tuple #[.agg M.cells.toArray,.int .i64 er])∧ChS v en (Fr H w' v) c'∧Upd H w' v)
  (T:w.cell? ⟨N,0,none⟩=some (.pointer (some ⟨g,0,none⟩))) (R:w.cell? ⟨g,1,none⟩=some (.pointer (some ⟨en,0,none⟩))) (U:w.cell? ⟨O,0,none⟩=some (.int .u64 n)) (S:zg w L 0 32=some (qv h).toArray) (V:w.cell? ⟨P,0,none⟩=some (.int .i64 x)) :
  Calls Tryz.prog 46 (#[]++#[.pointer (some ⟨N,0,none⟩),.pointer (some ⟨O,0,none⟩),.pointer (some ⟨L,0,none⟩),.pointer (some ⟨P,0,none⟩)]) w fun e w'=>SaysIt en H M er c' e w w':=by
 have m:qq w (w.alloc (.cells MsgV.zero.cells.toArray 101)):=(Upd.refl _ _).alloc _
 have b1:=qai w MsgV.zero qo
 have Y:w.heap.size<(w.alloc (.cells MsgV.zero.cells.toArray 101)).heap.size:=by rw[World.size_alloc];omega
 have HS:=qb J
 clear J
 show Calls Tryz.prog 46 #[.pointer (some ⟨N,0,none⟩),.pointer (some ⟨O,0,none⟩),.pointer (some ⟨L,0,none⟩),.pointer (some ⟨P,0,none⟩)] w _
 go_enter Tryz.func46,Tryz.ntmps46
 go_upto_region 1 with fail
 generalize w.alloc (.cells MsgV.zero.cells.toArray 101)=w1 at m b1 Y ⊢
 replace T:=m.cell T (fun h=>h)
 replace R:=m.cell R (fun h=>h)
 replace U:=m.cell U (fun h=>h)
 replace S:=qav S m (fun h=>h)
 replace V:=m.cell V (fun h=>h)
 replace f:=f w1.drew m.drew
 obtain⟨K,e⟩:∃K,K=w.heap.size:=⟨_,rfl⟩
 rw[←e] at b1 Y ⊢
 have E:=qb e
 clear e
 go_wp2_with (with_reducible first|(first|refine' tw1 (qh ?_) ?_|refine' tw2 (qh ?_) ?_);rotate_left|refine' tw3 (qh ?_)|rfl|apply tn|refine' tw4 ?_)
 refine f.mono ?_
 rintro e W ⟨rfl,i,C⟩
 have Z:=C.size
 have z1:=m.size
 have I:¬H K:=fun e=>by have:=qa HS K e;have:=qa E;omega
 have b2:=b1.upd C.ofDrew I
 have a6:=b2.stOk q
 have X:=b2.put q
 have F:Upd (· = K) W (W.setCells K 0 M.cells):=zj _
 have hF:=X.at_
 have HE:=qb (And.intro i (And.intro C F))
 have z3:=F.size
 clear f i C b2 X F T R U S V b1
 go_wp2_with (with_reducible first|(first|refine' tw1 (qh ?_) ?_|refine' tw2 (qh ?_) ?_);rotate_left|refine' tw3 (qh ?_)|rfl|apply tn|refine' tw4 ?_)
 refine bodyPost_ret (qy rfl _ _ K _ _ _ _ rfl hF Tryz.underlying101 rfl (by rw[List.size_toArray,M.len q];exact Tryz.infoMsg)) rfl ?_
 obtain⟨i,C,F⟩:=qa HE
 have e:=qa E
 have Z:w1.heap.size≤W.heap.size:=Z
 refine⟨rfl,?_,((m.mono (fun _ _ h=>h.elim)).trans C.ofDrew).then F (fun k z e=>by omega)⟩
 have h3:=i.upd F (fun k z e=>by
  rcases z with z | z
  ·exact I (e▸z)
  ·have:w1.heap.size≤k:=z.1;omega)
 exact ChS.later (ChS.grow (w0:=w1) h3 z3) z1
def Lk.actW(l:Lk)(r:Ch × MsgV × Int)(rec:ByteArray):Lk × MsgV × Int:=if l.waits=true then (l,MsgV.zero,5) else (l.acts r.1 rec r.2.1 r.2.2,qri r.2.1 r.2.2,r.2.2)
theorem qs6{l:Lk}{r:Ch × MsgV × Int}{rec:ByteArray}(h:r.2.1.hash.length=32):(l.actW r rec).2.1.hash.length=32:=by
 unfold Lk.actW;split
 ·exact qo
 ·exact qs5 h
theorem qyk(l:Lk)(ev:Value)(r:Ch × MsgV × Int)(rec:ByteArray):Lk.actW {l with ev:=ev} r rec=({(l.actW r rec).1 with ev:=ev},(l.actW r rec).2):=by
 unfold Lk.actW;by_cases h:l.waits=true
 ·rw[if_pos h,if_pos h]
 ·rw[if_neg h,if_neg h];unfold Lk.acts;by_cases f:r.2.2=0
  ·rw[if_pos f,if_pos f];rfl
  ·rw[if_neg f,if_neg f]
theorem qyl(g B:Nat)(S:Nat→Prop)(l:Lk)(sp en lo:Nat)(q z:Nat→Prop)(F:FuncId)(v f:Array Value)(r:Ch × MsgV × Int)(xs:List ByteArray)(w:World)
  (h:LkP w g S l sp en lo q z) (i:LkOkW l) (I:r.2.1.hash.length=32) (m:r.2.2=0→SayOk r.2.1) (O:Tabs w) (M:ApD S)
  (H:∀args w,(callFunc F args).run Tryz.prog w = .ok (.enter F args) w) (N:∀a,qq w a→Calls Tryz.prog F (v++f) a fun e L=>SaysIt en q r.2.1 r.2.2 r.1 e a L)
  (R:∀j x,xs[j]? = some x→w.cell? ⟨B,j,none⟩=some (.string x)) (P:xs.length≤1000) (J:(zx xs).size≤1024) (E:B<w.heap.size) (C:¬S B) :
  Calls Tryz.prog 45 #[.pointer (some ⟨g,0,none⟩),.func (.func F) v f,.slice (some ⟨B,0,none⟩) xs.length xs.length] w fun e w'=>e = .returned (.tuple #[.agg (l.actW r (zx xs)).2.1.cells.toArray,.int .i64 (l.actW r (zx xs)).2.2])∧LkE w' g (Fr S w w') sp en lo (l.actW r (zx xs)).1∧Upd S w w':=by
 unfold Lk.actW
 cases K:l.waits with
 | true =>
  rw[if_pos rfl];exact q72 g B S l sp en lo q z F v f xs w h ⟨i.dead,K⟩
 | false =>
  rw[if_neg (by decide)];exact qnw g B S l sp en lo q z F v f r.2.1 r.2.2 r.1 xs w h ⟨i.dead,K,i.fused,i.off,i.many,i.len,i.out⟩ I m O M H N R P J E C
theorem zdh{a b c x:ByteArray}{w:World}{B j:Nat}(f:[a,b,c][j]? = some x)(i:w.heap[B]? = some (.cells #[.string a,.string b,.string c] 9 (0,0))):w.cell? ⟨B,j,none⟩=some (.string x):=by
 rw[qg i]
 match j,f with
 | 0,f=>obtain rfl:a=x:=by simpa using f
       rfl
 | 1,f=>obtain rfl:b=x:=by simpa using f
       rfl
 | 2,f=>obtain rfl:c=x:=by simpa using f
       rfl
 | j+3,f=>simp at f
theorem zcy{a b c d x:ByteArray}{w:World}{B j:Nat}(f:[a,b,c,d][j]? = some x)(i:w.heap[B]? = some (.cells #[.string a,.string b,.string c,.string d] 9 (0,0))):w.cell? ⟨B,j,none⟩=some (.string x):=by
 rw[qg i]
 match j,f with
 | 0,f=>obtain rfl:a=x:=by simpa using f
       rfl
 | 1,f=>obtain rfl:b=x:=by simpa using f
       rfl
 | 2,f=>obtain rfl:c=x:=by simpa using f
       rfl
 | 3,f=>obtain rfl:d=x:=by simpa using f
       rfl
 | j+4,f=>simp at f
theorem qy4(n f:Nat)(h:f≤8):(qbz n f).size≤8:=Nat.le_trans (q1p n f) h
def ql3(n r:Nat):List ByteArray:=[qx 3 1,qx n 8,qbz r 2]
def qf2(n r:Nat)(h:List Int):List ByteArray:=[qx 1 1,qx n 8,strOfNums h,qbz r 4]
theorem qqw{n r:Nat} : (zx (ql3 n r)).size≤1024:=by
 have:=qy4 r 2 (by decide);have f:(⟨#[]⟩:ByteArray).size=0:=rfl;unfold ql3 zx zx zx zx;simp only[ByteArray.size_append,qaq];omega
theorem qoy{n r:Nat}{h:List Int}(f:h.length=32):(zx (qf2 n r h)).size≤1024:=by
 have:=qy4 r 4 (by decide);have i:(⟨#[]⟩:ByteArray).size=0:=rfl;unfold qf2 zx zx zx zx zx;simp only[ByteArray.size_append,qaq,strOfNums_size,f];omega
theorem LkV.lift{w w':World}{g:Nat}{S f:Nat→Prop}{l L:Lk}{ev:Value}{es:List EvV}{sp en lo:Nat}{H I:Nat→Prop}(h:LvP w g S f l ev es sp en lo H I)(u:Upd f w w')(z:LkS w' g (Fr f w w') {L with ev:=ev}):LkV w' g (Fr S w w') L es∧Upd S w w':=by
 obtain⟨E,q,C,i,m,z⟩:=z;have J:=u.size;have v:=h.row.lt;refine⟨⟨E,q,C,_,i,m,ev,z,h.row.upd u h.out,?_,fun k e=> .inl (h.inE k e),fun k e=>e.imp (h.in0 k) id,?_⟩,u.mono (fun k _ e=>h.in0 k e)⟩
 ·intro k e F;have:=v k e;exact F.elim (h.out k e) (fun F=>by omega)
 ·rintro k (e | e)
  ·have:=h.lt k e;omega
  ·exact e.2
theorem zc4(g:Nat)(S:Nat→Prop)(l:Lk)(es:List EvV)(n r:Nat)(x:Int)(w:World)(h:LkV w g S l es)(v:LkOkW l)(O:n<2 ^ (8*8))(H:r<18446744073709551616)(R:IntKind.u64.wrap x=(r:Int))(I:(l.c.fail n x).2.2=0→SayOk (l.c.fail n x).2.1)(q:(l.c.fail n x).2.1.hash.length=32)(E:l.c.news.length<1000000∧l.c.xs.length<1000000)(hT:Tabs w)(X:ApD S) :
  Calls Tryz.prog 17 #[.pointer (some ⟨g,0,none⟩),.int .u64 (n:Int),.int .i64 x] w fun e w'=>e = .returned (.int .i64 (l.actW (l.c.fail n x) (zx (ql3 n r))).2.2)∧LkV w' g (Fr S w w') (l.actW (l.c.fail n x) (zx (ql3 n r))).1 es∧Upd S w w':=by
 obtain⟨sp,en,lo,J,K,Z,ev,h⟩:=h
 have f:=h.lk
 have F:=f.lt
 have M:=f.chn.lt
 have cE:w.cell? ⟨g,1,none⟩=some (.pointer (some ⟨en,0,none⟩)):=qg f.at_ 1
 have L:ApD J:=⟨fun e=>X.c (h.in0 _ e),fun e=>X.d (h.in0 _ e)⟩
 have N:=qyk l ev (l.c.fail n x) (zx (ql3 n r))
 refine(q1a g J n r x (l.actW (l.c.fail n x) (zx (ql3 n r))).2.1 (l.actW (l.c.fail n x) (zx (ql3 n r))).2.2 {(l.actW (l.c.fail n x) (zx (ql3 n r))).1 with ev:=ev} sp en lo w F O H R (qs6 q) ?_).mono ?_
 ·intro T U V w3 z gL gN gX cL cN cX B W m hB Y;have P:=@zdh (qx 3 1) (qx n 8) (qbz r 2);have i:=qyl g B J {l with ev:=ev} sp en lo K Z 52 #[] #[.pointer (some ⟨T,0,none⟩),.pointer (some ⟨U,0,none⟩),.pointer (some ⟨V,0,none⟩)] (l.c.fail n x) (ql3 n r) W ((f.new z).new m) ⟨v.dead,v.fused,v.off,v.many,v.len,v.out⟩ q I ((hT.new z).new m) L (enters_of Tryz.func52 (by kernel_rfl) rfl)
   (fun a C=>q0c T U V g en K l.c (l.c.fail n x).1 (l.c.fail n x).2.1 (l.c.fail n x).2.2 n x a (fun k e=>by have:=M k e;have:=z.size;have:=m.size;have:=C.size;omega) q (fun w' n'=>q4s en K l.c n x w' (f.chn.new (((z.trans m).trans C).trans n')) E.1) ((m.trans C).cell cL (fun h=>h)) (((z.trans m).trans C).cell cE (fun h=>h)) ((m.trans C).cell cN (fun h=>h)) ((m.trans C).cell cX (fun h=>h))) (fun j x hx=>P hx Y) (by simp[ql3]) qqw (zr Y) (fun e=>by have:=F _ e;have:=z.size;omega)
  rw[N] at i;exact i
 ·rintro e w' ⟨rfl,hl,u⟩;have:=LkV.lift h u hl;exact⟨rfl,this.1,this.2⟩
theorem zca(g:Nat)(S:Nat→Prop)(l:Lk)(es:List EvV)(n r:Nat)(p:List Int)(x:Int)(w:World)(h:LkV w g S l es)(z:LkOkW l)(F:p.length=32)(hb:qbp p)(P:n<2 ^ (8*8))(I:r<18446744073709551616)(T:IntKind.u64.wrap x=(r:Int))(U : -9223372036854775808≤x∧x≤9223372036854775807)(J:(l.c.offer n (qa6 p) x).2.2=0→SayOk (l.c.offer n (qa6 p) x).2.1)(q:(l.c.offer n (qa6 p) x).2.1.hash.length=32)(E:l.c.news.length<1000000∧l.c.xs.length<1000000)(hT:Tabs w)(hA:ApD S) :
  Calls Tryz.prog 11 #[.pointer (some ⟨g,0,none⟩),.int .u64 (n:Int),.agg (qv p).toArray,.int .i64 x] w fun e w'=>e = .returned (.tuple #[.int .u64 (l.actW (l.c.offer n (qa6 p) x) (zx (qf2 n r p))).2.1.id,.int .i64 (l.actW (l.c.offer n (qa6 p) x) (zx (qf2 n r p))).2.2])∧LkV w' g (Fr S w w') (l.actW (l.c.offer n (qa6 p) x) (zx (qf2 n r p))).1 es∧Upd S w w':=by
 obtain⟨sp,en,lo,K,L,SJ,ev,h⟩:=h
 have f:=h.lk
 have H:=f.lt
 have N:=f.chn.lt
 have cE:w.cell? ⟨g,1,none⟩=some (.pointer (some ⟨en,0,none⟩)):=qg f.at_ 1
 have M:ApD K:=⟨fun e=>hA.c (h.in0 _ e),fun e=>hA.d (h.in0 _ e)⟩
 have O:=qyk l ev (l.c.offer n (qa6 p) x) (zx (qf2 n r p))
 refine(qxd g K n r p x (l.actW (l.c.offer n (qa6 p) x) (zx (qf2 n r p))).2.1 (l.actW (l.c.offer n (qa6 p) x) (zx (qf2 n r p))).2.2 {(l.actW (l.c.offer n (qa6 p) x) (zx (qf2 n r p))).1 with ev:=ev} sp en lo w H F P I T (qs6 q) ?_).mono ?_
 ·intro X Y V Z w3 C gL gN gH gX cL cN cH cX B W i hB hr;have R:=@zcy (qx 1 1) (qx n 8) (strOfNums p) (qbz r 4);have m:=qyl g B K {l with ev:=ev} sp en lo L SJ 46 #[] #[.pointer (some ⟨X,0,none⟩),.pointer (some ⟨Y,0,none⟩),.pointer (some ⟨V,0,none⟩),.pointer (some ⟨Z,0,none⟩)] (l.c.offer n (qa6 p) x) (qf2 n r p) W ((f.new C).new i) ⟨z.dead,z.fused,z.off,z.many,z.len,z.out⟩ q J ((hT.new C).new i) M (enters_of Tryz.func46 (by kernel_rfl) rfl)
   (fun a v=>qxm X Y V Z g en L l.c (l.c.offer n (qa6 p) x).1 (l.c.offer n (qa6 p) x).2.1 (l.c.offer n (qa6 p) x).2.2 n x p a (fun k e=>by have:=N k e;have:=C.size;have:=i.size;have:=v.size;omega) q (fun w' n'=>qxn en L l.c n p x w' (f.chn.new (((C.trans i).trans v).trans n')) F hb ⟨by omega,by omega⟩ U E) ((i.trans v).cell cL (fun h=>h)) (((C.trans i).trans v).cell cE (fun h=>h)) ((i.trans v).cell cN (fun h=>h)) (qav cH (i.trans v) (fun h=>h)) ((i.trans v).cell cX (fun h=>h))) (fun j x U=>R U hr) (by simp[qf2]) (qoy F) (zr hr) (fun e=>by have:=H _ e;have:=C.size;omega)
  rw[O] at m;exact m
 ·rintro e w' ⟨rfl,F,u⟩;have:=LkV.lift h u F;exact⟨rfl,this.1,this.2⟩
end Go.Proofs.YtfmkdoachjgjbaaGreatDoor
