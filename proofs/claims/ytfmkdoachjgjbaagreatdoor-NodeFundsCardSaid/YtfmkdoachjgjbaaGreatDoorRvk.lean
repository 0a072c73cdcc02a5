/-
  hearRevoke.
-/
import Derived.Test.YtfmkdoachjgjbaaGreatDoorMbd
set_option maxRecDepth 100000
set_option maxHeartbeats 1000000
set_option linter.unusedVariables false
set_option linter.unusedSimpArgs false
namespace Go.Proofs.YtfmkdoachjgjbaaGreatDoor
open Go.RowKit
attribute [local go_sem ↓ high] zl qaf qah qa1 ze zf zg zj
attribute [local go_sem] qa9 qb3 qb7 qdp qy qau qav qaw
def qq3(c:Ch):Prop:=∀p∈c.shelf,qbt p.told
def qsc(c:Ch)(m:MsgV):Int :=
 if c.k.awaits=false then 5 else if m.number≠c.k.signed-1 then 134 else if qhy m.hash (65535-m.number) c.shelf≠0 then 134 else 0
def Ch.shelved(c:Ch)(m:MsgV):Ch:= {c with shelf:=qz8 m.hash (65535-m.number) c.shelf}
def Ch.unawait(c:Ch):Ch:= {c with k:= {c.k with awaits:=false}}
def Ch.hearRevoke(c:Ch)(m:MsgV):Ch × Int:=if qsc c m=0 then (((c.shelved m).goOn 2).unawait,0) else (c,qsc c m)
theorem qe5{c:Ch}{m:MsgV}{e:Int}(h:qsc c m=e)(n:e≠0):c.hearRevoke m=(c,e):=by unfold Ch.hearRevoke;rw[h,if_neg n]
theorem qni(g:Nat)(S:Nat→Prop)(c:Ch)(m:MsgV)(hm:MsgOk m)(w:World)(h:ChS w g S c)(a8:qq3 c)(hT:Tb w)(hS:Apart S) :
  Calls Tryz.prog 180 #[.pointer (some ⟨g,0,none⟩),.agg m.cells.toArray] w fun e w' =>
   e = .returned (.tuple #[qcb,.int .i64 (c.hearRevoke m).2])∧ChS w' g (Fr S w w') (c.hearRevoke m).1∧Upd S w w':=by
 obtain⟨lv,nv,av,h⟩:=h
 go_enter Tryz.func180,Tryz.ntmps180
 go_upto_region 1 with fail
 have hA:=qa6 w m hm.len
 have V:qq w (w.alloc (.cells m.cells.toArray 101)):=(Upd.refl _ _).alloc _
 generalize w.alloc (.cells m.cells.toArray 101)=w1 at V hA ⊢
 obtain⟨A,O⟩:∃A,A=w.heap.size:=⟨_,rfl⟩
 rw[←O] at hA ⊢
 have b4:g≠A:=by have:=h.lt g h.inG;omega
 clear O
 have h1:=h.new V
 have C:w1.cell? ⟨g,39,none⟩=some (.bool c.k.awaits):=h1.toR.awaits
 have U:qsc c m=if c.k.awaits=false then 5 else if m.number≠c.k.signed-1 then 134 else if qhy m.hash (65535-m.number) c.shelf≠0 then 134 else 0:=rfl
 have o:=qj U
 have H0:=qj h
 have Y:=qj h1
 have HA:=qj hA
 have N1:=qj V
 have K:=qj (hT.new V)
 have b5:=h.ok.signed
 clear U h h1 hA V hT
 cases ha:c.k.awaits with
 | false =>
  rw[ha,if_pos rfl] at o;rw[ha] at C;have N:=qj (qe5 (qg o) (by decide));have M:=qj ((qg Y).fr w);have HU:=qj ((qg N1).mono (T:=S) (fun _ _ h=>h.elim));go_wp2_with ((with_reducible first|rfl|refine' ut ?_ ?_;rotate_left|refine' uu ?_)<;>intros);go_ret2;rw[qg N];exact⟨rfl,qg M,qg HU⟩
 | true =>
  rw[ha,if_neg (by decide)] at o;rw[ha] at C;go_upto_region 3 with fail;have a7:w1.cell? ⟨g,37,none⟩=some (.int .i64 c.k.signed):=(qg Y).toR.signed;obtain⟨-,-,-,-,-,y,m4⟩:=(qg HA).cells;have b0:IntKind.i64.wrap (c.k.signed-1)=c.k.signed-1:=qgq (by omega) (by omega);by_cases i:m.number=c.k.signed-1
  ·have x:IntKind.i64.wrap (65535-m.number)=65535-m.number:=qgq (by omega) (by omega);rw[if_neg (fun h=>h i)] at o;have D:=fun W (n:qq w1 W)=>qwe g S c lv nv av m.hash hm.len hm.hash (65535-m.number) W ((qg Y).new n) a8 ((qg K).new n).tabs ((qg K).new n).deb
   have HI:=qj D;have t:=fun W (h:ChS W g S (c.shelved m)) (hG:Glob W)=>qje g S (c.shelved m) 2 W h hG
   have HG:=qj t;have v:qhy m.hash (65535-m.number) c.shelf≠0→qz8 m.hash (65535-m.number) c.shelf=c.shelf:=fun h=>by unfold qz8;rw[if_neg h]
   have J:=qj v;clear D t v C;have R:(m.number != c.k.signed-1)=false:=by rw[i];simp
   rw[i] at HI o J;rw[i] at y;clear x R y m4;obtain⟨-,-,-,-,-,y,m4⟩:=(qg HA).cells;rw[i] at y;have x:IntKind.i64.wrap (65535-(c.k.signed-1))=65535-(c.k.signed-1):=qgq (by omega) (by omega);have I:c.shelved m = {c with shelf:=qz8 m.hash (65535-(c.k.signed-1)) c.shelf} := by unfold Ch.shelved;rw[i]
   have a1:=qj I;clear I;go_wp2_with ((with_reducible first|rfl|refine' ut ?_ ?_;rotate_left|refine' uu ?_)<;>intros);refine(qg HI _ ((Upd.refl _ _).drew.drew)).mono ?_;rintro e X ⟨rfl,h2,u2⟩;have U2:Hid (Upd S w X):=qj ((((qg N1).trans ((Upd.refl _ _).drew.drew)).mono (T:=S) (fun _ _ h=>h.elim)).trans (u2.mono (fun k _ e=>by rw[e];exact(qg H0).inG)));have a2:Hid (Tb X):=qj ((qg K).upd (((Upd.refl (fun _=>False) w1).drew.drew.mono (T:=S) (fun _ _ h=>h.elim)).trans (u2.mono (T:=S) (fun k _ e=>by rw[e];exact(qg H0).inG))) hS);have M:=qj h2;clear h2 u2 a7 y m4 b0 x;generalize qhy m.hash (65535-(c.k.signed-1)) c.shelf=E at *
   by_cases hE:E=0
   ·rw[hE,if_neg (fun h=>h rfl)] at o;have P:c.hearRevoke m=(((c.shelved m).goOn 2).unawait,0):=by unfold Ch.hearRevoke;rw[if_pos (qg o)]
    have HH:=qj P;have q:ChS X g S (c.shelved m):=⟨lv,nv,av,by rw[qg a1];exact qg M⟩;have t:=qg HG X q (qg a2).glob;clear P q;go_wp2_with ((with_reducible first|rfl|refine' ut ?_ ?_;rotate_left|refine' uu ?_)<;>intros);refine t.mono ?_;rintro e w3 ⟨rfl,⟨b1,b2,a6,Z⟩,u3⟩;have b3:w3.frozen? ⟨g,39,none⟩=false:=qo Z.at_ 39;have C:w3.cell? ⟨g,39,none⟩=some (.bool ((c.shelved m).goOn 2).k.awaits):=Z.toR.awaits;have H:=Z.putAwaits false;have u4:=qos w3 g 39 (.bool false);have b6:=(qg U2).size;have b7:=u3.size;have b8:=u4.size;have HP:=qj H;have HU:=qj (((qg U2).trans u3).trans (u4.mono (fun k _ e=>by rw[e];exact(qg H0).inG)));clear t Z H u3 u4;go_wp2_with ((with_reducible first|rfl|refine' ut ?_ ?_;rotate_left|refine' uu ?_)<;>intros);go_ret2;rw[qg HH];refine⟨rfl,⟨b1,b2,a6,(qg HP).wider (fun k z=> ?_) (fun k z=> ?_)⟩,qg HU⟩
    ·rcases z with z | z
     ·exact .inl z
     ·exact .inr ⟨by omega,by omega⟩
    ·rcases z with z | z
     ·exact(qg HP).lt k (.inl z)
     ·exact z.2
   ·rw[if_pos hE] at o;have N:=qj (qe5 (qg o) (by decide));have v:=qg J hE;have q:ChP X g S c lv nv av:=by
     have:=qg M;rw[v] at this;exact this
    have HC:=qj (q.fr w);clear v q M J;go_wp2_with ((with_reducible first|rfl|refine' ut ?_ ?_;rotate_left|refine' uu ?_)<;>intros);go_ret2;rw[qg N];exact⟨rfl,qg HC,qg U2⟩
  ·rw[if_pos i] at o;have N:=qj (qe5 (qg o) (by decide));have R:¬m.number=c.k.signed-1:=i;clear hm;go_wp2_with ((with_reducible first|rfl|refine' ut ?_ ?_;rotate_left|refine' uu ?_)<;>intros);go_ret2;rw[qg N];have nd:qq w1 w1.drew:=(Upd.refl _ _).drew;exact⟨rfl,((qg Y).new nd).fr w,((qg N1).trans nd).mono (fun _ _ h=>h.elim)⟩
end Go.Proofs.YtfmkdoachjgjbaaGreatDoor
