/-
  hearRevoke.
-/
import Derived.Test.YtfmkdoachjgjbaaGreatDoorMba
set_option maxRecDepth 100000
set_option maxHeartbeats 1000000
set_option linter.unusedVariables false
set_option linter.unusedSimpArgs false
namespace Go.Proofs.YtfmkdoachjgjbaaGreatDoor
open Go.RowKit
attribute [local go_sem ↓ high] zl qaa qad qam qy qz zb zf
attribute [local go_sem] qbf qci qcj qdh qv qas qat qax
def qv1(c:Ch):Prop:=∀p∈c.shelf,qbg p.told
def ql1(c:Ch)(m:MsgV):Int :=
 if c.k.awaits=false then 5 else if m.number≠c.k.signed-1 then 134 else if qeu m.hash (65535-m.number) c.shelf≠0 then 134 else 0
def Ch.shelved(c:Ch)(m:MsgV):Ch:= {c with shelf:=qlq m.hash (65535-m.number) c.shelf}
def Ch.unawait(c:Ch):Ch:= {c with k:= {c.k with awaits:=false}}
def Ch.hearRevoke(c:Ch)(m:MsgV):Ch × Int:=if ql1 c m=0 then (((c.shelved m).goOn 2).unawait,0) else (c,ql1 c m)
theorem qf0{c:Ch}{m:MsgV}{e:Int}(h:ql1 c m=e)(n:e≠0):c.hearRevoke m=(c,e):=by unfold Ch.hearRevoke;rw[h,if_neg n]
theorem qok(g:Nat)(S:Nat→Prop)(c:Ch)(m:MsgV)(hm:MsgOk m)(w:World)(h:ChS w g S c)(b4:qv1 c)(hT:Tb w)(hS:Apart S) :
  Calls Tryz.prog 180 #[.pointer (some ⟨g,0,none⟩),.agg m.cells.toArray] w fun e w' =>
   e = .returned (.tuple #[qbw,.int .i64 (c.hearRevoke m).2])∧ChS w' g (Fr S w w') (c.hearRevoke m).1∧Upd S w w':=by
 obtain⟨lv,nv,av,h⟩:=h
 go_enter Tryz.func180,Tryz.ntmps180
 go_upto_region 1 with fail
 have hA:=qan w m hm.len
 have X:qu w (w.alloc (.cells m.cells.toArray 101)):=(Upd.refl _ _).alloc _
 generalize w.alloc (.cells m.cells.toArray 101)=w1 at X hA ⊢
 obtain⟨A,P⟩:∃A,A=w.heap.size:=⟨_,rfl⟩
 rw[←P] at hA ⊢
 have b9:g≠A:=by have:=h.lt g h.inG;omega
 clear P
 have h1:=h.new X
 have H:w1.cell? ⟨g,39,none⟩=some (.bool c.k.awaits):=h1.toR.awaits
 have V:ql1 c m=if c.k.awaits=false then 5 else if m.number≠c.k.signed-1 then 134 else if qeu m.hash (65535-m.number) c.shelf≠0 then 134 else 0:=rfl
 have i:=qb V
 have H0:=qb h
 have Z:=qb h1
 have HA:=qb hA
 have N1:=qb X
 have M:=qb (hT.new X)
 have c0:=h.ok.signed
 clear V h h1 hA X hT
 cases ha:c.k.awaits with
 | false =>
  rw[ha,if_pos rfl] at i;rw[ha] at H;have O:=qb (qf0 (qa i) (by decide));have N:=qb ((qa Z).fr w);have HU:=qb ((qa N1).mono (T:=S) (fun _ _ h=>h.elim));go_wp2_with ((with_reducible first|rfl|refine' ut ?_ ?_;rotate_left|refine' uu ?_)<;>intros);go_ret2;rw[qa O];exact⟨rfl,qa N,qa HU⟩
 | true =>
  rw[ha,if_neg (by decide)] at i;rw[ha] at H;go_upto_region 3 with fail;have b3:w1.cell? ⟨g,37,none⟩=some (.int .i64 c.k.signed):=(qa Z).toR.signed;obtain⟨-,-,-,-,-,C,m4⟩:=(qa HA).cells;have b5:IntKind.i64.wrap (c.k.signed-1)=c.k.signed-1:=qhl (by omega) (by omega);by_cases f:m.number=c.k.signed-1
  ·have z:IntKind.i64.wrap (65535-m.number)=65535-m.number:=qhl (by omega) (by omega);rw[if_neg (fun h=>h f)] at i;have I:=fun W (n:qu w1 W)=>qxa g S c lv nv av m.hash hm.len hm.hash (65535-m.number) W ((qa Z).new n) b4 ((qa M).new n).tabs ((qa M).new n).deb
   have HI:=qb I;have q:=fun W (h:ChS W g S (c.shelved m)) (hG:Glob W)=>qkt g S (c.shelved m) 2 W h hG
   have HG:=qb q;have v:qeu m.hash (65535-m.number) c.shelf≠0→qlq m.hash (65535-m.number) c.shelf=c.shelf:=fun h=>by unfold qlq;rw[if_neg h]
   have L:=qb v;clear I q v H;have U:(m.number != c.k.signed-1)=false:=by rw[f];simp
   rw[f] at HI i L;rw[f] at C;clear z U C m4;obtain⟨-,-,-,-,-,C,m4⟩:=(qa HA).cells;rw[f] at C;have z:IntKind.i64.wrap (65535-(c.k.signed-1))=65535-(c.k.signed-1):=qhl (by omega) (by omega);have K:c.shelved m = {c with shelf:=qlq m.hash (65535-(c.k.signed-1)) c.shelf} := by unfold Ch.shelved;rw[f]
   have a6:=qb K;clear K;go_wp2_with ((with_reducible first|rfl|refine' ut ?_ ?_;rotate_left|refine' uu ?_)<;>intros);refine(qa HI _ ((Upd.refl _ _).drew.drew)).mono ?_;rintro e Y ⟨rfl,h2,u2⟩;have U2:Hid (Upd S w Y):=qb ((((qa N1).trans ((Upd.refl _ _).drew.drew)).mono (T:=S) (fun _ _ h=>h.elim)).trans (u2.mono (fun k _ e=>by rw[e];exact(qa H0).inG)));have a7:Hid (Tb Y):=qb ((qa M).upd (((Upd.refl (fun _=>False) w1).drew.drew.mono (T:=S) (fun _ _ h=>h.elim)).trans (u2.mono (T:=S) (fun k _ e=>by rw[e];exact(qa H0).inG))) hS);have N:=qb h2;clear h2 u2 b3 C m4 b5 z;generalize qeu m.hash (65535-(c.k.signed-1)) c.shelf=E at *
   by_cases hE:E=0
   ·rw[hE,if_neg (fun h=>h rfl)] at i;have R:c.hearRevoke m=(((c.shelved m).goOn 2).unawait,0):=by unfold Ch.hearRevoke;rw[if_pos (qa i)]
    have HH:=qb R;have p:ChS Y g S (c.shelved m):=⟨lv,nv,av,by rw[qa a6];exact qa N⟩;have q:=qa HG Y p (qa a7).glob;clear R p;go_wp2_with ((with_reducible first|rfl|refine' ut ?_ ?_;rotate_left|refine' uu ?_)<;>intros);refine q.mono ?_;rintro e w3 ⟨rfl,⟨b6,b7,a8,h3⟩,u3⟩;have b8:w3.frozen? ⟨g,39,none⟩=false:=qo h3.at_ 39;have H:w3.cell? ⟨g,39,none⟩=some (.bool ((c.shelved m).goOn 2).k.awaits):=h3.toR.awaits;have J:=h3.putAwaits false;have u4:=qj1 w3 g 39 (.bool false);have c1:=(qa U2).size;have c2:=u3.size;have c3:=u4.size;have HP:=qb J;have HU:=qb (((qa U2).trans u3).trans (u4.mono (fun k _ e=>by rw[e];exact(qa H0).inG)));clear q h3 J u3 u4;go_wp2_with ((with_reducible first|rfl|refine' ut ?_ ?_;rotate_left|refine' uu ?_)<;>intros);go_ret2;rw[qa HH];refine⟨rfl,⟨b6,b7,a8,(qa HP).wider (fun k F=> ?_) (fun k F=> ?_)⟩,qa HU⟩
    ·rcases F with F | F
     ·exact .inl F
     ·exact .inr ⟨by omega,by omega⟩
    ·rcases F with F | F
     ·exact(qa HP).lt k (.inl F)
     ·exact F.2
   ·rw[if_pos hE] at i;have O:=qb (qf0 (qa i) (by decide));have v:=qa L hE;have p:ChP Y g S c lv nv av:=by
     have:=qa N;rw[v] at this;exact this
    have HC:=qb (p.fr w);clear v p N L;go_wp2_with ((with_reducible first|rfl|refine' ut ?_ ?_;rotate_left|refine' uu ?_)<;>intros);go_ret2;rw[qa O];exact⟨rfl,qa HC,qa U2⟩
  ·rw[if_pos f] at i;have O:=qb (qf0 (qa i) (by decide));have U:¬m.number=c.k.signed-1:=f;clear hm;go_wp2_with ((with_reducible first|rfl|refine' ut ?_ ?_;rotate_left|refine' uu ?_)<;>intros);go_ret2;rw[qa O];have nd:qu w1 w1.drew:=(Upd.refl _ _).drew;exact⟨rfl,((qa Z).new nd).fr w,((qa N1).trans nd).mono (fun _ _ h=>h.elim)⟩
end Go.Proofs.YtfmkdoachjgjbaaGreatDoor
