/-
  hearRevoke.
-/
import Derived.Test.YtfmkdoachjgjbaaGreatDoorMbf
set_option linter.unusedVariables false
set_option linter.unusedSimpArgs false
namespace Go.Proofs.YtfmkdoachjgjbaaGreatDoor
open Go.RowKit
attribute [local go_sem ↓ high] zq qad qag qan qz zb zc zf
attribute [local go_sem] qbi qch qck qdg qw qaw qax qa1
def qvs(c:Ch):Prop:=∀p∈c.shelf,qbp p.told
def ql4(c:Ch)(m:MsgV):Int :=
 if c.k.awaits=false then 5 else if m.number≠c.k.signed-1 then 134 else if qd6 m.hash (65535-m.number) c.shelf≠0 then 134 else 0
def Ch.shelved(c:Ch)(m:MsgV):Ch:= {c with shelf:=qit m.hash (65535-m.number) c.shelf}
def Ch.unawait(c:Ch):Ch:= {c with k:= {c.k with awaits:=false}}
def Ch.hearRevoke(c:Ch)(m:MsgV):Ch × Int:=if ql4 c m=0 then (((c.shelved m).goOn 2).unawait,0) else (c,ql4 c m)
theorem qfw{c:Ch}{m:MsgV}{e:Int}(h:ql4 c m=e)(n:e≠0):c.hearRevoke m=(c,e):=by unfold Ch.hearRevoke;rw[h,if_neg n]
set_option maxRecDepth 100000 in
set_option maxHeartbeats 1000000 in
theorem qoh(g:Nat)(S:Nat→Prop)(c:Ch)(m:MsgV)(hm:MsgOk m)(w:World)(h:ChS w g S c)(b4:qvs c)(hT:Tb w)(hS:Apart S) :
  Calls Tryz.prog 180 #[.pointer (some ⟨g,0,none⟩),.agg m.cells.toArray] w fun e w' =>
   e = .returned (.tuple #[qco,.int .i64 (c.hearRevoke m).2])∧ChS w' g (Fr S w w') (c.hearRevoke m).1∧Upd S w w':=by
 obtain⟨lv,nv,av,h⟩:=h
 go_enter Tryz.func180,Tryz.ntmps180
 go_upto_region 1 with fail
 have hA:=qai w m hm.len
 have Y:qq w (w.alloc (.cells m.cells.toArray 101)):=(Upd.refl _ _).alloc _
 generalize w.alloc (.cells m.cells.toArray 101)=w1 at Y hA ⊢
 obtain⟨A,R⟩:∃A,A=w.heap.size:=⟨_,rfl⟩
 rw[←R] at hA ⊢
 have b9:g≠A:=by have:=h.lt g h.inG;omega
 clear R
 have h1:=h.new Y
 have I:w1.cell? ⟨g,39,none⟩=some (.bool c.k.awaits):=h1.toR.awaits
 have X:ql4 c m=if c.k.awaits=false then 5 else if m.number≠c.k.signed-1 then 134 else if qd6 m.hash (65535-m.number) c.shelf≠0 then 134 else 0:=rfl
 have i:=qb X
 have H0:=qb h
 have H1:=qb h1
 have HA:=qb hA
 have N1:=qb Y
 have N:=qb (hT.new Y)
 have c0:=h.ok.signed
 clear X h h1 hA Y hT
 cases ha:c.k.awaits with
 | false =>
  rw[ha,if_pos rfl] at i;rw[ha] at I;have P:=qb (qfw (qa i) (by decide));have O:=qb ((qa H1).fr w);have HU:=qb ((qa N1).mono (T:=S) (fun _ _ h=>h.elim));go_wp2_with (with_reducible first|(first|refine' tw1 (qh ?_) ?_|refine' tw2 (qh ?_) ?_);rotate_left|refine' tw3 (qh ?_)|rfl|apply tn|refine' tw4 ?_);go_ret2;rw[qa P];exact⟨rfl,qa O,qa HU⟩
 | true =>
  rw[ha,if_neg (by decide)] at i;rw[ha] at I;go_upto_region 3 with fail;have b3:w1.cell? ⟨g,37,none⟩=some (.int .i64 c.k.signed):=(qa H1).toR.signed;obtain⟨-,-,-,-,-,F,m4⟩:=(qa HA).cells;have b5:IntKind.i64.wrap (c.k.signed-1)=c.k.signed-1:=qi9 (by omega) (by omega);by_cases f:m.number=c.k.signed-1
  ·have C:IntKind.i64.wrap (65535-m.number)=65535-m.number:=qi9 (by omega) (by omega);rw[if_neg (fun h=>h f)] at i;have J:=fun W (n:qq w1 W)=>qwz g S c lv nv av m.hash hm.len hm.hash (65535-m.number) W ((qa H1).new n) b4 ((qa N).new n).tabs ((qa N).new n).deb
   have HI:=qb J;have v:=fun W (h:ChS W g S (c.shelved m)) (hG:Glob W)=>qkt g S (c.shelved m) 2 W h hG
   have HG:=qb v;have z:qd6 m.hash (65535-m.number) c.shelf≠0→qit m.hash (65535-m.number) c.shelf=c.shelf:=fun h=>by unfold qit;rw[if_neg h]
   have M:=qb z;clear J v z I;have V:(m.number != c.k.signed-1)=false:=by rw[f];simp
   rw[f] at HI i M;rw[f] at F;clear C V F m4;obtain⟨-,-,-,-,-,F,m4⟩:=(qa HA).cells;rw[f] at F;have C:IntKind.i64.wrap (65535-(c.k.signed-1))=65535-(c.k.signed-1):=qi9 (by omega) (by omega);have L:c.shelved m = {c with shelf:=qit m.hash (65535-(c.k.signed-1)) c.shelf} := by unfold Ch.shelved;rw[f]
   have a6:=qb L;clear L;go_wp2_with (with_reducible first|(first|refine' tw1 (qh ?_) ?_|refine' tw2 (qh ?_) ?_);rotate_left|refine' tw3 (qh ?_)|rfl|apply tn|refine' tw4 ?_);refine(qa HI _ ((Upd.refl _ _).drew.drew)).mono ?_;rintro e Z ⟨rfl,h2,u2⟩;have U2:Hid (Upd S w Z):=qb ((((qa N1).trans ((Upd.refl _ _).drew.drew)).mono (T:=S) (fun _ _ h=>h.elim)).trans (u2.mono (fun k _ e=>by rw[e];exact(qa H0).inG)));have a7:Hid (Tb Z):=qb ((qa N).upd (((Upd.refl (fun _=>False) w1).drew.drew.mono (T:=S) (fun _ _ h=>h.elim)).trans (u2.mono (T:=S) (fun k _ e=>by rw[e];exact(qa H0).inG))) hS);have O:=qb h2;clear h2 u2 b3 F m4 b5 C;generalize qd6 m.hash (65535-(c.k.signed-1)) c.shelf=E at *
   by_cases hE:E=0
   ·rw[hE,if_neg (fun h=>h rfl)] at i;have U:c.hearRevoke m=(((c.shelved m).goOn 2).unawait,0):=by unfold Ch.hearRevoke;rw[if_pos (qa i)]
    have HH:=qb U;have q:ChS Z g S (c.shelved m):=⟨lv,nv,av,by rw[qa a6];exact qa O⟩;have v:=qa HG Z q (qa a7).glob;clear U q;go_wp2_with (with_reducible first|(first|refine' tw1 (qh ?_) ?_|refine' tw2 (qh ?_) ?_);rotate_left|refine' tw3 (qh ?_)|rfl|apply tn|refine' tw4 ?_);refine v.mono ?_;rintro e w3 ⟨rfl,⟨b6,b7,a8,h3⟩,u3⟩;have b8:w3.frozen? ⟨g,39,none⟩=false:=qu h3.at_ 39;have I:w3.cell? ⟨g,39,none⟩=some (.bool ((c.shelved m).goOn 2).k.awaits):=h3.toR.awaits;have K:=h3.putAwaits false;have u4:=qpd w3 g 39 (.bool false);have c1:=(qa U2).size;have c2:=u3.size;have c3:=u4.size;have HP:=qb K;have HU:=qb (((qa U2).trans u3).trans (u4.mono (fun k _ e=>by rw[e];exact(qa H0).inG)));clear v h3 K u3 u4;go_wp2_with (with_reducible first|(first|refine' tw1 (qh ?_) ?_|refine' tw2 (qh ?_) ?_);rotate_left|refine' tw3 (qh ?_)|rfl|apply tn|refine' tw4 ?_);go_ret2;rw[qa HH];refine⟨rfl,⟨b6,b7,a8,(qa HP).wider (fun k H=> ?_) (fun k H=> ?_)⟩,qa HU⟩
    ·rcases H with H | H
     ·exact .inl H
     ·exact .inr ⟨by omega,by omega⟩
    ·rcases H with H | H
     ·exact(qa HP).lt k (.inl H)
     ·exact H.2
   ·rw[if_pos hE] at i;have P:=qb (qfw (qa i) (by decide));have z:=qa M hE;have q:ChP Z g S c lv nv av:=by
     have:=qa O;rw[z] at this;exact this
    have HC:=qb (q.fr w);clear z q O M;go_wp2_with (with_reducible first|(first|refine' tw1 (qh ?_) ?_|refine' tw2 (qh ?_) ?_);rotate_left|refine' tw3 (qh ?_)|rfl|apply tn|refine' tw4 ?_);go_ret2;rw[qa P];exact⟨rfl,qa HC,qa U2⟩
  ·rw[if_pos f] at i;have P:=qb (qfw (qa i) (by decide));have V:¬m.number=c.k.signed-1:=f;clear hm;go_wp2_with (with_reducible first|(first|refine' tw1 (qh ?_) ?_|refine' tw2 (qh ?_) ?_);rotate_left|refine' tw3 (qh ?_)|rfl|apply tn|refine' tw4 ?_);go_ret2;rw[qa P];have nd:qq w1 w1.drew:=(Upd.refl _ _).drew;exact⟨rfl,((qa H1).new nd).fr w,((qa N1).trans nd).mono (fun _ _ h=>h.elim)⟩
end Go.Proofs.YtfmkdoachjgjbaaGreatDoor
