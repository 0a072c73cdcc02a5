/-
  hearRevoke.
-/
import Derived.Test.YthnohmjbbeahmaaGreatDoorMbi
set_option linter.unusedVariables false
set_option linter.unusedSimpArgs false
namespace Go.Proofs.YthnohmjbbeahmaaGreatDoor
open Go.RowKit
attribute [local go_sem ↓ high] qab qan qar qaw zy zz z7 qaa
attribute [local go_sem] qcr qde qdn qg2 zb qb2 qcb qci
def q2f(c:Ch):Prop:=∀p∈c.shelf,qa7 p.told
def qkm(c:Ch)(m:MsgV):Int :=
 if c.k.awaits=false then 5 else if m.number≠c.k.signed-1 then 134 else if qfx m.hash (65535-m.number) c.shelf≠0 then 134 else 0
def Ch.shelved(c:Ch)(m:MsgV):Ch:= {c with shelf:=qmz m.hash (65535-m.number) c.shelf}
def Ch.unawait(c:Ch):Ch:= {c with k:= {c.k with awaits:=false}}
def Ch.hearRevoke(c:Ch)(m:MsgV):Ch × Int:=if qkm c m=0 then (((c.shelved m).goOn 2).unawait,0) else (c,qkm c m)
theorem qh0{c:Ch}{m:MsgV}{e:Int}(h:qkm c m=e)(n:e≠0):c.hearRevoke m=(c,e):=by unfold Ch.hearRevoke;rw[h,if_neg n]
set_option maxRecDepth 100000 in
set_option maxHeartbeats 1000000 in
theorem qse(g:Nat)(S:Nat→Prop)(c:Ch)(m:MsgV)(Z:MsgOk m)(w:World)(h:ChS w g S c)(a8:q2f c)(hT:Tb w)(hS:Apart S) :
  Calls Tryz.prog 85 #[.pointer (some ⟨g,0,none⟩),.agg m.cells.toArray] w fun e w' =>
   e = .returned (.tuple #[qcg,.int .i64 (c.hearRevoke m).2])∧ChS w' g (Fr S w w') (c.hearRevoke m).1∧Upd S w w':=by
 obtain⟨lv,nv,av,h⟩:=h
 go_enter Tryz.func85,Tryz.ntmps85
 go_upto_region 1 with fail
 have X:=qbz w m Z.len
 have P:qq w (w.alloc (.cells m.cells.toArray 71)):=(Upd.refl _ _).alloc _
 generalize w.alloc (.cells m.cells.toArray 71)=w1 at P X ⊢
 obtain⟨A,L⟩:∃A,A=w.heap.size:=⟨_,rfl⟩
 rw[←L] at X ⊢
 have b6:g≠A:=by have:=h.lt g h.inG;omega
 clear L
 have h1:=h.new P
 have z:w1.cell? ⟨g,39,none⟩=some (.bool c.k.awaits):=h1.toR.awaits
 have O:qkm c m=if c.k.awaits=false then 5 else if m.number≠c.k.signed-1 then 134 else if qfx m.hash (65535-m.number) c.shelf≠0 then 134 else 0:=rfl
 have l:=qb O
 have H0:=qb h
 have U:=qb h1
 have HA:=qb X
 have N1:=qb P
 have I:=qb (hT.new P)
 have b7:=h.ok.signed
 clear O h h1 X P hT
 cases Y:c.k.awaits with
 | false =>
  rw[Y,if_pos rfl] at l;rw[Y] at z;have K:=qb (qh0 (qa l) (by decide));have J:=qb ((qa U).fr w);have HU:=qb ((qa N1).mono (T:=S) (fun _ _ h=>h.elim));go_wp2_with (with_reducible first|(first|refine' zi (qg ?_) ?_|refine' zj (qg ?_) ?_);rotate_left|refine' zk (qg ?_)|rfl|apply tn|refine' zl ?_);go_ret2;rw[qa K];exact⟨rfl,qa J,qa HU⟩
 | true =>
  rw[Y,if_neg (by decide)] at l;rw[Y] at z;go_upto_region 3 with fail;have a7:w1.cell? ⟨g,37,none⟩=some (.int .i64 c.k.signed):=(qa U).toR.signed;obtain⟨-,-,-,-,-,x,m4⟩:=(qa HA).cells;have a9:IntKind.i64.wrap (c.k.signed-1)=c.k.signed-1:=qk2 (by omega) (by omega);by_cases i:m.number=c.k.signed-1
  ·have v:IntKind.i64.wrap (65535-m.number)=65535-m.number:=qk2 (by omega) (by omega);rw[if_neg (fun h=>h i)] at l;have C:=fun W (n:qq w1 W)=>q3k g S c lv nv av m.hash Z.len Z.hash (65535-m.number) W ((qa U).new n) a8 ((qa I).new n).tabs ((qa I).new n).deb
   have HI:=qb C;have q:=fun W (h:ChS W g S (c.shelved m)) (hG:Glob W)=>qn7 g S (c.shelved m) 2 W h hG
   have HG:=qb q;have t:qfx m.hash (65535-m.number) c.shelf≠0→qmz m.hash (65535-m.number) c.shelf=c.shelf:=fun h=>by unfold qmz;rw[if_neg h]
   have H:=qb t;clear C q t z;have N:(m.number != c.k.signed-1)=false:=by rw[i];simp
   rw[i] at HI l H;rw[i] at x;clear v N x m4;obtain⟨-,-,-,-,-,x,m4⟩:=(qa HA).cells;rw[i] at x;have v:IntKind.i64.wrap (65535-(c.k.signed-1))=65535-(c.k.signed-1):=qk2 (by omega) (by omega);have F:c.shelved m = {c with shelf:=qmz m.hash (65535-(c.k.signed-1)) c.shelf} := by unfold Ch.shelved;rw[i]
   have a4:=qb F;clear F;go_wp2_with (with_reducible first|(first|refine' zi (qg ?_) ?_|refine' zj (qg ?_) ?_);rotate_left|refine' zk (qg ?_)|rfl|apply tn|refine' zl ?_);refine(qa HI _ ((Upd.refl _ _).drew.drew)).mono ?_;rintro e R ⟨rfl,h2,u2⟩;have U2:Hid (Upd S w R):=qb ((((qa N1).trans ((Upd.refl _ _).drew.drew)).mono (T:=S) (fun _ _ h=>h.elim)).trans (u2.mono (fun k _ e=>by rw[e];exact(qa H0).inG)));have a5:Hid (Tb R):=qb ((qa I).upd (((Upd.refl (fun _=>False) w1).drew.drew.mono (T:=S) (fun _ _ h=>h.elim)).trans (u2.mono (T:=S) (fun k _ e=>by rw[e];exact(qa H0).inG))) hS);have J:=qb h2;clear h2 u2 a7 x m4 a9 v;generalize qfx m.hash (65535-(c.k.signed-1)) c.shelf=E at *
   by_cases hE:E=0
   ·rw[hE,if_neg (fun h=>h rfl)] at l;have M:c.hearRevoke m=(((c.shelved m).goOn 2).unawait,0):=by unfold Ch.hearRevoke;rw[if_pos (qa l)]
    have HH:=qb M;have o:ChS R g S (c.shelved m):=⟨lv,nv,av,by rw[qa a4];exact qa J⟩;have q:=qa HG R o (qa a5).glob;clear M o;go_wp2_with (with_reducible first|(first|refine' zi (qg ?_) ?_|refine' zj (qg ?_) ?_);rotate_left|refine' zk (qg ?_)|rfl|apply tn|refine' zl ?_);refine q.mono ?_;rintro e w3 ⟨rfl,⟨b3,b4,a6,V⟩,u3⟩;have b5:w3.frozen? ⟨g,39,none⟩=false:=qw V.at_ 39;have z:w3.cell? ⟨g,39,none⟩=some (.bool ((c.shelved m).goOn 2).k.awaits):=V.toR.awaits;have D:=V.putAwaits false;have u4:=qjv w3 g 39 (.bool false);have b8:=(qa U2).size;have b9:=u3.size;have c0:=u4.size;have HP:=qb D;have HU:=qb (((qa U2).trans u3).trans (u4.mono (fun k _ e=>by rw[e];exact(qa H0).inG)));clear q V D u3 u4;go_wp2_with (with_reducible first|(first|refine' zi (qg ?_) ?_|refine' zj (qg ?_) ?_);rotate_left|refine' zk (qg ?_)|rfl|apply tn|refine' zl ?_);go_ret2;rw[qa HH];refine⟨rfl,⟨b3,b4,a6,(qa HP).wider (fun k y=> ?_) (fun k y=> ?_)⟩,qa HU⟩
    ·rcases y with y | y
     ·exact .inl y
     ·exact .inr ⟨by omega,by omega⟩
    ·rcases y with y | y
     ·exact(qa HP).lt k (.inl y)
     ·exact y.2
   ·rw[if_pos hE] at l;have K:=qb (qh0 (qa l) (by decide));have t:=qa H hE;have o:ChP R g S c lv nv av:=by
     have:=qa J;rw[t] at this;exact this
    have HC:=qb (o.fr w);clear t o J H;go_wp2_with (with_reducible first|(first|refine' zi (qg ?_) ?_|refine' zj (qg ?_) ?_);rotate_left|refine' zk (qg ?_)|rfl|apply tn|refine' zl ?_);go_ret2;rw[qa K];exact⟨rfl,qa HC,qa U2⟩
  ·rw[if_pos i] at l;have K:=qb (qh0 (qa l) (by decide));have N:¬m.number=c.k.signed-1:=i;clear Z;go_wp2_with (with_reducible first|(first|refine' zi (qg ?_) ?_|refine' zj (qg ?_) ?_);rotate_left|refine' zk (qg ?_)|rfl|apply tn|refine' zl ?_);go_ret2;rw[qa K];have nd:qq w1 w1.drew:=(Upd.refl _ _).drew;exact⟨rfl,((qa U).new nd).fr w,((qa N1).trans nd).mono (fun _ _ h=>h.elim)⟩
end Go.Proofs.YthnohmjbbeahmaaGreatDoor
