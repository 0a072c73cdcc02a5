/-
  hearRevoke.
-/
import Derived.Test.YthnohmjbbeahmaaGreatDoorMbj
set_option linter.unusedVariables false
set_option linter.unusedSimpArgs false
namespace Go.Proofs.YthnohmjbbeahmaaGreatDoor
open Go.RowKit
attribute [local go_sem ↓ high] zy qak qaq qat zr zu zw zx
attribute [local go_sem] qcl qdb qdn qgw zb qb3 qb9 qcf
def q0z(c:Ch):Prop:=∀p∈c.shelf,qal p.told
def qj5(c:Ch)(m:MsgV):Int :=
 if c.k.awaits=false then 5 else if m.number≠c.k.signed-1 then 134 else if qft m.hash (65535-m.number) c.shelf≠0 then 134 else 0
def Ch.shelved(c:Ch)(m:MsgV):Ch:= {c with shelf:=qkl m.hash (65535-m.number) c.shelf}
def Ch.unawait(c:Ch):Ch:= {c with k:= {c.k with awaits:=false}}
def Ch.hearRevoke(c:Ch)(m:MsgV):Ch × Int:=if qj5 c m=0 then (((c.shelved m).goOn 2).unawait,0) else (c,qj5 c m)
theorem qhl{c:Ch}{m:MsgV}{e:Int}(h:qj5 c m=e)(n:e≠0):c.hearRevoke m=(c,e):=by unfold Ch.hearRevoke;rw[h,if_neg n]
set_option maxRecDepth 100000 in
set_option maxHeartbeats 1000000 in
theorem qrk(g:Nat)(S:Nat→Prop)(c:Ch)(m:MsgV)(hm:MsgOk m)(w:World)(h:ChS w g S c)(a8:q0z c)(hT:Tb w)(hS:Apart S) :
  Calls Tryz.prog 85 #[.pointer (some ⟨g,0,none⟩),.agg m.cells.toArray] w fun e w' =>
   e = .returned (.tuple #[qcd,.int .i64 (c.hearRevoke m).2])∧ChS w' g (Fr S w w') (c.hearRevoke m).1∧Upd S w w':=by
 obtain⟨lv,nv,av,h⟩:=h
 go_enter Tryz.func85,Tryz.ntmps85
 go_upto_region 1 with fail
 have Z:=qbx w m hm.len
 have U:qu w (w.alloc (.cells m.cells.toArray 71)):=(Upd.refl _ _).alloc _
 generalize w.alloc (.cells m.cells.toArray 71)=w1 at U Z ⊢
 obtain⟨A,N⟩:∃A,A=w.heap.size:=⟨_,rfl⟩
 rw[←N] at Z ⊢
 have b6:g≠A:=by have:=h.lt g h.inG;omega
 clear N
 have h1:=h.new U
 have D:w1.cell? ⟨g,39,none⟩=some (.bool c.k.awaits):=h1.toR.awaits
 have R:qj5 c m=if c.k.awaits=false then 5 else if m.number≠c.k.signed-1 then 134 else if qft m.hash (65535-m.number) c.shelf≠0 then 134 else 0:=rfl
 have l:=qb R
 have H0:=qb h
 have X:=qb h1
 have HA:=qb Z
 have N1:=qb U
 have K:=qb (hT.new U)
 have b7:=h.ok.signed
 clear R h h1 Z U hT
 cases ha:c.k.awaits with
 | false =>
  rw[ha,if_pos rfl] at l;rw[ha] at D;have M:=qb (qhl (qa l) (by decide));have L:=qb ((qa X).fr w);have HU:=qb ((qa N1).mono (T:=S) (fun _ _ h=>h.elim));go_wp2_with (with_reducible first|(first|refine' tw1 (qg ?_) ?_|refine' tw2 (qg ?_) ?_);rotate_left|refine' tw3 (qg ?_)|rfl|apply tn|refine' tw4 ?_);go_ret2;rw[qa M];exact⟨rfl,qa L,qa HU⟩
 | true =>
  rw[ha,if_neg (by decide)] at l;rw[ha] at D;go_upto_region 3 with fail;have a7:w1.cell? ⟨g,37,none⟩=some (.int .i64 c.k.signed):=(qa X).toR.signed;obtain⟨-,-,-,-,-,z,m4⟩:=(qa HA).cells;have a9:IntKind.i64.wrap (c.k.signed-1)=c.k.signed-1:=qkj (by omega) (by omega);by_cases i:m.number=c.k.signed-1
  ·have v:IntKind.i64.wrap (65535-m.number)=65535-m.number:=qkj (by omega) (by omega);rw[if_neg (fun h=>h i)] at l;have F:=fun W (n:qu w1 W)=>q16 g S c lv nv av m.hash hm.len hm.hash (65535-m.number) W ((qa X).new n) a8 ((qa K).new n).tabs ((qa K).new n).deb
   have HI:=qb F;have q:=fun W (h:ChS W g S (c.shelved m)) (hG:Glob W)=>qnd g S (c.shelved m) 2 W h hG
   have HG:=qb q;have t:qft m.hash (65535-m.number) c.shelf≠0→qkl m.hash (65535-m.number) c.shelf=c.shelf:=fun h=>by unfold qkl;rw[if_neg h]
   have J:=qb t;clear F q t D;have P:(m.number != c.k.signed-1)=false:=by rw[i];simp
   rw[i] at HI l J;rw[i] at z;clear v P z m4;obtain⟨-,-,-,-,-,z,m4⟩:=(qa HA).cells;rw[i] at z;have v:IntKind.i64.wrap (65535-(c.k.signed-1))=65535-(c.k.signed-1):=qkj (by omega) (by omega);have I:c.shelved m = {c with shelf:=qkl m.hash (65535-(c.k.signed-1)) c.shelf} := by unfold Ch.shelved;rw[i]
   have a4:=qb I;clear I;go_wp2_with (with_reducible first|(first|refine' tw1 (qg ?_) ?_|refine' tw2 (qg ?_) ?_);rotate_left|refine' tw3 (qg ?_)|rfl|apply tn|refine' tw4 ?_);refine(qa HI _ ((Upd.refl _ _).drew.drew)).mono ?_;rintro e V ⟨rfl,h2,u2⟩;have U2:Hid (Upd S w V):=qb ((((qa N1).trans ((Upd.refl _ _).drew.drew)).mono (T:=S) (fun _ _ h=>h.elim)).trans (u2.mono (fun k _ e=>by rw[e];exact(qa H0).inG)));have a5:Hid (Tb V):=qb ((qa K).upd (((Upd.refl (fun _=>False) w1).drew.drew.mono (T:=S) (fun _ _ h=>h.elim)).trans (u2.mono (T:=S) (fun k _ e=>by rw[e];exact(qa H0).inG))) hS);have L:=qb h2;clear h2 u2 a7 z m4 a9 v;generalize qft m.hash (65535-(c.k.signed-1)) c.shelf=E at *
   by_cases hE:E=0
   ·rw[hE,if_neg (fun h=>h rfl)] at l;have O:c.hearRevoke m=(((c.shelved m).goOn 2).unawait,0):=by unfold Ch.hearRevoke;rw[if_pos (qa l)]
    have HH:=qb O;have o:ChS V g S (c.shelved m):=⟨lv,nv,av,by rw[qa a4];exact qa L⟩;have q:=qa HG V o (qa a5).glob;clear O o;go_wp2_with (with_reducible first|(first|refine' tw1 (qg ?_) ?_|refine' tw2 (qg ?_) ?_);rotate_left|refine' tw3 (qg ?_)|rfl|apply tn|refine' tw4 ?_);refine q.mono ?_;rintro e w3 ⟨rfl,⟨b3,b4,a6,Y⟩,u3⟩;have b5:w3.frozen? ⟨g,39,none⟩=false:=qv Y.at_ 39;have D:w3.cell? ⟨g,39,none⟩=some (.bool ((c.shelved m).goOn 2).k.awaits):=Y.toR.awaits;have H:=Y.putAwaits false;have u4:=qje w3 g 39 (.bool false);have b8:=(qa U2).size;have b9:=u3.size;have c0:=u4.size;have HP:=qb H;have HU:=qb (((qa U2).trans u3).trans (u4.mono (fun k _ e=>by rw[e];exact(qa H0).inG)));clear q Y H u3 u4;go_wp2_with (with_reducible first|(first|refine' tw1 (qg ?_) ?_|refine' tw2 (qg ?_) ?_);rotate_left|refine' tw3 (qg ?_)|rfl|apply tn|refine' tw4 ?_);go_ret2;rw[qa HH];refine⟨rfl,⟨b3,b4,a6,(qa HP).wider (fun k C=> ?_) (fun k C=> ?_)⟩,qa HU⟩
    ·rcases C with C | C
     ·exact .inl C
     ·exact .inr ⟨by omega,by omega⟩
    ·rcases C with C | C
     ·exact(qa HP).lt k (.inl C)
     ·exact C.2
   ·rw[if_pos hE] at l;have M:=qb (qhl (qa l) (by decide));have t:=qa J hE;have o:ChP V g S c lv nv av:=by
     have:=qa L;rw[t] at this;exact this
    have HC:=qb (o.fr w);clear t o L J;go_wp2_with (with_reducible first|(first|refine' tw1 (qg ?_) ?_|refine' tw2 (qg ?_) ?_);rotate_left|refine' tw3 (qg ?_)|rfl|apply tn|refine' tw4 ?_);go_ret2;rw[qa M];exact⟨rfl,qa HC,qa U2⟩
  ·rw[if_pos i] at l;have M:=qb (qhl (qa l) (by decide));have P:¬m.number=c.k.signed-1:=i;clear hm;go_wp2_with (with_reducible first|(first|refine' tw1 (qg ?_) ?_|refine' tw2 (qg ?_) ?_);rotate_left|refine' tw3 (qg ?_)|rfl|apply tn|refine' tw4 ?_);go_ret2;rw[qa M];have nd:qu w1 w1.drew:=(Upd.refl _ _).drew;exact⟨rfl,((qa X).new nd).fr w,((qa N1).trans nd).mono (fun _ _ h=>h.elim)⟩
end Go.Proofs.YthnohmjbbeahmaaGreatDoor
