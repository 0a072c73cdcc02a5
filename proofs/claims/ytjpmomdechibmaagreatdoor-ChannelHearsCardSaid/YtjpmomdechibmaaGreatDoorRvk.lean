/-
  hearRevoke.
-/
import Derived.Test.YtjpmomdechibmaaGreatDoorMcd
set_option linter.unusedVariables false
set_option linter.unusedSimpArgs false
namespace Go.Proofs.YtjpmomdechibmaaGreatDoor
open Go.RowKit
attribute [local go_sem ↓ high] z7 qal qan qa0 qab qac qag qaa
attribute [local go_sem] qcp qdl qdr qfx zn qc2 qc3 qc6
def qov(c:Ch):Prop:=∀p∈c.shelf,qaz p.told
def qj9(c:Ch)(m:MsgV):Int :=
 if c.k.awaits=false then 5 else if m.number≠c.k.signed-1 then 134 else if qhj m.hash (65535-m.number) c.shelf≠0 then 134 else 0
def Ch.shelved(c:Ch)(m:MsgV):Ch:= {c with shelf:=qt2 m.hash (65535-m.number) c.shelf}
def Ch.unawait(c:Ch):Ch:= {c with k:= {c.k with awaits:=false}}
def Ch.hearRevoke(c:Ch)(m:MsgV):Ch × Int:=if qj9 c m=0 then (((c.shelved m).goOn 2).unawait,0) else (c,qj9 c m)
theorem qgo{c:Ch}{m:MsgV}{e:Int}(h:qj9 c m=e)(n:e≠0):c.hearRevoke m=(c,e):=by unfold Ch.hearRevoke;rw[h,if_neg n]
set_option maxRecDepth 100000 in
set_option maxHeartbeats 1000000 in
theorem qpi(g:Nat)(S:Nat→Prop)(c:Ch)(m:MsgV)(X:MsgOk m)(w:World)(h:ChS w g S c)(a7:qov c)(hT:Tb w)(hS:Apart S) :
  Calls Tryz.prog 70 #[.pointer (some ⟨g,0,none⟩),.agg m.cells.toArray] w fun e w' =>
   e = .returned (.tuple #[qbl,.int .i64 (c.hearRevoke m).2])∧ChS w' g (Fr S w w') (c.hearRevoke m).1∧Upd S w w':=by
 obtain⟨lv,nv,av,h⟩:=h
 go_enter Tryz.func70,Tryz.ntmps70
 go_upto_region 1 with fail
 have U:=qb6 w m X.len
 have N:qx w (w.alloc (.cells m.cells.toArray 30)):=(Upd.refl _ _).alloc _
 generalize w.alloc (.cells m.cells.toArray 30)=w1 at N U ⊢
 obtain⟨A,J⟩:∃A,A=w.heap.size:=⟨_,rfl⟩
 rw[←J] at U ⊢
 have b5:g≠A:=by have:=h.lt g h.inG;omega
 clear J
 have h1:=h.new N
 have x:w1.cell? ⟨g,39,none⟩=some (.bool c.k.awaits):=h1.toR.awaits
 have M:qj9 c m=if c.k.awaits=false then 5 else if m.number≠c.k.signed-1 then 134 else if qhj m.hash (65535-m.number) c.shelf≠0 then 134 else 0:=rfl
 have i:=qb M
 have Y:=qb h
 have P:=qb h1
 have HA:=qb U
 have N1:=qb N
 have F:=qb (hT.new N)
 have b6:=h.ok.signed
 clear M h h1 U N hT
 cases V:c.k.awaits with
 | false =>
  rw[V,if_pos rfl] at i
  rw[V] at x
  have I:=qb (qgo (qa i) (by decide))
  have H:=qb ((qa P).fr w)
  have HU:=qb ((qa N1).mono (T:=S) (fun _ _ h=>h.elim))
  go_wp2_with (with_reducible first|(first|refine' tw1 (qh ?_) ?_|refine' tw2 (qh ?_) ?_);rotate_left|refine' tw3 (qh ?_)|rfl|apply tn|refine' tw4 ?_)
  go_ret2
  rw[qa I]
  exact⟨rfl,qa H,qa HU⟩
 | true =>
  rw[V,if_neg (by decide)] at i
  rw[V] at x
  go_upto_region 3 with fail
  have a6:w1.cell? ⟨g,37,none⟩=some (.int .i64 c.k.signed):=(qa P).toR.signed
  obtain⟨-,-,-,-,-,t,m4⟩:=(qa HA).cells
  have a8:IntKind.i64.wrap (c.k.signed-1)=c.k.signed-1:=qik (by omega) (by omega)
  by_cases f:m.number=c.k.signed-1
  ·have q:IntKind.i64.wrap (65535-m.number)=65535-m.number:=qik (by omega) (by omega)
   rw[if_neg (fun h=>h f)] at i
   have y:=fun W (n:qx w1 W)=>qzb g S c lv nv av m.hash X.len X.hash (65535-m.number) W ((qa P).new n) a7 ((qa F).new n).tabs ((qa F).new n).deb
   have HI:=qb y
   have l:=fun W (h:ChS W g S (c.shelved m)) (hG:Glob W)=>qlp g S (c.shelved m) 2 W h hG
   have HG:=qb l
   have o:qhj m.hash (65535-m.number) c.shelf≠0→qt2 m.hash (65535-m.number) c.shelf=c.shelf:=fun h=>by unfold qt2;rw[if_neg h]
   have D:=qb o
   clear y l o x
   have L:(m.number != c.k.signed-1)=false:=by rw[f];simp
   rw[f] at HI i D
   rw[f] at t
   clear q L t m4
   obtain⟨-,-,-,-,-,t,m4⟩:=(qa HA).cells
   rw[f] at t
   have q:IntKind.i64.wrap (65535-(c.k.signed-1))=65535-(c.k.signed-1):=qik (by omega) (by omega)
   have C:c.shelved m = {c with shelf:=qt2 m.hash (65535-(c.k.signed-1)) c.shelf} := by unfold Ch.shelved;rw[f]
   have Z:=qb C
   clear C
   go_wp2_with (with_reducible first|(first|refine' tw1 (qh ?_) ?_|refine' tw2 (qh ?_) ?_);rotate_left|refine' tw3 (qh ?_)|rfl|apply tn|refine' tw4 ?_)
   refine(qa HI _ ((Upd.refl _ _).drew.drew)).mono ?_
   rintro e O ⟨rfl,h2,u2⟩
   have U2:Hid (Upd S w O):=qb ((((qa N1).trans ((Upd.refl _ _).drew.drew)).mono (T:=S) (fun _ _ h=>h.elim)).trans (u2.mono (fun k _ e=>by rw[e];exact(qa Y).inG)))
   have a4:Hid (Tb O):=qb ((qa F).upd (((Upd.refl (fun _=>False) w1).drew.drew.mono (T:=S) (fun _ _ h=>h.elim)).trans (u2.mono (T:=S) (fun k _ e=>by rw[e];exact(qa Y).inG))) hS)
   have H:=qb h2
   clear h2 u2 a6 t m4 a8 q
   generalize qhj m.hash (65535-(c.k.signed-1)) c.shelf=E at *
   by_cases hE:E=0
   ·rw[hE,if_neg (fun h=>h rfl)] at i
    have K:c.hearRevoke m=(((c.shelved m).goOn 2).unawait,0):=by unfold Ch.hearRevoke;rw[if_pos (qa i)]
    have HH:=qb K
    have j:ChS O g S (c.shelved m):=⟨lv,nv,av,by rw[qa Z];exact qa H⟩
    have l:=qa HG O j (qa a4).glob
    clear K j
    go_wp2_with (with_reducible first|(first|refine' tw1 (qh ?_) ?_|refine' tw2 (qh ?_) ?_);rotate_left|refine' tw3 (qh ?_)|rfl|apply tn|refine' tw4 ?_)
    refine l.mono ?_
    rintro e w3 ⟨rfl,⟨a9,b3,a5,R⟩,u3⟩
    have b4:w3.frozen? ⟨g,39,none⟩=false:=qm R.at_ 39
    have x:w3.cell? ⟨g,39,none⟩=some (.bool ((c.shelved m).goOn 2).k.awaits):=R.toR.awaits
    have z:=R.putAwaits false
    have u4:=qf2 w3 g 39 (.bool false)
    have b7:=(qa U2).size
    have b8:=u3.size
    have b9:=u4.size
    have HP:=qb z
    have HU:=qb (((qa U2).trans u3).trans (u4.mono (fun k _ e=>by rw[e];exact(qa Y).inG)))
    clear l R z u3 u4
    go_wp2_with (with_reducible first|(first|refine' tw1 (qh ?_) ?_|refine' tw2 (qh ?_) ?_);rotate_left|refine' tw3 (qh ?_)|rfl|apply tn|refine' tw4 ?_)
    go_ret2
    rw[qa HH]
    refine⟨rfl,⟨a9,b3,a5,(qa HP).wider (fun k v=> ?_) (fun k v=> ?_)⟩,qa HU⟩
    ·rcases v with v | v
     ·exact .inl v
     ·exact .inr ⟨by omega,by omega⟩
    ·rcases v with v | v
     ·exact(qa HP).lt k (.inl v)
     ·exact v.2
   ·rw[if_pos hE] at i
    have I:=qb (qgo (qa i) (by decide))
    have o:=qa D hE
    have j:ChP O g S c lv nv av:=by
     have:=qa H
     rw[o] at this
     exact this
    have HC:=qb (j.fr w)
    clear o j H D
    go_wp2_with (with_reducible first|(first|refine' tw1 (qh ?_) ?_|refine' tw2 (qh ?_) ?_);rotate_left|refine' tw3 (qh ?_)|rfl|apply tn|refine' tw4 ?_)
    go_ret2
    rw[qa I]
    exact⟨rfl,qa HC,qa U2⟩
  ·rw[if_pos f] at i
   have I:=qb (qgo (qa i) (by decide))
   have L:¬m.number=c.k.signed-1:=f
   clear X
   go_wp2_with (with_reducible first|(first|refine' tw1 (qh ?_) ?_|refine' tw2 (qh ?_) ?_);rotate_left|refine' tw3 (qh ?_)|rfl|apply tn|refine' tw4 ?_)
   go_ret2
   rw[qa I]
   have nd:qx w1 w1.drew:=(Upd.refl _ _).drew
   exact⟨rfl,((qa P).new nd).fr w,((qa N1).trans nd).mono (fun _ _ h=>h.elim)⟩
end Go.Proofs.YtjpmomdechibmaaGreatDoor
