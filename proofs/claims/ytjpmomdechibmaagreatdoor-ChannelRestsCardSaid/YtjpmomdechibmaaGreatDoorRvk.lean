/-
  hearRevoke.
-/
import Derived.Test.YtjpmomdechibmaaGreatDoorMca
set_option linter.unusedVariables false
set_option linter.unusedSimpArgs false
namespace Go.Proofs.YtjpmomdechibmaaGreatDoor
open Go.RowKit
attribute [local go_sem ↓ high] qaa qap qar qa1 qab qac qag qah
attribute [local go_sem] qcx qdn qdt qfm zq qcy qc0 qc2
def qpq(c:Ch):Prop:=∀p∈c.shelf,qa6 p.told
def qjr(c:Ch)(m:MsgV):Int :=
 if c.k.awaits=false then 5 else if m.number≠c.k.signed-1 then 134 else if qh2 m.hash (65535-m.number) c.shelf≠0 then 134 else 0
def Ch.shelved(c:Ch)(m:MsgV):Ch:= {c with shelf:=qu8 m.hash (65535-m.number) c.shelf}
def Ch.unawait(c:Ch):Ch:= {c with k:= {c.k with awaits:=false}}
def Ch.hearRevoke(c:Ch)(m:MsgV):Ch × Int:=if qjr c m=0 then (((c.shelved m).goOn 2).unawait,0) else (c,qjr c m)
theorem qg0{c:Ch}{m:MsgV}{e:Int}(h:qjr c m=e)(n:e≠0):c.hearRevoke m=(c,e):=by unfold Ch.hearRevoke;rw[h,if_neg n]
set_option maxRecDepth 100000 in
set_option maxHeartbeats 1000000 in
theorem qqf(g:Nat)(S:Nat→Prop)(c:Ch)(m:MsgV)(Y:MsgOk m)(w:World)(h:ChS w g S c)(a8:qpq c)(hT:Tb w)(hS:Apart S) :
  Calls Tryz.prog 70 #[.pointer (some ⟨g,0,none⟩),.agg m.cells.toArray] w fun e w' =>
   e = .returned (.tuple #[qbt,.int .i64 (c.hearRevoke m).2])∧ChS w' g (Fr S w w') (c.hearRevoke m).1∧Upd S w w':=by
 obtain⟨lv,nv,av,h⟩:=h
 go_enter Tryz.func70,Tryz.ntmps70
 go_upto_region 1 with fail
 have V:=qch w m Y.len
 have O:qy w (w.alloc (.cells m.cells.toArray 30)):=(Upd.refl _ _).alloc _
 generalize w.alloc (.cells m.cells.toArray 30)=w1 at O V ⊢
 obtain⟨A,K⟩:∃A,A=w.heap.size:=⟨_,rfl⟩
 rw[←K] at V ⊢
 have b6:g≠A:=by have:=h.lt g h.inG;omega
 clear K
 have h1:=h.new O
 have y:w1.cell? ⟨g,39,none⟩=some (.bool c.k.awaits):=h1.toR.awaits
 have N:qjr c m=if c.k.awaits=false then 5 else if m.number≠c.k.signed-1 then 134 else if qh2 m.hash (65535-m.number) c.shelf≠0 then 134 else 0:=rfl
 have i:=qb N
 have Z:=qb h
 have R:=qb h1
 have HA:=qb V
 have N1:=qb O
 have H:=qb (hT.new O)
 have b7:=h.ok.signed
 clear N h h1 V O hT
 cases X:c.k.awaits with
 | false =>
  rw[X,if_pos rfl] at i
  rw[X] at y
  have J:=qb (qg0 (qa i) (by decide))
  have I:=qb ((qa R).fr w)
  have HU:=qb ((qa N1).mono (T:=S) (fun _ _ h=>h.elim))
  go_wp2_with (with_reducible first|(first|refine' zr (qg ?_) ?_|refine' zt (qg ?_) ?_);rotate_left|refine' zu (qg ?_)|rfl|apply tn|refine' zv ?_)
  go_ret2
  rw[qa J]
  exact⟨rfl,qa I,qa HU⟩
 | true =>
  rw[X,if_neg (by decide)] at i
  rw[X] at y
  go_upto_region 3 with fail
  have a7:w1.cell? ⟨g,37,none⟩=some (.int .i64 c.k.signed):=(qa R).toR.signed
  obtain⟨-,-,-,-,-,v,m4⟩:=(qa HA).cells
  have a9:IntKind.i64.wrap (c.k.signed-1)=c.k.signed-1:=qiz (by omega) (by omega)
  by_cases f:m.number=c.k.signed-1
  ·have t:IntKind.i64.wrap (65535-m.number)=65535-m.number:=qiz (by omega) (by omega)
   rw[if_neg (fun h=>h f)] at i
   have z:=fun W (n:qy w1 W)=>q0k g S c lv nv av m.hash Y.len Y.hash (65535-m.number) W ((qa R).new n) a8 ((qa H).new n).tabs ((qa H).new n).deb
   have HI:=qb z
   have o:=fun W (h:ChS W g S (c.shelved m)) (hG:Glob W)=>qme g S (c.shelved m) 2 W h hG
   have HG:=qb o
   have q:qh2 m.hash (65535-m.number) c.shelf≠0→qu8 m.hash (65535-m.number) c.shelf=c.shelf:=fun h=>by unfold qu8;rw[if_neg h]
   have F:=qb q
   clear z o q y
   have M:(m.number != c.k.signed-1)=false:=by rw[f];simp
   rw[f] at HI i F
   rw[f] at v
   clear t M v m4
   obtain⟨-,-,-,-,-,v,m4⟩:=(qa HA).cells
   rw[f] at v
   have t:IntKind.i64.wrap (65535-(c.k.signed-1))=65535-(c.k.signed-1):=qiz (by omega) (by omega)
   have D:c.shelved m = {c with shelf:=qu8 m.hash (65535-(c.k.signed-1)) c.shelf} := by unfold Ch.shelved;rw[f]
   have a4:=qb D
   clear D
   go_wp2_with (with_reducible first|(first|refine' zr (qg ?_) ?_|refine' zt (qg ?_) ?_);rotate_left|refine' zu (qg ?_)|rfl|apply tn|refine' zv ?_)
   refine(qa HI _ ((Upd.refl _ _).drew.drew)).mono ?_
   rintro e P ⟨rfl,h2,u2⟩
   have U2:Hid (Upd S w P):=qb ((((qa N1).trans ((Upd.refl _ _).drew.drew)).mono (T:=S) (fun _ _ h=>h.elim)).trans (u2.mono (fun k _ e=>by rw[e];exact(qa Z).inG)))
   have a5:Hid (Tb P):=qb ((qa H).upd (((Upd.refl (fun _=>False) w1).drew.drew.mono (T:=S) (fun _ _ h=>h.elim)).trans (u2.mono (T:=S) (fun k _ e=>by rw[e];exact(qa Z).inG))) hS)
   have I:=qb h2
   clear h2 u2 a7 v m4 a9 t
   generalize qh2 m.hash (65535-(c.k.signed-1)) c.shelf=E at *
   by_cases hE:E=0
   ·rw[hE,if_neg (fun h=>h rfl)] at i
    have L:c.hearRevoke m=(((c.shelved m).goOn 2).unawait,0):=by unfold Ch.hearRevoke;rw[if_pos (qa i)]
    have HH:=qb L
    have l:ChS P g S (c.shelved m):=⟨lv,nv,av,by rw[qa a4];exact qa I⟩
    have o:=qa HG P l (qa a5).glob
    clear L l
    go_wp2_with (with_reducible first|(first|refine' zr (qg ?_) ?_|refine' zt (qg ?_) ?_);rotate_left|refine' zu (qg ?_)|rfl|apply tn|refine' zv ?_)
    refine o.mono ?_
    rintro e w3 ⟨rfl,⟨b3,b4,a6,U⟩,u3⟩
    have b5:w3.frozen? ⟨g,39,none⟩=false:=qq U.at_ 39
    have y:w3.cell? ⟨g,39,none⟩=some (.bool ((c.shelved m).goOn 2).k.awaits):=U.toR.awaits
    have C:=U.putAwaits false
    have u4:=qgf w3 g 39 (.bool false)
    have b8:=(qa U2).size
    have b9:=u3.size
    have c0:=u4.size
    have HP:=qb C
    have HU:=qb (((qa U2).trans u3).trans (u4.mono (fun k _ e=>by rw[e];exact(qa Z).inG)))
    clear o U C u3 u4
    go_wp2_with (with_reducible first|(first|refine' zr (qg ?_) ?_|refine' zt (qg ?_) ?_);rotate_left|refine' zu (qg ?_)|rfl|apply tn|refine' zv ?_)
    go_ret2
    rw[qa HH]
    refine⟨rfl,⟨b3,b4,a6,(qa HP).wider (fun k x=> ?_) (fun k x=> ?_)⟩,qa HU⟩
    ·rcases x with x | x
     ·exact .inl x
     ·exact .inr ⟨by omega,by omega⟩
    ·rcases x with x | x
     ·exact(qa HP).lt k (.inl x)
     ·exact x.2
   ·rw[if_pos hE] at i
    have J:=qb (qg0 (qa i) (by decide))
    have q:=qa F hE
    have l:ChP P g S c lv nv av:=by
     have:=qa I
     rw[q] at this
     exact this
    have HC:=qb (l.fr w)
    clear q l I F
    go_wp2_with (with_reducible first|(first|refine' zr (qg ?_) ?_|refine' zt (qg ?_) ?_);rotate_left|refine' zu (qg ?_)|rfl|apply tn|refine' zv ?_)
    go_ret2
    rw[qa J]
    exact⟨rfl,qa HC,qa U2⟩
  ·rw[if_pos f] at i
   have J:=qb (qg0 (qa i) (by decide))
   have M:¬m.number=c.k.signed-1:=f
   clear Y
   go_wp2_with (with_reducible first|(first|refine' zr (qg ?_) ?_|refine' zt (qg ?_) ?_);rotate_left|refine' zu (qg ?_)|rfl|apply tn|refine' zv ?_)
   go_ret2
   rw[qa J]
   have nd:qy w1 w1.drew:=(Upd.refl _ _).drew
   exact⟨rfl,((qa R).new nd).fr w,((qa N1).trans nd).mono (fun _ _ h=>h.elim)⟩
end Go.Proofs.YtjpmomdechibmaaGreatDoor
