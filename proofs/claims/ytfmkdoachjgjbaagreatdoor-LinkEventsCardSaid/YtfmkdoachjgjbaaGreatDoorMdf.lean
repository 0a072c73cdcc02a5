/-
  Hear, of any message: Again too.
-/
import Derived.Test.YtfmkdoachjgjbaaGreatDoorHAg
import Derived.Test.YtfmkdoachjgjbaaGreatDoorMdb
import Derived.Test.YtfmkdoachjgjbaaGreatDoorMdd
import Derived.Test.YtfmkdoachjgjbaaGreatDoorMcj
set_option linter.unusedVariables false
set_option linter.unusedSimpArgs false
namespace Go.Proofs.YtfmkdoachjgjbaaGreatDoor
open Go.RowKit
def Ch.again(c:Ch):MsgV:=⟨9,c.s.ch,IntKind.u64.wrap c.k.told,0,ze,0,c.k.heard+1⟩
noncomputable def Ch.hears(c:Ch)(m:MsgV):Ch × List MsgV × Int :=
 if m.kind=9 then (if qap m=false∨m.ch≠c.s.ch then (c,[],1) else (c,(c.hearAgain m).1,(c.hearAgain m).2)) else c.hear m
theorem qws(g:Nat)(S:Nat→Prop)(c:Ch)(m:MsgV)(v:MsgOk m)(w:World)(h:ChS w g S c)(q:qap m=true)(i:m.ch=c.s.ch)(F:m.kind=9)(E:Tb w)(f:c.last.length≤900000) :
  Calls Tryz.prog 107 #[.pointer (some ⟨g,0,none⟩),.agg m.cells.toArray] w (qey g S w c (c.hearAgain m).1 (c.hearAgain m).2) :=
 qhr _ g S c _ _ _ m v w h q i (enters_of Tryz.func182 (by kernel_rfl) rfl) (fun C=>by rw[F];exact zbv C) (fun W z=>qpl g S c m v W (h.new z) (E.new z) f)
theorem q03(g:Nat)(S:Nat→Prop)(c:Ch)(m:MsgV)(v:MsgOk m)(w:World)(h:ChS w g S c)(I:c.Inv)(C:Tb w)(F:Apart S)(K:3≤m.kind∧m.kind≤9)(i:c.last.length≤900000) :
  Calls Tryz.prog 107 #[.pointer (some ⟨g,0,none⟩),.agg m.cells.toArray] w (qey g S w (c.hears m).1 (c.hears m).2.1 (c.hears m).2.2):=by
 by_cases q:m.kind=9
 ·by_cases f:qap m=false∨m.ch≠c.s.ch
  ·have e:c.hears m=(c,[],1):=by unfold Ch.hears;rw[if_pos q,if_pos f]
   rw[e];refine(qt1 g S c m v w h f).mono ?_;rintro e w' ⟨H,E⟩;exact⟨_,H,qbx.nil _ _,(h.new E).frW,E.mono (fun _ _ h=>h.elim)⟩
  ·have e:c.hears m=(c,(c.hearAgain m).1,(c.hearAgain m).2):=by unfold Ch.hears;rw[if_pos q,if_neg f]
   rw[e];have z:qap m=true:=by
    cases J:qap m with
    | true=>rfl
    | false=>exact absurd (.inl J) f
   exact qws g S c m v w h z (Decidable.of_not_not (fun e=>f (.inr e))) q C i
 ·have e:c.hears m=c.hear m:=by unfold Ch.hears;rw[if_neg q]
  rw[e];exact q5j g S c m v w h I C F (by omega)
theorem q8q(s:ByteArray):MsgOk (qcq s).1:=by
 have f:MsgOk MsgV.zero:=qfz (k:=0) ⟨by decide,by decide⟩;have i:=qe9 s 0;unfold qcq;split
 ·exact f
 ·split
  ·exact f
  ·split
   ·exact f
   ·rename_i h;split
    ·exact f
    ·split
     ·exact(qnm _ _ _ (qfz ⟨by omega,by omega⟩) h).1
     ·exact f
noncomputable def Lk.hearD(l:Lk)(es:List EvV)(m:MsgV)(t:ByteArray)(r:Ch × List MsgV × Int):Lk × List EvV × Int:=(l.hearR r.1 r.2.1 m t r.2.2,qlu es m l.waits l.c.xs r.1.xs r.2.2,r.2.2)
noncomputable def Lk.hears(l:Lk)(es:List EvV)(t:ByteArray):Lk × List EvV × Int :=
 if (qcq t).2=0 then l.hearD es (qcq t).1 t (l.c.hears (qcq t).1) else (l,es,(qcq t).2)
theorem qwt(l:Lk)(es:List EvV)(t:ByteArray):(l.hears es t).1.rest=l.rest:=by
 unfold Lk.hears;split
 ·show (l.hearR _ _ _ _ _).rest=_;unfold Lk.hearR;split<;>rfl
 ·rfl
structure LHearOk(l:Lk)(es:List EvV)(t:ByteArray):Prop where
 lk:LkOkW l
 es:es.length≤10000
 size:t.size≤1000
 msg:(qcq t).2=0→(3≤(qcq t).1.kind∧(qcq t).1.kind≤9)∧l.c.Inv∧l.c.last.length≤900000∧(∀m∈(l.c.hears (qcq t).1).2.1,SayOk m)∧(l.c.hears (qcq t).1).2.1.length≤1000∧l.c.xs.length≤1000∧(l.c.hears (qcq t).1).1.xs.length≤1000
section
variable {w w' w1:World}{g:Nat}{S T:Nat→Prop}{l:Lk}{es:List EvV}{sp en lo:Nat}
theorem qcj.lt(h:qcj w g S l es sp en lo):∀k,S k→k<w.heap.size:=by
 obtain⟨f,i,m,ev,h⟩:=h;exact h.lt
theorem qcj.new(h:qcj w g S l es sp en lo)(n:qq w w'):qcj w' g S l es sp en lo:=by
 obtain⟨f,i,m,ev,h⟩:=h;exact⟨f,i,m,ev,h.lk.new n,h.row.upd n (fun _ _ h=>h),h.out,h.inE,h.in0,fun k e=>Nat.lt_of_lt_of_le (h.lt k e) n.size⟩
theorem qcj.upd(h:qcj w g S l es sp en lo)(u:Upd T w w')(hd:∀k,S k→¬T k):qcj w' g S l es sp en lo:=by
 obtain⟨f,i,m,ev,h⟩:=h;exact⟨f,i,m,ev,h.lk.upd u (fun k e=>hd k (h.in0 k e)),h.row.upd u (fun k e=>hd k (h.inE k e)),h.out,h.inE,h.in0,fun k e=>Nat.lt_of_lt_of_le (h.lt k e) u.size⟩
theorem qcj.wider(h:qcj w g S l es sp en lo)(f:∀k,S k→T k)(v:∀k,T k→k<w.heap.size):qcj w g T l es sp en lo:=by
 obtain⟨i,m,q,ev,h⟩:=h;exact⟨i,m,q,ev,h.lk,h.row,h.out,fun k e=>f k (h.inE k e),fun k e=>f k (h.in0 k e),v⟩
theorem qcj.inG(h:qcj w g S l es sp en lo):S g:=by
 obtain⟨f,i,m,ev,h⟩:=h;exact h.in0 g h.lk.inG
theorem qcj.inSp(h:qcj w g S l es sp en lo):S sp:=by
 obtain⟨f,i,m,ev,h⟩:=h;exact h.in0 sp h.lk.inS
theorem qcj.ne(h:qcj w g S l es sp en lo):g≠sp:=by
 obtain⟨f,i,m,ev,h⟩:=h;exact h.lk.ne
theorem qcj.cells(h:qcj w g S l es sp en lo):w.cell? ⟨g,0,none⟩=some (.pointer (some ⟨sp,0,none⟩))∧w.cell? ⟨g,6,none⟩=some (.bool l.dead)∧w.cell? ⟨g,7,none⟩=some (.bool l.broken)∧w.frozen? ⟨g,7,none⟩=false:=by
 obtain⟨f,i,m,ev,h⟩:=h;exact⟨qg h.lk.at_ 0,qg h.lk.at_ 6,qg h.lk.at_ 7,qu h.lk.at_ 7⟩
theorem qcj.spl(h:qcj w g S l es sp en lo):Spl w sp l.rest:=by
 obtain⟨f,i,m,ev,h⟩:=h;exact h.lk.spl
theorem qcj.split(h:qcj w g S l es sp en lo)(u:Upd (fun k=>k=sp) w w'){r:ByteArray}(v:Spl w' sp r):qcj w' g S {l with rest:=r} es sp en lo:=by
 obtain⟨i,m,q,ev,h⟩:=h;exact⟨i,m,q,ev,h.lk.split u v,h.row.upd u (fun k e f=>h.out k e (by have f:k=sp:=f;rw[f];exact h.lk.inS)),h.out,h.inE,h.in0,fun k e=>Nat.lt_of_lt_of_le (h.lt k e) u.size⟩
theorem qcj.breaks(h:qcj w g S l es sp en lo):qcj (w.setCell ⟨g,7,none⟩ (.bool true)) g S {l with broken:=true} es sp en lo:=by
 obtain⟨i,m,q,ev,h⟩:=h;have u:Upd (· = g) w (w.setCell ⟨g,7,none⟩ (.bool true)):=(Upd.refl _ _).set1 _ _;exact⟨i,m,q,ev,h.lk.put rfl rfl rfl rfl,h.row.upd u (fun k e f=>h.out k e (by have f:k=g:=f;rw[f];exact h.lk.inG)),h.out,h.inE,h.in0,fun k e=>Nat.lt_of_lt_of_le (h.lt k e) u.size⟩
theorem qcj.later(i:w1.heap.size≤w.heap.size)(h:qcj w' g (Fr S w w') l es sp en lo)(f:∀k,S k→k<w'.heap.size):qcj w' g (Fr S w1 w') l es sp en lo :=
 h.wider (fun k e=>e.imp id (fun e=>⟨by omega,e.2⟩)) (fun k e=>e.elim (f k) (fun e=>e.2))
end
theorem q04(g:Nat)(S:Nat→Prop)(l:Lk)(es:List EvV)(sp en lo:Nat)(t:ByteArray)(w:World)(h:qcj w g S l es sp en lo)(m:LHearOk l es t)(H:Tb w)(q:Apart S) :
  Calls Tryz.prog 65 #[.pointer (some ⟨g,0,none⟩),.string t] w fun e w'=>e = .returned (.int .i64 (l.hears es t).2.2)∧Upd S w w'∧qcj w' g (Fr S w w') (l.hears es t).1 (l.hears es t).2.1 sp en lo:=by
 by_cases hd:(qcq t).2=0
 ·obtain⟨O,N,z,K,I,C,i⟩:=m.msg hd;obtain⟨L,E,M,ev,h⟩:=h;have J:=q8q t;have f:∀W,Calls Tryz.prog 105 #[.string t] W (qa5 (.tuple #[.agg (qcq t).1.cells.toArray,.int .i64 0]) W):=fun W=>by
   have:=qn9 t W;rw[hd] at this;exact this
  have v:l.hears es t=l.hearD es (qcq t).1 t (l.c.hears (qcq t).1):=by unfold Lk.hears;rw[if_pos hd]
  rw[v];have F:=fun a (n:qq w a)=>q03 en E l.c (qcq t).1 J a (h.lk.chn.new n) N (H.new n) (q.mono (fun k e=>h.in0 k (h.lk.inC k e))) O z
  generalize l.c.hears (qcq t).1=r at F K I i ⊢;obtain⟨c',P,er⟩:=r;exact q1c g S L l ev es sp en lo E M (qcq t).1 c' P er t w h m.lk H.tabs ⟨q.c,q.d⟩ K I C i m.es J.len m.size f F
 ·have v:l.hears es t=(l,es,(qcq t).2):=by unfold Lk.hears;rw[if_neg hd]
  rw[v];refine(q1b g t w (by simpa using hd)).mono ?_;rintro e w' ⟨rfl,n⟩;have z:=h.lt;exact⟨rfl,n.mono (fun _ _ h=>h.elim),(h.new n).wider (fun k e=> .inl e) (fun k e=>e.elim (fun e=>by have:=z k e;have:=n.size;omega) (fun e=>e.2))⟩
def frT(r:ByteArray):ByteArray:=(r.extract 0 (2+hd r).toNat).extract 2 (2+hd r).toNat
def frR(r:ByteArray):ByteArray:=r.extract (2+hd r).toNat r.size
theorem q48{r:ByteArray}(h:qh2 r):(frR r).size<r.size:=by
 have f:=h.1;have i:=qyv r;have m:=h.2.2;unfold frR;rw[ByteArray.size_extract];omega
inductive Bts:Lk→List EvV→Lk→List EvV→Int→Prop
 | stop (l:Lk) (es:List EvV) (h:¬qh2 l.rest):Bts l es l es (if qei l.rest=true then 80 else 0)
 | err (l:Lk) (es:List EvV) (h:qh2 l.rest) (ho:LHearOk {l with rest:=frR l.rest} es (frT l.rest)) (he:(Lk.hears {l with rest:=frR l.rest} es (frT l.rest)).2.2≠0):Bts l es {(Lk.hears {l with rest:=frR l.rest} es (frT l.rest)).1 with broken:=true} (Lk.hears {l with rest:=frR l.rest} es (frT l.rest)).2.1 (Lk.hears {l with rest:=frR l.rest} es (frT l.rest)).2.2
 | step (l:Lk) (es:List EvV) (h:qh2 l.rest) (ho:LHearOk {l with rest:=frR l.rest} es (frT l.rest)) (he:(Lk.hears {l with rest:=frR l.rest} es (frT l.rest)).2.2=0) (L:Lk) (ES:List EvV) (E:Int) (next:Bts (Lk.hears {l with rest:=frR l.rest} es (frT l.rest)).1 (Lk.hears {l with rest:=frR l.rest} es (frT l.rest)).2.1 L ES E):Bts l es L ES E
def q29(l:Lk)(es:List EvV)(t:ByteArray)(L:Lk)(f:List EvV)(E:Int):Prop :=
 LHearOk l es t∧(((l.hears es t).2.2≠0∧L = {(l.hears es t).1 with broken:=true} ∧ f=(l.hears es t).2.1∧E=(l.hears es t).2.2)∨((l.hears es t).2.2=0∧Bts (l.hears es t).1 (l.hears es t).2.1 L f E))
theorem Bts.cases'{l:Lk}{es:List EvV}{L:Lk}{f:List EvV}{E:Int}(h:Bts l es L f E):(¬qh2 l.rest∧L=l∧f=es∧E=if qei l.rest=true then 80 else 0)∨(qh2 l.rest∧q29 {l with rest:=frR l.rest} es (frT l.rest) L f E):=by
 cases h with
 | stop l es h=>exact .inl ⟨h,rfl,rfl,rfl⟩
 | err l es h m i=>exact .inr ⟨h,m,.inl ⟨i,rfl,rfl,rfl⟩⟩
 | step l es h m i L f E next=>exact .inr ⟨h,m,.inr ⟨i,next⟩⟩
def qi5(w:World)(b:Nat):Nat:=match w.cell? ⟨b,0,none⟩ with | some (.string r)=>r.size | _=>0
theorem qll{w:World}{b:Nat}{r:ByteArray}(h:Spl w b r):qi5 w b=r.size:=by
 unfold qi5;rw[h.cell]
set_option maxRecDepth 100000 in
set_option maxHeartbeats 2000000 in
theorem qw8(g:Nat)(S:Nat→Prop)(l L:Lk)(es I:List EvV)(E:Int)(s:ByteArray)(sp en lo:Nat)(w:World)(h:qcj w g S l es sp en lo)(c2:l.dead=false)(hb:l.broken=false)(b3:qei l.rest=false)(d6:l.rest.size+s.size≤1000000000)(hT:Tb w)(hA:Apart S)(hB:Bts {l with rest:=l.rest++s} es L I E) :
  Calls Tryz.prog 24 #[.pointer (some ⟨g,0,none⟩),.string s] w fun e w'=>e = .returned (.int .i64 E)∧Upd S w w'∧qcj w' g (Fr S w w') L I sp en lo:=by
 have N:Spl w sp l.rest:=h.spl
 obtain⟨c0,c6,c7,-⟩:=h.cells
 rw[c2] at c6
 rw[hb] at c7
 have HP:=qb h
 have HB:=qb hB
 have HT:=qb (And.intro hT hA)
 have d4:=h.ne
 clear h c2 hb hB hT hA
 go_enter Tryz.func24,Tryz.ntmps24
 go_wp2_with fail
 refine(qjb sp _ w N.cell b3).mono ?_
 rintro e w1 ⟨rfl,q1⟩
 have hp:=q9f sp _ s w1 (N.q q1) b3 (by omega)
 have d0:=q1.cell c0
 have b4:=qb ((qa HP).new (q1.upd _))
 have U1:=qb (q1.upd (fun _=>False))
 clear q1 N c0 c6 c7
 go_wp2_with fail
 refine hp.mono ?_
 rintro e w2 ⟨rfl,u2,s2⟩
 have a8:=(qa b4).split u2 s2
 have d2:=u2.cell d0 d4
 have U2:=qb (show Upd S w w2 from(((qa U1).mono (fun _ _ h=>h.elim)).trans u2).mono (fun k _ e=>by have e:k=sp:=e;rw[e];exact(qa HP).inSp))
 have c5:=(qa HP).lt
 have J:=qb c5
 have c3:=(qa HP).inSp
 have d1:=qb c3
 generalize c4:({l with rest:=l.rest++s} : Lk)=l1 at a8 HB
 have c9:l1.rest=l.rest++s:=by rw[←c4]
 rw[←c9] at s2
 have b5:=qb a8
 clear hp u2 a8 d0 b4 U1 c4 c9 b3 d6 c5 c3 HP
 have m:∀(W:World) (M:Lk) (v:List EvV),Hid (Bts M v L I E)→Hid (qcj W g (Fr S w W) M v sp en lo)→Hid (Upd S w W)→Spl W sp M.rest →
   Calls Tryz.prog 64 #[.pointer (some ⟨sp,0,none⟩)] W fun e i=>∃t b,e = .returned (.tuple #[.string t,.bool b]) ∧
    ((b=true∧qi5 i sp<qi5 W sp∧Hid (∃z,Upd S w i∧qcj i g (Fr S w i) z v sp en lo∧q29 z v t L I E))∨(b=false∧Hid (Upd S w i∧qcj i g (Fr S w i) L I sp en lo∧E=if qei L.rest=true then 80 else 0))):=by
  intro W M v hB C hU hs
  have e2:=(qa hU).size
  have key:∀(i:World) (r:ByteArray),Upd (fun k=>k=sp) W i→Spl i sp r→Upd S w i∧qcj i g (Fr S w i) {M with rest:=r} v sp en lo:=by
   intro i r u s';have hz:=u.size;have uS:Upd S w i:=(qa hU).then u (fun k _ e=>by have e:k=sp:=e;rw[e];exact qa d1);exact⟨uS,((qa C).split u s').wider (fun k e=>e.imp id (fun e=>⟨e.1,by omega⟩)) (fun k e=>e.elim (fun e=>by have:=qa J k e;omega) (fun e=>e.2))⟩
  rcases (qa hB).cases' with ⟨hn,h1,h2,P⟩ | ⟨hR,hK⟩
  ·refine(q6f sp _ W hs hn).mono ?_;rintro e i ⟨rfl,u,s'⟩;obtain⟨k1,k2⟩:=key i _ u s';refine⟨_,_,rfl,.inr ⟨rfl,qb ⟨k1,?_,?_⟩⟩⟩
   ·rw[h1,h2];exact k2
   ·rw[h1];exact P
  ·refine(qxj sp _ W hs hR).mono ?_;rintro e i ⟨rfl,u,s'⟩;obtain⟨k1,k2⟩:=key i _ u s';refine⟨_,_,rfl,.inl ⟨rfl,?_,qb ⟨_,k1,k2,hK⟩⟩⟩;rw[qll hs,qll s'];exact q48 hR
 have a6:=qb m
 have d8:=(qa U2).size
 have c8:=m w2 l1 es HB (qb ((qa b5).wider (fun k e=> .inl e) (fun k e=>e.elim (fun e=>by have:=qa J k e;omega) (fun e=>e.2)))) U2 s2
 clear m s2
 go_wp2_with fail
 refine c8.mono ?_
 rintro e w3 ⟨t,b,rfl,P⟩
 have b7:(b=true∧Hid (∃z,Upd S w w3∧qcj w3 g (Fr S w w3) z es sp en lo∧q29 z es t L I E))∨(b=false∧Hid (Upd S w w3∧qcj w3 g (Fr S w w3) L I sp en lo∧E=if qei L.rest=true then 80 else 0)):=P.imp (fun h=>⟨h.1,h.2.2⟩) id
 have H3:=qb b7
 clear c8 P b7 d2 b5 U2 d8 HB
 go_wp2_with fail
 go_loopw [5,6,7] (fun tv bv ev wr=>∃t b,tv = .string t∧bv = .bool b∧Hid ((b=true∧Hid (∃z v,Upd S w wr∧qcj wr g (Fr S w wr) z v sp en lo∧q29 z v t L I E))∨(b=false∧Hid (Upd S w wr∧qcj wr g (Fr S w wr) L I sp en lo∧E=if qei L.rest=true then 80 else 0)))) (fun _ bv _ wr=>match bv with | .bool true=>1+qi5 wr sp | _=>0)
 case atStart=>exact⟨t,b,rfl,rfl,qb ((qa H3).imp (fun h=>⟨h.1,qb (by obtain⟨z,x⟩:=qa h.2;exact⟨z,es,x⟩)⟩) id)⟩
 case round =>
  obtain⟨O,rfl⟩:∃O:World,O=wr:=⟨_,rfl⟩;obtain⟨t,b,rfl,rfl,hrel⟩:=hrel;clear H3;rcases qa hrel with ⟨rfl,H⟩ | ⟨rfl,H⟩
  ·obtain⟨M,v,u,C,hO,hK⟩:=qa H;have b9:Tb O:=(qa HT).1.upd u (qa HT).2;have b8:Apart (Fr S w O):=(qa HT).2.fr (qa HT).1 O;have hh:=q04 g _ M v sp en lo t O C hO b9 b8;have f:=qwt M v t;have F:=C.lt;have K:qi5 O sp=M.rest.size:=qll C.spl;generalize d5:M.hears v t=R at hh hK f;obtain⟨M2,a7,er⟩:=R;have HK:=qb hK;have HX:=qb (And.intro u (And.intro f (And.intro K F)));clear hrel H u C hO hK b9 b8 f d5 F K;simp only at hh HK HX;go_wp2_with fail;refine hh.mono ?_;rintro e X ⟨rfl,u4,h4⟩;obtain⟨u,f,K,F⟩:=qa HX;have e1:=u4.size;have d9:=u.size;have uS:Upd S w X:=u.then u4 (fun k hk e=>e.elim id (fun e=>by omega));have h5:qcj X g (Fr S w X) M2 a7 sp en lo:=h4.wider (fun k e=>e.elim (fun e=>e.imp id (fun e=>⟨e.1,by omega⟩)) (fun e=> .inr ⟨by omega,e.2⟩)) (fun k e=>e.elim (fun e=>by have:=qa J k e;omega) (fun e=>e.2));have h6:=h5.cells;have V:=h5.spl;have H5:=qb h5;have US:=qb uS;have HM:=qb (show qi5 X sp=qi5 O sp by rw[K,qll V,f]);clear hh u4 h4 u f F h5 uS K HX;rcases qa HK with ⟨he,h1,h2,P⟩ | ⟨he,hB⟩
   ·have e0:(er != 0)=true:=by simpa using he
    obtain⟨-,-,d7,f7⟩:=h6;have H6:=qb (And.intro (qa H5).breaks (And.intro (show Upd S w (X.setCell ⟨g,7,none⟩ (.bool true)) from(qa US).then ((Upd.refl (· = g) _).set1 _ _) (fun k hk e=>by have e:k=g:=e;have:=(qa H5).inG;rw[e] at hk ⊢;exact this.elim id (fun e=>by omega))) (And.intro h1 (And.intro h2 P))));have e3:X.heap.size≤(X.setCell ⟨g,7,none⟩ (.bool true)).heap.size:=((Upd.refl (· = g) X).set1 7 (.bool true)).size;clear he h1 h2 P V HM a6 HK;go_wp2_with fail;go_ret;obtain⟨h7,u7,h1,h2,P⟩:=qa H6;refine⟨by rw[P];rfl,u7,?_⟩;rw[h1,h2];exact h7.wider (fun k e=>e.imp id (fun e=>⟨e.1,by omega⟩)) (fun k e=>e.elim (fun e=>by have:=qa J k e;omega) (fun e=>e.2))
   ·subst he;obtain⟨d0,-⟩:=h6;have hn:=qa a6 X M2 a7 (qb hB) H5 US V;clear hB V H5 US HK;go_wp2_with fail;refine hn.mono ?_;rintro e Y ⟨t6,b6,rfl,h6⟩;have H6:Hid ((b6=true∧Hid (∃z v,Upd S w Y∧qcj Y g (Fr S w Y) z v sp en lo∧q29 z v t6 L I E))∨(b6=false∧Hid (Upd S w Y∧qcj Y g (Fr S w Y) L I sp en lo∧E=if qei L.rest=true then 80 else 0))):=qb (h6.imp (fun h=>⟨h.1,qb (by obtain⟨z,x⟩:=qa h.2.2;exact⟨z,a7,x⟩)⟩) id);have d3:Hid ((match Value.bool b6 with | .bool true=>1+qi5 Y sp | _=>0)<1+qi5 O sp):=qb (by
     rcases h6 with ⟨rfl,h,-⟩ | ⟨rfl,-⟩
     ·have:=qa HM;show 1+qi5 Y sp<_;omega
     ·show 0<_;omega)
    clear hn h6 d0 HM;go_wp2_with fail;go_roundw
    case rel=>exact⟨t6,b6,rfl,rfl,H6⟩
    case measure=>exact qa d3
  ·obtain⟨u,C,hE⟩:=qa H;obtain⟨d0,-⟩:=C.cells;have c1:=qrl sp _ O C.spl.cell;have H7:=qb (And.intro u (And.intro C hE));clear hrel H u C hE a6;go_wp2_with fail;refine c1.mono ?_;rintro e w5 ⟨rfl,q5⟩;obtain⟨u,C,hE⟩:=qa H7;have hz:=(q5.upd (fun _=>False)).size;have d9:=u.size;have H8:=qb (And.intro (show Upd S w w5 from u.trans (q5.upd _)) (And.intro ((show qcj w5 g (Fr S w w5) L I sp en lo from(C.new (q5.upd _)).wider (fun k e=>e.imp id (fun e=>⟨e.1,by omega⟩)) (fun k e=>e.elim (fun e=>by have:=qa J k e;omega) (fun e=>e.2)))) hE));clear c1 q5 H7 u C hE;cases U:qei L.rest with
   | false =>
    have Z:=qb U;clear U;go_wp2_with fail
    all_goals
     go_ret;refine⟨?_,(qa H8).1,(qa H8).2.1⟩;rw[(qa H8).2.2,qa Z];rfl
   | true =>
    have Z:=qb U;clear U;go_wp2_with fail
    all_goals
     go_ret;refine⟨?_,(qa H8).1,(qa H8).2.1⟩;rw[(qa H8).2.2,qa Z];rfl
attribute [local go_sem ↓ high] qz zb zc zf qah
attribute [local go_sem] qaw qax qa1 qw zt qcl
set_option maxRecDepth 100000 in
set_option maxHeartbeats 2000000 in
theorem qs7(g:Nat)(S:Nat→Prop)(l:Lk)(sp en lo:Nat)(SC SJ:Nat→Prop)(F:FuncId)(V f:Array Value)(va:Option Addr)(vn vc:Nat)(w:World)(h:LkP w g S l sp en lo SC SJ)(H:l.dead=false)(I:l.waits=true) :
  Calls Tryz.prog 45 #[.pointer (some ⟨g,0,none⟩),.func (.func F) V f,.slice va vn vc] w fun e w'=>e = .returned (.tuple #[.agg MsgV.zero.cells.toArray,.int .i64 5])∧qq w w':=by
 have c5:∀(fn:Fn) (first cap:Array Value) (w:World),(Instr.makeFunc fn first cap).run Tryz.prog w = .ok (.func fn first cap) w:=fun _ _ _ _=>rfl
 have b9:=qb h.lt
 have c4:=h.lt g h.inG
 obtain⟨q,m⟩:∃q,q=(((w.alloc (.cells #[.pointer (some ⟨g,0,none⟩)] 28)).alloc (.cells #[.func (.func F) V f] 109)).alloc (.cells MsgV.zero.cells.toArray 101)).alloc (.cells MsgV.zero.cells.toArray 101):=⟨_,rfl⟩
 have n4:qq w q:=by rw[m];exact((((Upd.refl _ _).alloc _).alloc _).alloc _).alloc _
 have z4:q.heap.size=w.heap.size+4:=by rw[m];simp only[World.size_alloc]
 have bL:q.cell? ⟨w.heap.size,0,none⟩=some (.pointer (some ⟨g,0,none⟩)):=by
  rw[m];exact qg (qs (qs (qs (qj _ _) _) _) _) 0
 have bC:q.cell? ⟨w.heap.size+1,0,none⟩=some (.func (.func F) V f):=by
  rw[m];have:=qj (w.alloc (.cells #[.pointer (some ⟨g,0,none⟩)] 28)) (.cells #[.func (.func F) V f] 109);rw[World.size_alloc] at this;exact qg (qs (qs this _) _) 0
 have bR:MsB q (w.heap.size+2) MsgV.zero:=by
  rw[m];have:=qj ((w.alloc (.cells #[.pointer (some ⟨g,0,none⟩)] 28)).alloc (.cells #[.func (.func F) V f] 109)) (.cells MsgV.zero.cells.toArray 101);rw[World.size_alloc,World.size_alloc] at this;exact⟨qs this _,qo⟩
 have bM:MsB q (w.heap.size+3) MsgV.zero:=by
  rw[m];have:=qj (((w.alloc (.cells #[.pointer (some ⟨g,0,none⟩)] 28)).alloc (.cells #[.func (.func F) V f] 109)).alloc (.cells MsgV.zero.cells.toArray 101)) (.cells MsgV.zero.cells.toArray 101);rw[World.size_alloc,World.size_alloc,World.size_alloc] at this;exact⟨this,qo⟩
 have HX:=qb (And.intro h (And.intro H I))
 clear h H I
 go_enter Tryz.func45,Tryz.ntmps45
 go_upto_region 2 with fail
 rw[←m]
 have bR:MsB q (w.heap.size+1+1) MsgV.zero:=bR
 have bM:MsB q (w.heap.size+1+1+1) MsgV.zero:=bM
 have HW:=qb z4
 clear m z4
 generalize hZ:w.heap.size=Z at *
 have HZ:=qb hZ
 clear hZ
 have a7:q.drew.cell? ⟨Z,0,none⟩=some (.pointer (some ⟨g,0,none⟩)):=bL
 have HB:=qb (And.intro bL (And.intro bC (And.intro bR bM)))
 have N4:=qb n4
 clear bL bC bR bM n4
 refine qa2 (fun w'=>w'.cell? ⟨Z,0,none⟩=some (.pointer (some ⟨g,0,none⟩))) [0,1,4] (.of [0,1,2,3,4,5,6,7,8,9,10]) (by kernel_rfl) (by kernel_rfl) a7 ?_
 simp only[Plan.of]
 go_wp2_with (with_reducible first|(first|refine' zy (qh ?_) ?_|refine' zz (qh ?_) ?_|refine' qw3 (qh ?_) ?_);rotate_left|refine' qw4 (qh ?_)|refine' qw5 (qh ?_)|rfl|apply qn)
 refine(qot g _ _ _ q.drew).mono ?_
 rintro e M ⟨O,P,rfl,n5,v,C,K,L,d0,d1⟩
 have n5:=n5.ofDrew
 have R:=n5.cell (qa HB).1 (fun h=>h)
 have HD:=qb (And.intro n5 (And.intro v (And.intro C (And.intro K (And.intro L (And.intro d0 d1))))))
 clear n5 v C K L d0 d1 a7
 go_wp2_with (first | (with_reducible first|(first|refine' zy (qh ?_) ?_|refine' zz (qh ?_) ?_|refine' qw3 (qh ?_) ?_);rotate_left|refine' qw4 (qh ?_)|refine' qw5 (qh ?_)|rfl|apply qn) | refine⟨R,?_⟩)
 have Y:qq M (M.alloc (.cells #[.func (.func 87) #[.pointer (some ⟨g,0,none⟩)] #[],.func (.func 88) #[] #[.pointer (some ⟨Z+1,0,none⟩),.pointer (some ⟨Z+1+1+1,0,none⟩)],.func (.func 112) #[] #[.pointer (some ⟨O,0,none⟩),.pointer (some ⟨P,0,none⟩)],.func (.func 89) #[] #[.pointer (some ⟨Z,0,none⟩),.pointer (some ⟨Z+1+1+1,0,none⟩)]] 62)):=(Upd.refl _ _).alloc _
 have U:=qj M (.cells #[.func (.func 87) #[.pointer (some ⟨g,0,none⟩)] #[],.func (.func 88) #[] #[.pointer (some ⟨Z+1,0,none⟩),.pointer (some ⟨Z+1+1+1,0,none⟩)],.func (.func 112) #[] #[.pointer (some ⟨O,0,none⟩),.pointer (some ⟨P,0,none⟩)],.func (.func 89) #[] #[.pointer (some ⟨Z,0,none⟩),.pointer (some ⟨Z+1+1+1,0,none⟩)]] 62)
 have zW:(M.alloc (.cells #[.func (.func 87) #[.pointer (some ⟨g,0,none⟩)] #[],.func (.func 88) #[] #[.pointer (some ⟨Z+1,0,none⟩),.pointer (some ⟨Z+1+1+1,0,none⟩)],.func (.func 112) #[] #[.pointer (some ⟨O,0,none⟩),.pointer (some ⟨P,0,none⟩)],.func (.func 89) #[] #[.pointer (some ⟨Z,0,none⟩),.pointer (some ⟨Z+1+1+1,0,none⟩)]] 62)).heap.size=M.heap.size+1:=World.size_alloc _ _
 generalize M.alloc (.cells #[.func (.func 87) #[.pointer (some ⟨g,0,none⟩)] #[],.func (.func 88) #[] #[.pointer (some ⟨Z+1,0,none⟩),.pointer (some ⟨Z+1+1+1,0,none⟩)],.func (.func 112) #[] #[.pointer (some ⟨O,0,none⟩),.pointer (some ⟨P,0,none⟩)],.func (.func 89) #[] #[.pointer (some ⟨Z,0,none⟩),.pointer (some ⟨Z+1+1+1,0,none⟩)]] 62)=W at Y U zW ⊢
 have a8:=Y.cell R (fun h=>h)
 refine⟨a8,?_⟩
 obtain⟨J,v,C,K,L,d0,d1⟩:=qa HD
 obtain⟨h,H,I⟩:=qa HX
 have nn:qq w W:=((qa N4).trans J).trans Y
 have z4:=qa HW
 have z5:=J.size
 have v:q.heap.size≤O:=v
 have C:q.heap.size≤P:=C
 have N:qlq W M.heap.size 4 q3d (qs4 g) (qkj Z (Z+1) (Z+1+1+1) O P):=by
  intro i hi;rcases (by omega:i=0∨i=1∨i=2∨i=3) with rfl | rfl | rfl | rfl
  ·exact qg U 0
  ·exact qg U 1
  ·exact qg U 2
  ·exact qg U 3
 have hS:∀k,Z≤k→¬S k:=fun k hk e=>by have:=qa b9 k e;omega
 have c3:=qa HZ
 have b8:=((qa HB).2.2.2.new J).new Y
 have b3:=((qa HB).2.2.1.new J).new Y
 have b5:∀X,qq w X→X.cell? ⟨g,8,none⟩=some (.bool true):=fun X n=>I▸qg (h.new n).at_ 8
 have E:=qwb g M.heap.size 4 q3d (qs4 g) (qkj Z (Z+1) (Z+1+1+1) O P) (fun _=>False) (fun i a=>i=0∧qq W a) (fun x a=>x=5∧qq W a) W (by decide) (H▸qg (h.new nn).at_ 6) N (fun h=>h) (by
  rintro i hi a ⟨rfl,nA⟩;refine⟨enters_of Tryz.func87 (by kernel_rfl) rfl,?_⟩;refine(qu1 g a (b5 a (nn.trans nA))).mono ?_;rintro e a' ⟨rfl,rfl⟩;exact⟨Upd.refl _ _,.inr ⟨5,by decide,rfl,rfl,nA⟩⟩) ⟨rfl,Upd.refl _ _⟩
 clear b5
 have NN:=qb nn
 have a6:=qb b3
 have b7:=qb (And.intro z4 (And.intro z5 zW))
 have c2:=qb hS
 clear N U b8 b3 hS nn Y J v C K L d0 d1 h H I z4 z5 zW HD HB R a8 bR bM
 generalize M.heap.size=bb at *
 go_wp2_with (with_reducible first|(first|refine' zy (qh ?_) ?_|refine' zz (qh ?_) ?_|refine' qw3 (qh ?_) ?_);rotate_left|refine' qw4 (qh ?_)|refine' qw5 (qh ?_)|rfl|apply qn)
 refine E.mono ?_
 rintro e w6 ⟨u6,(⟨rfl,he,b6⟩ | ⟨x,c0,rfl,he,b6⟩)⟩
 ·cases he
 ·have he:x=5:=he;subst he;have T:=(qa a6).upd u6 (fun e=>e);have c1:=T.stOk (k:=MsgV.zero) qo;have b4:=T.put (k:=MsgV.zero) qo;have u7:Upd (· = Z+1+1) w6 (w6.setCells (Z+1+1) 0 MsgV.zero.cells):=zj _;have hF:=b4.at_;have HQ:=qb (And.intro u6 u7);clear T b4 u7 u6 b6 E a6 HX N4 c0;go_wp2_with (first | (with_reducible first|(first|refine' zy (qh ?_) ?_|refine' zz (qh ?_) ?_|refine' qw3 (qh ?_) ?_);rotate_left|refine' qw4 (qh ?_)|refine' qw5 (qh ?_)|rfl|apply qn) | (with_reducible first|(first|refine' tw1 (qh ?_) ?_|refine' tw2 (qh ?_) ?_);rotate_left|refine' tw3 (qh ?_)|rfl|apply tn|refine' tw4 ?_));refine bodyPost_ret (qy rfl _ _ (Z+1+1) _ _ _ _ rfl hF Tryz.underlying101 rfl (by rw[List.size_toArray,MsgV.len _ qo];exact Tryz.infoMsg)) rfl ?_;obtain⟨u6,u7⟩:=qa HQ;have nn:=qa NN;have z:=qa b7;have zw:=qa HZ;exact⟨rfl,((nn.trans u6).then u7 (fun k hk e=>by omega))⟩
end Go.Proofs.YtfmkdoachjgjbaaGreatDoor
