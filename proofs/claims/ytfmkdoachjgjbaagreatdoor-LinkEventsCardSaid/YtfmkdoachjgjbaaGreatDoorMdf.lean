/-
  Hear, of any message: Again too.
-/
import Derived.Test.YtfmkdoachjgjbaaGreatDoorHAg
import Derived.Test.YtfmkdoachjgjbaaGreatDoorMdb
import Derived.Test.YtfmkdoachjgjbaaGreatDoorMdd
import Derived.Test.YtfmkdoachjgjbaaGreatDoorMcj
import Derived.Test.YtfmkdoachjgjbaaGreatDoorMcg
set_option maxRecDepth 100000
set_option maxHeartbeats 4000000
set_option linter.unusedVariables false
set_option linter.unusedSimpArgs false
namespace Go.Proofs.YtfmkdoachjgjbaaGreatDoor
section
open Go.RowKit
noncomputable def Ch.hears(c:Ch)(m:MsgV):Ch × List MsgV × Int :=
 if m.kind=9 then (if qam m=false∨m.ch≠c.s.ch then (c,[],1) else (c,(c.hearAgain m).1,(c.hearAgain m).2)) else c.hear m
theorem qxa(g:Nat)(S:Nat→Prop)(c:Ch)(m:MsgV)(r:MsgOk m)(w:World)(h:ChS w g S c)(q:qam m=true)(i:m.ch=c.s.ch)(E:m.kind=9)(C:Tb w)(f:c.last.length≤900000) :
  Calls Tryz.prog 107 #[.pointer (some ⟨g,0,none⟩),.agg m.cells.toArray] w (qe7 g S w c (c.hearAgain m).1 (c.hearAgain m).2) :=
 qh4 _ g S c _ _ _ m r w h q i (enters_of Tryz.func182 (by kernel_rfl) rfl) (fun z=>by rw[E];exact zb4 z) (fun W v=>qpt g S c m r W (h.new v) (C.new v) f)
theorem q1f(g:Nat)(S:Nat→Prop)(c:Ch)(m:MsgV)(r:MsgOk m)(w:World)(h:ChS w g S c)(H:c.Inv)(z:Tb w)(E:Apart S)(J:3≤m.kind∧m.kind≤9)(i:c.last.length≤900000) :
  Calls Tryz.prog 107 #[.pointer (some ⟨g,0,none⟩),.agg m.cells.toArray] w (qe7 g S w (c.hears m).1 (c.hears m).2.1 (c.hears m).2.2):=by
 by_cases q:m.kind=9
 ·by_cases f:qam m=false∨m.ch≠c.s.ch
  ·have e:c.hears m=(c,[],1):=by unfold Ch.hears;rw[if_pos q,if_pos f]
   rw[e];refine(quc g S c m r w h f).mono ?_;rintro e w' ⟨F,C⟩;exact⟨_,F,qb6.nil _ _,(h.new C).frW,C.mono (fun _ _ h=>h.elim)⟩
  ·have e:c.hears m=(c,(c.hearAgain m).1,(c.hearAgain m).2):=by unfold Ch.hears;rw[if_pos q,if_neg f]
   rw[e];have v:qam m=true:=by
    cases I:qam m with
    | true=>rfl
    | false=>exact absurd (.inl I) f
   exact qxa g S c m r w h v (Decidable.of_not_not (fun e=>f (.inr e))) q z i
 ·have e:c.hears m=c.hear m:=by unfold Ch.hears;rw[if_neg q]
  rw[e];exact q5s g S c m r w h H z E (by omega)
theorem q80(s:ByteArray):MsgOk (qct s).1:=by
 have f:MsgOk MsgV.zero:=qf9 (k:=0) ⟨by decide,by decide⟩;have i:=qfj s 0;unfold qct;split
 ·exact f
 ·split
  ·exact f
  ·split
   ·exact f
   ·rename_i h;split
    ·exact f
    ·split
     ·exact(qnp _ _ _ (qf9 ⟨by omega,by omega⟩) h).1
     ·exact f
noncomputable def Lk.hearD(l:Lk)(es:List EvV)(m:MsgV)(t:ByteArray)(r:Ch × List MsgV × Int):Lk × List EvV × Int:=(l.hearR r.1 r.2.1 m t r.2.2,qlv es m l.waits l.c.xs r.1.xs r.2.2,r.2.2)
noncomputable def Lk.hears(l:Lk)(es:List EvV)(t:ByteArray):Lk × List EvV × Int :=
 if (qct t).2=0 then l.hearD es (qct t).1 t (l.c.hears (qct t).1) else (l,es,(qct t).2)
theorem qxb(l:Lk)(es:List EvV)(t:ByteArray):(l.hears es t).1.rest=l.rest:=by
 unfold Lk.hears;split
 ·show (l.hearR _ _ _ _ _).rest=_;unfold Lk.hearR;split<;>rfl
 ·rfl
structure LHearOk(l:Lk)(es:List EvV)(t:ByteArray):Prop where
 lk:LkOkW l
 es:es.length≤10000
 size:t.size≤1000
 msg:(qct t).2=0→(3≤(qct t).1.kind∧(qct t).1.kind≤9)∧l.c.Inv∧l.c.last.length≤900000∧(∀m∈(l.c.hears (qct t).1).2.1,SayOk m)∧(l.c.hears (qct t).1).2.1.length≤1000∧l.c.xs.length≤1000∧(l.c.hears (qct t).1).1.xs.length≤1000
section
variable {w w' w1:World}{g:Nat}{S T:Nat→Prop}{l:Lk}{es:List EvV}{sp en lo:Nat}
theorem qcv.lt(h:qcv w g S l es sp en lo):∀k,S k→k<w.heap.size:=by
 obtain⟨f,i,m,ev,h⟩:=h;exact h.lt
theorem qcv.new(h:qcv w g S l es sp en lo)(n:qq w w'):qcv w' g S l es sp en lo:=by
 obtain⟨f,i,m,ev,h⟩:=h;exact⟨f,i,m,ev,h.lk.new n,h.row.upd n (fun _ _ h=>h),h.out,h.inE,h.in0,fun k e=>Nat.lt_of_lt_of_le (h.lt k e) n.size⟩
theorem qcv.upd(h:qcv w g S l es sp en lo)(u:Upd T w w')(hd:∀k,S k→¬T k):qcv w' g S l es sp en lo:=by
 obtain⟨f,i,m,ev,h⟩:=h;exact⟨f,i,m,ev,h.lk.upd u (fun k e=>hd k (h.in0 k e)),h.row.upd u (fun k e=>hd k (h.inE k e)),h.out,h.inE,h.in0,fun k e=>Nat.lt_of_lt_of_le (h.lt k e) u.size⟩
theorem qcv.wider(h:qcv w g S l es sp en lo)(f:∀k,S k→T k)(r:∀k,T k→k<w.heap.size):qcv w g T l es sp en lo:=by
 obtain⟨i,m,q,ev,h⟩:=h;exact⟨i,m,q,ev,h.lk,h.row,h.out,fun k e=>f k (h.inE k e),fun k e=>f k (h.in0 k e),r⟩
theorem qcv.inG(h:qcv w g S l es sp en lo):S g:=by
 obtain⟨f,i,m,ev,h⟩:=h;exact h.in0 g h.lk.inG
theorem qcv.inSp(h:qcv w g S l es sp en lo):S sp:=by
 obtain⟨f,i,m,ev,h⟩:=h;exact h.in0 sp h.lk.inS
theorem qcv.ne(h:qcv w g S l es sp en lo):g≠sp:=by
 obtain⟨f,i,m,ev,h⟩:=h;exact h.lk.ne
theorem qcv.cells(h:qcv w g S l es sp en lo):w.cell? ⟨g,0,none⟩=some (.pointer (some ⟨sp,0,none⟩))∧w.cell? ⟨g,6,none⟩=some (.bool l.dead)∧w.cell? ⟨g,7,none⟩=some (.bool l.broken)∧w.frozen? ⟨g,7,none⟩=false:=by
 obtain⟨f,i,m,ev,h⟩:=h;exact⟨qg h.lk.at_ 0,qg h.lk.at_ 6,qg h.lk.at_ 7,qv h.lk.at_ 7⟩
theorem qcv.spl(h:qcv w g S l es sp en lo):Spl w sp l.rest:=by
 obtain⟨f,i,m,ev,h⟩:=h;exact h.lk.spl
theorem qcv.split(h:qcv w g S l es sp en lo)(u:Upd (fun k=>k=sp) w w'){r:ByteArray}(v:Spl w' sp r):qcv w' g S {l with rest:=r} es sp en lo:=by
 obtain⟨i,m,q,ev,h⟩:=h;exact⟨i,m,q,ev,h.lk.split u v,h.row.upd u (fun k e f=>h.out k e (by have f:k=sp:=f;rw[f];exact h.lk.inS)),h.out,h.inE,h.in0,fun k e=>Nat.lt_of_lt_of_le (h.lt k e) u.size⟩
theorem qcv.breaks(h:qcv w g S l es sp en lo):qcv (w.setCell ⟨g,7,none⟩ (.bool true)) g S {l with broken:=true} es sp en lo:=by
 obtain⟨i,m,q,ev,h⟩:=h;have u:Upd (· = g) w (w.setCell ⟨g,7,none⟩ (.bool true)):=(Upd.refl _ _).set1 _ _;exact⟨i,m,q,ev,h.lk.put rfl rfl rfl rfl,h.row.upd u (fun k e f=>h.out k e (by have f:k=g:=f;rw[f];exact h.lk.inG)),h.out,h.inE,h.in0,fun k e=>Nat.lt_of_lt_of_le (h.lt k e) u.size⟩
end
theorem q1g(g:Nat)(S:Nat→Prop)(l:Lk)(es:List EvV)(sp en lo:Nat)(t:ByteArray)(w:World)(h:qcv w g S l es sp en lo)(m:LHearOk l es t)(H:Tb w)(q:Apart S) :
  Calls Tryz.prog 65 #[.pointer (some ⟨g,0,none⟩),.string t] w fun e w'=>e = .returned (.int .i64 (l.hears es t).2.2)∧Upd S w w'∧qcv w' g (Fr S w w') (l.hears es t).1 (l.hears es t).2.1 sp en lo:=by
 by_cases hd:(qct t).2=0
 ·obtain⟨O,N,z,K,I,C,i⟩:=m.msg hd;obtain⟨L,E,M,ev,h⟩:=h;have J:=q80 t;have f:∀W,Calls Tryz.prog 105 #[.string t] W (qa7 (.tuple #[.agg (qct t).1.cells.toArray,.int .i64 0]) W):=fun W=>by
   have:=qog t W;rw[hd] at this;exact this
  have v:l.hears es t=l.hearD es (qct t).1 t (l.c.hears (qct t).1):=by unfold Lk.hears;rw[if_pos hd]
  rw[v];have F:=fun a (n:qq w a)=>q1f en E l.c (qct t).1 J a (h.lk.chn.new n) N (H.new n) (q.mono (fun k e=>h.in0 k (h.lk.inC k e))) O z
  generalize l.c.hears (qct t).1=r at F K I i ⊢;obtain⟨c',P,er⟩:=r;exact q1o g S L l ev es sp en lo E M (qct t).1 c' P er t w h m.lk H.tabs ⟨q.c,q.d⟩ K I C i m.es J.len m.size f F
 ·have v:l.hears es t=(l,es,(qct t).2):=by unfold Lk.hears;rw[if_neg hd]
  rw[v];refine(q1n g t w (by simpa using hd)).mono ?_;rintro e w' ⟨rfl,n⟩;have z:=h.lt;exact⟨rfl,n.mono (fun _ _ h=>h.elim),(h.new n).wider (fun k e=> .inl e) (fun k e=>e.elim (fun e=>by have:=z k e;have:=n.size;omega) (fun e=>e.2))⟩
def frT(r:ByteArray):ByteArray:=(r.extract 0 (2+hd r).toNat).extract 2 (2+hd r).toNat
def frR(r:ByteArray):ByteArray:=r.extract (2+hd r).toNat r.size
theorem q5i{r:ByteArray}(h:qig r):(frR r).size<r.size:=by
 have f:=h.1;have i:=qy9 r;have m:=h.2.2;unfold frR;rw[ByteArray.size_extract];omega
inductive Bts:Lk→List EvV→Lk→List EvV→Int→Prop
 | stop (l:Lk) (es:List EvV) (h:¬qig l.rest):Bts l es l es (if qeq l.rest=true then 80 else 0)
 | err (l:Lk) (es:List EvV) (h:qig l.rest) (ho:LHearOk {l with rest:=frR l.rest} es (frT l.rest)) (he:(Lk.hears {l with rest:=frR l.rest} es (frT l.rest)).2.2≠0):Bts l es {(Lk.hears {l with rest:=frR l.rest} es (frT l.rest)).1 with broken:=true} (Lk.hears {l with rest:=frR l.rest} es (frT l.rest)).2.1 (Lk.hears {l with rest:=frR l.rest} es (frT l.rest)).2.2
 | step (l:Lk) (es:List EvV) (h:qig l.rest) (ho:LHearOk {l with rest:=frR l.rest} es (frT l.rest)) (he:(Lk.hears {l with rest:=frR l.rest} es (frT l.rest)).2.2=0) (L:Lk) (ES:List EvV) (E:Int) (next:Bts (Lk.hears {l with rest:=frR l.rest} es (frT l.rest)).1 (Lk.hears {l with rest:=frR l.rest} es (frT l.rest)).2.1 L ES E):Bts l es L ES E
def q3k(l:Lk)(es:List EvV)(t:ByteArray)(L:Lk)(f:List EvV)(E:Int):Prop :=
 LHearOk l es t∧(((l.hears es t).2.2≠0∧L = {(l.hears es t).1 with broken:=true} ∧ f=(l.hears es t).2.1∧E=(l.hears es t).2.2)∨((l.hears es t).2.2=0∧Bts (l.hears es t).1 (l.hears es t).2.1 L f E))
theorem Bts.cases'{l:Lk}{es:List EvV}{L:Lk}{f:List EvV}{E:Int}(h:Bts l es L f E):(¬qig l.rest∧L=l∧f=es∧E=if qeq l.rest=true then 80 else 0)∨(qig l.rest∧q3k {l with rest:=frR l.rest} es (frT l.rest) L f E):=by
 cases h with
 | stop l es h=>exact .inl ⟨h,rfl,rfl,rfl⟩
 | err l es h m i=>exact .inr ⟨h,m,.inl ⟨i,rfl,rfl,rfl⟩⟩
 | step l es h m i L f E next=>exact .inr ⟨h,m,.inr ⟨i,next⟩⟩
def qjf(w:World)(b:Nat):Nat:=match w.cell? ⟨b,0,none⟩ with | some (.string r)=>r.size | _=>0
theorem qll{w:World}{b:Nat}{r:ByteArray}(h:Spl w b r):qjf w b=r.size:=by
 unfold qjf;rw[h.cell]
theorem qxl(g:Nat)(S:Nat→Prop)(l L:Lk)(es I:List EvV)(E:Int)(s:ByteArray)(sp en lo:Nat)(w:World)(h:qcv w g S l es sp en lo)(c2:l.dead=false)(hb:l.broken=false)(b3:qeq l.rest=false)(d6:l.rest.size+s.size≤1000000000)(hT:Tb w)(hA:Apart S)(hB:Bts {l with rest:=l.rest++s} es L I E) :
  Calls Tryz.prog 24 #[.pointer (some ⟨g,0,none⟩),.string s] w fun e w'=>e = .returned (.int .i64 E)∧Upd S w w'∧qcv w' g (Fr S w w') L I sp en lo:=by
 have N:Spl w sp l.rest:=h.spl
 obtain⟨c0,c6,c7,-⟩:=h.cells
 rw[c2] at c6
 rw[hb] at c7
 have HP:=qb h
 have HB:=qb hB
 have HT:=qb (And.intro hT hA)
 have d4:=h.ne
 clear h c2 hb hB hT hA
 go_enter Tryz.func24,Tryz.ntmps24
 go_wp2_with fail
 refine(qjl sp _ w N.cell b3).mono ?_
 rintro e w1 ⟨rfl,q1⟩
 have hp:=q9q sp _ s w1 (N.q q1) b3 (by omega)
 have d0:=q1.cell c0
 have b4:=qb ((qa HP).new (q1.upd _))
 have U1:=qb (q1.upd (fun _=>False))
 clear q1 N c0 c6 c7
 go_wp2_with fail
 refine hp.mono ?_
 rintro e w2 ⟨rfl,u2,s2⟩
 have a8:=(qa b4).split u2 s2
 have d2:=u2.cell d0 d4
 have U2:=qb (show Upd S w w2 from(((qa U1).mono (fun _ _ h=>h.elim)).trans u2).mono (fun k _ e=>by have e:k=sp:=e;rw[e];exact(qa HP).inSp))
 have c5:=(qa HP).lt
 have J:=qb c5
 have c3:=(qa HP).inSp
 have d1:=qb c3
 generalize c4:({l with rest:=l.rest++s} : Lk)=l1 at a8 HB
 have c9:l1.rest=l.rest++s:=by rw[←c4]
 rw[←c9] at s2
 have b5:=qb a8
 clear hp u2 a8 d0 b4 U1 c4 c9 b3 d6 c5 c3 HP
 have m:∀(W:World) (M:Lk) (v:List EvV),Hid (Bts M v L I E)→Hid (qcv W g (Fr S w W) M v sp en lo)→Hid (Upd S w W)→Spl W sp M.rest →
   Calls Tryz.prog 64 #[.pointer (some ⟨sp,0,none⟩)] W fun e i=>∃t b,e = .returned (.tuple #[.string t,.bool b]) ∧
    ((b=true∧qjf i sp<qjf W sp∧Hid (∃z,Upd S w i∧qcv i g (Fr S w i) z v sp en lo∧q3k z v t L I E))∨(b=false∧Hid (Upd S w i∧qcv i g (Fr S w i) L I sp en lo∧E=if qeq L.rest=true then 80 else 0))):=by
  intro W M v hB C hU hs
  have e2:=(qa hU).size
  have key:∀(i:World) (r:ByteArray),Upd (fun k=>k=sp) W i→Spl i sp r→Upd S w i∧qcv i g (Fr S w i) {M with rest:=r} v sp en lo:=by
   intro i r u s';have hz:=u.size;have uS:Upd S w i:=(qa hU).then u (fun k _ e=>by have e:k=sp:=e;rw[e];exact qa d1);exact⟨uS,((qa C).split u s').wider (fun k e=>e.imp id (fun e=>⟨e.1,by omega⟩)) (fun k e=>e.elim (fun e=>by have:=qa J k e;omega) (fun e=>e.2))⟩
  rcases (qa hB).cases' with ⟨hn,h1,h2,P⟩ | ⟨hR,hK⟩
  ·refine(q6q sp _ W hs hn).mono ?_;rintro e i ⟨rfl,u,s'⟩;obtain⟨k1,k2⟩:=key i _ u s';refine⟨_,_,rfl,.inr ⟨rfl,qb ⟨k1,?_,?_⟩⟩⟩
   ·rw[h1,h2];exact k2
   ·rw[h1];exact P
  ·refine(qxw sp _ W hs hR).mono ?_;rintro e i ⟨rfl,u,s'⟩;obtain⟨k1,k2⟩:=key i _ u s';refine⟨_,_,rfl,.inl ⟨rfl,?_,qb ⟨_,k1,k2,hK⟩⟩⟩;rw[qll hs,qll s'];exact q5i hR
 have a6:=qb m
 have d8:=(qa U2).size
 have c8:=m w2 l1 es HB (qb ((qa b5).wider (fun k e=> .inl e) (fun k e=>e.elim (fun e=>by have:=qa J k e;omega) (fun e=>e.2)))) U2 s2
 clear m s2
 go_wp2_with fail
 refine c8.mono ?_
 rintro e w3 ⟨t,b,rfl,P⟩
 have b7:(b=true∧Hid (∃z,Upd S w w3∧qcv w3 g (Fr S w w3) z es sp en lo∧q3k z es t L I E))∨(b=false∧Hid (Upd S w w3∧qcv w3 g (Fr S w w3) L I sp en lo∧E=if qeq L.rest=true then 80 else 0)):=P.imp (fun h=>⟨h.1,h.2.2⟩) id
 have H3:=qb b7
 clear c8 P b7 d2 b5 U2 d8 HB
 go_wp2_with fail
 go_loopw [5,6,7] (fun tv bv ev wr=>∃t b,tv = .string t∧bv = .bool b∧Hid ((b=true∧Hid (∃z v,Upd S w wr∧qcv wr g (Fr S w wr) z v sp en lo∧q3k z v t L I E))∨(b=false∧Hid (Upd S w wr∧qcv wr g (Fr S w wr) L I sp en lo∧E=if qeq L.rest=true then 80 else 0)))) (fun _ bv _ wr=>match bv with | .bool true=>1+qjf wr sp | _=>0)
 case atStart=>exact⟨t,b,rfl,rfl,qb ((qa H3).imp (fun h=>⟨h.1,qb (by obtain⟨z,x⟩:=qa h.2;exact⟨z,es,x⟩)⟩) id)⟩
 case round =>
  obtain⟨O,rfl⟩:∃O:World,O=wr:=⟨_,rfl⟩;obtain⟨t,b,rfl,rfl,hrel⟩:=hrel;clear H3;rcases qa hrel with ⟨rfl,H⟩ | ⟨rfl,H⟩
  ·obtain⟨M,v,u,C,hO,hK⟩:=qa H;have b9:Tb O:=(qa HT).1.upd u (qa HT).2;have b8:Apart (Fr S w O):=(qa HT).2.fr (qa HT).1 O;have hh:=q1g g _ M v sp en lo t O C hO b9 b8;have f:=qxb M v t;have F:=C.lt;have K:qjf O sp=M.rest.size:=qll C.spl;generalize d5:M.hears v t=R at hh hK f;obtain⟨M2,a7,er⟩:=R;have HK:=qb hK;have HX:=qb (And.intro u (And.intro f (And.intro K F)));clear hrel H u C hO hK b9 b8 f d5 F K;simp only at hh HK HX;go_wp2_with fail;refine hh.mono ?_;rintro e X ⟨rfl,u4,h4⟩;obtain⟨u,f,K,F⟩:=qa HX;have e1:=u4.size;have d9:=u.size;have uS:Upd S w X:=u.then u4 (fun k hk e=>e.elim id (fun e=>by omega));have h5:qcv X g (Fr S w X) M2 a7 sp en lo:=h4.wider (fun k e=>e.elim (fun e=>e.imp id (fun e=>⟨e.1,by omega⟩)) (fun e=> .inr ⟨by omega,e.2⟩)) (fun k e=>e.elim (fun e=>by have:=qa J k e;omega) (fun e=>e.2));have h6:=h5.cells;have V:=h5.spl;have H5:=qb h5;have US:=qb uS;have HM:=qb (show qjf X sp=qjf O sp by rw[K,qll V,f]);clear hh u4 h4 u f F h5 uS K HX;rcases qa HK with ⟨he,h1,h2,P⟩ | ⟨he,hB⟩
   ·have e0:(er != 0)=true:=by simpa using he
    obtain⟨-,-,d7,f7⟩:=h6;have H6:=qb (And.intro (qa H5).breaks (And.intro (show Upd S w (X.setCell ⟨g,7,none⟩ (.bool true)) from(qa US).then ((Upd.refl (· = g) _).set1 _ _) (fun k hk e=>by have e:k=g:=e;have:=(qa H5).inG;rw[e] at hk ⊢;exact this.elim id (fun e=>by omega))) (And.intro h1 (And.intro h2 P))));have e3:X.heap.size≤(X.setCell ⟨g,7,none⟩ (.bool true)).heap.size:=((Upd.refl (· = g) X).set1 7 (.bool true)).size;clear he h1 h2 P V HM a6 HK;go_wp2_with fail;go_ret;obtain⟨h7,u7,h1,h2,P⟩:=qa H6;refine⟨by rw[P];rfl,u7,?_⟩;rw[h1,h2];exact h7.wider (fun k e=>e.imp id (fun e=>⟨e.1,by omega⟩)) (fun k e=>e.elim (fun e=>by have:=qa J k e;omega) (fun e=>e.2))
   ·subst he;obtain⟨d0,-⟩:=h6;have hn:=qa a6 X M2 a7 (qb hB) H5 US V;clear hB V H5 US HK;go_wp2_with fail;refine hn.mono ?_;rintro e Y ⟨t6,b6,rfl,h6⟩;have H6:Hid ((b6=true∧Hid (∃z v,Upd S w Y∧qcv Y g (Fr S w Y) z v sp en lo∧q3k z v t6 L I E))∨(b6=false∧Hid (Upd S w Y∧qcv Y g (Fr S w Y) L I sp en lo∧E=if qeq L.rest=true then 80 else 0))):=qb (h6.imp (fun h=>⟨h.1,qb (by obtain⟨z,x⟩:=qa h.2.2;exact⟨z,a7,x⟩)⟩) id);have d3:Hid ((match Value.bool b6 with | .bool true=>1+qjf Y sp | _=>0)<1+qjf O sp):=qb (by
     rcases h6 with ⟨rfl,h,-⟩ | ⟨rfl,-⟩
     ·have:=qa HM;show 1+qjf Y sp<_;omega
     ·show 0<_;omega)
    clear hn h6 d0 HM;go_wp2_with fail;go_roundw
    case rel=>exact⟨t6,b6,rfl,rfl,H6⟩
    case measure=>exact qa d3
  ·obtain⟨u,C,hE⟩:=qa H;obtain⟨d0,-⟩:=C.cells;have c1:=qrt sp _ O C.spl.cell;have H7:=qb (And.intro u (And.intro C hE));clear hrel H u C hE a6;go_wp2_with fail;refine c1.mono ?_;rintro e w5 ⟨rfl,q5⟩;obtain⟨u,C,hE⟩:=qa H7;have hz:=(q5.upd (fun _=>False)).size;have d9:=u.size;have H8:=qb (And.intro (show Upd S w w5 from u.trans (q5.upd _)) (And.intro ((show qcv w5 g (Fr S w w5) L I sp en lo from(C.new (q5.upd _)).wider (fun k e=>e.imp id (fun e=>⟨e.1,by omega⟩)) (fun k e=>e.elim (fun e=>by have:=qa J k e;omega) (fun e=>e.2)))) hE));clear c1 q5 H7 u C hE;cases U:qeq L.rest with
   | false =>
    have Z:=qb U;clear U;go_wp2_with fail
    all_goals
     go_ret;refine⟨?_,(qa H8).1,(qa H8).2.1⟩;rw[(qa H8).2.2,qa Z];rfl
   | true =>
    have Z:=qb U;clear U;go_wp2_with fail
    all_goals
     go_ret;refine⟨?_,(qa H8).1,(qa H8).2.1⟩;rw[(qa H8).2.2,qa Z];rfl
attribute [local go_sem ↓ high] qz zb ze zi qak
attribute [local go_sem] qax qay qa4 qx qab qco
theorem qtg(g:Nat)(S:Nat→Prop)(l:Lk)(sp en lo:Nat)(SC SJ:Nat→Prop)(F:FuncId)(U f:Array Value)(va:Option Addr)(vn vc:Nat)(w:World)(h:LkP w g S l sp en lo SC SJ)(E:l.dead=false)(H:l.waits=true) :
  Calls Tryz.prog 45 #[.pointer (some ⟨g,0,none⟩),.func (.func F) U f,.slice va vn vc] w fun e w'=>e = .returned (.tuple #[.agg MsgV.zero.cells.toArray,.int .i64 5])∧qq w w':=by
 have c5:∀(fn:Fn) (first cap:Array Value) (w:World),(Instr.makeFunc fn first cap).run Tryz.prog w = .ok (.func fn first cap) w:=fun _ _ _ _=>rfl
 have b9:=qb h.lt
 have c4:=h.lt g h.inG
 obtain⟨q,m⟩:∃q,q=(((w.alloc (.cells #[.pointer (some ⟨g,0,none⟩)] 28)).alloc (.cells #[.func (.func F) U f] 109)).alloc (.cells MsgV.zero.cells.toArray 101)).alloc (.cells MsgV.zero.cells.toArray 101):=⟨_,rfl⟩
 have n4:qq w q:=by rw[m];exact((((Upd.refl _ _).alloc _).alloc _).alloc _).alloc _
 have z4:q.heap.size=w.heap.size+4:=by rw[m];simp only[World.size_alloc]
 have bL:q.cell? ⟨w.heap.size,0,none⟩=some (.pointer (some ⟨g,0,none⟩)):=by
  rw[m];exact qg (qs (qs (qs (qj _ _) _) _) _) 0
 have bC:q.cell? ⟨w.heap.size+1,0,none⟩=some (.func (.func F) U f):=by
  rw[m];have:=qj (w.alloc (.cells #[.pointer (some ⟨g,0,none⟩)] 28)) (.cells #[.func (.func F) U f] 109);rw[World.size_alloc] at this;exact qg (qs (qs this _) _) 0
 have bR:MsB q (w.heap.size+2) MsgV.zero:=by
  rw[m];have:=qj ((w.alloc (.cells #[.pointer (some ⟨g,0,none⟩)] 28)).alloc (.cells #[.func (.func F) U f] 109)) (.cells MsgV.zero.cells.toArray 101);rw[World.size_alloc,World.size_alloc] at this;exact⟨qs this _,qm⟩
 have bM:MsB q (w.heap.size+3) MsgV.zero:=by
  rw[m];have:=qj (((w.alloc (.cells #[.pointer (some ⟨g,0,none⟩)] 28)).alloc (.cells #[.func (.func F) U f] 109)).alloc (.cells MsgV.zero.cells.toArray 101)) (.cells MsgV.zero.cells.toArray 101);rw[World.size_alloc,World.size_alloc,World.size_alloc] at this;exact⟨this,qm⟩
 have HX:=qb (And.intro h (And.intro E H))
 clear h E H
 go_enter Tryz.func45,Tryz.ntmps45
 go_upto_region 2 with fail
 rw[←m]
 have bR:MsB q (w.heap.size+1+1) MsgV.zero:=bR
 have bM:MsB q (w.heap.size+1+1+1) MsgV.zero:=bM
 have HW:=qb z4
 clear m z4
 generalize hZ:w.heap.size=Z at *
 have HZ:=qb hZ
 clear hZ
 have a7:q.drew.cell? ⟨Z,0,none⟩=some (.pointer (some ⟨g,0,none⟩)):=bL
 have HB:=qb (And.intro bL (And.intro bC (And.intro bR bM)))
 have N4:=qb n4
 clear bL bC bR bM n4
 refine qa1 (fun w'=>w'.cell? ⟨Z,0,none⟩=some (.pointer (some ⟨g,0,none⟩))) [0,1,4] (.of [0,1,2,3,4,5,6,7,8,9,10]) (by kernel_rfl) (by kernel_rfl) a7 ?_
 simp only[Plan.of]
 go_wp2_with (with_reducible first|(first|refine' zv (qh ?_) ?_|refine' zx (qh ?_) ?_|refine' zy (qh ?_) ?_);rotate_left|refine' zz (qh ?_)|refine' qw5 (qh ?_)|rfl|apply qn)
 refine(qo1 g _ _ _ q.drew).mono ?_
 rintro e L ⟨N,O,rfl,n5,r,v,J,K,d0,d1⟩
 have n5:=n5.ofDrew
 have P:=n5.cell (qa HB).1 (fun h=>h)
 have HD:=qb (And.intro n5 (And.intro r (And.intro v (And.intro J (And.intro K (And.intro d0 d1))))))
 clear n5 r v J K d0 d1 a7
 go_wp2_with (first | (with_reducible first|(first|refine' zv (qh ?_) ?_|refine' zx (qh ?_) ?_|refine' zy (qh ?_) ?_);rotate_left|refine' zz (qh ?_)|refine' qw5 (qh ?_)|rfl|apply qn) | refine⟨P,?_⟩)
 have V:qq L (L.alloc (.cells #[.func (.func 87) #[.pointer (some ⟨g,0,none⟩)] #[],.func (.func 88) #[] #[.pointer (some ⟨Z+1,0,none⟩),.pointer (some ⟨Z+1+1+1,0,none⟩)],.func (.func 112) #[] #[.pointer (some ⟨N,0,none⟩),.pointer (some ⟨O,0,none⟩)],.func (.func 89) #[] #[.pointer (some ⟨Z,0,none⟩),.pointer (some ⟨Z+1+1+1,0,none⟩)]] 62)):=(Upd.refl _ _).alloc _
 have T:=qj L (.cells #[.func (.func 87) #[.pointer (some ⟨g,0,none⟩)] #[],.func (.func 88) #[] #[.pointer (some ⟨Z+1,0,none⟩),.pointer (some ⟨Z+1+1+1,0,none⟩)],.func (.func 112) #[] #[.pointer (some ⟨N,0,none⟩),.pointer (some ⟨O,0,none⟩)],.func (.func 89) #[] #[.pointer (some ⟨Z,0,none⟩),.pointer (some ⟨Z+1+1+1,0,none⟩)]] 62)
 have zW:(L.alloc (.cells #[.func (.func 87) #[.pointer (some ⟨g,0,none⟩)] #[],.func (.func 88) #[] #[.pointer (some ⟨Z+1,0,none⟩),.pointer (some ⟨Z+1+1+1,0,none⟩)],.func (.func 112) #[] #[.pointer (some ⟨N,0,none⟩),.pointer (some ⟨O,0,none⟩)],.func (.func 89) #[] #[.pointer (some ⟨Z,0,none⟩),.pointer (some ⟨Z+1+1+1,0,none⟩)]] 62)).heap.size=L.heap.size+1:=World.size_alloc _ _
 generalize L.alloc (.cells #[.func (.func 87) #[.pointer (some ⟨g,0,none⟩)] #[],.func (.func 88) #[] #[.pointer (some ⟨Z+1,0,none⟩),.pointer (some ⟨Z+1+1+1,0,none⟩)],.func (.func 112) #[] #[.pointer (some ⟨N,0,none⟩),.pointer (some ⟨O,0,none⟩)],.func (.func 89) #[] #[.pointer (some ⟨Z,0,none⟩),.pointer (some ⟨Z+1+1+1,0,none⟩)]] 62)=W at V T zW ⊢
 have a8:=V.cell P (fun h=>h)
 refine⟨a8,?_⟩
 obtain⟨I,r,v,J,K,d0,d1⟩:=qa HD
 obtain⟨h,E,H⟩:=qa HX
 have Y:qq w W:=((qa N4).trans I).trans V
 have z4:=qa HW
 have z5:=I.size
 have r:q.heap.size≤N:=r
 have v:q.heap.size≤O:=v
 have M:qlr W L.heap.size 4 q3p (qte g) (qkk Z (Z+1) (Z+1+1+1) N O):=by
  intro i hi;rcases (by omega:i=0∨i=1∨i=2∨i=3) with rfl | rfl | rfl | rfl
  ·exact qg T 0
  ·exact qg T 1
  ·exact qg T 2
  ·exact qg T 3
 have hS:∀k,Z≤k→¬S k:=fun k hk e=>by have:=qa b9 k e;omega
 have c3:=qa HZ
 have b8:=((qa HB).2.2.2.new I).new V
 have b3:=((qa HB).2.2.1.new I).new V
 have b5:∀X,qq w X→X.cell? ⟨g,8,none⟩=some (.bool true):=fun X n=>H▸qg (h.new n).at_ 8
 have C:=qwl g L.heap.size 4 q3p (qte g) (qkk Z (Z+1) (Z+1+1+1) N O) (fun _=>False) (fun i a=>i=0∧qq W a) (fun x a=>x=5∧qq W a) W (by decide) (E▸qg (h.new Y).at_ 6) M (fun h=>h) (by
  rintro i hi a ⟨rfl,nA⟩;refine⟨enters_of Tryz.func87 (by kernel_rfl) rfl,?_⟩;refine(qvb g a (b5 a (Y.trans nA))).mono ?_;rintro e a' ⟨rfl,rfl⟩;exact⟨Upd.refl _ _,.inr ⟨5,by decide,rfl,rfl,nA⟩⟩) ⟨rfl,Upd.refl _ _⟩
 clear b5
 have NN:=qb Y
 have a6:=qb b3
 have b7:=qb (And.intro z4 (And.intro z5 zW))
 have c2:=qb hS
 clear M T b8 b3 hS Y V I r v J K d0 d1 h E H z4 z5 zW HD HB P a8 bR bM
 generalize L.heap.size=bb at *
 go_wp2_with (with_reducible first|(first|refine' zv (qh ?_) ?_|refine' zx (qh ?_) ?_|refine' zy (qh ?_) ?_);rotate_left|refine' zz (qh ?_)|refine' qw5 (qh ?_)|rfl|apply qn)
 refine C.mono ?_
 rintro e w6 ⟨u6,(⟨rfl,he,b6⟩ | ⟨x,c0,rfl,he,b6⟩)⟩
 ·cases he
 ·have he:x=5:=he;subst he;have R:=(qa a6).upd u6 (fun e=>e);have c1:=R.stOk (k:=MsgV.zero) qm;have b4:=R.put (k:=MsgV.zero) qm;have u7:Upd (· = Z+1+1) w6 (w6.setCells (Z+1+1) 0 MsgV.zero.cells):=zc _;have hF:=b4.at_;have HQ:=qb (And.intro u6 u7);clear R b4 u7 u6 b6 C a6 HX N4 c0;go_wp2_with (first | (with_reducible first|(first|refine' zv (qh ?_) ?_|refine' zx (qh ?_) ?_|refine' zy (qh ?_) ?_);rotate_left|refine' zz (qh ?_)|refine' qw5 (qh ?_)|rfl|apply qn) | (with_reducible first|(first|refine' tw1 (qh ?_) ?_|refine' tw2 (qh ?_) ?_);rotate_left|refine' tw3 (qh ?_)|rfl|apply tn|refine' tw4 ?_));refine bodyPost_ret (qy rfl _ _ (Z+1+1) _ _ _ _ rfl hF Tryz.underlying101 rfl (by rw[List.size_toArray,MsgV.len _ qm];exact Tryz.infoMsg)) rfl ?_;obtain⟨u6,u7⟩:=qa HQ;have Y:=qa NN;have z:=qa b7;have zw:=qa HZ;exact⟨rfl,((Y.trans u6).then u7 (fun k hk e=>by omega))⟩
end
section
open Go.RowKit
attribute [local go_sem ↓ high] qz zb ze zi qak
attribute [local go_sem] qax qay qa4 qx qab qco
theorem qzx{l:Lk}{c':Ch}{rec:ByteArray}{m:MsgV}{er:Int} : (l.acts c' rec m er).dead=l.dead:=by
 unfold Lk.acts;split<;>rfl
theorem q9n(g:Nat)(S:Nat→Prop)(l:Lk)(w:World)(h:LkS w g S l)(hd:l.dead=false) :
  Calls Tryz.prog 44 #[.pointer (some ⟨g,0,none⟩)] w fun e w'=>e = .returned (.string l.out)∧LkS w' g S {l with out:=⟨#[]⟩} ∧ Upd S w w':=by
 obtain⟨sp,en,lo,i,m,h⟩:=h
 have r:w.cell? ⟨g,6,none⟩=some (.bool false):=hd▸qg h.at_ 6
 have q:w.cell? ⟨g,3,none⟩=some (.string l.out):=qg h.at_ 3
 have v:=qv h.at_ 3
 have u:Upd (· = g) w (w.setCell ⟨g,3,none⟩ (.string ⟨#[]⟩)):=(Upd.refl _ _).set1 _ _
 have f:=qb (And.intro (h.put_out ⟨#[]⟩) (u.mono (T:=S) (fun k _ e=>by rw[e];exact h.inG)))
 clear h u
 go_enter Tryz.func44,Tryz.ntmps44
 go_wp2_with fail
 go_ret
 exact⟨rfl,⟨sp,en,lo,i,m,(qa f).1⟩,(qa f).2⟩
theorem qs6(g:Nat)(S:Nat→Prop)(l:Lk)(n:Nat)(w:World)(h:LkS w g S l)(z:LkOk l)(C:l.ticks=n)(q:n<1000000)(K:(n+1)%3≠0) :
  Calls Tryz.prog 28 #[.pointer (some ⟨g,0,none⟩)] w fun e w'=>e = .returned (.int .i64 0)∧LkS w' g S {l with ticks:=(n:Int)+1} ∧ Upd S w w':=by
 obtain⟨sp,en,lo,r,v,h⟩:=h
 have F:w.cell? ⟨g,6,none⟩=some (.bool false):=z.dead▸qg h.at_ 6
 have E:w.cell? ⟨g,5,none⟩=some (.int .i64 (n:Int)):=by rw[←C];exact qg h.at_ 5
 have J:=qv h.at_ 5
 have u:Upd (· = g) w (w.setCell ⟨g,5,none⟩ (.int .i64 ((n:Int)+1))):=(Upd.refl _ _).set1 _ _
 have i:=h.put_ticks ((n:Int)+1)
 have H:(w.setCell ⟨g,5,none⟩ (.int .i64 ((n:Int)+1))).cell? ⟨g,5,none⟩=some (.int .i64 ((n:Int)+1)):=qg i.at_ 5
 have I:(w.setCell ⟨g,5,none⟩ (.int .i64 ((n:Int)+1))).cell? ⟨g,8,none⟩=some (.bool false):=z.waits▸qg i.at_ 8
 have f:=qb (And.intro i (u.mono (T:=S) (fun k _ e=>by rw[e];exact h.inG)))
 have m:((n:Int)+1)%3=1∨((n:Int)+1)%3=2:=by omega
 have L:(n:Int)<1000000:=by omega
 clear h i u C q K
 go_enter Tryz.func28,Tryz.ntmps28
 go_upto_region 4 with fail
 generalize w.setCell ⟨g,5,none⟩ (.int .i64 ((n:Int)+1))=w1 at H I f ⊢
 clear F E J
 rcases m with m | m
 ·go_wp2_with fail;go_ret;exact⟨rfl,⟨sp,en,lo,r,v,(qa f).1⟩,(qa f).2⟩
 ·go_wp2_with fail;go_ret;exact⟨rfl,⟨sp,en,lo,r,v,(qa f).1⟩,(qa f).2⟩
noncomputable def Lk.signs(l:Lk):Lk:=l.acts l.c.sign.1 (qw 4 1) l.c.sign.2.1 l.c.sign.2.2
def qlm(er:Int):Int:=if er=5 then 0 else er
theorem qyp(g:Nat)(S:Nat→Prop)(l:Lk)(n:Nat)(w:World)(h:LkS w g S l)(f:LkOk l)(hn:l.ticks=n)(h8:n<1000000)(h3:(n+1)%3=0)(I:l.c.sign.2.2=0→SayOk l.c.sign.2.1)(R:l.c.sign.2.1.hash.length=32)(hT:Tc w)(hA:ApC S)
  (W:l.c.s.key.size≤100000000) (d9:0≤l.c.s.ch∧l.c.s.ch<4294967296) (V:l.c.news.length<1000000) (e3:l.c.xs.length≤16) :
  Calls Tryz.prog 28 #[.pointer (some ⟨g,0,none⟩)] w fun e w'=>e = .returned (.int .i64 (qlm l.c.sign.2.2))∧LkS w' g (Fr S w w') ({l with ticks:=(n:Int)+1} : Lk).signs∧Upd S w w':=by
 have j1:∀(fn:Fn) (first cap:Array Value) (w:World),(Instr.makeFunc fn first cap).run Tryz.prog w = .ok (.func fn first cap) w:=fun _ _ _ _=>rfl
 obtain⟨sp,en,lo,SC,SJ,h⟩:=h
 have c6:w.cell? ⟨g,6,none⟩=some (.bool false):=f.dead▸qg h.at_ 6
 have c5:w.cell? ⟨g,5,none⟩=some (.int .i64 (n:Int)):=by rw[←hn];exact qg h.at_ 5
 have f5:=qv h.at_ 5
 have u0:Upd (· = g) w (w.setCell ⟨g,5,none⟩ (.int .i64 ((n:Int)+1))):=(Upd.refl _ _).set1 _ _
 have c4:=hT.upd (u0.mono (T:=S) (fun k _ e=>by rw[e];exact h.inG)) hA
 have U:=h.put_ticks ((n:Int)+1)
 have d5:(w.setCell ⟨g,5,none⟩ (.int .i64 ((n:Int)+1))).cell? ⟨g,5,none⟩=some (.int .i64 ((n:Int)+1)):=qg U.at_ 5
 have d8:(w.setCell ⟨g,5,none⟩ (.int .i64 ((n:Int)+1))).cell? ⟨g,8,none⟩=some (.bool false):=f.waits▸qg U.at_ 8
 have d3:=qb (u0.mono (T:=S) (fun k _ e=>by rw[e];exact h.inG))
 have hm:((n:Int)+1)%3=0:=by omega
 have j2:(n:Int)<1000000:=by omega
 obtain⟨l0,c7⟩:∃l0:Lk,l0 = {l with ticks:=(n:Int)+1} := ⟨_,rfl⟩
 have e0:LkOk l0:=by rw[c7];exact⟨f.dead,f.waits,f.fused,f.off,f.many,f.len,f.out⟩
 have g3:l0.c=l.c:=by rw[c7]
 rw[←c7] at U ⊢
 rw[←g3] at I R W d9 V e3 ⊢
 have HZ:=qb u0.size
 have h4:∀a,ChS a en SC l0.c→Tc a→Calls Tryz.prog 75 (#[.pointer (some ⟨en,0,none⟩)]++#[]) a fun e a'=>SaysIt en SC l0.c.sign.2.1 l0.c.sign.2.2 l0.c.sign.1 e a a':=fun a hc ta=>by
  refine(q29 en SC l0.c a hc ta (hA.mono U.inC) W d9 V e3).mono ?_;rintro e a' ⟨he,hc,u⟩;exact⟨he,hc,u⟩
 unfold Lk.signs
 rw[←zak (qw 4 1)]
 obtain⟨l,rfl⟩:∃l,l=l0:=⟨_,rfl⟩
 generalize l.c.sign.1=c' at *
 generalize l.c.sign.2.1=P at *
 generalize l.c.sign.2.2=er at *
 obtain⟨MM,d7⟩:∃MM,MM=qro P er:=⟨_,rfl⟩
 have H:MM.hash.length=32:=by rw[d7];exact qtf R
 have a6:=qb d7
 obtain⟨LL,d4⟩:∃LL,LL=l.acts c' (zq [qw 4 1]) P er:=⟨_,rfl⟩
 have h6:LL.dead=false:=by rw[d4,qzx];exact e0.dead
 have O:=qb d4
 clear d7 d4 W d9 V e3
 clear h hn h8 h3 f u0 hT c7 g3
 go_enter Tryz.func28,Tryz.ntmps28
 go_upto_region 4 with fail
 generalize w.setCell ⟨g,5,none⟩ (.int .i64 ((n:Int)+1))=w1 at d5 d8 U c4 d3 HZ ⊢
 clear c6 c5 f5
 have v:=U.lt
 have c1:w1.drew.cell? ⟨g,1,none⟩=some (.pointer (some ⟨en,0,none⟩)):=qg U.at_ 1
 have q:∀X,qq w1 X→X.cell? ⟨g,1,none⟩=some (.pointer (some ⟨en,0,none⟩)):=fun X n=>n.cell (qg U.at_ 1) (fun h=>h)
 have hF:=fun a (na:qq w1 a)=>h4 a (U.chn.new na) (c4.new na)
 have j3:qq w1 w1.drew:=(Upd.refl _ _).drew
 have HL:=qb U
 have c8:(zq [qw 4 1]).size≤1024:=by rw[zak,qat];decide
 have hT:=c4.tabs
 have g2:=hA
 have hA:ApD S:=⟨g2.c,g2.d⟩
 have f:=e0
 go_upto_region 6 with fail
 rw[hm]
 clear d5 d8 hm
 have h7:∀X S',LkE X g S' sp en lo LL→Upd S w1 X→X.cell? ⟨g,1,none⟩=some (.pointer (some ⟨en,0,none⟩)):=fun X S' h _=>h.end_
 clear U c4 e0
 go_cut [3,4] from 28 to 39 (fun kv ev wx=>∃K,kv = .pointer (some ⟨K,0,none⟩)∧ev = .int .i64 er∧MsB wx K MM∧LkE wx g (Fr S w1 wx) sp en lo LL∧Upd S w1 wx∧w1.heap.size≤K)
 case first =>
  refine qa1 (fun w'=>w'.cell? ⟨g,1,none⟩=some (.pointer (some ⟨en,0,none⟩))) [4] (.fork (.of [12,0,1,2,3,4,5,6,7,8,9,10,11,13,14]) (Plan.pre [0,1,2,3,4,5,6] (.fork (.of [12,7,8,9,10,11,13,14]) (Plan.pre [7] (.fork (.of [12,8,9,10,11,13,14]) (.of [8,9,10,11,12,13,14])))))) (by kernel_rfl) (by kernel_rfl) c1 ?_;simp only[Plan.of,Plan.pre];refine qf ?_ ?_
  ·skip
   try go_wp2_with (with_reducible first|(first|refine' zv (qh ?_) ?_|refine' zx (qh ?_) ?_|refine' zy (qh ?_) ?_);rotate_left|refine' zz (qh ?_)|refine' qw5 (qh ?_)|rfl|apply qn)
   have m1:qq w1 (w1.alloc (.cells MsgV.zero.cells.toArray 101)).drew:=((Upd.refl _ _).alloc _).drew;have b1:MsB (w1.alloc (.cells MsgV.zero.cells.toArray 101)).drew w1.heap.size MsgV.zero:=(zt w1 MsgV.zero qm).new (Upd.drew (Upd.refl (fun _=>False) _));obtain⟨K1,e1⟩:∃K,K=w1.heap.size:=⟨_,rfl⟩;have n1:qq w1 (w1.alloc (.cells MsgV.zero.cells.toArray 101)).drew:=m1
   first | refine⟨q _ n1,?_⟩ | skip
   have y1:=b1.lt;generalize (w1.alloc (.cells MsgV.zero.cells.toArray 101)).drew=i3 at m1 b1 n1 y1 ⊢;have q1:=q _ n1;rw[←e1] at b1 y1 ⊢;have E1:=qb e1;have g1:w1.heap.size≤K1:=by rw[e1];exact Nat.le_refl _
   clear e1
   try go_wp2_with (with_reducible first|(first|refine' zv (qh ?_) ?_|refine' zx (qh ?_) ?_|refine' zy (qh ?_) ?_);rotate_left|refine' zz (qh ?_)|refine' qw5 (qh ?_)|rfl|apply qn)
   refine(qbv 4 1 i3 (by decide) (by decide) (by decide)).mono ?_;rintro e L ⟨rfl,m2⟩;have n2:qq w1 L:=n1.trans m2;have b2:=b1.new m2;have q2:=q _ n2;go_wp2_with (first | (with_reducible first|(first|refine' zv (qh ?_) ?_|refine' zx (qh ?_) ?_|refine' zy (qh ?_) ?_);rotate_left|refine' zz (qh ?_)|refine' qw5 (qh ?_)|rfl|apply qn) | refine⟨q _ n2,?_⟩)
   try go_wp2_with (with_reducible first|(first|refine' zv (qh ?_) ?_|refine' zx (qh ?_) ?_|refine' zy (qh ?_) ?_);rotate_left|refine' zz (qh ?_)|refine' qw5 (qh ?_)|rfl|apply qn)
   have m3:qq L (L.alloc (.cells #[.string (qw 4 1)] 9)):=(Upd.refl _ _).alloc _;have n3:=n2.trans m3;have r3:=qj L (.cells #[.string (qw 4 1)] 9);have z3:L.heap.size<(L.alloc (.cells #[.string (qw 4 1)] 9)).heap.size:=by rw[World.size_alloc];omega
   have y3:=n2.size;have b3:=b2.new m3;have a3:=b2.lt;generalize L.alloc (.cells #[.string (qw 4 1)] 9)=i4 at m3 n3 r3 z3 b3 ⊢
   first | refine⟨q _ n3,?_⟩ | skip
   clear m3;have q3:=q _ n3;generalize L.heap.size=B3 at *
   try go_wp2_with (with_reducible first|(first|refine' zv (qh ?_) ?_|refine' zx (qh ?_) ?_|refine' zy (qh ?_) ?_);rotate_left|refine' zz (qh ?_)|refine' qw5 (qh ?_)|rfl|apply qn)
   have m:=qn3 g B3 S l sp en lo SC SJ 75 #[.pointer (some ⟨en,0,none⟩)] #[] P er c' [qw 4 1] i4 ((qa HL).new n3) f R I (hT.new n3) hA (enters_of Tryz.func75 (by kernel_rfl) rfl) (fun a na=>hF a (n3.trans na)) (fun j x Y=>by
    cases j with
    | zero =>
     obtain rfl:qw 4 1=x:=by simpa using Y
     exact qg r3 0
    | succ j=>simp at Y) (by decide) c8 (by omega) (fun e=>by have:=v _ e;omega)
   rw[←qa a6,←qa O] at m;refine m.mono ?_;rintro e f0 ⟨rfl,l4,v4⟩;have u4:Upd S w1 f0:=(n3.mono (fun _ _ h=>h.elim)).trans v4;have x4:=n3.size;have y4:=v4.size;have b4:=b3.upd v4 (fun e=>by have:=v _ e;omega);clear m v4;have e2:=b4.stOk H;have c5:=b4.put H;have x5:Upd (· = K1) f0 _:=zc (w:=f0) (b:=K1) MM.cells;have N:=qb (And.intro c5 (And.intro x5 (And.intro l4 u4)));have j8:=x5.size;clear c5 x5
   try go_wp2_with (with_reducible first|(first|refine' zv (qh ?_) ?_|refine' zx (qh ?_) ?_|refine' zy (qh ?_) ?_);rotate_left|refine' zz (qh ?_)|refine' qw5 (qh ?_)|rfl|apply qn)
   go_meet
   case rel =>
    obtain⟨c,x,l,u⟩:=qa N;refine⟨K1,rfl,rfl,c,?_,u.then x (fun i hi e=>by omega),by omega⟩;have E:=qa E1;refine(l.upd x (fun k f e=> ?_)).wider (fun k f=> ?_) (fun k f=> ?_)
    ·rcases f with f | f
     ·have:=v k f;omega
     ·omega
    ·rcases f with f | f
     ·exact .inl f
     ·exact .inr ⟨by omega,by omega⟩
    ·rcases f with f | f
     ·have:=v k f;omega
     ·exact f.2
  ·skip
   try go_wp2_with (with_reducible first|(first|refine' zv (qh ?_) ?_|refine' zx (qh ?_) ?_|refine' zy (qh ?_) ?_);rotate_left|refine' zz (qh ?_)|refine' qw5 (qh ?_)|rfl|apply qn)
   refine(qbv 4 1 w1.drew (by decide) (by decide) (by decide)).mono ?_;rintro e r ⟨rfl,m6⟩;replace m6:=m6.ofDrew;have n6:qq w1 r:=m6;have q6:=q _ n6;go_wp2_with (first | (with_reducible first|(first|refine' zv (qh ?_) ?_|refine' zx (qh ?_) ?_|refine' zy (qh ?_) ?_);rotate_left|refine' zz (qh ?_)|refine' qw5 (qh ?_)|rfl|apply qn) | refine⟨q _ n6,?_⟩);refine qf ?_ ?_
   ·skip
    try go_wp2_with (with_reducible first|(first|refine' zv (qh ?_) ?_|refine' zx (qh ?_) ?_|refine' zy (qh ?_) ?_);rotate_left|refine' zz (qh ?_)|refine' qw5 (qh ?_)|rfl|apply qn)
    have m7:qq r (r.alloc (.cells MsgV.zero.cells.toArray 101)):=((Upd.refl _ _).alloc _);have b7:MsB (r.alloc (.cells MsgV.zero.cells.toArray 101)) r.heap.size MsgV.zero:=zt r MsgV.zero qm;obtain⟨K7,e7⟩:∃K,K=r.heap.size:=⟨_,rfl⟩;have n7:qq w1 (r.alloc (.cells MsgV.zero.cells.toArray 101)):=n6.trans m7
    first | refine⟨q _ n7,?_⟩ | skip
    have y7:=b7.lt;generalize (r.alloc (.cells MsgV.zero.cells.toArray 101))=M at m7 b7 n7 y7 ⊢;have q7:=q _ n7;rw[←e7] at b7 y7 ⊢;have E7:=qb e7;have g7:w1.heap.size≤K7:=by rw[e7];exact n6.size
    clear e7
    try go_wp2_with (with_reducible first|(first|refine' zv (qh ?_) ?_|refine' zx (qh ?_) ?_|refine' zy (qh ?_) ?_);rotate_left|refine' zz (qh ?_)|refine' qw5 (qh ?_)|rfl|apply qn)
    have m8:qq M (M.alloc (.cells #[.string (qw 4 1)] 9)):=(Upd.refl _ _).alloc _;have n8:=n7.trans m8;have r8:=qj M (.cells #[.string (qw 4 1)] 9);have z8:M.heap.size<(M.alloc (.cells #[.string (qw 4 1)] 9)).heap.size:=by rw[World.size_alloc];omega
    have y8:=n7.size;have b8:=b7.new m8;have a8:=b7.lt;generalize M.alloc (.cells #[.string (qw 4 1)] 9)=i5 at m8 n8 r8 z8 b8 ⊢
    first | refine⟨q _ n8,?_⟩ | skip
    clear m8;have q8:=q _ n8;generalize M.heap.size=B8 at *
    try go_wp2_with (with_reducible first|(first|refine' zv (qh ?_) ?_|refine' zx (qh ?_) ?_|refine' zy (qh ?_) ?_);rotate_left|refine' zz (qh ?_)|refine' qw5 (qh ?_)|rfl|apply qn)
    have m:=qn3 g B8 S l sp en lo SC SJ 75 #[.pointer (some ⟨en,0,none⟩)] #[] P er c' [qw 4 1] i5 ((qa HL).new n8) f R I (hT.new n8) hA (enters_of Tryz.func75 (by kernel_rfl) rfl) (fun a na=>hF a (n8.trans na)) (fun j x Y=>by
     cases j with
     | zero =>
      obtain rfl:qw 4 1=x:=by simpa using Y
      exact qg r8 0
     | succ j=>simp at Y) (by decide) c8 (by omega) (fun e=>by have:=v _ e;omega)
    rw[←qa a6,←qa O] at m;refine m.mono ?_;rintro e f1 ⟨rfl,l9,v9⟩;have u9:Upd S w1 f1:=(n8.mono (fun _ _ h=>h.elim)).trans v9;have x9:=n8.size;have y9:=v9.size;have b9:=b8.upd v9 (fun e=>by have:=v _ e;omega);clear m v9;have e2:=b9.stOk H;have f8:=b9.put H;have f2:Upd (· = K7) f1 _:=zc (w:=f1) (b:=K7) MM.cells;have N:=qb (And.intro f8 (And.intro f2 (And.intro l9 u9)));have i6:=f2.size;clear f8 f2
    try go_wp2_with (with_reducible first|(first|refine' zv (qh ?_) ?_|refine' zx (qh ?_) ?_|refine' zy (qh ?_) ?_);rotate_left|refine' zz (qh ?_)|refine' qw5 (qh ?_)|rfl|apply qn)
    go_meet
    case rel =>
     obtain⟨c,x,l,u⟩:=qa N;refine⟨K7,rfl,rfl,c,?_,u.then x (fun i hi e=>by omega),by omega⟩;have E:=qa E7;refine(l.upd x (fun k f e=> ?_)).wider (fun k f=> ?_) (fun k f=> ?_)
     ·rcases f with f | f
      ·have:=v k f;omega
      ·omega
     ·rcases f with f | f
      ·exact .inl f
      ·exact .inr ⟨by omega,by omega⟩
     ·rcases f with f | f
      ·have:=v k f;omega
      ·exact f.2
   ·skip
    try go_wp2_with (with_reducible first|(first|refine' zv (qh ?_) ?_|refine' zx (qh ?_) ?_|refine' zy (qh ?_) ?_);rotate_left|refine' zz (qh ?_)|refine' qw5 (qh ?_)|rfl|apply qn)
    have e5:qq r (r.alloc (.cells #[.string (qw 4 1)] 9)):=(Upd.refl _ _).alloc _;have F:=n6.trans e5;have e6:=qj r (.cells #[.string (qw 4 1)] 9);have g9:r.heap.size<(r.alloc (.cells #[.string (qw 4 1)] 9)).heap.size:=by rw[World.size_alloc];omega
    have j9:=n6.size;generalize r.alloc (.cells #[.string (qw 4 1)] 9)=z at e5 F e6 g9 ⊢
    first | refine⟨q _ F,?_⟩ | skip
    clear e5;have j4:=q _ F;generalize r.heap.size=f6 at *
    refine qf ?_ ?_
    ·skip
     try go_wp2_with (with_reducible first|(first|refine' zv (qh ?_) ?_|refine' zx (qh ?_) ?_|refine' zy (qh ?_) ?_);rotate_left|refine' zz (qh ?_)|refine' qw5 (qh ?_)|rfl|apply qn)
     have c9:qq z (z.alloc (.cells MsgV.zero.cells.toArray 101)):=((Upd.refl _ _).alloc _);have b6:MsB (z.alloc (.cells MsgV.zero.cells.toArray 101)) z.heap.size MsgV.zero:=zt z MsgV.zero qm;obtain⟨a7,c2⟩:∃K,K=z.heap.size:=⟨_,rfl⟩;have J:qq w1 (z.alloc (.cells MsgV.zero.cells.toArray 101)):=F.trans c9
     first | refine⟨q _ J,?_⟩ | skip
     have g6:=b6.lt;generalize (z.alloc (.cells MsgV.zero.cells.toArray 101))=g5 at c9 b6 J g6 ⊢;have j5:=q _ J;have i1:=c9.old e6 (fun h=>h);have k4:=Nat.lt_of_lt_of_le g9 c9.size;rw[←c2] at b6 g6 ⊢;have h0:=qb c2;have i9:w1.heap.size≤a7:=by rw[c2];exact F.size
     clear c2
     try go_wp2_with (with_reducible first|(first|refine' zv (qh ?_) ?_|refine' zx (qh ?_) ?_|refine' zy (qh ?_) ?_);rotate_left|refine' zz (qh ?_)|refine' qw5 (qh ?_)|rfl|apply qn)
     have m:=qn3 g f6 S l sp en lo SC SJ 75 #[.pointer (some ⟨en,0,none⟩)] #[] P er c' [qw 4 1] g5 ((qa HL).new J) f R I (hT.new J) hA (enters_of Tryz.func75 (by kernel_rfl) rfl) (fun a na=>hF a (J.trans na)) (fun j x Y=>by
      cases j with
      | zero =>
       obtain rfl:qw 4 1=x:=by simpa using Y
       exact qg i1 0
      | succ j=>simp at Y) (by decide) c8 (by omega) (fun e=>by have:=v _ e;omega)
     rw[←qa a6,←qa O] at m;refine m.mono ?_;rintro e Z ⟨rfl,h9,d1⟩;have i2:Upd S w1 Z:=(J.mono (fun _ _ h=>h.elim)).trans d1;have j6:=J.size;have k0:=d1.size;have f7:=b6.upd d1 (fun e=>by have:=v _ e;omega);clear m d1;have e2:=f7.stOk H;have f9:=f7.put H;have f3:Upd (· = a7) Z _:=zc (w:=Z) (b:=a7) MM.cells;have N:=qb (And.intro f9 (And.intro f3 (And.intro h9 i2)));have i7:=f3.size;clear f9 f3
     try go_wp2_with (with_reducible first|(first|refine' zv (qh ?_) ?_|refine' zx (qh ?_) ?_|refine' zy (qh ?_) ?_);rotate_left|refine' zz (qh ?_)|refine' qw5 (qh ?_)|rfl|apply qn)
     go_meet
     case rel =>
      obtain⟨c,x,l,u⟩:=qa N;refine⟨a7,rfl,rfl,c,?_,u.then x (fun i hi e=>by omega),by omega⟩;have E:=qa h0;refine(l.upd x (fun k f e=> ?_)).wider (fun k f=> ?_) (fun k f=> ?_)
      ·rcases f with f | f
       ·have:=v k f;omega
       ·omega
      ·rcases f with f | f
       ·exact .inl f
       ·exact .inr ⟨by omega,by omega⟩
      ·rcases f with f | f
       ·have:=v k f;omega
       ·exact f.2
    ·skip
     try go_wp2_with (with_reducible first|(first|refine' zv (qh ?_) ?_|refine' zx (qh ?_) ?_|refine' zy (qh ?_) ?_);rotate_left|refine' zz (qh ?_)|refine' qw5 (qh ?_)|rfl|apply qn)
     have m:=qn3 g f6 S l sp en lo SC SJ 75 #[.pointer (some ⟨en,0,none⟩)] #[] P er c' [qw 4 1] z ((qa HL).new F) f R I (hT.new F) hA (enters_of Tryz.func75 (by kernel_rfl) rfl) (fun a na=>hF a (F.trans na)) (fun j x Y=>by
      cases j with
      | zero =>
       obtain rfl:qw 4 1=x:=by simpa using Y
       exact qg e6 0
      | succ j=>simp at Y) (by decide) c8 (by omega) (fun e=>by have:=v _ e;omega)
     rw[←qa a6,←qa O] at m;refine m.mono ?_;rintro e C ⟨rfl,i0,e9⟩;have g4:Upd S w1 C:=(F.mono (fun _ _ h=>h.elim)).trans e9;have j7:=F.size;have k3:=e9.size;clear m e9
     try go_wp2_with (with_reducible first|(first|refine' zv (qh ?_) ?_|refine' zx (qh ?_) ?_|refine' zy (qh ?_) ?_);rotate_left|refine' zz (qh ?_)|refine' qw5 (qh ?_)|rfl|apply qn)
     have d0:qq C (C.alloc (.cells MsgV.zero.cells.toArray 101)):=((Upd.refl _ _).alloc _);have c0:MsB (C.alloc (.cells MsgV.zero.cells.toArray 101)) C.heap.size MsgV.zero:=zt C MsgV.zero qm;obtain⟨b5,c3⟩:∃K,K=C.heap.size:=⟨_,rfl⟩;have e4:=i0.new d0;have e8:=g4.trans (d0.mono (fun _ _ h=>h.elim));have g8:=d0.size;generalize (C.alloc (.cells MsgV.zero.cells.toArray 101))=d2 at d0 c0 e4 e8 g8 ⊢
     first | refine⟨h7 _ _ e4 e8,?_⟩ | skip
     rw[←c3] at c0 g8 ⊢;have h2:=qb c3;have j0:w1.heap.size≤b5:=by rw[c3];exact g4.size
     clear c3;have e2:=c0.stOk H;have g0:=c0.put H;have f4:Upd (· = b5) d2 _:=zc (w:=d2) (b:=b5) MM.cells;have N:=qb (And.intro g0 (And.intro f4 (And.intro e4 e8)));have i8:=f4.size;clear g0 f4
     try go_wp2_with (with_reducible first|(first|refine' zv (qh ?_) ?_|refine' zx (qh ?_) ?_|refine' zy (qh ?_) ?_);rotate_left|refine' zz (qh ?_)|refine' qw5 (qh ?_)|rfl|apply qn)
     go_meet
     case rel =>
      obtain⟨c,x,l,u⟩:=qa N;refine⟨b5,rfl,rfl,c,?_,u.then x (fun i hi e=>by omega),by omega⟩;have E:=qa h2;refine(l.upd x (fun k f e=> ?_)).wider (fun k f=> ?_) (fun k f=> ?_)
      ·rcases f with f | f
       ·have:=v k f;omega
       ·omega
      ·rcases f with f | f
       ·exact .inl f
       ·exact .inr ⟨by omega,by omega⟩
      ·rcases f with f | f
       ·have:=v k f;omega
       ·exact f.2
 case rest =>
  obtain⟨K,rfl,rfl,hM,hl,u,hK⟩:=hcut;obtain⟨w3,rfl⟩:∃w3:World,w3=wc:=⟨_,rfl⟩;have d6:w3.cell? ⟨g,6,none⟩=some (.bool false):=by
   obtain⟨_,_,hl⟩:=hl;exact h6▸qg hl.at_ 6
  have N:=qb (And.intro hl u);clear hl u hM;by_cases h5:er=5
  ·subst h5;go_wp2_with (with_reducible first|(first|refine' tw1 (qh ?_) ?_|refine' tw2 (qh ?_) ?_);rotate_left|refine' tw3 (qh ?_)|rfl|apply tn|refine' tw4 ?_);go_ret;rw[qa O] at N;exact⟨rfl,((qa N).1.s).later (qa HZ),(qa d3).trans (qa N).2⟩
  ·go_wp2_with (with_reducible first|(first|refine' tw1 (qh ?_) ?_|refine' tw2 (qh ?_) ?_);rotate_left|refine' tw3 (qh ?_)|rfl|apply tn|refine' tw4 ?_);go_ret;rw[qa O] at N;refine⟨?_,((qa N).1.s).later (qa HZ),(qa d3).trans (qa N).2⟩;unfold qlm;rw[if_neg h5];rfl
end
end Go.Proofs.YtfmkdoachjgjbaaGreatDoor
