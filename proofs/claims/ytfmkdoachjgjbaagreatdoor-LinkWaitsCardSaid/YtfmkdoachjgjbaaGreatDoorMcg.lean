/-
  Hear, of any message: Again too.
-/
import Derived.Test.YtfmkdoachjgjbaaGreatDoorHAg
import Derived.Test.YtfmkdoachjgjbaaGreatDoorMcd
import Derived.Test.YtfmkdoachjgjbaaGreatDoorMce
import Derived.Test.YtfmkdoachjgjbaaGreatDoorMcc
import Derived.Test.YtfmkdoachjgjbaaGreatDoorMbj
set_option maxRecDepth 100000
set_option maxHeartbeats 4000000
set_option linter.unusedVariables false
set_option linter.unusedSimpArgs false
namespace Go.Proofs.YtfmkdoachjgjbaaGreatDoor
section
open Go.RowKit
noncomputable def Ch.hears(c:Ch)(m:MsgV):Ch × List MsgV × Int :=
 if m.kind=9 then (if qaf m=false∨m.ch≠c.s.ch then (c,[],1) else (c,(c.hearAgain m).1,(c.hearAgain m).2)) else c.hear m
theorem qw4(g:Nat)(S:Nat→Prop)(c:Ch)(m:MsgV)(q:MsgOk m)(w:World)(h:ChS w g S c)(p:qaf m=true)(i:m.ch=c.s.ch)(E:m.kind=9)(C:Tb w)(f:c.last.length≤900000) :
  Calls Tryz.prog 107 #[.pointer (some ⟨g,0,none⟩),.agg m.cells.toArray] w (qe4 g S w c (c.hearAgain m).1 (c.hearAgain m).2) :=
 qh0 _ g S c _ _ _ m q w h p i (enters_of Tryz.func182 (by kernel_rfl) rfl) (fun z=>by rw[E];exact zck z) (fun W v=>qpp g S c m q W (h.new v) (C.new v) f)
theorem q1i(g:Nat)(S:Nat→Prop)(c:Ch)(m:MsgV)(q:MsgOk m)(w:World)(h:ChS w g S c)(H:c.Inv)(z:Tb w)(E:Apart S)(J:3≤m.kind∧m.kind≤9)(i:c.last.length≤900000) :
  Calls Tryz.prog 107 #[.pointer (some ⟨g,0,none⟩),.agg m.cells.toArray] w (qe4 g S w (c.hears m).1 (c.hears m).2.1 (c.hears m).2.2):=by
 by_cases p:m.kind=9
 ·by_cases f:qaf m=false∨m.ch≠c.s.ch
  ·have e:c.hears m=(c,[],1):=by unfold Ch.hears;rw[if_pos p,if_pos f]
   rw[e];refine(qud g S c m q w h f).mono ?_;rintro e w' ⟨F,C⟩;exact⟨_,F,qb3.nil _ _,(h.new C).frW,C.mono (fun _ _ h=>h.elim)⟩
  ·have e:c.hears m=(c,(c.hearAgain m).1,(c.hearAgain m).2):=by unfold Ch.hears;rw[if_pos p,if_neg f]
   rw[e];have v:qaf m=true:=by
    cases I:qaf m with
    | true=>rfl
    | false=>exact absurd (.inl I) f
   exact qw4 g S c m q w h v (Decidable.of_not_not (fun e=>f (.inr e))) p z i
 ·have e:c.hears m=c.hear m:=by unfold Ch.hears;rw[if_neg p]
  rw[e];exact q56 g S c m q w h H z E (by omega)
theorem q9c(s:ByteArray):MsgOk (qco s).1:=by
 have f:MsgOk MsgV.zero:=qf3 (k:=0) ⟨by decide,by decide⟩;have i:=qfe s 0;unfold qco;split
 ·exact f
 ·split
  ·exact f
  ·split
   ·exact f
   ·rename_i h;split
    ·exact f
    ·split
     ·exact(qnh _ _ _ (qf3 ⟨by omega,by omega⟩) h).1
     ·exact f
noncomputable def Lk.hearD(l:Lk)(es:List EvV)(m:MsgV)(t:ByteArray)(r:Ch × List MsgV × Int):Lk × List EvV × Int:=(l.hearR r.1 r.2.1 m t r.2.2,qlp es m l.waits l.c.xs r.1.xs r.2.2,r.2.2)
noncomputable def Lk.hears(l:Lk)(es:List EvV)(t:ByteArray):Lk × List EvV × Int :=
 if (qco t).2=0 then l.hearD es (qco t).1 t (l.c.hears (qco t).1) else (l,es,(qco t).2)
theorem qw5(l:Lk)(es:List EvV)(t:ByteArray):(l.hears es t).1.rest=l.rest:=by
 unfold Lk.hears;split
 ·show (l.hearR _ _ _ _ _).rest=_;unfold Lk.hearR;split<;>rfl
 ·rfl
structure LHearOk(l:Lk)(es:List EvV)(t:ByteArray):Prop where
 lk:LkOkW l
 es:es.length≤10000
 size:t.size≤1000
 msg:(qco t).2=0→(3≤(qco t).1.kind∧(qco t).1.kind≤9)∧l.c.Inv∧l.c.last.length≤900000∧(∀m∈(l.c.hears (qco t).1).2.1,SayOk m)∧(l.c.hears (qco t).1).2.1.length≤1000∧l.c.xs.length≤1000∧(l.c.hears (qco t).1).1.xs.length≤1000
section
variable {w w' w1:World}{g:Nat}{S T:Nat→Prop}{l:Lk}{es:List EvV}{sp en lo:Nat}
theorem qcp.lt(h:qcp w g S l es sp en lo):∀k,S k→k<w.heap.size:=by
 obtain⟨f,i,m,ev,h⟩:=h;exact h.lt
theorem qcp.new(h:qcp w g S l es sp en lo)(n:qu w w'):qcp w' g S l es sp en lo:=by
 obtain⟨f,i,m,ev,h⟩:=h;exact⟨f,i,m,ev,h.lk.new n,h.row.upd n (fun _ _ h=>h),h.out,h.inE,h.in0,fun k e=>Nat.lt_of_lt_of_le (h.lt k e) n.size⟩
theorem qcp.upd(h:qcp w g S l es sp en lo)(u:Upd T w w')(hd:∀k,S k→¬T k):qcp w' g S l es sp en lo:=by
 obtain⟨f,i,m,ev,h⟩:=h;exact⟨f,i,m,ev,h.lk.upd u (fun k e=>hd k (h.in0 k e)),h.row.upd u (fun k e=>hd k (h.inE k e)),h.out,h.inE,h.in0,fun k e=>Nat.lt_of_lt_of_le (h.lt k e) u.size⟩
theorem qcp.wider(h:qcp w g S l es sp en lo)(f:∀k,S k→T k)(q:∀k,T k→k<w.heap.size):qcp w g T l es sp en lo:=by
 obtain⟨i,m,p,ev,h⟩:=h;exact⟨i,m,p,ev,h.lk,h.row,h.out,fun k e=>f k (h.inE k e),fun k e=>f k (h.in0 k e),q⟩
theorem qcp.inG(h:qcp w g S l es sp en lo):S g:=by
 obtain⟨f,i,m,ev,h⟩:=h;exact h.in0 g h.lk.inG
theorem qcp.inSp(h:qcp w g S l es sp en lo):S sp:=by
 obtain⟨f,i,m,ev,h⟩:=h;exact h.in0 sp h.lk.inS
theorem qcp.ne(h:qcp w g S l es sp en lo):g≠sp:=by
 obtain⟨f,i,m,ev,h⟩:=h;exact h.lk.ne
theorem qcp.cells(h:qcp w g S l es sp en lo):w.cell? ⟨g,0,none⟩=some (.pointer (some ⟨sp,0,none⟩))∧w.cell? ⟨g,6,none⟩=some (.bool l.dead)∧w.cell? ⟨g,7,none⟩=some (.bool l.broken)∧w.frozen? ⟨g,7,none⟩=false:=by
 obtain⟨f,i,m,ev,h⟩:=h;exact⟨qg h.lk.at_ 0,qg h.lk.at_ 6,qg h.lk.at_ 7,qo h.lk.at_ 7⟩
theorem qcp.spl(h:qcp w g S l es sp en lo):Spl w sp l.rest:=by
 obtain⟨f,i,m,ev,h⟩:=h;exact h.lk.spl
theorem qcp.split(h:qcp w g S l es sp en lo)(u:Upd (fun k=>k=sp) w w'){r:ByteArray}(q:Spl w' sp r):qcp w' g S {l with rest:=r} es sp en lo:=by
 obtain⟨i,m,p,ev,h⟩:=h;exact⟨i,m,p,ev,h.lk.split u q,h.row.upd u (fun k e f=>h.out k e (by have f:k=sp:=f;rw[f];exact h.lk.inS)),h.out,h.inE,h.in0,fun k e=>Nat.lt_of_lt_of_le (h.lt k e) u.size⟩
theorem qcp.breaks(h:qcp w g S l es sp en lo):qcp (w.setCell ⟨g,7,none⟩ (.bool true)) g S {l with broken:=true} es sp en lo:=by
 obtain⟨i,m,p,ev,h⟩:=h;have u:Upd (· = g) w (w.setCell ⟨g,7,none⟩ (.bool true)):=(Upd.refl _ _).set1 _ _;exact⟨i,m,p,ev,h.lk.put rfl rfl rfl rfl,h.row.upd u (fun k e f=>h.out k e (by have f:k=g:=f;rw[f];exact h.lk.inG)),h.out,h.inE,h.in0,fun k e=>Nat.lt_of_lt_of_le (h.lt k e) u.size⟩
end
theorem q1j(g:Nat)(S:Nat→Prop)(l:Lk)(es:List EvV)(sp en lo:Nat)(t:ByteArray)(w:World)(h:qcp w g S l es sp en lo)(m:LHearOk l es t)(F:Tb w)(p:Apart S) :
  Calls Tryz.prog 65 #[.pointer (some ⟨g,0,none⟩),.string t] w fun e w'=>e = .returned (.int .i64 (l.hears es t).2.2)∧Upd S w w'∧qcp w' g (Fr S w w') (l.hears es t).1 (l.hears es t).2.1 sp en lo:=by
 by_cases hd:(qco t).2=0
 ·obtain⟨N,M,v,J,H,z,i⟩:=m.msg hd;obtain⟨K,C,L,ev,h⟩:=h;have I:=q9c t;have f:∀W,Calls Tryz.prog 105 #[.string t] W (qa1 (.tuple #[.agg (qco t).1.cells.toArray,.int .i64 0]) W):=fun W=>by
   have:=qn9 t W;rw[hd] at this;exact this
  have q:l.hears es t=l.hearD es (qco t).1 t (l.c.hears (qco t).1):=by unfold Lk.hears;rw[if_pos hd]
  rw[q];have E:=fun a (n:qu w a)=>q1i en C l.c (qco t).1 I a (h.lk.chn.new n) M (F.new n) (p.mono (fun k e=>h.in0 k (h.lk.inC k e))) N v
  generalize l.c.hears (qco t).1=r at E J H i ⊢;obtain⟨c',O,er⟩:=r;exact q1t g S K l ev es sp en lo C L (qco t).1 c' O er t w h m.lk F.tabs ⟨p.c,p.d⟩ J H z i m.es I.len m.size f E
 ·have q:l.hears es t=(l,es,(qco t).2):=by unfold Lk.hears;rw[if_neg hd]
  rw[q];refine(q1s g t w (by simpa using hd)).mono ?_;rintro e w' ⟨rfl,n⟩;have v:=h.lt;exact⟨rfl,n.mono (fun _ _ h=>h.elim),(h.new n).wider (fun k e=> .inl e) (fun k e=>e.elim (fun e=>by have:=v k e;have:=n.size;omega) (fun e=>e.2))⟩
def frT(r:ByteArray):ByteArray:=(r.extract 0 (2+hd r).toNat).extract 2 (2+hd r).toNat
def frR(r:ByteArray):ByteArray:=r.extract (2+hd r).toNat r.size
theorem q5u{r:ByteArray}(h:qid r):(frR r).size<r.size:=by
 have f:=h.1;have i:=qy7 r;have m:=h.2.2;unfold frR;rw[ByteArray.size_extract];omega
inductive Bts:Lk→List EvV→Lk→List EvV→Int→Prop
 | stop (l:Lk) (es:List EvV) (h:¬qid l.rest):Bts l es l es (if qeo l.rest=true then 80 else 0)
 | err (l:Lk) (es:List EvV) (h:qid l.rest) (ho:LHearOk {l with rest:=frR l.rest} es (frT l.rest)) (he:(Lk.hears {l with rest:=frR l.rest} es (frT l.rest)).2.2≠0):Bts l es {(Lk.hears {l with rest:=frR l.rest} es (frT l.rest)).1 with broken:=true} (Lk.hears {l with rest:=frR l.rest} es (frT l.rest)).2.1 (Lk.hears {l with rest:=frR l.rest} es (frT l.rest)).2.2
 | step (l:Lk) (es:List EvV) (h:qid l.rest) (ho:LHearOk {l with rest:=frR l.rest} es (frT l.rest)) (he:(Lk.hears {l with rest:=frR l.rest} es (frT l.rest)).2.2=0) (L:Lk) (ES:List EvV) (E:Int) (next:Bts (Lk.hears {l with rest:=frR l.rest} es (frT l.rest)).1 (Lk.hears {l with rest:=frR l.rest} es (frT l.rest)).2.1 L ES E):Bts l es L ES E
def q3q(l:Lk)(es:List EvV)(t:ByteArray)(L:Lk)(f:List EvV)(E:Int):Prop :=
 LHearOk l es t∧(((l.hears es t).2.2≠0∧L = {(l.hears es t).1 with broken:=true} ∧ f=(l.hears es t).2.1∧E=(l.hears es t).2.2)∨((l.hears es t).2.2=0∧Bts (l.hears es t).1 (l.hears es t).2.1 L f E))
theorem Bts.cases'{l:Lk}{es:List EvV}{L:Lk}{f:List EvV}{E:Int}(h:Bts l es L f E):(¬qid l.rest∧L=l∧f=es∧E=if qeo l.rest=true then 80 else 0)∨(qid l.rest∧q3q {l with rest:=frR l.rest} es (frT l.rest) L f E):=by
 cases h with
 | stop l es h=>exact .inl ⟨h,rfl,rfl,rfl⟩
 | err l es h m i=>exact .inr ⟨h,m,.inl ⟨i,rfl,rfl,rfl⟩⟩
 | step l es h m i L f E next=>exact .inr ⟨h,m,.inr ⟨i,next⟩⟩
def qjc(w:World)(b:Nat):Nat:=match w.cell? ⟨b,0,none⟩ with | some (.string r)=>r.size | _=>0
theorem qlf{w:World}{b:Nat}{r:ByteArray}(h:Spl w b r):qjc w b=r.size:=by
 unfold qjc;rw[h.cell]
theorem qxe(g:Nat)(S:Nat→Prop)(l L:Lk)(es F:List EvV)(E:Int)(s:ByteArray)(sp en lo:Nat)(w:World)(h:qcp w g S l es sp en lo)(c1:l.dead=false)(hb:l.broken=false)(a8:qeo l.rest=false)(d5:l.rest.size+s.size≤1000000000)(hT:Tb w)(hA:Apart S)(hB:Bts {l with rest:=l.rest++s} es L F E) :
  Calls Tryz.prog 24 #[.pointer (some ⟨g,0,none⟩),.string s] w fun e w'=>e = .returned (.int .i64 E)∧Upd S w w'∧qcp w' g (Fr S w w') L F sp en lo:=by
 have K:Spl w sp l.rest:=h.spl
 obtain⟨c0,c6,c7,-⟩:=h.cells
 rw[c1] at c6
 rw[hb] at c7
 have HP:=qb h
 have HB:=qb hB
 have HT:=qb (And.intro hT hA)
 have d3:=h.ne
 clear h c1 hb hB hT hA
 go_enter Tryz.func24,Tryz.ntmps24
 go_wp2_with fail
 refine(qjg sp _ w K.cell a8).mono ?_
 rintro e w1 ⟨rfl,q1⟩
 have hp:=q95 sp _ s w1 (K.q q1) a8 (by omega)
 have d0:=q1.cell c0
 have b3:=qb ((qa HP).new (q1.upd _))
 have U1:=qb (q1.upd (fun _=>False))
 clear q1 K c0 c6 c7
 go_wp2_with fail
 refine hp.mono ?_
 rintro e w2 ⟨rfl,u2,s2⟩
 have a7:=(qa b3).split u2 s2
 have d2:=u2.cell d0 d3
 have U2:=qb (show Upd S w w2 from(((qa U1).mono (fun _ _ h=>h.elim)).trans u2).mono (fun k _ e=>by have e:k=sp:=e;rw[e];exact(qa HP).inSp))
 have c4:=(qa HP).lt
 have I:=qb c4
 have c2:=(qa HP).inSp
 have c9:=qb c2
 generalize c3:({l with rest:=l.rest++s} : Lk)=l1 at a7 HB
 have c8:l1.rest=l.rest++s:=by rw[←c3]
 rw[←c8] at s2
 have b4:=qb a7
 clear hp u2 a7 d0 b3 U1 c3 c8 a8 d5 c4 c2 HP
 have m:∀(W:World) (M:Lk) (p:List EvV),Hid (Bts M p L F E)→Hid (qcp W g (Fr S w W) M p sp en lo)→Hid (Upd S w W)→Spl W sp M.rest →
   Calls Tryz.prog 64 #[.pointer (some ⟨sp,0,none⟩)] W fun e i=>∃t b,e = .returned (.tuple #[.string t,.bool b]) ∧
    ((b=true∧qjc i sp<qjc W sp∧Hid (∃v,Upd S w i∧qcp i g (Fr S w i) v p sp en lo∧q3q v p t L F E))∨(b=false∧Hid (Upd S w i∧qcp i g (Fr S w i) L F sp en lo∧E=if qeo L.rest=true then 80 else 0))):=by
  intro W M p hB z hU hs
  have e1:=(qa hU).size
  have key:∀(i:World) (r:ByteArray),Upd (fun k=>k=sp) W i→Spl i sp r→Upd S w i∧qcp i g (Fr S w i) {M with rest:=r} p sp en lo:=by
   intro i r u s';have hz:=u.size;have uS:Upd S w i:=(qa hU).then u (fun k _ e=>by have e:k=sp:=e;rw[e];exact qa c9);exact⟨uS,((qa z).split u s').wider (fun k e=>e.imp id (fun e=>⟨e.1,by omega⟩)) (fun k e=>e.elim (fun e=>by have:=qa I k e;omega) (fun e=>e.2))⟩
  rcases (qa hB).cases' with ⟨hn,h1,h2,O⟩ | ⟨hR,hK⟩
  ·refine(q63 sp _ W hs hn).mono ?_;rintro e i ⟨rfl,u,s'⟩;obtain⟨k1,k2⟩:=key i _ u s';refine⟨_,_,rfl,.inr ⟨rfl,qb ⟨k1,?_,?_⟩⟩⟩
   ·rw[h1,h2];exact k2
   ·rw[h1];exact O
  ·refine(qxs sp _ W hs hR).mono ?_;rintro e i ⟨rfl,u,s'⟩;obtain⟨k1,k2⟩:=key i _ u s';refine⟨_,_,rfl,.inl ⟨rfl,?_,qb ⟨_,k1,k2,hK⟩⟩⟩;rw[qlf hs,qlf s'];exact q5u hR
 have Z:=qb m
 have d6:=(qa U2).size
 have c5:=m w2 l1 es HB (qb ((qa b4).wider (fun k e=> .inl e) (fun k e=>e.elim (fun e=>by have:=qa I k e;omega) (fun e=>e.2)))) U2 s2
 clear m s2
 go_wp2_with fail
 refine c5.mono ?_
 rintro e w3 ⟨t,b,rfl,O⟩
 have b5:(b=true∧Hid (∃v,Upd S w w3∧qcp w3 g (Fr S w w3) v es sp en lo∧q3q v es t L F E))∨(b=false∧Hid (Upd S w w3∧qcp w3 g (Fr S w w3) L F sp en lo∧E=if qeo L.rest=true then 80 else 0)):=O.imp (fun h=>⟨h.1,h.2.2⟩) id
 have H3:=qb b5
 clear c5 O b5 d2 b4 U2 d6 HB
 go_wp2_with fail
 go_loopw [5,6,7] (fun tv bv ev wr=>∃t b,tv = .string t∧bv = .bool b∧Hid ((b=true∧Hid (∃v p,Upd S w wr∧qcp wr g (Fr S w wr) v p sp en lo∧q3q v p t L F E))∨(b=false∧Hid (Upd S w wr∧qcp wr g (Fr S w wr) L F sp en lo∧E=if qeo L.rest=true then 80 else 0)))) (fun _ bv _ wr=>match bv with | .bool true=>1+qjc wr sp | _=>0)
 case atStart=>exact⟨t,b,rfl,rfl,qb ((qa H3).imp (fun h=>⟨h.1,qb (by obtain⟨v,x⟩:=qa h.2;exact⟨v,es,x⟩)⟩) id)⟩
 case round =>
  obtain⟨N,rfl⟩:∃N:World,N=wr:=⟨_,rfl⟩;obtain⟨t,b,rfl,rfl,hrel⟩:=hrel;clear H3;rcases qa hrel with ⟨rfl,H⟩ | ⟨rfl,H⟩
  ·obtain⟨M,p,u,z,hO,hK⟩:=qa H;have b8:Tb N:=(qa HT).1.upd u (qa HT).2;have b7:Apart (Fr S w N):=(qa HT).2.fr (qa HT).1 N;have hh:=q1j g _ M p sp en lo t N z hO b8 b7;have f:=qw5 M p t;have C:=z.lt;have J:qjc N sp=M.rest.size:=qlf z.spl;generalize d4:M.hears p t=R at hh hK f;obtain⟨M2,a6,er⟩:=R;have HK:=qb hK;have HX:=qb (And.intro u (And.intro f (And.intro J C)));clear hrel H u z hO hK b8 b7 f d4 C J;simp only at hh HK HX;go_wp2_with fail;refine hh.mono ?_;rintro e V ⟨rfl,u4,h4⟩;obtain⟨u,f,J,C⟩:=qa HX;have e0:=u4.size;have d8:=u.size;have uS:Upd S w V:=u.then u4 (fun k hk e=>e.elim id (fun e=>by omega));have h5:qcp V g (Fr S w V) M2 a6 sp en lo:=h4.wider (fun k e=>e.elim (fun e=>e.imp id (fun e=>⟨e.1,by omega⟩)) (fun e=> .inr ⟨by omega,e.2⟩)) (fun k e=>e.elim (fun e=>by have:=qa I k e;omega) (fun e=>e.2));have h6:=h5.cells;have U:=h5.spl;have H5:=qb h5;have US:=qb uS;have HM:=qb (show qjc V sp=qjc N sp by rw[J,qlf U,f]);clear hh u4 h4 u f C h5 uS J HX;rcases qa HK with ⟨he,h1,h2,O⟩ | ⟨he,hB⟩
   ·have d9:(er != 0)=true:=by simpa using he
    obtain⟨-,-,d7,f7⟩:=h6;have H6:=qb (And.intro (qa H5).breaks (And.intro (show Upd S w (V.setCell ⟨g,7,none⟩ (.bool true)) from(qa US).then ((Upd.refl (· = g) _).set1 _ _) (fun k hk e=>by have e:k=g:=e;have:=(qa H5).inG;rw[e] at hk ⊢;exact this.elim id (fun e=>by omega))) (And.intro h1 (And.intro h2 O))));have e2:V.heap.size≤(V.setCell ⟨g,7,none⟩ (.bool true)).heap.size:=((Upd.refl (· = g) V).set1 7 (.bool true)).size;clear he h1 h2 O U HM Z HK;go_wp2_with fail;go_ret;obtain⟨h7,u7,h1,h2,O⟩:=qa H6;refine⟨by rw[O];rfl,u7,?_⟩;rw[h1,h2];exact h7.wider (fun k e=>e.imp id (fun e=>⟨e.1,by omega⟩)) (fun k e=>e.elim (fun e=>by have:=qa I k e;omega) (fun e=>e.2))
   ·subst he;obtain⟨d0,-⟩:=h6;have hn:=qa Z V M2 a6 (qb hB) H5 US U;clear hB U H5 US HK;go_wp2_with fail;refine hn.mono ?_;rintro e X ⟨t6,b6,rfl,h6⟩;have H6:Hid ((b6=true∧Hid (∃v p,Upd S w X∧qcp X g (Fr S w X) v p sp en lo∧q3q v p t6 L F E))∨(b6=false∧Hid (Upd S w X∧qcp X g (Fr S w X) L F sp en lo∧E=if qeo L.rest=true then 80 else 0))):=qb (h6.imp (fun h=>⟨h.1,qb (by obtain⟨v,x⟩:=qa h.2.2;exact⟨v,a6,x⟩)⟩) id);have d1:Hid ((match Value.bool b6 with | .bool true=>1+qjc X sp | _=>0)<1+qjc N sp):=qb (by
     rcases h6 with ⟨rfl,h,-⟩ | ⟨rfl,-⟩
     ·have:=qa HM;show 1+qjc X sp<_;omega
     ·show 0<_;omega)
    clear hn h6 d0 HM;go_wp2_with fail;go_roundw
    case rel=>exact⟨t6,b6,rfl,rfl,H6⟩
    case measure=>exact qa d1
  ·obtain⟨u,z,hE⟩:=qa H;obtain⟨d0,-⟩:=z.cells;have b9:=qrr sp _ N z.spl.cell;have H7:=qb (And.intro u (And.intro z hE));clear hrel H u z hE Z;go_wp2_with fail;refine b9.mono ?_;rintro e w5 ⟨rfl,q5⟩;obtain⟨u,z,hE⟩:=qa H7;have hz:=(q5.upd (fun _=>False)).size;have d8:=u.size;have H8:=qb (And.intro (show Upd S w w5 from u.trans (q5.upd _)) (And.intro ((show qcp w5 g (Fr S w w5) L F sp en lo from(z.new (q5.upd _)).wider (fun k e=>e.imp id (fun e=>⟨e.1,by omega⟩)) (fun k e=>e.elim (fun e=>by have:=qa I k e;omega) (fun e=>e.2)))) hE));clear b9 q5 H7 u z hE;cases P:qeo L.rest with
   | false =>
    have Y:=qb P;clear P;go_wp2_with fail
    all_goals
     go_ret;refine⟨?_,(qa H8).1,(qa H8).2.1⟩;rw[(qa H8).2.2,qa Y];rfl
   | true =>
    have Y:=qb P;clear P;go_wp2_with fail
    all_goals
     go_ret;refine⟨?_,(qa H8).1,(qa H8).2.1⟩;rw[(qa H8).2.2,qa Y];rfl
attribute [local go_sem ↓ high] qy qz zb zf qae
attribute [local go_sem] qas qat qax qv zx qck
theorem qtg(g:Nat)(S:Nat→Prop)(l:Lk)(sp en lo:Nat)(SC SJ:Nat→Prop)(F:FuncId)(U f:Array Value)(va:Option Addr)(vn vc:Nat)(w:World)(h:LkP w g S l sp en lo SC SJ)(E:l.dead=false)(H:l.waits=true) :
  Calls Tryz.prog 45 #[.pointer (some ⟨g,0,none⟩),.func (.func F) U f,.slice va vn vc] w fun e w'=>e = .returned (.tuple #[.agg MsgV.zero.cells.toArray,.int .i64 5])∧qu w w':=by
 have c5:∀(fn:Fn) (first cap:Array Value) (w:World),(Instr.makeFunc fn first cap).run Tryz.prog w = .ok (.func fn first cap) w:=fun _ _ _ _=>rfl
 have b9:=qb h.lt
 have c4:=h.lt g h.inG
 obtain⟨p,m⟩:∃p,p=(((w.alloc (.cells #[.pointer (some ⟨g,0,none⟩)] 28)).alloc (.cells #[.func (.func F) U f] 109)).alloc (.cells MsgV.zero.cells.toArray 101)).alloc (.cells MsgV.zero.cells.toArray 101):=⟨_,rfl⟩
 have n4:qu w p:=by rw[m];exact((((Upd.refl _ _).alloc _).alloc _).alloc _).alloc _
 have z4:p.heap.size=w.heap.size+4:=by rw[m];simp only[World.size_alloc]
 have bL:p.cell? ⟨w.heap.size,0,none⟩=some (.pointer (some ⟨g,0,none⟩)):=by
  rw[m];exact qg (qq (qq (qq (qh _ _) _) _) _) 0
 have bC:p.cell? ⟨w.heap.size+1,0,none⟩=some (.func (.func F) U f):=by
  rw[m];have:=qh (w.alloc (.cells #[.pointer (some ⟨g,0,none⟩)] 28)) (.cells #[.func (.func F) U f] 109);rw[World.size_alloc] at this;exact qg (qq (qq this _) _) 0
 have bR:MsB p (w.heap.size+2) MsgV.zero:=by
  rw[m];have:=qh ((w.alloc (.cells #[.pointer (some ⟨g,0,none⟩)] 28)).alloc (.cells #[.func (.func F) U f] 109)) (.cells MsgV.zero.cells.toArray 101);rw[World.size_alloc,World.size_alloc] at this;exact⟨qq this _,ql⟩
 have bM:MsB p (w.heap.size+3) MsgV.zero:=by
  rw[m];have:=qh (((w.alloc (.cells #[.pointer (some ⟨g,0,none⟩)] 28)).alloc (.cells #[.func (.func F) U f] 109)).alloc (.cells MsgV.zero.cells.toArray 101)) (.cells MsgV.zero.cells.toArray 101);rw[World.size_alloc,World.size_alloc,World.size_alloc] at this;exact⟨this,ql⟩
 have HX:=qb (And.intro h (And.intro E H))
 clear h E H
 go_enter Tryz.func45,Tryz.ntmps45
 go_upto_region 2 with fail
 rw[←m]
 have bR:MsB p (w.heap.size+1+1) MsgV.zero:=bR
 have bM:MsB p (w.heap.size+1+1+1) MsgV.zero:=bM
 have HW:=qb z4
 clear m z4
 generalize hZ:w.heap.size=Z at *
 have HZ:=qb hZ
 clear hZ
 have a7:p.drew.cell? ⟨Z,0,none⟩=some (.pointer (some ⟨g,0,none⟩)):=bL
 have HB:=qb (And.intro bL (And.intro bC (And.intro bR bM)))
 have N4:=qb n4
 clear bL bC bR bM n4
 refine qaw (fun w'=>w'.cell? ⟨Z,0,none⟩=some (.pointer (some ⟨g,0,none⟩))) [0,1,4] (.of [0,1,2,3,4,5,6,7,8,9,10]) (by kernel_rfl) (by kernel_rfl) a7 ?_
 simp only[Plan.of]
 go_wp2_with ((with_reducible first|rfl|refine' ut ?_ ?_;rotate_left|refine' uu ?_)<;>intros)
 refine(qk3 g _ _ _ p.drew).mono ?_
 rintro e L ⟨N,O,rfl,n5,q,v,J,K,d0,d1⟩
 have n5:=n5.ofDrew
 have P:=n5.cell (qa HB).1 (fun h=>h)
 have HD:=qb (And.intro n5 (And.intro q (And.intro v (And.intro J (And.intro K (And.intro d0 d1))))))
 clear n5 q v J K d0 d1 a7
 go_wp2_with (first | ((with_reducible first|rfl|refine' ut ?_ ?_;rotate_left|refine' uu ?_)<;>intros) | refine⟨P,?_⟩)
 have V:qu L (L.alloc (.cells #[.func (.func 87) #[.pointer (some ⟨g,0,none⟩)] #[],.func (.func 88) #[] #[.pointer (some ⟨Z+1,0,none⟩),.pointer (some ⟨Z+1+1+1,0,none⟩)],.func (.func 112) #[] #[.pointer (some ⟨N,0,none⟩),.pointer (some ⟨O,0,none⟩)],.func (.func 89) #[] #[.pointer (some ⟨Z,0,none⟩),.pointer (some ⟨Z+1+1+1,0,none⟩)]] 62)):=(Upd.refl _ _).alloc _
 have T:=qh L (.cells #[.func (.func 87) #[.pointer (some ⟨g,0,none⟩)] #[],.func (.func 88) #[] #[.pointer (some ⟨Z+1,0,none⟩),.pointer (some ⟨Z+1+1+1,0,none⟩)],.func (.func 112) #[] #[.pointer (some ⟨N,0,none⟩),.pointer (some ⟨O,0,none⟩)],.func (.func 89) #[] #[.pointer (some ⟨Z,0,none⟩),.pointer (some ⟨Z+1+1+1,0,none⟩)]] 62)
 have zW:(L.alloc (.cells #[.func (.func 87) #[.pointer (some ⟨g,0,none⟩)] #[],.func (.func 88) #[] #[.pointer (some ⟨Z+1,0,none⟩),.pointer (some ⟨Z+1+1+1,0,none⟩)],.func (.func 112) #[] #[.pointer (some ⟨N,0,none⟩),.pointer (some ⟨O,0,none⟩)],.func (.func 89) #[] #[.pointer (some ⟨Z,0,none⟩),.pointer (some ⟨Z+1+1+1,0,none⟩)]] 62)).heap.size=L.heap.size+1:=World.size_alloc _ _
 generalize L.alloc (.cells #[.func (.func 87) #[.pointer (some ⟨g,0,none⟩)] #[],.func (.func 88) #[] #[.pointer (some ⟨Z+1,0,none⟩),.pointer (some ⟨Z+1+1+1,0,none⟩)],.func (.func 112) #[] #[.pointer (some ⟨N,0,none⟩),.pointer (some ⟨O,0,none⟩)],.func (.func 89) #[] #[.pointer (some ⟨Z,0,none⟩),.pointer (some ⟨Z+1+1+1,0,none⟩)]] 62)=W at V T zW ⊢
 have a8:=V.cell P (fun h=>h)
 refine⟨a8,?_⟩
 obtain⟨I,q,v,J,K,d0,d1⟩:=qa HD
 obtain⟨h,E,H⟩:=qa HX
 have Y:qu w W:=((qa N4).trans I).trans V
 have z4:=qa HW
 have z5:=I.size
 have q:p.heap.size≤N:=q
 have v:p.heap.size≤O:=v
 have M:qio W L.heap.size 4 q3v (qte g) (qkh Z (Z+1) (Z+1+1+1) N O):=by
  intro i hi;rcases (by omega:i=0∨i=1∨i=2∨i=3) with rfl | rfl | rfl | rfl
  ·exact qg T 0
  ·exact qg T 1
  ·exact qg T 2
  ·exact qg T 3
 have hS:∀k,Z≤k→¬S k:=fun k hk e=>by have:=qa b9 k e;omega
 have c3:=qa HZ
 have b8:=((qa HB).2.2.2.new I).new V
 have b3:=((qa HB).2.2.1.new I).new V
 have b5:∀X,qu w X→X.cell? ⟨g,8,none⟩=some (.bool true):=fun X n=>H▸qg (h.new n).at_ 8
 have C:=qsa g L.heap.size 4 q3v (qte g) (qkh Z (Z+1) (Z+1+1+1) N O) (fun _=>False) (fun i a=>i=0∧qu W a) (fun x a=>x=5∧qu W a) W (by decide) (E▸qg (h.new Y).at_ 6) M (fun h=>h) (by
  rintro i hi a ⟨rfl,nA⟩;refine⟨enters_of Tryz.func87 (by kernel_rfl) rfl,?_⟩;refine(qvc g a (b5 a (Y.trans nA))).mono ?_;rintro e a' ⟨rfl,rfl⟩;exact⟨Upd.refl _ _,.inr ⟨5,by decide,rfl,rfl,nA⟩⟩) ⟨rfl,Upd.refl _ _⟩
 clear b5
 have NN:=qb Y
 have a6:=qb b3
 have b7:=qb (And.intro z4 (And.intro z5 zW))
 have c2:=qb hS
 clear M T b8 b3 hS Y V I q v J K d0 d1 h E H z4 z5 zW HD HB P a8 bR bM
 generalize L.heap.size=bb at *
 go_wp2_with ((with_reducible first|rfl|refine' ut ?_ ?_;rotate_left|refine' uu ?_)<;>intros)
 refine C.mono ?_
 rintro e w6 ⟨u6,(⟨rfl,he,b6⟩ | ⟨x,c0,rfl,he,b6⟩)⟩
 ·cases he
 ·have he:x=5:=he;subst he;have R:=(qa a6).upd u6 (fun e=>e);have c1:=R.stOk (k:=MsgV.zero) ql;have b4:=R.put (k:=MsgV.zero) ql;have u7:Upd (· = Z+1+1) w6 (w6.setCells (Z+1+1) 0 MsgV.zero.cells):=qx _;have hF:=b4.at_;have HQ:=qb (And.intro u6 u7);clear R b4 u7 u6 b6 C a6 HX N4 c0;go_wp2_with ((with_reducible first|rfl|refine' ut ?_ ?_;rotate_left|refine' uu ?_)<;>intros);refine bodyPost_ret (qw rfl _ _ (Z+1+1) _ _ _ _ rfl hF Tryz.underlying101 rfl (by rw[List.size_toArray,MsgV.len _ ql];exact Tryz.infoMsg)) rfl ?_;obtain⟨u6,u7⟩:=qa HQ;have Y:=qa NN;have z:=qa b7;have zw:=qa HZ;exact⟨rfl,((Y.trans u6).then u7 (fun k hk e=>by omega))⟩
end
section
open Go.RowKit
attribute [local go_sem ↓ high] qy qz zb zf qae
attribute [local go_sem] qas qat qax qv zx qck
theorem qzw{l:Lk}{c':Ch}{rec:ByteArray}{m:MsgV}{er:Int} : (l.acts c' rec m er).dead=l.dead:=by
 unfold Lk.acts;split<;>rfl
theorem q92(g:Nat)(S:Nat→Prop)(l:Lk)(w:World)(h:LkS w g S l)(hd:l.dead=false) :
  Calls Tryz.prog 44 #[.pointer (some ⟨g,0,none⟩)] w fun e w'=>e = .returned (.string l.out)∧LkS w' g S {l with out:=⟨#[]⟩} ∧ Upd S w w':=by
 obtain⟨sp,en,lo,i,m,h⟩:=h
 have q:w.cell? ⟨g,6,none⟩=some (.bool false):=hd▸qg h.at_ 6
 have p:w.cell? ⟨g,3,none⟩=some (.string l.out):=qg h.at_ 3
 have v:=qo h.at_ 3
 have u:Upd (· = g) w (w.setCell ⟨g,3,none⟩ (.string ⟨#[]⟩)):=(Upd.refl _ _).set1 _ _
 have f:=qb (And.intro (h.put_out ⟨#[]⟩) (u.mono (T:=S) (fun k _ e=>by rw[e];exact h.inG)))
 clear h u
 go_enter Tryz.func44,Tryz.ntmps44
 go_wp2_with fail
 go_ret
 exact⟨rfl,⟨sp,en,lo,i,m,(qa f).1⟩,(qa f).2⟩
theorem qs5(g:Nat)(S:Nat→Prop)(l:Lk)(n:Nat)(w:World)(h:LkS w g S l)(z:LkOk l)(C:l.ticks=n)(p:n<1000000)(K:(n+1)%3≠0) :
  Calls Tryz.prog 28 #[.pointer (some ⟨g,0,none⟩)] w fun e w'=>e = .returned (.int .i64 0)∧LkS w' g S {l with ticks:=(n:Int)+1} ∧ Upd S w w':=by
 obtain⟨sp,en,lo,q,v,h⟩:=h
 have F:w.cell? ⟨g,6,none⟩=some (.bool false):=z.dead▸qg h.at_ 6
 have E:w.cell? ⟨g,5,none⟩=some (.int .i64 (n:Int)):=by rw[←C];exact qg h.at_ 5
 have J:=qo h.at_ 5
 have u:Upd (· = g) w (w.setCell ⟨g,5,none⟩ (.int .i64 ((n:Int)+1))):=(Upd.refl _ _).set1 _ _
 have i:=h.put_ticks ((n:Int)+1)
 have H:(w.setCell ⟨g,5,none⟩ (.int .i64 ((n:Int)+1))).cell? ⟨g,5,none⟩=some (.int .i64 ((n:Int)+1)):=qg i.at_ 5
 have I:(w.setCell ⟨g,5,none⟩ (.int .i64 ((n:Int)+1))).cell? ⟨g,8,none⟩=some (.bool false):=z.waits▸qg i.at_ 8
 have f:=qb (And.intro i (u.mono (T:=S) (fun k _ e=>by rw[e];exact h.inG)))
 have m:((n:Int)+1)%3=1∨((n:Int)+1)%3=2:=by omega
 have L:(n:Int)<1000000:=by omega
 clear h i u C p K
 go_enter Tryz.func28,Tryz.ntmps28
 go_upto_region 4 with fail
 generalize w.setCell ⟨g,5,none⟩ (.int .i64 ((n:Int)+1))=w1 at H I f ⊢
 clear F E J
 rcases m with m | m
 ·go_wp2_with fail;go_ret;exact⟨rfl,⟨sp,en,lo,q,v,(qa f).1⟩,(qa f).2⟩
 ·go_wp2_with fail;go_ret;exact⟨rfl,⟨sp,en,lo,q,v,(qa f).1⟩,(qa f).2⟩
noncomputable def Lk.signs(l:Lk):Lk:=l.acts l.c.sign.1 (zc 4 1) l.c.sign.2.1 l.c.sign.2.2
def qlg(er:Int):Int:=if er=5 then 0 else er
theorem qyk(g:Nat)(S:Nat→Prop)(l:Lk)(n:Nat)(w:World)(h:LkS w g S l)(F:LkOk l)(hn:l.ticks=n)(i2:n<1000000)(h3:(n+1)%3=0)(C:l.c.sign.2.2=0→SayOk l.c.sign.2.1)(M:l.c.sign.2.1.hash.length=32)(hT:Tc w)(hA:ApC S)
  (P:l.c.s.key.size≤100000000) (d3:0≤l.c.s.ch∧l.c.s.ch<4294967296) (O:l.c.news.length<1000000) (d9:l.c.xs.length≤16) :
  Calls Tryz.prog 28 #[.pointer (some ⟨g,0,none⟩)] w fun e w'=>e = .returned (.int .i64 (qlg l.c.sign.2.2))∧LkS w' g (Fr S w w') ({l with ticks:=(n:Int)+1} : Lk).signs∧Upd S w w':=by
 have k0:∀(fn:Fn) (first cap:Array Value) (w:World),(Instr.makeFunc fn first cap).run Tryz.prog w = .ok (.func fn first cap) w:=fun _ _ _ _=>rfl
 obtain⟨sp,en,lo,SC,SJ,h⟩:=h
 have c6:w.cell? ⟨g,6,none⟩=some (.bool false):=F.dead▸qg h.at_ 6
 have c5:w.cell? ⟨g,5,none⟩=some (.int .i64 (n:Int)):=by rw[←hn];exact qg h.at_ 5
 have f5:=qo h.at_ 5
 have u0:Upd (· = g) w (w.setCell ⟨g,5,none⟩ (.int .i64 ((n:Int)+1))):=(Upd.refl _ _).set1 _ _
 have c0:=hT.upd (u0.mono (T:=S) (fun k _ e=>by rw[e];exact h.inG)) hA
 have N:=h.put_ticks ((n:Int)+1)
 have d5:(w.setCell ⟨g,5,none⟩ (.int .i64 ((n:Int)+1))).cell? ⟨g,5,none⟩=some (.int .i64 ((n:Int)+1)):=qg N.at_ 5
 have d8:(w.setCell ⟨g,5,none⟩ (.int .i64 ((n:Int)+1))).cell? ⟨g,8,none⟩=some (.bool false):=F.waits▸qg N.at_ 8
 have d0:=qb (u0.mono (T:=S) (fun k _ e=>by rw[e];exact h.inG))
 have hm:((n:Int)+1)%3=0:=by omega
 have k3:(n:Int)<1000000:=by omega
 obtain⟨V,c2⟩:∃V:Lk,V = {l with ticks:=(n:Int)+1} := ⟨_,rfl⟩
 have d4:LkOk V:=by rw[c2];exact⟨F.dead,F.waits,F.fused,F.off,F.many,F.len,F.out⟩
 have g3:V.c=l.c:=by rw[c2]
 rw[←c2] at N ⊢
 rw[←g3] at C M P d3 O d9 ⊢
 have HZ:=qb u0.size
 have h9:∀a,ChS a en SC V.c→Tc a→Calls Tryz.prog 75 (#[.pointer (some ⟨en,0,none⟩)]++#[]) a fun e a'=>SaysIt en SC V.c.sign.2.1 V.c.sign.2.2 V.c.sign.1 e a a':=fun a hc ta=>by
  refine(q3f en SC V.c a hc ta (hA.mono N.inC) P d3 O d9).mono ?_;rintro e a' ⟨he,hc,u⟩;exact⟨he,hc,u⟩
 unfold Lk.signs
 rw[←qy9 (zc 4 1)]
 obtain⟨l,rfl⟩:∃l,l=V:=⟨_,rfl⟩
 generalize l.c.sign.1=c' at *
 generalize l.c.sign.2.1=L at *
 generalize l.c.sign.2.2=er at *
 obtain⟨MM,d2⟩:∃MM,MM=qrm L er:=⟨_,rfl⟩
 have z:MM.hash.length=32:=by rw[d2];exact qtf M
 have Y:=qb d2
 obtain⟨LL,d1⟩:∃LL,LL=l.acts c' (zk [zc 4 1]) L er:=⟨_,rfl⟩
 have i0:LL.dead=false:=by rw[d1,qzw];exact d4.dead
 have J:=qb d1
 clear d2 d1 P d3 O d9
 clear h hn i2 h3 F u0 hT c2 g3
 go_enter Tryz.func28,Tryz.ntmps28
 go_upto_region 4 with fail
 generalize w.setCell ⟨g,5,none⟩ (.int .i64 ((n:Int)+1))=w1 at d5 d8 N c0 d0 HZ ⊢
 clear c6 c5 f5
 have q:=N.lt
 have c1:w1.drew.cell? ⟨g,1,none⟩=some (.pointer (some ⟨en,0,none⟩)):=qg N.at_ 1
 have m:∀X,qu w1 X→X.cell? ⟨g,1,none⟩=some (.pointer (some ⟨en,0,none⟩)):=fun X n=>n.cell (qg N.at_ 1) (fun h=>h)
 have hF:=fun a (W:qu w1 a)=>h9 a (N.chn.new W) (c0.new W)
 have k4:qu w1 w1.drew:=(Upd.refl _ _).drew
 have HL:=qb N
 have c3:(zk [zc 4 1]).size≤1024:=by rw[qy9,qak];decide
 have hT:=c0.tabs
 have g2:=hA
 have hA:ApD S:=⟨g2.c,g2.d⟩
 have F:=d4
 go_upto_region 6 with fail
 rw[hm]
 clear d5 d8 hm
 have i1:∀X S',LkE X g S' sp en lo LL→Upd S w1 X→X.cell? ⟨g,1,none⟩=some (.pointer (some ⟨en,0,none⟩)):=fun X S' h _=>h.end_
 clear N c0 d4
 go_cut [3,4] from 28 to 39 (fun kv ev wx=>∃K,kv = .pointer (some ⟨K,0,none⟩)∧ev = .int .i64 er∧MsB wx K MM∧LkE wx g (Fr S w1 wx) sp en lo LL∧Upd S w1 wx∧w1.heap.size≤K)
 case first =>
  refine qaw (fun w'=>w'.cell? ⟨g,1,none⟩=some (.pointer (some ⟨en,0,none⟩))) [4] (.fork (.of [12,0,1,2,3,4,5,6,7,8,9,10,11,13,14]) (Plan.pre [0,1,2,3,4,5,6] (.fork (.of [12,7,8,9,10,11,13,14]) (Plan.pre [7] (.fork (.of [12,8,9,10,11,13,14]) (.of [8,9,10,11,12,13,14])))))) (by kernel_rfl) (by kernel_rfl) c1 ?_;simp only[Plan.of,Plan.pre];refine qf ?_ ?_
  ·skip
   try go_wp2_with ((with_reducible first|rfl|refine' ut ?_ ?_;rotate_left|refine' uu ?_)<;>intros)
   have m1:qu w1 (w1.alloc (.cells MsgV.zero.cells.toArray 101)).drew:=((Upd.refl _ _).alloc _).drew;have b1:MsB (w1.alloc (.cells MsgV.zero.cells.toArray 101)).drew w1.heap.size MsgV.zero:=(qan w1 MsgV.zero ql).new (Upd.drew (Upd.refl (fun _=>False) _));obtain⟨K1,e1⟩:∃K,K=w1.heap.size:=⟨_,rfl⟩;have n1:qu w1 (w1.alloc (.cells MsgV.zero.cells.toArray 101)).drew:=m1
   first | refine⟨m _ n1,?_⟩ | skip
   have y1:=b1.lt;generalize (w1.alloc (.cells MsgV.zero.cells.toArray 101)).drew=j0 at m1 b1 n1 y1 ⊢;have q1:=m _ n1;rw[←e1] at b1 y1 ⊢;have E1:=qb e1;have g1:w1.heap.size≤K1:=by rw[e1];exact Nat.le_refl _
   clear e1
   try go_wp2_with ((with_reducible first|rfl|refine' ut ?_ ?_;rotate_left|refine' uu ?_)<;>intros)
   refine(qbi 4 1 j0 (by decide) (by decide) (by decide)).mono ?_;rintro e h2 ⟨rfl,m2⟩;have n2:qu w1 h2:=n1.trans m2;have b2:=b1.new m2;have q2:=m _ n2;go_wp2_with (first | ((with_reducible first|rfl|refine' ut ?_ ?_;rotate_left|refine' uu ?_)<;>intros) | refine⟨m _ n2,?_⟩);obtain⟨B3,j2,i3,e3,m3,r3,z3⟩:=qcq h2 #[.string (zc 4 1)];have n3:=n2.trans m3;have y3:=n2.size;have b3:=b2.new m3;have a3:=b2.lt;rw[i3,e3]
   first | refine⟨m _ n3,?_⟩ | skip
   clear m3 i3;have q3:=m _ n3
   try go_wp2_with ((with_reducible first|rfl|refine' ut ?_ ?_;rotate_left|refine' uu ?_)<;>intros)
   have f:=qnw g B3 S l sp en lo SC SJ 75 #[.pointer (some ⟨en,0,none⟩)] #[] L er c' [zc 4 1] j2 ((qa HL).new n3) F M C (hT.new n3) hA (enters_of Tryz.func75 (by kernel_rfl) rfl) (fun a W=>hF a (n3.trans W)) (fun j x R=>by
    cases j with
    | zero =>
     obtain rfl:zc 4 1=x:=by simpa using R
     exact qg r3 0
    | succ j=>simp at R) (by decide) c3 (by omega) (fun e=>by have:=q _ e;omega)
   rw[←qa Y,←qa J] at f;refine f.mono ?_;rintro e e9 ⟨rfl,l4,v4⟩;have u4:Upd S w1 e9:=(n3.mono (fun _ _ h=>h.elim)).trans v4;have x4:=n3.size;have y4:=v4.size;have b4:=b3.upd v4 (fun e=>by have:=q _ e;omega);clear f v4;have d7:=b4.stOk z;have c5:=b4.put z;have x5:Upd (· = K1) e9 _:=qx (w:=e9) (b:=K1) MM.cells;have I:=qb (And.intro c5 (And.intro x5 (And.intro l4 u4)));have k9:=x5.size;clear c5 x5
   try go_wp2_with ((with_reducible first|rfl|refine' ut ?_ ?_;rotate_left|refine' uu ?_)<;>intros)
   go_meet
   case rel =>
    obtain⟨c,x,l,u⟩:=qa I;have E:=qa E1;exact⟨K1,rfl,rfl,c,qbu l x q (by omega) (by omega) (by omega),u.then x (fun i hi e=>by omega),by omega⟩
  ·skip
   try go_wp2_with ((with_reducible first|rfl|refine' ut ?_ ?_;rotate_left|refine' uu ?_)<;>intros)
   refine(qbi 4 1 w1.drew (by decide) (by decide) (by decide)).mono ?_;rintro e e6 ⟨rfl,m6⟩;replace m6:=m6.ofDrew;have n6:qu w1 e6:=m6;have q6:=m _ n6;go_wp2_with (first | ((with_reducible first|rfl|refine' ut ?_ ?_;rotate_left|refine' uu ?_)<;>intros) | refine⟨m _ n6,?_⟩);refine qf ?_ ?_
   ·skip
    try go_wp2_with ((with_reducible first|rfl|refine' ut ?_ ?_;rotate_left|refine' uu ?_)<;>intros)
    obtain⟨K7,j1,i7,e7,m7,b7⟩:=qdn e6;rw[i7,e7];have n7:=n6.trans m7
    first | refine⟨m _ n7,?_⟩ | skip
    have y7:=b7.lt;have q7:=m _ n7;have E7:=qb e7.symm;have g7:w1.heap.size≤K7:=by rw[←e7];exact n6.size
    clear e7 i7
    try go_wp2_with ((with_reducible first|rfl|refine' ut ?_ ?_;rotate_left|refine' uu ?_)<;>intros)
    obtain⟨B8,j3,i8,e8,m8,r8,z8⟩:=qcq j1 #[.string (zc 4 1)];have n8:=n7.trans m8;have y8:=n7.size;have b8:=b7.new m8;have a8:=b7.lt;rw[i8,e8]
    first | refine⟨m _ n8,?_⟩ | skip
    clear m8 i8;have q8:=m _ n8
    try go_wp2_with ((with_reducible first|rfl|refine' ut ?_ ?_;rotate_left|refine' uu ?_)<;>intros)
    have f:=qnw g B8 S l sp en lo SC SJ 75 #[.pointer (some ⟨en,0,none⟩)] #[] L er c' [zc 4 1] j3 ((qa HL).new n8) F M C (hT.new n8) hA (enters_of Tryz.func75 (by kernel_rfl) rfl) (fun a W=>hF a (n8.trans W)) (fun j x R=>by
     cases j with
     | zero =>
      obtain rfl:zc 4 1=x:=by simpa using R
      exact qg r8 0
     | succ j=>simp at R) (by decide) c3 (by omega) (fun e=>by have:=q _ e;omega)
    rw[←qa Y,←qa J] at f;refine f.mono ?_;rintro e f0 ⟨rfl,l9,v9⟩;have u9:Upd S w1 f0:=(n8.mono (fun _ _ h=>h.elim)).trans v9;have x9:=n8.size;have y9:=v9.size;have b9:=b8.upd v9 (fun e=>by have:=q _ e;omega);clear f v9;have d7:=b9.stOk z;have f8:=b9.put z;have f1:Upd (· = K7) f0 _:=qx (w:=f0) (b:=K7) MM.cells;have I:=qb (And.intro f8 (And.intro f1 (And.intro l9 u9)));have j5:=f1.size;clear f8 f1
    try go_wp2_with ((with_reducible first|rfl|refine' ut ?_ ?_;rotate_left|refine' uu ?_)<;>intros)
    go_meet
    case rel =>
     obtain⟨c,x,l,u⟩:=qa I;have E:=qa E7;exact⟨K7,rfl,rfl,c,qbu l x q (by omega) (by omega) (by omega),u.then x (fun i hi e=>by omega),by omega⟩
   ·skip
    try go_wp2_with ((with_reducible first|rfl|refine' ut ?_ ?_;rotate_left|refine' uu ?_)<;>intros)
    obtain⟨f4,c9,g4,h8,g6,g8,j4⟩:=qcq e6 #[.string (zc 4 1)];have v:=n6.trans g6;have l3:=n6.size;rw[g4,h8]
    first | refine⟨m _ v,?_⟩ | skip
    clear g6 g4;have k5:=m _ v;refine qf ?_ ?_
    ·skip
     try go_wp2_with ((with_reducible first|rfl|refine' ut ?_ ?_;rotate_left|refine' uu ?_)<;>intros)
     obtain⟨Z,h0,g5,b5,e2,f6⟩:=qdn c9;rw[g5,b5];have H:=v.trans e2
     first | refine⟨m _ H,?_⟩ | skip
     have l5:=f6.lt;have k6:=m _ H;have i6:=e2.old g8 (fun h=>h);have l8:=Nat.lt_of_lt_of_le j4 e2.size;have h6:=qb b5.symm;have j8:w1.heap.size≤Z:=by rw[←b5];exact v.size
     clear b5 g5
     try go_wp2_with ((with_reducible first|rfl|refine' ut ?_ ?_;rotate_left|refine' uu ?_)<;>intros)
     have f:=qnw g f4 S l sp en lo SC SJ 75 #[.pointer (some ⟨en,0,none⟩)] #[] L er c' [zc 4 1] h0 ((qa HL).new H) F M C (hT.new H) hA (enters_of Tryz.func75 (by kernel_rfl) rfl) (fun a W=>hF a (H.trans W)) (fun j x R=>by
      cases j with
      | zero =>
       obtain rfl:zc 4 1=x:=by simpa using R
       exact qg i6 0
      | succ j=>simp at R) (by decide) c3 (by omega) (fun e=>by have:=q _ e;omega)
     rw[←qa Y,←qa J] at f;refine f.mono ?_;rintro e U ⟨rfl,i4,c7⟩;have i9:Upd S w1 U:=(H.mono (fun _ _ h=>h.elim)).trans c7;have k7:=H.size;have l6:=c7.size;have f7:=f6.upd c7 (fun e=>by have:=q _ e;omega);clear f c7;have d7:=f7.stOk z;have f9:=f7.put z;have f2:Upd (· = Z) U _:=qx (w:=U) (b:=Z) MM.cells;have I:=qb (And.intro f9 (And.intro f2 (And.intro i4 i9)));have j6:=f2.size;clear f9 f2
     try go_wp2_with ((with_reducible first|rfl|refine' ut ?_ ?_;rotate_left|refine' uu ?_)<;>intros)
     go_meet
     case rel =>
      obtain⟨c,x,l,u⟩:=qa I;have E:=qa h6;exact⟨Z,rfl,rfl,c,qbu l x q (by omega) (by omega) (by omega),u.then x (fun i hi e=>by omega),by omega⟩
    ·skip
     try go_wp2_with ((with_reducible first|rfl|refine' ut ?_ ?_;rotate_left|refine' uu ?_)<;>intros)
     have f:=qnw g f4 S l sp en lo SC SJ 75 #[.pointer (some ⟨en,0,none⟩)] #[] L er c' [zc 4 1] c9 ((qa HL).new v) F M C (hT.new v) hA (enters_of Tryz.func75 (by kernel_rfl) rfl) (fun a W=>hF a (v.trans W)) (fun j x R=>by
      cases j with
      | zero =>
       obtain rfl:zc 4 1=x:=by simpa using R
       exact qg g8 0
      | succ j=>simp at R) (by decide) c3 (by omega) (fun e=>by have:=q _ e;omega)
     rw[←qa Y,←qa J] at f;refine f.mono ?_;rintro e p ⟨rfl,i5,e5⟩;have g9:Upd S w1 p:=(v.mono (fun _ _ h=>h.elim)).trans e5;have k8:=v.size;have l7:=e5.size;clear f e5
     try go_wp2_with ((with_reducible first|rfl|refine' ut ?_ ?_;rotate_left|refine' uu ?_)<;>intros)
     have c4:qu p (p.alloc (.cells MsgV.zero.cells.toArray 101)):=((Upd.refl _ _).alloc _);have a7:MsB (p.alloc (.cells MsgV.zero.cells.toArray 101)) p.heap.size MsgV.zero:=qan p MsgV.zero ql;obtain⟨a6,b6⟩:∃K,K=p.heap.size:=⟨_,rfl⟩;have e0:=i5.new c4;have e4:=g9.trans (c4.mono (fun _ _ h=>h.elim));have h4:=c4.size;generalize (p.alloc (.cells MsgV.zero.cells.toArray 101))=c8 at c4 a7 e0 e4 h4 ⊢
     first | refine⟨i1 _ _ e0 e4,?_⟩ | skip
     rw[←b6] at a7 h4 ⊢;have h7:=qb b6;have j9:w1.heap.size≤a6:=by rw[b6];exact g9.size
     clear b6;have d7:=a7.stOk z;have g0:=a7.put z;have f3:Upd (· = a6) c8 _:=qx (w:=c8) (b:=a6) MM.cells;have I:=qb (And.intro g0 (And.intro f3 (And.intro e0 e4)));have j7:=f3.size;clear g0 f3
     try go_wp2_with ((with_reducible first|rfl|refine' ut ?_ ?_;rotate_left|refine' uu ?_)<;>intros)
     go_meet
     case rel =>
      obtain⟨c,x,l,u⟩:=qa I;have E:=qa h7;exact⟨a6,rfl,rfl,c,qi2 l x q (by omega) (by omega) (by omega),u.then x (fun i hi e=>by omega),by omega⟩
 case rest =>
  obtain⟨K,rfl,rfl,hM,hl,u,hK⟩:=hcut;obtain⟨w3,rfl⟩:∃w3:World,w3=wc:=⟨_,rfl⟩;have d6:w3.cell? ⟨g,6,none⟩=some (.bool false):=by
   obtain⟨_,_,hl⟩:=hl;exact i0▸qg hl.at_ 6
  have I:=qb (And.intro hl u);clear hl u hM;by_cases h5:er=5
  ·subst h5;go_wp2_with ((with_reducible first|rfl|refine' ut ?_ ?_;rotate_left|refine' uu ?_)<;>intros);go_ret;rw[qa J] at I;exact⟨rfl,((qa I).1.s).later (qa HZ),(qa d0).trans (qa I).2⟩
  ·go_wp2_with ((with_reducible first|rfl|refine' ut ?_ ?_;rotate_left|refine' uu ?_)<;>intros);go_ret;rw[qa J] at I;refine⟨?_,((qa I).1.s).later (qa HZ),(qa d0).trans (qa I).2⟩;unfold qlg;rw[if_neg h5];rfl
end
end Go.Proofs.YtfmkdoachjgjbaaGreatDoor
