/-
  Hear, of any message: Again too.
-/
import Derived.Test.YtfmkdoachjgjbaaGreatDoorHAg
import Derived.Test.YtfmkdoachjgjbaaGreatDoorMdf
import Derived.Test.YtfmkdoachjgjbaaGreatDoorMdh
import Derived.Test.YtfmkdoachjgjbaaGreatDoorMdc
import Derived.Test.YtfmkdoachjgjbaaGreatDoorMcg
set_option maxRecDepth 100000
set_option maxHeartbeats 4000000
set_option linter.unusedVariables false
set_option linter.unusedSimpArgs false
namespace Go.Proofs.YtfmkdoachjgjbaaGreatDoor
section
open Go.RowKit
def Ch.again(c:Ch):MsgV:=⟨9,c.s.ch,IntKind.u64.wrap c.k.told,0,zm,0,c.k.heard+1⟩
noncomputable def Ch.hears(c:Ch)(m:MsgV):Ch × List MsgV × Int :=
 if m.kind=9 then (if qap m=false∨m.ch≠c.s.ch then (c,[],1) else (c,(c.hearAgain m).1,(c.hearAgain m).2)) else c.hear m
theorem qv8(g:Nat)(S:Nat→Prop)(c:Ch)(m:MsgV)(t:MsgOk m)(w:World)(h:ChS w g S c)(q:qap m=true)(o:m.ch=c.s.ch)(z:m.kind=9)(y:Tb w)(i:c.last.length≤900000) :
  Calls Tryz.prog 107 #[.pointer (some ⟨g,0,none⟩),.agg m.cells.toArray] w (qdx g S w c (c.hearAgain m).1 (c.hearAgain m).2) :=
 qg1 _ g S c _ _ _ m t w h q o (enters_of Tryz.func182 (by kernel_rfl) rfl) (fun x=>by rw[z];exact q96 x) (fun W v=>qoz g S c m t W (h.new v) (y.new v) i)
theorem qz6(g:Nat)(S:Nat→Prop)(c:Ch)(m:MsgV)(t:MsgOk m)(w:World)(h:ChS w g S c)(D:c.Inv)(x:Tb w)(z:Apart S)(H:3≤m.kind∧m.kind≤9)(o:c.last.length≤900000) :
  Calls Tryz.prog 107 #[.pointer (some ⟨g,0,none⟩),.agg m.cells.toArray] w (qdx g S w (c.hears m).1 (c.hears m).2.1 (c.hears m).2.2):=by
 by_cases q:m.kind=9
 ·by_cases i:qap m=false∨m.ch≠c.s.ch
  ·have e:c.hears m=(c,[],1):=by unfold Ch.hears;rw[if_pos q,if_pos i]
   rw[e];refine(qtt g S c m t w h i).mono ?_;rintro e w' ⟨C,y⟩;exact⟨_,C,qbp.nil _ _,(h.new y).frW,y.mono (fun _ _ h=>h.elim)⟩
  ·have e:c.hears m=(c,(c.hearAgain m).1,(c.hearAgain m).2):=by unfold Ch.hears;rw[if_pos q,if_neg i]
   rw[e];have v:qap m=true:=by
    cases E:qap m with
    | true=>rfl
    | false=>exact absurd (.inl E) i
   exact qv8 g S c m t w h v (Decidable.of_not_not (fun e=>i (.inr e))) q x o
 ·have e:c.hears m=c.hear m:=by unfold Ch.hears;rw[if_neg q]
  rw[e];exact q34 g S c m t w h D x z (by omega)
theorem q7a(s:ByteArray):MsgOk (qcc s).1:=by
 have i:MsgOk MsgV.zero:=qe8 (k:=0) ⟨by decide,by decide⟩;have m:=qf3 s 0;unfold qcc;split
 ·exact i
 ·split
  ·exact i
  ·split
   ·exact i
   ·rename_i h;split
    ·exact i
    ·split
     ·exact(qml _ _ _ (qe8 ⟨by omega,by omega⟩) h).1
     ·exact i
noncomputable def Lk.hearD(l:Lk)(es:List EvV)(m:MsgV)(t:ByteArray)(r:Ch × List MsgV × Int):Lk × List EvV × Int:=(l.hearR r.1 r.2.1 m t r.2.2,qkh es m l.waits l.c.xs r.1.xs r.2.2,r.2.2)
noncomputable def Lk.hears(l:Lk)(es:List EvV)(t:ByteArray):Lk × List EvV × Int :=
 if (qcc t).2=0 then l.hearD es (qcc t).1 t (l.c.hears (qcc t).1) else (l,es,(qcc t).2)
theorem qwa(l:Lk)(es:List EvV)(t:ByteArray):(l.hears es t).1.rest=l.rest:=by
 unfold Lk.hears;split
 ·show (l.hearR _ _ _ _ _).rest=_;unfold Lk.hearR;split<;>rfl
 ·rfl
structure LHearOk(l:Lk)(es:List EvV)(t:ByteArray):Prop where
 lk:LkOkW l
 es:es.length≤10000
 size:t.size≤1000
 msg:(qcc t).2=0→(3≤(qcc t).1.kind∧(qcc t).1.kind≤9)∧l.c.Inv∧l.c.last.length≤900000∧(∀m∈(l.c.hears (qcc t).1).2.1,SayOk m)∧(l.c.hears (qcc t).1).2.1.length≤1000∧l.c.xs.length≤1000∧(l.c.hears (qcc t).1).1.xs.length≤1000
section
variable {w w' w1:World}{g:Nat}{S T:Nat→Prop}{l:Lk}{es:List EvV}{sp en lo:Nat}
theorem qb6.lt(h:qb6 w g S l es sp en lo):∀k,S k→k<w.heap.size:=by
 obtain⟨i,m,o,ev,h⟩:=h;exact h.lt
theorem qb6.new(h:qb6 w g S l es sp en lo)(n:qq w w'):qb6 w' g S l es sp en lo:=by
 obtain⟨i,m,o,ev,h⟩:=h;exact⟨i,m,o,ev,h.lk.new n,h.row.upd n (fun _ _ h=>h),h.out,h.inE,h.in0,fun k e=>Nat.lt_of_lt_of_le (h.lt k e) n.size⟩
theorem qb6.upd(h:qb6 w g S l es sp en lo)(u:Upd T w w')(hd:∀k,S k→¬T k):qb6 w' g S l es sp en lo:=by
 obtain⟨i,m,o,ev,h⟩:=h;exact⟨i,m,o,ev,h.lk.upd u (fun k e=>hd k (h.in0 k e)),h.row.upd u (fun k e=>hd k (h.inE k e)),h.out,h.inE,h.in0,fun k e=>Nat.lt_of_lt_of_le (h.lt k e) u.size⟩
theorem qb6.wider(h:qb6 w g S l es sp en lo)(i:∀k,S k→T k)(t:∀k,T k→k<w.heap.size):qb6 w g T l es sp en lo:=by
 obtain⟨m,o,q,ev,h⟩:=h;exact⟨m,o,q,ev,h.lk,h.row,h.out,fun k e=>i k (h.inE k e),fun k e=>i k (h.in0 k e),t⟩
theorem qb6.inG(h:qb6 w g S l es sp en lo):S g:=by
 obtain⟨i,m,o,ev,h⟩:=h;exact h.in0 g h.lk.inG
theorem qb6.inSp(h:qb6 w g S l es sp en lo):S sp:=by
 obtain⟨i,m,o,ev,h⟩:=h;exact h.in0 sp h.lk.inS
theorem qb6.ne(h:qb6 w g S l es sp en lo):g≠sp:=by
 obtain⟨i,m,o,ev,h⟩:=h;exact h.lk.ne
theorem qb6.cells(h:qb6 w g S l es sp en lo):w.cell? ⟨g,0,none⟩=some (.pointer (some ⟨sp,0,none⟩))∧w.cell? ⟨g,6,none⟩=some (.bool l.dead)∧w.cell? ⟨g,7,none⟩=some (.bool l.broken)∧w.frozen? ⟨g,7,none⟩=false:=by
 obtain⟨i,m,o,ev,h⟩:=h;exact⟨qk h.lk.at_ 0,qk h.lk.at_ 6,qk h.lk.at_ 7,qo h.lk.at_ 7⟩
theorem qb6.spl(h:qb6 w g S l es sp en lo):Spl w sp l.rest:=by
 obtain⟨i,m,o,ev,h⟩:=h;exact h.lk.spl
theorem qb6.split(h:qb6 w g S l es sp en lo)(u:Upd (fun k=>k=sp) w w'){r:ByteArray}(t:Spl w' sp r):qb6 w' g S {l with rest:=r} es sp en lo:=by
 obtain⟨m,o,q,ev,h⟩:=h;exact⟨m,o,q,ev,h.lk.split u t,h.row.upd u (fun k e i=>h.out k e (by have i:k=sp:=i;rw[i];exact h.lk.inS)),h.out,h.inE,h.in0,fun k e=>Nat.lt_of_lt_of_le (h.lt k e) u.size⟩
theorem qb6.breaks(h:qb6 w g S l es sp en lo):qb6 (w.setCell ⟨g,7,none⟩ (.bool true)) g S {l with broken:=true} es sp en lo:=by
 obtain⟨m,o,q,ev,h⟩:=h;have u:Upd (· = g) w (w.setCell ⟨g,7,none⟩ (.bool true)):=(Upd.refl _ _).set1 _ _;exact⟨m,o,q,ev,h.lk.put rfl rfl rfl rfl,h.row.upd u (fun k e i=>h.out k e (by have i:k=g:=i;rw[i];exact h.lk.inG)),h.out,h.inE,h.in0,fun k e=>Nat.lt_of_lt_of_le (h.lt k e) u.size⟩
theorem qb6.later(m:w1.heap.size≤w.heap.size)(h:qb6 w' g (Fr S w w') l es sp en lo)(i:∀k,S k→k<w'.heap.size):qb6 w' g (Fr S w1 w') l es sp en lo :=
 h.wider (fun k e=>e.imp id (fun e=>⟨by omega,e.2⟩)) (fun k e=>e.elim (i k) (fun e=>e.2))
end
theorem qz7(g:Nat)(S:Nat→Prop)(l:Lk)(es:List EvV)(sp en lo:Nat)(t:ByteArray)(w:World)(h:qb6 w g S l es sp en lo)(o:LHearOk l es t)(D:Tb w)(q:Apart S) :
  Calls Tryz.prog 65 #[.pointer (some ⟨g,0,none⟩),.string t] w fun e w'=>e = .returned (.int .i64 (l.hears es t).2.2)∧Upd S w w'∧qb6 w' g (Fr S w w') (l.hears es t).1 (l.hears es t).2.1 sp en lo:=by
 by_cases hd:(qcc t).2=0
 ·obtain⟨O,N,x,I,E,y,m⟩:=o.msg hd;obtain⟨J,z,K,ev,h⟩:=h;have H:=q7a t;have i:∀W,Calls Tryz.prog 105 #[.string t] W (qar (.tuple #[.agg (qcc t).1.cells.toArray,.int .i64 0]) W):=fun W=>by
   have:=qiz t W;rw[hd] at this;exact this
  have v:l.hears es t=l.hearD es (qcc t).1 t (l.c.hears (qcc t).1):=by unfold Lk.hears;rw[if_pos hd]
  rw[v];have C:=fun a (n:qq w a)=>qz6 en z l.c (qcc t).1 H a (h.lk.chn.new n) N (D.new n) (q.mono (fun k e=>h.in0 k (h.lk.inC k e))) O x
  generalize l.c.hears (qcc t).1=r at C I E m ⊢;obtain⟨c',P,M⟩:=r;exact q0g g S J l ev es sp en lo z K (qcc t).1 c' P M t w h o.lk D.tabs ⟨q.c,q.d⟩ I E y m o.es H.len o.size i C
 ·have v:l.hears es t=(l,es,(qcc t).2):=by unfold Lk.hears;rw[if_neg hd]
  rw[v];refine(q0f g t w (by simpa using hd)).mono ?_;rintro e w' ⟨rfl,n⟩;have x:=h.lt;exact⟨rfl,n.mono (fun _ _ h=>h.elim),(h.new n).wider (fun k e=> .inl e) (fun k e=>e.elim (fun e=>by have:=x k e;have:=n.size;omega) (fun e=>e.2))⟩
def frT(r:ByteArray):ByteArray:=(r.extract 0 (2+hd r).toNat).extract 2 (2+hd r).toNat
def frR(r:ByteArray):ByteArray:=r.extract (2+hd r).toNat r.size
theorem q3v{r:ByteArray}(h:qfl r):(frR r).size<r.size:=by
 have i:=h.1;have m:=qx7 r;have o:=h.2.2;unfold frR;rw[ByteArray.size_extract];omega
inductive Bts:Lk→List EvV→Lk→List EvV→Int→Prop
 | stop (l:Lk) (es:List EvV) (h:¬qfl l.rest):Bts l es l es (if qdv l.rest=true then 80 else 0)
 | err (l:Lk) (es:List EvV) (h:qfl l.rest) (ho:LHearOk {l with rest:=frR l.rest} es (frT l.rest)) (he:(Lk.hears {l with rest:=frR l.rest} es (frT l.rest)).2.2≠0):Bts l es {(Lk.hears {l with rest:=frR l.rest} es (frT l.rest)).1 with broken:=true} (Lk.hears {l with rest:=frR l.rest} es (frT l.rest)).2.1 (Lk.hears {l with rest:=frR l.rest} es (frT l.rest)).2.2
 | step (l:Lk) (es:List EvV) (h:qfl l.rest) (ho:LHearOk {l with rest:=frR l.rest} es (frT l.rest)) (he:(Lk.hears {l with rest:=frR l.rest} es (frT l.rest)).2.2=0) (L:Lk) (ES:List EvV) (E:Int) (next:Bts (Lk.hears {l with rest:=frR l.rest} es (frT l.rest)).1 (Lk.hears {l with rest:=frR l.rest} es (frT l.rest)).2.1 L ES E):Bts l es L ES E
def q1s(l:Lk)(es:List EvV)(t:ByteArray)(L:Lk)(i:List EvV)(E:Int):Prop :=
 LHearOk l es t∧(((l.hears es t).2.2≠0∧L = {(l.hears es t).1 with broken:=true} ∧ i=(l.hears es t).2.1∧E=(l.hears es t).2.2)∨((l.hears es t).2.2=0∧Bts (l.hears es t).1 (l.hears es t).2.1 L i E))
theorem Bts.cases'{l:Lk}{es:List EvV}{L:Lk}{i:List EvV}{E:Int}(h:Bts l es L i E):(¬qfl l.rest∧L=l∧i=es∧E=if qdv l.rest=true then 80 else 0)∨(qfl l.rest∧q1s {l with rest:=frR l.rest} es (frT l.rest) L i E):=by
 cases h with
 | stop l es h=>exact .inl ⟨h,rfl,rfl,rfl⟩
 | err l es h o m=>exact .inr ⟨h,o,.inl ⟨m,rfl,rfl,rfl⟩⟩
 | step l es h o m L i E next=>exact .inr ⟨h,o,.inr ⟨m,next⟩⟩
def qh8(w:World)(b:Nat):Nat:=match w.cell? ⟨b,0,none⟩ with | some (.string r)=>r.size | _=>0
theorem qj6{w:World}{b:Nat}{r:ByteArray}(h:Spl w b r):qh8 w b=r.size:=by
 unfold qh8;rw[h.cell]
theorem qwi(g:Nat)(S:Nat→Prop)(l L:Lk)(es D:List EvV)(E:Int)(s:ByteArray)(sp en lo:Nat)(w:World)(h:qb6 w g S l es sp en lo)(b4:l.dead=false)(hb:l.broken=false)(a6:qdv l.rest=false)(c8:l.rest.size+s.size≤1000000000)(hT:Tb w)(hA:Apart S)(hB:Bts {l with rest:=l.rest++s} es L D E) :
  Calls Tryz.prog 24 #[.pointer (some ⟨g,0,none⟩),.string s] w fun e w'=>e = .returned (.int .i64 E)∧Upd S w w'∧qb6 w' g (Fr S w w') L D sp en lo:=by
 have K:Spl w sp l.rest:=h.spl
 obtain⟨c0,c6,c7,-⟩:=h.cells
 rw[b4] at c6
 rw[hb] at c7
 have HP:=qj h
 have HB:=qj hB
 have HT:=qj (And.intro hT hA)
 have c4:=h.ne
 clear h b4 hb hB hT hA
 go_enter Tryz.func24,Tryz.ntmps24
 go_wp2_with fail
 refine(qez sp _ w K.cell a6).mono ?_
 rintro e w1 ⟨rfl,q1⟩
 have hp:=qyh sp _ s w1 (K.q q1) a6 (by omega)
 have d0:=q1.cell c0
 have a7:=qj ((qg HP).new (q1.upd _))
 have U1:=qj (q1.upd (fun _=>False))
 clear q1 K c0 c6 c7
 go_wp2_with fail
 refine hp.mono ?_
 rintro e w2 ⟨rfl,u2,s2⟩
 have a2:=(qg a7).split u2 s2
 have d2:=u2.cell d0 c4
 have U2:=qj (show Upd S w w2 from(((qg U1).mono (fun _ _ h=>h.elim)).trans u2).mono (fun k _ e=>by have e:k=sp:=e;rw[e];exact(qg HP).inSp))
 have b8:=(qg HP).lt
 have I:=qj b8
 have b5:=(qg HP).inSp
 have c2:=qj b5
 generalize b7:({l with rest:=l.rest++s} : Lk)=l1 at a2 HB
 have c1:l1.rest=l.rest++s:=by rw[←b7]
 rw[←c1] at s2
 have a8:=qj a2
 clear hp u2 a2 d0 a7 U1 b7 c1 a6 c8 b8 b5 HP
 have o:∀(W:World) (M:Lk) (v:List EvV),Hid (Bts M v L D E)→Hid (qb6 W g (Fr S w W) M v sp en lo)→Hid (Upd S w W)→Spl W sp M.rest →
   Calls Tryz.prog 64 #[.pointer (some ⟨sp,0,none⟩)] W fun e m=>∃t b,e = .returned (.tuple #[.string t,.bool b]) ∧
    ((b=true∧qh8 m sp<qh8 W sp∧Hid (∃y,Upd S w m∧qb6 m g (Fr S w m) y v sp en lo∧q1s y v t L D E))∨(b=false∧Hid (Upd S w m∧qb6 m g (Fr S w m) L D sp en lo∧E=if qdv L.rest=true then 80 else 0))):=by
  intro W M v hB z hU hs
  have d5:=(qg hU).size
  have key:∀(m:World) (r:ByteArray),Upd (fun k=>k=sp) W m→Spl m sp r→Upd S w m∧qb6 m g (Fr S w m) {M with rest:=r} v sp en lo:=by
   intro m r u s';have hz:=u.size;have uS:Upd S w m:=(qg hU).then u (fun k _ e=>by have e:k=sp:=e;rw[e];exact qg c2);exact⟨uS,((qg z).split u s').wider (fun k e=>e.imp id (fun e=>⟨e.1,by omega⟩)) (fun k e=>e.elim (fun e=>by have:=qg I k e;omega) (fun e=>e.2))⟩
  rcases (qg hB).cases' with ⟨hn,h1,h2,O⟩ | ⟨hR,hK⟩
  ·refine(que sp _ W hs hn).mono ?_;rintro e m ⟨rfl,u,s'⟩;obtain⟨k1,k2⟩:=key m _ u s';refine⟨_,_,rfl,.inr ⟨rfl,qj ⟨k1,?_,?_⟩⟩⟩
   ·rw[h1,h2];exact k2
   ·rw[h1];exact O
  ·refine(qnx sp _ W hs hR).mono ?_;rintro e m ⟨rfl,u,s'⟩;obtain⟨k1,k2⟩:=key m _ u s';refine⟨_,_,rfl,.inl ⟨rfl,?_,qj ⟨_,k1,k2,hK⟩⟩⟩;rw[qj6 hs,qj6 s'];exact q3v hR
 have Z:=qj o
 have c9:=(qg U2).size
 have b9:=o w2 l1 es HB (qj ((qg a8).wider (fun k e=> .inl e) (fun k e=>e.elim (fun e=>by have:=qg I k e;omega) (fun e=>e.2)))) U2 s2
 clear o s2
 go_wp2_with fail
 refine b9.mono ?_
 rintro e w3 ⟨t,b,rfl,O⟩
 have b0:(b=true∧Hid (∃y,Upd S w w3∧qb6 w3 g (Fr S w w3) y es sp en lo∧q1s y es t L D E))∨(b=false∧Hid (Upd S w w3∧qb6 w3 g (Fr S w w3) L D sp en lo∧E=if qdv L.rest=true then 80 else 0)):=O.imp (fun h=>⟨h.1,h.2.2⟩) id
 have H3:=qj b0
 clear b9 O b0 d2 a8 U2 c9 HB
 go_wp2_with fail
 go_loopw [5,6,7] (fun tv bv ev wr=>∃t b,tv = .string t∧bv = .bool b∧Hid ((b=true∧Hid (∃y v,Upd S w wr∧qb6 wr g (Fr S w wr) y v sp en lo∧q1s y v t L D E))∨(b=false∧Hid (Upd S w wr∧qb6 wr g (Fr S w wr) L D sp en lo∧E=if qdv L.rest=true then 80 else 0)))) (fun _ bv _ wr=>match bv with | .bool true=>1+qh8 wr sp | _=>0)
 case atStart=>exact⟨t,b,rfl,rfl,qj ((qg H3).imp (fun h=>⟨h.1,qj (by obtain⟨y,x⟩:=qg h.2;exact⟨y,es,x⟩)⟩) id)⟩
 case round =>
  obtain⟨N,rfl⟩:∃N:World,N=wr:=⟨_,rfl⟩;obtain⟨t,b,rfl,rfl,hrel⟩:=hrel;clear H3;rcases qg hrel with ⟨rfl,H⟩ | ⟨rfl,H⟩
  ·obtain⟨M,v,u,z,hO,hK⟩:=qg H;have b2:Tb N:=(qg HT).1.upd u (qg HT).2;have b1:Apart (Fr S w N):=(qg HT).2.fr (qg HT).1 N;have hh:=qz7 g _ M v sp en lo t N z hO b2 b1;have i:=qwa M v t;have C:=z.lt;have J:qh8 N sp=M.rest.size:=qj6 z.spl;generalize c5:M.hears v t=R at hh hK i;obtain⟨M2,a1,er⟩:=R;have HK:=qj hK;have HX:=qj (And.intro u (And.intro i (And.intro J C)));clear hrel H u z hO hK b2 b1 i c5 C J;simp only at hh HK HX;go_wp2_with fail;refine hh.mono ?_;rintro e V ⟨rfl,u4,h4⟩;obtain⟨u,i,J,C⟩:=qg HX;have d4:=u4.size;have d1:=u.size;have uS:Upd S w V:=u.then u4 (fun k hk e=>e.elim id (fun e=>by omega));have h5:qb6 V g (Fr S w V) M2 a1 sp en lo:=h4.wider (fun k e=>e.elim (fun e=>e.imp id (fun e=>⟨e.1,by omega⟩)) (fun e=> .inr ⟨by omega,e.2⟩)) (fun k e=>e.elim (fun e=>by have:=qg I k e;omega) (fun e=>e.2));have h6:=h5.cells;have U:=h5.spl;have H5:=qj h5;have US:=qj uS;have HM:=qj (show qh8 V sp=qh8 N sp by rw[J,qj6 U,i]);clear hh u4 h4 u i C h5 uS J HX;rcases qg HK with ⟨he,h1,h2,O⟩ | ⟨he,hB⟩
   ·have d3:(er != 0)=true:=by simpa using he
    obtain⟨-,-,d7,f7⟩:=h6;have H6:=qj (And.intro (qg H5).breaks (And.intro (show Upd S w (V.setCell ⟨g,7,none⟩ (.bool true)) from(qg US).then ((Upd.refl (· = g) _).set1 _ _) (fun k hk e=>by have e:k=g:=e;have:=(qg H5).inG;rw[e] at hk ⊢;exact this.elim id (fun e=>by omega))) (And.intro h1 (And.intro h2 O))));have d6:V.heap.size≤(V.setCell ⟨g,7,none⟩ (.bool true)).heap.size:=((Upd.refl (· = g) V).set1 7 (.bool true)).size;clear he h1 h2 O U HM Z HK;go_wp2_with fail;go_ret;obtain⟨h7,u7,h1,h2,O⟩:=qg H6;refine⟨by rw[O];rfl,u7,?_⟩;rw[h1,h2];exact h7.wider (fun k e=>e.imp id (fun e=>⟨e.1,by omega⟩)) (fun k e=>e.elim (fun e=>by have:=qg I k e;omega) (fun e=>e.2))
   ·subst he;obtain⟨d0,-⟩:=h6;have hn:=qg Z V M2 a1 (qj hB) H5 US U;clear hB U H5 US HK;go_wp2_with fail;refine hn.mono ?_;rintro e X ⟨t6,b6,rfl,h6⟩;have H6:Hid ((b6=true∧Hid (∃y v,Upd S w X∧qb6 X g (Fr S w X) y v sp en lo∧q1s y v t6 L D E))∨(b6=false∧Hid (Upd S w X∧qb6 X g (Fr S w X) L D sp en lo∧E=if qdv L.rest=true then 80 else 0))):=qj (h6.imp (fun h=>⟨h.1,qj (by obtain⟨y,x⟩:=qg h.2.2;exact⟨y,a1,x⟩)⟩) id);have c3:Hid ((match Value.bool b6 with | .bool true=>1+qh8 X sp | _=>0)<1+qh8 N sp):=qj (by
     rcases h6 with ⟨rfl,h,-⟩ | ⟨rfl,-⟩
     ·have:=qg HM;show 1+qh8 X sp<_;omega
     ·show 0<_;omega)
    clear hn h6 d0 HM;go_wp2_with fail;go_roundw
    case rel=>exact⟨t6,b6,rfl,rfl,H6⟩
    case measure=>exact qg c3
  ·obtain⟨u,z,hE⟩:=qg H;obtain⟨d0,-⟩:=z.cells;have b3:=qq8 sp _ N z.spl.cell;have H7:=qj (And.intro u (And.intro z hE));clear hrel H u z hE Z;go_wp2_with fail;refine b3.mono ?_;rintro e w5 ⟨rfl,q5⟩;obtain⟨u,z,hE⟩:=qg H7;have hz:=(q5.upd (fun _=>False)).size;have d1:=u.size;have H8:=qj (And.intro (show Upd S w w5 from u.trans (q5.upd _)) (And.intro ((show qb6 w5 g (Fr S w w5) L D sp en lo from(z.new (q5.upd _)).wider (fun k e=>e.imp id (fun e=>⟨e.1,by omega⟩)) (fun k e=>e.elim (fun e=>by have:=qg I k e;omega) (fun e=>e.2)))) hE));clear b3 q5 H7 u z hE;cases P:qdv L.rest with
   | false =>
    have Y:=qj P;clear P;go_wp2_with fail
    all_goals
     go_ret;refine⟨?_,(qg H8).1,(qg H8).2.1⟩;rw[(qg H8).2.2,qg Y];rfl
   | true =>
    have Y:=qj P;clear P;go_wp2_with fail
    all_goals
     go_ret;refine⟨?_,(qg H8).1,(qg H8).2.1⟩;rw[(qg H8).2.2,qg Y];rfl
attribute [local go_sem ↓ high] ze zf zg zj qak
attribute [local go_sem] qau qav qaw qy zz qck
theorem qsx(g:Nat)(S:Nat→Prop)(l:Lk)(sp en lo:Nat)(SC SJ:Nat→Prop)(F:FuncId)(T m:Array Value)(va:Option Addr)(vn vc:Nat)(w:World)(h:LkP w g S l sp en lo SC SJ)(C:l.dead=false)(D:l.waits=true) :
  Calls Tryz.prog 45 #[.pointer (some ⟨g,0,none⟩),.func (.func F) T m,.slice va vn vc] w fun e w'=>e = .returned (.tuple #[.agg MsgV.zero.cells.toArray,.int .i64 5])∧qq w w':=by
 have b9:∀(fn:Fn) (first cap:Array Value) (w:World),(Instr.makeFunc fn first cap).run Tryz.prog w = .ok (.func fn first cap) w:=fun _ _ _ _=>rfl
 have b3:=qj h.lt
 have b8:=h.lt g h.inG
 obtain⟨q,o⟩:∃q,q=(((w.alloc (.cells #[.pointer (some ⟨g,0,none⟩)] 28)).alloc (.cells #[.func (.func F) T m] 109)).alloc (.cells MsgV.zero.cells.toArray 101)).alloc (.cells MsgV.zero.cells.toArray 101):=⟨_,rfl⟩
 have n4:qq w q:=by rw[o];exact((((Upd.refl _ _).alloc _).alloc _).alloc _).alloc _
 have z4:q.heap.size=w.heap.size+4:=by rw[o];simp only[World.size_alloc]
 have bL:q.cell? ⟨w.heap.size,0,none⟩=some (.pointer (some ⟨g,0,none⟩)):=by
  rw[o];exact qk (qx (qx (qx (ql _ _) _) _) _) 0
 have bC:q.cell? ⟨w.heap.size+1,0,none⟩=some (.func (.func F) T m):=by
  rw[o];have:=ql (w.alloc (.cells #[.pointer (some ⟨g,0,none⟩)] 28)) (.cells #[.func (.func F) T m] 109);rw[World.size_alloc] at this;exact qk (qx (qx this _) _) 0
 have bR:MsB q (w.heap.size+2) MsgV.zero:=by
  rw[o];have:=ql ((w.alloc (.cells #[.pointer (some ⟨g,0,none⟩)] 28)).alloc (.cells #[.func (.func F) T m] 109)) (.cells MsgV.zero.cells.toArray 101);rw[World.size_alloc,World.size_alloc] at this;exact⟨qx this _,qu⟩
 have bM:MsB q (w.heap.size+3) MsgV.zero:=by
  rw[o];have:=ql (((w.alloc (.cells #[.pointer (some ⟨g,0,none⟩)] 28)).alloc (.cells #[.func (.func F) T m] 109)).alloc (.cells MsgV.zero.cells.toArray 101)) (.cells MsgV.zero.cells.toArray 101);rw[World.size_alloc,World.size_alloc,World.size_alloc] at this;exact⟨this,qu⟩
 have HX:=qj (And.intro h (And.intro C D))
 clear h C D
 go_enter Tryz.func45,Tryz.ntmps45
 go_upto_region 2 with fail
 rw[←o]
 have bR:MsB q (w.heap.size+1+1) MsgV.zero:=bR
 have bM:MsB q (w.heap.size+1+1+1) MsgV.zero:=bM
 have HW:=qj z4
 clear o z4
 generalize hZ:w.heap.size=Z at *
 have HZ:=qj hZ
 clear hZ
 have a1:q.drew.cell? ⟨Z,0,none⟩=some (.pointer (some ⟨g,0,none⟩)):=bL
 have HB:=qj (And.intro bL (And.intro bC (And.intro bR bM)))
 have N4:=qj n4
 clear bL bC bR bM n4
 refine qay (fun w'=>w'.cell? ⟨Z,0,none⟩=some (.pointer (some ⟨g,0,none⟩))) [0,1,4] (.of [0,1,2,3,4,5,6,7,8,9,10]) (by kernel_rfl) (by kernel_rfl) a1 ?_
 simp only[Plan.of]
 go_wp2_with ((with_reducible first|rfl|refine' ut ?_ ?_;rotate_left|refine' uu ?_)<;>intros)
 refine(qjn g _ _ _ q.drew).mono ?_
 rintro e J ⟨M,N,rfl,n5,t,v,H,I,d0,d1⟩
 have n5:=n5.ofDrew
 have O:=n5.cell (qg HB).1 (fun h=>h)
 have HD:=qj (And.intro n5 (And.intro t (And.intro v (And.intro H (And.intro I (And.intro d0 d1))))))
 clear n5 t v H I d0 d1 a1
 go_wp2_with (first | ((with_reducible first|rfl|refine' ut ?_ ?_;rotate_left|refine' uu ?_)<;>intros) | refine⟨O,?_⟩)
 have U:qq J (J.alloc (.cells #[.func (.func 87) #[.pointer (some ⟨g,0,none⟩)] #[],.func (.func 88) #[] #[.pointer (some ⟨Z+1,0,none⟩),.pointer (some ⟨Z+1+1+1,0,none⟩)],.func (.func 112) #[] #[.pointer (some ⟨M,0,none⟩),.pointer (some ⟨N,0,none⟩)],.func (.func 89) #[] #[.pointer (some ⟨Z,0,none⟩),.pointer (some ⟨Z+1+1+1,0,none⟩)]] 62)):=(Upd.refl _ _).alloc _
 have R:=ql J (.cells #[.func (.func 87) #[.pointer (some ⟨g,0,none⟩)] #[],.func (.func 88) #[] #[.pointer (some ⟨Z+1,0,none⟩),.pointer (some ⟨Z+1+1+1,0,none⟩)],.func (.func 112) #[] #[.pointer (some ⟨M,0,none⟩),.pointer (some ⟨N,0,none⟩)],.func (.func 89) #[] #[.pointer (some ⟨Z,0,none⟩),.pointer (some ⟨Z+1+1+1,0,none⟩)]] 62)
 have zW:(J.alloc (.cells #[.func (.func 87) #[.pointer (some ⟨g,0,none⟩)] #[],.func (.func 88) #[] #[.pointer (some ⟨Z+1,0,none⟩),.pointer (some ⟨Z+1+1+1,0,none⟩)],.func (.func 112) #[] #[.pointer (some ⟨M,0,none⟩),.pointer (some ⟨N,0,none⟩)],.func (.func 89) #[] #[.pointer (some ⟨Z,0,none⟩),.pointer (some ⟨Z+1+1+1,0,none⟩)]] 62)).heap.size=J.heap.size+1:=World.size_alloc _ _
 generalize J.alloc (.cells #[.func (.func 87) #[.pointer (some ⟨g,0,none⟩)] #[],.func (.func 88) #[] #[.pointer (some ⟨Z+1,0,none⟩),.pointer (some ⟨Z+1+1+1,0,none⟩)],.func (.func 112) #[] #[.pointer (some ⟨M,0,none⟩),.pointer (some ⟨N,0,none⟩)],.func (.func 89) #[] #[.pointer (some ⟨Z,0,none⟩),.pointer (some ⟨Z+1+1+1,0,none⟩)]] 62)=W at U R zW ⊢
 have a2:=U.cell O (fun h=>h)
 refine⟨a2,?_⟩
 obtain⟨E,t,v,H,I,d0,d1⟩:=qg HD
 obtain⟨h,C,D⟩:=qg HX
 have V:qq w W:=((qg N4).trans E).trans U
 have z4:=qg HW
 have z5:=E.size
 have t:q.heap.size≤M:=t
 have v:q.heap.size≤N:=v
 have K:qhm W J.heap.size 4 q1w (qsw g) (qi9 Z (Z+1) (Z+1+1+1) M N):=by
  intro i hi;rcases (by omega:i=0∨i=1∨i=2∨i=3) with rfl | rfl | rfl | rfl
  ·exact qk R 0
  ·exact qk R 1
  ·exact qk R 2
  ·exact qk R 3
 have hS:∀k,Z≤k→¬S k:=fun k hk e=>by have:=qg b3 k e;omega
 have b7:=qg HZ
 have b2:=((qg HB).2.2.2.new E).new U
 have a6:=((qg HB).2.2.1.new E).new U
 have a8:∀X,qq w X→X.cell? ⟨g,8,none⟩=some (.bool true):=fun X n=>D▸qk (h.new n).at_ 8
 have y:=qrn g J.heap.size 4 q1w (qsw g) (qi9 Z (Z+1) (Z+1+1+1) M N) (fun _=>False) (fun i a=>i=0∧qq W a) (fun x a=>x=5∧qq W a) W (by decide) (C▸qk (h.new V).at_ 6) K (fun h=>h) (by
  rintro i hi a ⟨rfl,nA⟩;refine⟨enters_of Tryz.func87 (by kernel_rfl) rfl,?_⟩;refine(quq g a (a8 a (V.trans nA))).mono ?_;rintro e a' ⟨rfl,rfl⟩;exact⟨Upd.refl _ _,.inr ⟨5,by decide,rfl,rfl,nA⟩⟩) ⟨rfl,Upd.refl _ _⟩
 clear a8
 have NN:=qj V
 have Y:=qj a6
 have b1:=qj (And.intro z4 (And.intro z5 zW))
 have b6:=qj hS
 clear K R b2 a6 hS V U E t v H I d0 d1 h C D z4 z5 zW HD HB O a2 bR bM
 generalize J.heap.size=bb at *
 go_wp2_with ((with_reducible first|rfl|refine' ut ?_ ?_;rotate_left|refine' uu ?_)<;>intros)
 refine y.mono ?_
 rintro e w6 ⟨u6,(⟨rfl,he,b0⟩ | ⟨x,b4,rfl,he,b0⟩)⟩
 ·cases he
 ·have he:x=5:=he;subst he;have P:=(qg Y).upd u6 (fun e=>e);have b5:=P.stOk (k:=MsgV.zero) qu;have a7:=P.put (k:=MsgV.zero) qu;have u7:Upd (· = Z+1+1) w6 (w6.setCells (Z+1+1) 0 MsgV.zero.cells):=zy _;have hF:=a7.at_;have HQ:=qj (And.intro u6 u7);clear P a7 u7 u6 b0 y Y HX N4 b4;go_wp2_with ((with_reducible first|rfl|refine' ut ?_ ?_;rotate_left|refine' uu ?_)<;>intros);refine bodyPost_ret (zb rfl _ _ (Z+1+1) _ _ _ _ rfl hF Tryz.underlying101 rfl (by rw[List.size_toArray,MsgV.len _ qu];exact Tryz.infoMsg)) rfl ?_;obtain⟨u6,u7⟩:=qg HQ;have V:=qg NN;have z:=qg b1;have zw:=qg HZ;exact⟨rfl,((V.trans u6).then u7 (fun k hk e=>by omega))⟩
end
section
open Go.RowKit
attribute [local go_sem ↓ high] ze zf zg zj qak
attribute [local go_sem] qau qav qaw qy zz qck
theorem qyw{l:Lk}{c':Ch}{rec:ByteArray}{m:MsgV}{i:Int} : (l.acts c' rec m i).dead=l.dead:=by
 unfold Lk.acts;split<;>rfl
theorem qsr(g:Nat)(S:Nat→Prop)(l:Lk)(n:Nat)(w:World)(h:LkS w g S l)(x:LkOk l)(y:l.ticks=n)(q:n<1000000)(I:(n+1)%3≠0) :
  Calls Tryz.prog 28 #[.pointer (some ⟨g,0,none⟩)] w fun e w'=>e = .returned (.int .i64 0)∧LkS w' g S {l with ticks:=(n:Int)+1} ∧ Upd S w w':=by
 obtain⟨sp,en,lo,t,v,h⟩:=h
 have C:w.cell? ⟨g,6,none⟩=some (.bool false):=x.dead▸qk h.at_ 6
 have z:w.cell? ⟨g,5,none⟩=some (.int .i64 (n:Int)):=by rw[←y];exact qk h.at_ 5
 have H:=qo h.at_ 5
 have u:Upd (· = g) w (w.setCell ⟨g,5,none⟩ (.int .i64 ((n:Int)+1))):=(Upd.refl _ _).set1 _ _
 have m:=h.put_ticks ((n:Int)+1)
 have D:(w.setCell ⟨g,5,none⟩ (.int .i64 ((n:Int)+1))).cell? ⟨g,5,none⟩=some (.int .i64 ((n:Int)+1)):=qk m.at_ 5
 have E:(w.setCell ⟨g,5,none⟩ (.int .i64 ((n:Int)+1))).cell? ⟨g,8,none⟩=some (.bool false):=x.waits▸qk m.at_ 8
 have i:=qj (And.intro m (u.mono (T:=S) (fun k _ e=>by rw[e];exact h.inG)))
 have o:((n:Int)+1)%3=1∨((n:Int)+1)%3=2:=by omega
 have J:(n:Int)<1000000:=by omega
 clear h m u y q I
 go_enter Tryz.func28,Tryz.ntmps28
 go_upto_region 4 with fail
 generalize w.setCell ⟨g,5,none⟩ (.int .i64 ((n:Int)+1))=w1 at D E i ⊢
 clear C z H
 rcases o with o | o
 ·go_wp2_with fail;go_ret;exact⟨rfl,⟨sp,en,lo,t,v,(qg i).1⟩,(qg i).2⟩
 ·go_wp2_with fail;go_ret;exact⟨rfl,⟨sp,en,lo,t,v,(qg i).1⟩,(qg i).2⟩
noncomputable def Lk.signs(l:Lk):Lk:=l.acts l.c.sign.1 (zr 4 1) l.c.sign.2.1 l.c.sign.2.2
def qmr(i:Int):Int:=if i=5 then 0 else i
theorem qxp(g:Nat)(S:Nat→Prop)(l:Lk)(n:Nat)(w:World)(h:LkS w g S l)(C:LkOk l)(hn:l.ticks=n)(i0:n<1000000)(h3:(n+1)%3=0)(z:l.c.sign.2.2=0→SayOk l.c.sign.2.1)(M:l.c.sign.2.1.hash.length=32)(hT:Tc w)(hA:ApC S)
  (P:l.c.s.key.size≤100000000) (d0:0≤l.c.s.ch∧l.c.s.ch<4294967296) (O:l.c.news.length<1000000) (d3:l.c.xs.length≤16) :
  Calls Tryz.prog 28 #[.pointer (some ⟨g,0,none⟩)] w fun e w'=>e = .returned (.int .i64 (qmr l.c.sign.2.2))∧LkS w' g (Fr S w w') ({l with ticks:=(n:Int)+1} : Lk).signs∧Upd S w w':=by
 have j8:∀(fn:Fn) (first cap:Array Value) (w:World),(Instr.makeFunc fn first cap).run Tryz.prog w = .ok (.func fn first cap) w:=fun _ _ _ _=>rfl
 obtain⟨sp,en,lo,SC,SJ,h⟩:=h
 have c6:w.cell? ⟨g,6,none⟩=some (.bool false):=C.dead▸qk h.at_ 6
 have c5:w.cell? ⟨g,5,none⟩=some (.int .i64 (n:Int)):=by rw[←hn];exact qk h.at_ 5
 have f5:=qo h.at_ 5
 have u0:Upd (· = g) w (w.setCell ⟨g,5,none⟩ (.int .i64 ((n:Int)+1))):=(Upd.refl _ _).set1 _ _
 have b0:=hT.upd (u0.mono (T:=S) (fun k _ e=>by rw[e];exact h.inG)) hA
 have N:=h.put_ticks ((n:Int)+1)
 have d5:(w.setCell ⟨g,5,none⟩ (.int .i64 ((n:Int)+1))).cell? ⟨g,5,none⟩=some (.int .i64 ((n:Int)+1)):=qk N.at_ 5
 have d8:(w.setCell ⟨g,5,none⟩ (.int .i64 ((n:Int)+1))).cell? ⟨g,8,none⟩=some (.bool false):=C.waits▸qk N.at_ 8
 have c7:=qj (u0.mono (T:=S) (fun k _ e=>by rw[e];exact h.inG))
 have hm:((n:Int)+1)%3=0:=by omega
 have j9:(n:Int)<1000000:=by omega
 obtain⟨V,b5⟩:∃V:Lk,V = {l with ticks:=(n:Int)+1} := ⟨_,rfl⟩
 have d1:LkOk V:=by rw[b5];exact⟨C.dead,C.waits,C.fused,C.off,C.many,C.len,C.out⟩
 have g0:V.c=l.c:=by rw[b5]
 rw[←b5] at N ⊢
 rw[←g0] at z M P d0 O d3 ⊢
 have HZ:=qj u0.size
 have h7:∀a,ChS a en SC V.c→Tc a→Calls Tryz.prog 75 (#[.pointer (some ⟨en,0,none⟩)]++#[]) a fun e a'=>SaysIt en SC V.c.sign.2.1 V.c.sign.2.2 V.c.sign.1 e a a':=fun a hc ta=>by
  refine(q1j en SC V.c a hc ta (hA.mono N.inC) P d0 O d3).mono ?_;rintro e a' ⟨he,hc,u⟩;exact⟨he,hc,u⟩
 unfold Lk.signs
 rw[←qx9 (zr 4 1)]
 obtain⟨l,rfl⟩:∃l,l=V:=⟨_,rfl⟩
 generalize l.c.sign.1=c' at *
 generalize l.c.sign.2.1=J at *
 generalize l.c.sign.2.2=er at *
 obtain⟨MM,c9⟩:∃MM,MM=ql3 J er:=⟨_,rfl⟩
 have y:MM.hash.length=32:=by rw[c9];exact qmu M
 have Y:=qj c9
 obtain⟨LL,c8⟩:∃LL,LL=l.acts c' (qab [zr 4 1]) J er:=⟨_,rfl⟩
 have h8:LL.dead=false:=by rw[c8,qyw];exact d1.dead
 have I:=qj c8
 clear c9 c8 P d0 O d3
 clear h hn i0 h3 C u0 hT b5 g0
 go_enter Tryz.func28,Tryz.ntmps28
 go_upto_region 4 with fail
 generalize w.setCell ⟨g,5,none⟩ (.int .i64 ((n:Int)+1))=w1 at d5 d8 N b0 c7 HZ ⊢
 clear c6 c5 f5
 have t:=N.lt
 have c1:w1.drew.cell? ⟨g,1,none⟩=some (.pointer (some ⟨en,0,none⟩)):=qk N.at_ 1
 have o:∀X,qq w1 X→X.cell? ⟨g,1,none⟩=some (.pointer (some ⟨en,0,none⟩)):=fun X n=>n.cell (qk N.at_ 1) (fun h=>h)
 have hF:=fun a (W:qq w1 a)=>h7 a (N.chn.new W) (b0.new W)
 have k0:qq w1 w1.drew:=(Upd.refl _ _).drew
 have HL:=qj N
 have b6:(qab [zr 4 1]).size≤1024:=by rw[qx9,qaq];decide
 have hT:=b0.tabs
 have f9:=hA
 have hA:ApD S:=⟨f9.c,f9.d⟩
 have C:=d1
 go_upto_region 6 with fail
 rw[hm]
 clear d5 d8 hm
 have h9:∀X S',LkE X g S' sp en lo LL→Upd S w1 X→X.cell? ⟨g,1,none⟩=some (.pointer (some ⟨en,0,none⟩)):=fun X S' h _=>h.end_
 clear N b0 d1
 go_cut [3,4] from 28 to 39 (fun kv ev wx=>∃K,kv = .pointer (some ⟨K,0,none⟩)∧ev = .int .i64 er∧MsB wx K MM∧LkE wx g (Fr S w1 wx) sp en lo LL∧Upd S w1 wx∧w1.heap.size≤K)
 case first =>
  refine qay (fun w'=>w'.cell? ⟨g,1,none⟩=some (.pointer (some ⟨en,0,none⟩))) [4] (.fork (.of [12,0,1,2,3,4,5,6,7,8,9,10,11,13,14]) (Plan.pre [0,1,2,3,4,5,6] (.fork (.of [12,7,8,9,10,11,13,14]) (Plan.pre [7] (.fork (.of [12,8,9,10,11,13,14]) (.of [8,9,10,11,12,13,14])))))) (by kernel_rfl) (by kernel_rfl) c1 ?_;simp only[Plan.of,Plan.pre];refine qf ?_ ?_
  ·skip
   try go_wp2_with ((with_reducible first|rfl|refine' ut ?_ ?_;rotate_left|refine' uu ?_)<;>intros)
   have m1:qq w1 (w1.alloc (.cells MsgV.zero.cells.toArray 101)).drew:=((Upd.refl _ _).alloc _).drew;have b1:MsB (w1.alloc (.cells MsgV.zero.cells.toArray 101)).drew w1.heap.size MsgV.zero:=(qa6 w1 MsgV.zero qu).new (Upd.drew (Upd.refl (fun _=>False) _));obtain⟨K1,e1⟩:∃K,K=w1.heap.size:=⟨_,rfl⟩;have n1:qq w1 (w1.alloc (.cells MsgV.zero.cells.toArray 101)).drew:=m1
   first | refine⟨o _ n1,?_⟩ | skip
   have y1:=b1.lt;generalize (w1.alloc (.cells MsgV.zero.cells.toArray 101)).drew=i6 at m1 b1 n1 y1 ⊢;have q1:=o _ n1;rw[←e1] at b1 y1 ⊢;have E1:=qj e1;have g1:w1.heap.size≤K1:=by rw[e1];exact Nat.le_refl _
   clear e1
   try go_wp2_with ((with_reducible first|rfl|refine' ut ?_ ?_;rotate_left|refine' uu ?_)<;>intros)
   refine(qcy 4 1 i6 (by decide) (by decide) (by decide)).mono ?_;rintro e g9 ⟨rfl,m2⟩;have n2:qq w1 g9:=n1.trans m2;have b2:=b1.new m2;have q2:=o _ n2;go_wp2_with (first | ((with_reducible first|rfl|refine' ut ?_ ?_;rotate_left|refine' uu ?_)<;>intros) | refine⟨o _ n2,?_⟩);obtain⟨B3,j0,i3,e3,m3,r3,z3⟩:=qer g9 #[.string (zr 4 1)];have n3:=n2.trans m3;have y3:=n2.size;have b3:=b2.new m3;have a3:=b2.lt;rw[i3,e3]
   first | refine⟨o _ n3,?_⟩ | skip
   clear m3 i3;have q3:=o _ n3
   try go_wp2_with ((with_reducible first|rfl|refine' ut ?_ ?_;rotate_left|refine' uu ?_)<;>intros)
   have m:=qgt g B3 S l sp en lo SC SJ 75 #[.pointer (some ⟨en,0,none⟩)] #[] J er c' [zr 4 1] j0 ((qg HL).new n3) C M z (hT.new n3) hA (enters_of Tryz.func75 (by kernel_rfl) rfl) (fun a W=>hF a (n3.trans W)) (fun j x R=>by
    cases j with
    | zero =>
     obtain rfl:zr 4 1=x:=by simpa using R
     exact qk r3 0
    | succ j=>simp at R) (by decide) b6 (by omega) (fun e=>by have:=t _ e;omega)
   rw[←qg Y,←qg I] at m;refine m.mono ?_;rintro e e5 ⟨rfl,l4,v4⟩;have u4:Upd S w1 e5:=(n3.mono (fun _ _ h=>h.elim)).trans v4;have x4:=n3.size;have y4:=v4.size;have b4:=b3.upd v4 (fun e=>by have:=t _ e;omega);clear m v4;have d2:=b4.stOk y;have c5:=b4.put y;have x5:Upd (· = K1) e5 _:=zy (w:=e5) (b:=K1) MM.cells;have H:=qj (And.intro c5 (And.intro x5 (And.intro l4 u4)));have k5:=x5.size;clear c5 x5
   try go_wp2_with ((with_reducible first|rfl|refine' ut ?_ ?_;rotate_left|refine' uu ?_)<;>intros)
   go_meet
   case rel =>
    obtain⟨c,x,l,u⟩:=qg H;have E:=qg E1;exact⟨K1,rfl,rfl,c,qdm l x t (by omega) (by omega) (by omega),u.then x (fun i hi e=>by omega),by omega⟩
  ·skip
   try go_wp2_with ((with_reducible first|rfl|refine' ut ?_ ?_;rotate_left|refine' uu ?_)<;>intros)
   refine(qcy 4 1 w1.drew (by decide) (by decide) (by decide)).mono ?_;rintro e e4 ⟨rfl,m6⟩;replace m6:=m6.ofDrew;have n6:qq w1 e4:=m6;have q6:=o _ n6;go_wp2_with (first | ((with_reducible first|rfl|refine' ut ?_ ?_;rotate_left|refine' uu ?_)<;>intros) | refine⟨o _ n6,?_⟩);refine qf ?_ ?_
   ·skip
    try go_wp2_with ((with_reducible first|rfl|refine' ut ?_ ?_;rotate_left|refine' uu ?_)<;>intros)
    obtain⟨K7,i9,i7,e7,m7,b7⟩:=qgv e4;rw[i7,e7];have n7:=n6.trans m7
    first | refine⟨o _ n7,?_⟩ | skip
    have y7:=b7.lt;have q7:=o _ n7;have E7:=qj e7.symm;have g7:w1.heap.size≤K7:=by rw[←e7];exact n6.size
    clear e7 i7
    try go_wp2_with ((with_reducible first|rfl|refine' ut ?_ ?_;rotate_left|refine' uu ?_)<;>intros)
    obtain⟨B8,j1,i8,e8,m8,r8,z8⟩:=qer i9 #[.string (zr 4 1)];have n8:=n7.trans m8;have y8:=n7.size;have b8:=b7.new m8;have a8:=b7.lt;rw[i8,e8]
    first | refine⟨o _ n8,?_⟩ | skip
    clear m8 i8;have q8:=o _ n8
    try go_wp2_with ((with_reducible first|rfl|refine' ut ?_ ?_;rotate_left|refine' uu ?_)<;>intros)
    have m:=qgt g B8 S l sp en lo SC SJ 75 #[.pointer (some ⟨en,0,none⟩)] #[] J er c' [zr 4 1] j1 ((qg HL).new n8) C M z (hT.new n8) hA (enters_of Tryz.func75 (by kernel_rfl) rfl) (fun a W=>hF a (n8.trans W)) (fun j x R=>by
     cases j with
     | zero =>
      obtain rfl:zr 4 1=x:=by simpa using R
      exact qk r8 0
     | succ j=>simp at R) (by decide) b6 (by omega) (fun e=>by have:=t _ e;omega)
    rw[←qg Y,←qg I] at m;refine m.mono ?_;rintro e e6 ⟨rfl,l9,v9⟩;have u9:Upd S w1 e6:=(n8.mono (fun _ _ h=>h.elim)).trans v9;have x9:=n8.size;have y9:=v9.size;have b9:=b8.upd v9 (fun e=>by have:=t _ e;omega);clear m v9;have d2:=b9.stOk y;have f6:=b9.put y;have e9:Upd (· = K7) e6 _:=zy (w:=e6) (b:=K7) MM.cells;have H:=qj (And.intro f6 (And.intro e9 (And.intro l9 u9)));have j3:=e9.size;clear f6 e9
    try go_wp2_with ((with_reducible first|rfl|refine' ut ?_ ?_;rotate_left|refine' uu ?_)<;>intros)
    go_meet
    case rel =>
     obtain⟨c,x,l,u⟩:=qg H;have E:=qg E7;exact⟨K7,rfl,rfl,c,qdm l x t (by omega) (by omega) (by omega),u.then x (fun i hi e=>by omega),by omega⟩
   ·skip
    try go_wp2_with ((with_reducible first|rfl|refine' ut ?_ ?_;rotate_left|refine' uu ?_)<;>intros)
    obtain⟨f2,c4,g2,h6,g4,g5,j2⟩:=qer e4 #[.string (zr 4 1)];have v:=n6.trans g4;have k6:=n6.size;rw[g2,h6]
    first | refine⟨o _ v,?_⟩ | skip
    clear g4 g2;have k1:=o _ v;refine qf ?_ ?_
    ·skip
     try go_wp2_with ((with_reducible first|rfl|refine' ut ?_ ?_;rotate_left|refine' uu ?_)<;>intros)
     obtain⟨Z,g8,g3,a6,d7,f3⟩:=qgv c4;rw[g3,a6];have D:=v.trans d7
     first | refine⟨o _ D,?_⟩ | skip
     have k7:=f3.lt;have k2:=o _ D;have i4:=d7.old g5 (fun h=>h);have l1:=Nat.lt_of_lt_of_le j2 d7.size;have h2:=qj a6.symm;have j6:w1.heap.size≤Z:=by rw[←a6];exact v.size
     clear a6 g3
     try go_wp2_with ((with_reducible first|rfl|refine' ut ?_ ?_;rotate_left|refine' uu ?_)<;>intros)
     have m:=qgt g f2 S l sp en lo SC SJ 75 #[.pointer (some ⟨en,0,none⟩)] #[] J er c' [zr 4 1] g8 ((qg HL).new D) C M z (hT.new D) hA (enters_of Tryz.func75 (by kernel_rfl) rfl) (fun a W=>hF a (D.trans W)) (fun j x R=>by
      cases j with
      | zero =>
       obtain rfl:zr 4 1=x:=by simpa using R
       exact qk i4 0
      | succ j=>simp at R) (by decide) b6 (by omega) (fun e=>by have:=t _ e;omega)
     rw[←qg Y,←qg I] at m;refine m.mono ?_;rintro e U ⟨rfl,i1,c2⟩;have i5:Upd S w1 U:=(D.mono (fun _ _ h=>h.elim)).trans c2;have k3:=D.size;have k8:=c2.size;have f4:=f3.upd c2 (fun e=>by have:=t _ e;omega);clear m c2;have d2:=f4.stOk y;have f7:=f4.put y;have f0:Upd (· = Z) U _:=zy (w:=U) (b:=Z) MM.cells;have H:=qj (And.intro f7 (And.intro f0 (And.intro i1 i5)));have j4:=f0.size;clear f7 f0
     try go_wp2_with ((with_reducible first|rfl|refine' ut ?_ ?_;rotate_left|refine' uu ?_)<;>intros)
     go_meet
     case rel =>
      obtain⟨c,x,l,u⟩:=qg H;have E:=qg h2;exact⟨Z,rfl,rfl,c,qdm l x t (by omega) (by omega) (by omega),u.then x (fun i hi e=>by omega),by omega⟩
    ·skip
     try go_wp2_with ((with_reducible first|rfl|refine' ut ?_ ?_;rotate_left|refine' uu ?_)<;>intros)
     have m:=qgt g f2 S l sp en lo SC SJ 75 #[.pointer (some ⟨en,0,none⟩)] #[] J er c' [zr 4 1] c4 ((qg HL).new v) C M z (hT.new v) hA (enters_of Tryz.func75 (by kernel_rfl) rfl) (fun a W=>hF a (v.trans W)) (fun j x R=>by
      cases j with
      | zero =>
       obtain rfl:zr 4 1=x:=by simpa using R
       exact qk g5 0
      | succ j=>simp at R) (by decide) b6 (by omega) (fun e=>by have:=t _ e;omega)
     rw[←qg Y,←qg I] at m;refine m.mono ?_;rintro e q ⟨rfl,i2,e2⟩;have g6:Upd S w1 q:=(v.mono (fun _ _ h=>h.elim)).trans e2;have k4:=v.size;have k9:=e2.size;clear m e2
     try go_wp2_with ((with_reducible first|rfl|refine' ut ?_ ?_;rotate_left|refine' uu ?_)<;>intros)
     have c0:qq q (q.alloc (.cells MsgV.zero.cells.toArray 101)):=((Upd.refl _ _).alloc _);have a2:MsB (q.alloc (.cells MsgV.zero.cells.toArray 101)) q.heap.size MsgV.zero:=qa6 q MsgV.zero qu;obtain⟨a1,a7⟩:∃K,K=q.heap.size:=⟨_,rfl⟩;have d4:=i2.new c0;have d9:=g6.trans (c0.mono (fun _ _ h=>h.elim));have h0:=c0.size;generalize (q.alloc (.cells MsgV.zero.cells.toArray 101))=c3 at c0 a2 d4 d9 h0 ⊢
     first | refine⟨h9 _ _ d4 d9,?_⟩ | skip
     rw[←a7] at a2 h0 ⊢;have h4:=qj a7;have j7:w1.heap.size≤a1:=by rw[a7];exact g6.size
     clear a7;have d2:=a2.stOk y;have f8:=a2.put y;have f1:Upd (· = a1) c3 _:=zy (w:=c3) (b:=a1) MM.cells;have H:=qj (And.intro f8 (And.intro f1 (And.intro d4 d9)));have j5:=f1.size;clear f8 f1
     try go_wp2_with ((with_reducible first|rfl|refine' ut ?_ ?_;rotate_left|refine' uu ?_)<;>intros)
     go_meet
     case rel =>
      obtain⟨c,x,l,u⟩:=qg H;have E:=qg h4;exact⟨a1,rfl,rfl,c,qnu l x t (by omega) (by omega) (by omega),u.then x (fun i hi e=>by omega),by omega⟩
 case rest =>
  obtain⟨K,rfl,rfl,hM,hl,u,hK⟩:=hcut;obtain⟨w3,rfl⟩:∃w3:World,w3=wc:=⟨_,rfl⟩;have d6:w3.cell? ⟨g,6,none⟩=some (.bool false):=by
   obtain⟨_,_,hl⟩:=hl;exact h8▸qk hl.at_ 6
  have H:=qj (And.intro hl u);clear hl u hM;by_cases h5:er=5
  ·subst h5;go_wp2_with ((with_reducible first|rfl|refine' ut ?_ ?_;rotate_left|refine' uu ?_)<;>intros);go_ret;rw[qg I] at H;exact⟨rfl,((qg H).1.s).later (qg HZ),(qg c7).trans (qg H).2⟩
  ·go_wp2_with ((with_reducible first|rfl|refine' ut ?_ ?_;rotate_left|refine' uu ?_)<;>intros);go_ret;rw[qg I] at H;refine⟨?_,((qg H).1.s).later (qg HZ),(qg c7).trans (qg H).2⟩;unfold qmr;rw[if_neg h5];rfl
end
end Go.Proofs.YtfmkdoachjgjbaaGreatDoor
