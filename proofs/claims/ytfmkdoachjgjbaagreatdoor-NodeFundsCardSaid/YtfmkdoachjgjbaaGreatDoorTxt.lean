/-
  A region that draws its order, whose operations with effects stand in a row: it may be walked in its lexical order. Operations that only compute may stand anywhere; loads wait for, or are waited for by, each operation with an effect.
-/
import Derived.Test.YtfmkdoachjgjbaaGreatDoorMab
import Derived.Test.YtfmkdoachjgjbaaGreatDoorMaa
set_option linter.unusedVariables false
set_option linter.unusedSimpArgs false
namespace Go.Proofs.YtfmkdoachjgjbaaGreatDoor
open Go.RowKit
def qbw(o:Oper):Nat :=
 match o.op with
 | .move _ | .assign _ | .pick .. | .extract .. | .fieldAddr .. | .field .. | .makeFunc .. | .nilCheck _ | .binOp .. | .unOp .. | .indexAddr .. | .index .. | .build .. | .slice .. => 0
 | .load .. | .lookup .. | .convert .. => 1
 | .call c=>match c.callee with | .builtin .len=>0 | .builtin .cap=>0 | _=>2
 | _=>2
def noQ:Exit→Act→World→Prop:=fun _ _ _=>False
section
variable {P:Program}{ops:Array Oper}{Q:Exit→Act→World→Prop}
def qdc(P:Program)(ops:Array Oper)(w:World)(o:Oper)(v:Value)(a:Act):Prop :=
 (Region.wanted o (yielded ops a.tmps)=true∧(execOp a.eval o).run P w = .ok (.value v) w)∨(Region.wanted o (yielded ops a.tmps)=false∧v=undef)
theorem qdc.of_same{o:Oper}{v:Value}{a m:Act}{w:World}(y:qdc P ops w o v a)(t:execOp m.eval o=execOp a.eval o)
  (x:Region.wanted o (yielded ops m.tmps)=Region.wanted o (yielded ops a.tmps)):qdc P ops w o v m:=by
 unfold qdc at *
 rw[t,x]
 exact y
theorem qdc.wpOp{i:Nat}{o:Oper}{v:Value}{a:Act}{w:World}(t:ops[i]? = some o)(y:qdc P ops w o v a)
  {K:Act→World→Prop} (h:K (a.put o.dst v) w):wpOp P ops Q i K a w:=by
 unfold Go.wpOp
 simp only[t]
 rcases y with ⟨m,x⟩ | ⟨m,rfl⟩
 ·simp only[m,if_true,Oper.wp,x,Oper.upon];exact .inl h
 ·simp only[m,Bool.false_eq_true,if_false];exact h
theorem qhe{o:Oper}{v u:Value}{a:Act}{w:World}(D:qdc P ops w o v a)(z:qdc P ops w o u a):v=u:=by
 rcases D with ⟨t,x⟩ | ⟨t,x⟩<;>rcases z with ⟨m,y⟩ | ⟨m,y⟩
 ·have:=x.symm.trans y;simpa using this
 ·rw[t] at m;cases m
 ·rw[t] at m;cases m
 ·rw[x,y]
def qb0(P:Program)(ops:Array Oper)(C:World→Prop)(o:Oper)(v:Value)(a:Act):Prop:=∀w,C w→qdc P ops w o v a
theorem qb0.of_same{C:World→Prop}{o:Oper}{v:Value}{a m:Act}(z:qb0 P ops C o v a)(x:execOp m.eval o=execOp a.eval o)
  (y:Region.wanted o (yielded ops m.tmps)=Region.wanted o (yielded ops a.tmps)):qb0 P ops C o v m:=fun w t=>(z w t).of_same x y
def qbz(P:Program)(ops:Array Oper)(C:World→Prop)(c:Nat)(w:World)(o:Oper)(v:Value)(a:Act):Prop:=if c=0 then qb0 P ops (fun _=>True) o v a else if c=3 then qb0 P ops C o v a else qdc P ops w o v a
theorem qbz.w{C:World→Prop}{c:Nat}{o:Oper}{v:Value}{a:Act}{w:World}(m:qbz P ops C c w o v a)(t:c=3→C w):qdc P ops w o v a:=by
 unfold qbz at m;split at m
 ·exact m w trivial
 ·split at m
  ·exact m w (t ‹_›)
  ·exact m
theorem qbz.of_same{C:World→Prop}{c:Nat}{o:Oper}{v:Value}{a t:Act}{w:World}(m:qbz P ops C c w o v a)(x:execOp t.eval o=execOp a.eval o)
  (y:Region.wanted o (yielded ops t.tmps)=Region.wanted o (yielded ops a.tmps)):qbz P ops C c w o v t:=by
 unfold qbz at *
 split at m
 ·rw[if_pos ‹_›];exact m.of_same x y
 ·rw[if_neg ‹_›];split at m
  ·rw[if_pos ‹_›];exact m.of_same x y
  ·rw[if_neg ‹_›];exact m.of_same x y
def qat(ops:Array Oper)(cl:List Nat)(i:Nat):Nat :=
 match ops[i]? with
 | none=>0
 | some o=>if qbw o==1&&cl.contains i then 3 else qbw o
def qd7(c:Nat):Bool:=c==0 || c==1 || c==3
theorem qrj{cl:List Nat}{i:Nat}{o:Oper}(t:ops[i]? = some o)(h:qd7 (qat ops cl i)=true):qbw o≤1:=by
 have e:qat ops cl i=if (qbw o==1&&cl.contains i)=true then 3 else qbw o:=by unfold qat;rw[t]
 rw[e] at h;by_cases m:(qbw o==1&&cl.contains i)=true
 ·rw[Bool.and_eq_true,beq_iff_eq] at m;omega
 ·rw[if_neg m] at h;unfold qd7 at h;simp only[Bool.or_eq_true,beq_iff_eq] at h;have:qbw o≤2:=by
   unfold qbw;split<;>(try split)<;>decide
  omega
theorem qx3{cl:List Nat}{i:Nat}(h:qat ops cl i=3):i∈cl:=by
 unfold qat at h;split at h
 ·cases h
 ·rename_i o t;split at h
  ·rename_i m;simp at m;exact m.2
  ·have:qbw o≤2:=by
    unfold qbw;split<;>(try split)<;>decide
   omega
def wpI(P:Program)(ops:Array Oper)(C:World→Prop)(cl:List Nat)(kp:Nat→Bool)(i:Nat)(K:Act→World→Prop)(a:Act)(w:World):Prop :=
 match ops[i]? with
 | none=>K a w
 | some o=>if qd7 (qat ops cl i)=true then ∃v,qbz P ops C (qat ops cl i) w o v a∧K (a.put o.dst v) w else wpOp P ops noQ i (fun m w'=>(kp i=true→C w')∧K m w') a w
section
variable {C:World→Prop}{cl:List Nat}{kp:Nat→Bool}
theorem qbs{i:Nat}{o:Oper}{K:Act→World→Prop}{a:Act}{w:World}(t:ops[i]? = some o):wpI P ops C cl kp i K a w=if qd7 (qat ops cl i)=true then ∃v,qbz P ops C (qat ops cl i) w o v a∧K (a.put o.dst v) w else wpOp P ops noQ i (fun m w'=>(kp i=true→C w')∧K m w') a w:=by
 unfold wpI;rw[t]
theorem qgh:¬LetsOut noQ:=fun⟨_,_,h⟩=>h
theorem zan{o:Oper}{a:Act}{w:World}{K:Act→World→Prop}(h:o.wp P a w K noQ):o.wp P a w K Q:=by
 unfold Oper.wp at *
 generalize (execOp a.eval o).run P w=r at *
 cases r with
 | ok n w' =>
  cases n<;>simp only[Oper.upon] at h ⊢<;>try exact h
  refine Calls.mono h fun e t m=> ?_
  cases e with
  | returned v=>exact m
  | panicked c=>exact m.elim
  | outgrown=>exact absurd m qgh
 | halt x w' =>
  cases x<;>simp only[Oper.upon] at h ⊢
  exact h.elim
theorem q6f{i:Nat}{a:Act}{w:World}{K:Act→World→Prop}(h:wpOp P ops noQ i K a w):wpOp P ops Q i K a w:=by
 unfold wpOp at *
 split
 ·rename_i m;simp only[m] at h;exact h
 ·rename_i o m;simp only[m] at h;split
  ·rename_i t;rw[if_pos t] at h;rcases h with h | h
   ·exact .inl (zan h)
   ·exact absurd h.2 qgh
  ·rename_i t;rw[if_neg t] at h;exact h
theorem q6e{i:Nat}{a:Act}{w:World}{K:Act→World→Prop}(E:qat ops cl i=3→C w)(h:wpI P ops C cl kp i K a w):wpOp P ops Q i (fun y w'=>(qd7 (qat ops cl i)=true→w'=w)∧(qd7 (qat ops cl i)=false→kp i=true→C w')∧K y w') a w:=by
 unfold wpI at h;cases m:ops[i]? with
 | none=>rw[m] at h;unfold wpOp;rw[m];exact⟨fun _=>rfl,(fun h=>by have:qat ops cl i=0:=(by unfold qat;rw[m]);rw[this] at h;cases h),h⟩
 | some o =>
  rw[m] at h;simp only at h;split at h
  ·rename_i t;obtain⟨v,z,D⟩:=h;exact(z.w E).wpOp m ⟨fun _=>rfl,(fun h=>by rw[t] at h;cases h),D⟩
  ·rename_i t;refine wpOp_mono (fun a w x=>⟨fun h=>absurd h t,fun _=>x.1,x.2⟩) (q6f h)
theorem qqx{j:Nat}{t y:Oper}{v:Value}(V:ops[j]? = some y)(I:t.apart ops y=true)(J:∀cs b,t.op ≠ .select cs b)(M:∀cs b,y.op ≠ .select cs b)
  {K:Act→World→Prop} {a:Act} {w:World} (z:qb0 P ops C t v a) (h:wpOp P ops noQ j K (a.put t.dst v) w) :
  wpOp P ops noQ j (fun R w'=>qb0 P ops C t v R∧K (R.put t.dst v) w') a w:=by
 obtain⟨T,E,U⟩:=Oper.apart_spec I
 have m:∀(a:Act),qb0 P ops C t v a→∀u,qb0 P ops C t v (a.put y.dst u):=fun a z u =>
  z.of_same (execOp_put t J a y.dst u U) (wanted_put t a y.dst u U)
 have D:∀d,qb0 P ops C t v {a with defers:=d::a.defers} := fun d=>z.of_same rfl rfl
 unfold wpOp at *
 simp only[V] at *
 rw[wanted_put y a t.dst v T] at h
 split
 ·rename_i N;simp only[N,if_true] at h;rcases h with h | h
  case inr=>exact absurd h.2 qgh
  refine .inl ?_;unfold Oper.wp at *
  rw[execOp_put y M a t.dst v T] at h;generalize (execOp a.eval y).run P w=r at *
  cases r with
  | ok n w' =>
   cases n<;>simp only[Oper.upon] at h ⊢
   case value u=>exact⟨m a z u,by rw[←Act.put_comm a v u E];exact h⟩
   case skip=>exact⟨m a z _,by rw[←Act.put_comm a v undef E];exact h⟩
   case defer d =>
    refine⟨m _ (D d) _,?_⟩;rw[←Act.put_comm _ v undef E,←Act.put_defers];exact h
   case enter f args =>
    refine Calls.mono h fun e O H=> ?_
    cases e with
    | returned u=>exact⟨m a z u,by rw[←Act.put_comm a v u E];exact H⟩
    | panicked c=>exact H.elim
    | outgrown=>exact H
   case row row args=>exact Rows.mono h fun u O H=>⟨m a z u,by rw[←Act.put_comm a v u E];exact H⟩
  | halt x w' =>
   cases x<;>simp only[Oper.upon] at h ⊢
   case panic u=>exact h.elim
 ·rename_i N;simp only[N] at h;exact⟨m a z _,by rw[←Act.put_comm a v undef E];exact h⟩
theorem qqw{j:Nat}{t y:Oper}(hj:ops[j]? = some y)(R:t.apart ops y=true)(T:∀cs b,t.op ≠ .select cs b)(U:∀cs b,y.op ≠ .select cs b)
  {K:Act→World→Prop} {a:Act} {w:World} (h:wpOp P ops noQ j (fun Y w'=>C w'∧∃v,qb0 P ops C t v Y∧K (Y.put t.dst v) w') a w) :
  ∃v,qb0 P ops C t v a∧wpOp P ops noQ j K (a.put t.dst v) w:=by
 obtain⟨N,I,Z⟩:=Oper.apart_spec R
 have m:∀(a:Act) u v,qb0 P ops C t v (a.put y.dst u)→qb0 P ops C t v a:=fun a u v z =>
  z.of_same (execOp_put t T a y.dst u Z).symm (wanted_put t a y.dst u Z).symm
 unfold wpOp at *
 simp only[hj] at *
 split at h
 ·rename_i V;rcases h with h | h
  case inr=>exact absurd h.2 qgh
  unfold Oper.wp at *
  have key:∀v,qb0 P ops C t v a→Oper.upon P y (a.put t.dst v) K noQ ((execOp a.eval y).run P w)→∃v,qb0 P ops C t v a∧(if Region.wanted y (yielded ops (a.put t.dst v).tmps)=true then (Oper.upon P y (a.put t.dst v) K noQ ((execOp (a.put t.dst v).eval y).run P w)∨y.asks P (a.put t.dst v) w∧LetsOut noQ) else K ((a.put t.dst v).put y.dst undef) w):=by
   intro v z D;refine⟨v,z,?_⟩;rw[wanted_put y a t.dst v N,if_pos V,execOp_put y U a t.dst v N];exact .inl D
  generalize (execOp a.eval y).run P w=r at h key;cases r with
  | ok n w' =>
   cases n<;>simp only[Oper.upon] at h key
   case value u =>
    obtain⟨-,v,z,D⟩:=h;exact key v (m _ _ _ z) (by rw[Act.put_comm a v u I];exact D)
   case skip =>
    obtain⟨-,v,z,D⟩:=h;exact key v (m _ _ _ z) (by rw[Act.put_comm a v undef I];exact D)
   case defer d =>
    obtain⟨-,v,z,D⟩:=h;refine key v ((m _ _ _ z).of_same rfl rfl) ?_;have e:=Act.put_comm ({a with defers:=d::a.defers} : Act) v undef I;have e2:=Act.put_defers a t.dst v d;rw[e2,e];exact D
   case enter f args =>
    obtain⟨e,w2,fr,O,-⟩:=h [];cases e with
    | panicked c=>exact O.elim
    | outgrown=>exact absurd O qgh
    | returned u =>
     obtain⟨-,v,z,-⟩:=O;have E:=m _ _ _ z;refine key v E (Calls.mono h fun e X M=> ?_);cases e with
     | panicked c=>exact M
     | outgrown=>exact M
     | returned W =>
      obtain⟨J,v',H,D⟩:=M;have:=qhe (E _ J) (m _ _ _ H _ J);subst this;show K _ _;rw[Act.put_comm a v W I];exact D
   case row row args =>
    obtain⟨u,w2,⟨-,v,z,-⟩,-⟩:=h (Frame.ofRow P row args .normal) [];have E:=m _ _ _ z;refine key v E (Rows.mono h fun W X M=> ?_);obtain⟨J,v',H,D⟩:=M;have:=qhe (E _ J) (m _ _ _ H _ J);subst this;show K _ _;rw[Act.put_comm a v W I];exact D
  | halt x w' =>
   cases x<;>simp only[Oper.upon] at h
   exact h.elim
 ·rename_i V;obtain⟨-,v,z,D⟩:=h;refine⟨v,m _ _ _ z,?_⟩;rw[wanted_put y a t.dst v N,if_neg V,Act.put_comm a v undef I];exact D
def qmo(ops:Array Oper)(cl:List Nat)(i j:Nat):Bool :=
 match ops[i]?,ops[j]? with
 | some x,some y=>x.apart ops y&&(qat ops cl i==0 || qat ops cl j==0 || qat ops cl i==3 || qat ops cl j==3 || (qat ops cl i==1&&qat ops cl j==1))
 | _,_=>true
theorem qmx{x y:Oper}(h:x.apart ops y=true):y.apart ops x=true:=by
 unfold Oper.apart at *
 cases t:x.dst with
 | none=>rw[t] at h;cases m:y.dst with
  | none=>rfl
  | some e=>rw[m] at h;simpa using h
 | some d=>rw[t] at h;cases m:y.dst with
  | none=>rw[m] at h;simpa using h
  | some e =>
   rw[m] at h;simp only[Bool.and_eq_true,Bool.not_eq_true',bne_iff_ne,ne_eq,Option.some.injEq] at h ⊢;exact⟨⟨h.2,fun v=>h.1.2 v.symm⟩,h.1.1⟩
theorem q9d{i j:Nat}{t O:Oper}(N:ops[i]? = some t)(M:ops[j]? = some O)(X:qmo ops cl i j=true)(D:∀cs b,t.op ≠ .select cs b)(E:∀cs b,O.op ≠ .select cs b)(a1:qat ops cl i=3→kp j=true)
  {K:Act→World→Prop} {a:Act} {w:World} (h:wpI P ops C cl kp j (fun a w=>wpI P ops C cl kp i K a w) a w):wpI P ops C cl kp i (fun a w=>wpI P ops C cl kp j K a w) a w:=by
 unfold qmo at X
 rw[N,M] at X
 simp only[Bool.and_eq_true,Bool.or_eq_true,beq_iff_eq] at X
 obtain⟨z,hc⟩:=X
 obtain⟨h1,h2,h3⟩:=Oper.apart_spec z
 rw[qbs M] at h
 rw[qbs N]
 by_cases y:qd7 (qat ops cl j)=true
 ·rw[if_pos y] at h;obtain⟨R,T,h⟩:=h;rw[qbs N] at h;by_cases ci:qd7 (qat ops cl i)=true
  ·rw[if_pos ci] at h ⊢;obtain⟨Z,yi,h⟩:=h;refine⟨Z,yi.of_same (execOp_put t D a O.dst R h3).symm (wanted_put t a O.dst R h3).symm,?_⟩;rw[qbs M,if_pos y];refine⟨R,T.of_same (execOp_put O E a t.dst Z h1) (wanted_put O a t.dst Z h1),?_⟩;rw[Act.put_comm a Z R h2];exact h
  ·rw[if_neg ci] at h ⊢;have a2:qat ops cl i≠0∧qat ops cl i≠1∧qat ops cl i≠3:=by
    unfold qd7 at ci;simp only[Bool.or_eq_true,beq_iff_eq,not_or] at ci;exact⟨ci.1.1,ci.1.2,ci.2⟩
   have m:qat ops cl j=0∨qat ops cl j=3:=by omega
   unfold qbz at T;rcases m with m | m
   ·rw[if_pos m] at T;refine wpOp_mono ?_ (qqx N (qmx z) E D T h);rintro I w' ⟨y',J,x⟩;refine⟨J,?_⟩;rw[qbs M,if_pos y];refine⟨R,?_,x⟩;unfold qbz;rw[if_pos m];exact y'
   ·rw[if_neg (by omega),if_pos m] at T;refine wpOp_mono ?_ (qqx N (qmx z) E D T h);rintro I w' ⟨y',J,x⟩;refine⟨J,?_⟩;rw[qbs M,if_pos y];refine⟨R,?_,x⟩;unfold qbz;rw[if_neg (by omega),if_pos m];exact y'
 ·rw[if_neg y] at h;have a6:qat ops cl j≠0∧qat ops cl j≠1∧qat ops cl j≠3:=by
   unfold qd7 at y;simp only[Bool.or_eq_true,beq_iff_eq,not_or] at y;exact⟨y.1.1,y.1.2,y.2⟩
  have U:qat ops cl i=0∨qat ops cl i=3:=by omega
  have ci:qd7 (qat ops cl i)=true:=by
   unfold qd7;rcases U with e | e<;>rw[e]<;>rfl
  rw[if_pos ci];have V:∀v,(∃Y,Y=v∧qbz P ops C (qat ops cl i) w t Y a)→wpOp P ops noQ j (fun a w=>(kp j=true→C w)∧K a w) (a.put t.dst v) w→∃v,qbz P ops C (qat ops cl i) w t v a∧wpI P ops C cl kp j K (a.put t.dst v) w:=by
   rintro v ⟨Y,rfl,H⟩ x;refine⟨Y,H,?_⟩;rw[qbs M,if_neg y];exact x
  rcases U with m | m
  ·have h':wpOp P ops noQ j (fun I w'=>(fun _=>True) w'∧∃v,qb0 P ops (fun _=>True) t v I∧(fun a w=>(kp j=true→C w)∧K a w) (I.put t.dst v) w') a w:=by
    refine wpOp_mono ?_ h;rintro I w' ⟨J,W⟩;rw[qbs N,if_pos ci] at W;obtain⟨v,H,x⟩:=W;refine⟨trivial,v,?_,J,x⟩;simpa only[qbz,if_pos m] using H
   obtain⟨v,H,x⟩:=qqw (C:=fun _=>True) (K:=fun a w=>(kp j=true→C w)∧K a w) M z D E h';refine V v ⟨v,rfl,?_⟩ x;unfold qbz;rw[if_pos m];exact H
  ·have h':wpOp P ops noQ j (fun I w'=>C w'∧∃v,qb0 P ops C t v I∧(fun a w=>(kp j=true→C w)∧K a w) (I.put t.dst v) w') a w:=by
    refine wpOp_mono ?_ h;rintro I w' ⟨J,W⟩;rw[qbs N,if_pos ci] at W;obtain⟨v,H,x⟩:=W;refine⟨J (a1 m),v,?_,J,x⟩;unfold qbz at H;rw[if_neg (by omega),if_pos m] at H;exact H
   obtain⟨v,H,x⟩:=qqw (C:=C) (K:=fun a w=>(kp j=true→C w)∧K a w) M z D E h';refine V v ⟨v,rfl,?_⟩ x;unfold qbz;rw[if_neg (by omega),if_pos m];exact H
end
inductive Plan where
 | done
 | step (i:Nat) (p:Plan)
 | fork (p q:Plan)
def Plan.first(eff:Nat→Bool):Plan→List Nat
 | .done=>[]
 | .step i p=>if eff i then [i] else p.first eff
 | .fork p q=>p.first eff++q.first eff
def Plan.of:List Nat→Plan
 | []=> .done
 | i::r=> .step i (Plan.of r)
def qic(A:List (List Nat))(eff:Nat→Bool)(p:Plan)(rem:List Nat):Prop:=∀j∈rem,eff j=true→j∈p.first eff∨∃k∈rem,eff k=true∧k∈A.getD j []
def Cov(A:List (List Nat))(eff:Nat→Bool):Plan→List Nat→Prop
 | .done,rem=>rem=[]
 | .step i p,rem=>i∈rem∧(∀k∈rem,k∉A.getD i [])∧Cov A eff p (rem.erase i)∧(eff i=true→qic A eff p (rem.erase i))
 | .fork p q,rem=>Cov A eff p rem∧Cov A eff q rem
def qvy(A:List (List Nat))(eff:Nat→Bool)(p:Plan)(rem:List Nat):Bool:=rem.all fun j=> !eff j || (p.first eff).contains j || rem.any fun k=>eff k&&(A.getD j []).contains k
def qtc(A:List (List Nat))(eff:Nat→Bool):Plan→List Nat→Bool
 | .done,rem=>rem.isEmpty
 | .step i p,rem=>rem.contains i&&(rem.all fun k=> !(A.getD i []).contains k)&&qtc A eff p (rem.erase i)&&(!eff i || qvy A eff p (rem.erase i))
 | .fork p q,rem=>qtc A eff p rem&&qtc A eff q rem
theorem qpn{A:List (List Nat)}{eff:Nat→Bool}{p:Plan}{rem:List Nat}(h:qvy A eff p rem=true):qic A eff p rem:=by
 intro j v t;have:=List.all_eq_true.1 h j v;rw[t] at this;simp only[Bool.not_true,Bool.false_or,Bool.or_eq_true] at this;rcases this with h | h
 ·exact .inl (List.contains_iff_mem.1 h)
 ·obtain⟨k,x,m⟩:=List.any_eq_true.1 h;rw[Bool.and_eq_true] at m;exact .inr ⟨k,x,m.1,List.contains_iff_mem.1 m.2⟩
theorem qmd{A:List (List Nat)}{eff:Nat→Bool} : ∀ {p:Plan} {rem:List Nat},qtc A eff p rem=true→Cov A eff p rem
 | .done,rem,h=>by simpa [qtc,Cov] using h
 | .step i p,rem,h=>by
  unfold qtc at h;simp only[Bool.and_eq_true] at h;obtain⟨⟨⟨t,v⟩,x⟩,m⟩:=h;refine⟨List.contains_iff_mem.1 t,fun k z=> ?_,qmd x,fun y=> ?_⟩
  ·have:=List.all_eq_true.1 v k z;simpa using this
  ·rw[y] at m;exact qpn (by simpa using m)
 | .fork p q,rem,h=>by
  unfold qtc at h;rw[Bool.and_eq_true] at h;exact⟨qmd h.1,qmd h.2⟩
def wpP(P:Program)(ops:Array Oper)(Q:Exit→Act→World→Prop)(C:World→Prop)(cl:List Nat)(kp:Nat→Bool):Plan→Act→World→Prop
 | .done,a,w=>Q .normal a w
 | .step i p,a,w=>wpI P ops C cl kp i (wpP P ops Q C cl kp p) a w
 | .fork p q,a,w=>wpP P ops Q C cl kp p a w∧wpP P ops Q C cl kp q a w
def Plan.rm(i:Nat):Plan→Plan
 | .done=> .done
 | .step j p=>if i=j then p else .step j (p.rm i)
 | .fork p q=> .fork (p.rm i) (q.rm i)
def Plan.rmE(eff:Nat→Bool)(i:Nat):Plan→Plan
 | .done=> .done
 | .step j p=>if i=j then p else .step j (p.rmE eff i)
 | .fork p q=>if (p.first eff).contains i then p.rmE eff i else q.rmE eff i
section
variable {A:List (List Nat)}{eff:Nat→Bool}
theorem qjw{i:Nat}(m:eff i=false):∀p:Plan,(p.rm i).first eff=p.first eff
 | .done=>rfl
 | .step j p=>by
  unfold Plan.rm;split
  ·rename_i e;subst e;rw[Plan.first,m];rfl
  ·rw[Plan.first,Plan.first,qjw m p]
 | .fork p q=>by rw[Plan.rm,Plan.first,Plan.first,qjw m p,qjw m q]
theorem qoa{i:Nat}(v:eff i=false){p:Plan}{rem:List Nat}(D:rem.Nodup)(h:qic A eff p rem):qic A eff (p.rm i) (rem.erase i):=by
 intro j y x;rw[qjw v];rcases h j (List.mem_of_mem_erase y) x with h | ⟨k,z,m,t⟩
 ·exact .inl h
 ·exact .inr ⟨k,(D.mem_erase_iff).2 ⟨(fun e=>by rw[e,v] at m;cases m),z⟩,m,t⟩
theorem qse{i:Nat}(v:eff i=false):∀ {p:Plan} {rem:List Nat},rem.Nodup→i∈rem→Cov A eff p rem→Cov A eff (p.rm i) (rem.erase i)
 | .done,rem,m,t,h=>by rw[Cov] at h;rw[h] at t;cases t
 | .step j p,rem,m,t,h=>by
  obtain⟨D,E,y,H⟩:=h;unfold Plan.rm;split
  ·rename_i e;subst e;exact y
  ·rename_i e;have x:i∈rem.erase j:=(m.mem_erase_iff).2 ⟨e,t⟩;refine⟨(m.mem_erase_iff).2 ⟨fun z=>e z.symm,D⟩,fun k J=>E k (List.mem_of_mem_erase J),?_,fun I=> ?_⟩
   ·rw[List.erase_comm];exact qse v (m.erase j) x y
   ·rw[List.erase_comm];exact qoa v (m.erase j) (H I)
 | .fork p q,rem,m,t,h=>⟨qse v m t h.1,qse v m t h.2⟩
theorem qmp{i:Nat}(z:eff i=true):∀ {p:Plan} {rem:List Nat},rem.Nodup→i∈rem→i∈p.first eff→Cov A eff p rem→Cov A eff (p.rmE eff i) (rem.erase i)∧qic A eff (p.rmE eff i) (rem.erase i)
 | .done,rem,t,y,m,h=>by cases m
 | .step j p,rem,t,y,m,h=>by
  obtain⟨T,U,O,V⟩:=h;unfold Plan.rmE;split
  ·rename_i e;subst e;exact⟨O,V z⟩
  ·rename_i e;have x:eff j=false:=by
    cases x:eff j with
    | false=>rfl
    | true =>
     rw[Plan.first,x] at m;simp at m;exact absurd m e
   have H:i∈p.first eff:=by rw[Plan.first,x] at m;exact m
   have I:i∈rem.erase j:=(t.mem_erase_iff).2 ⟨e,y⟩;obtain⟨M,N⟩:=qmp z (t.erase j) I H O;rw[List.erase_comm] at M N;refine⟨⟨(t.mem_erase_iff).2 ⟨fun D=>e D.symm,T⟩,fun k J=>U k (List.mem_of_mem_erase J),M,fun v=>by rw[x] at v;cases v⟩,?_⟩;intro k J v;have K:k≠j:=fun D=>by rw[D,x] at v;cases v
   rw[Plan.first,x];rcases N k (((t.erase i).mem_erase_iff).2 ⟨K,J⟩) v with h | ⟨W,h,R⟩
   ·exact .inl h
   ·exact .inr ⟨W,List.mem_of_mem_erase h,R⟩
 | .fork p q,rem,t,y,m,h=>by
  unfold Plan.rmE;split
  ·rename_i E;exact qmp z t y (List.contains_iff_mem.1 E) h.1
  ·rename_i E;rw[Plan.first,List.mem_append] at m;exact qmp z t y (m.resolve_left fun h=>E (List.contains_iff_mem.2 h)) h.2
end
section
variable {C:World→Prop}{cl:List Nat}{A:List (List Nat)}{kp:Nat→Bool}
structure Turns(ops:Array Oper)(cl:List Nat)(A:List (List Nat))(kp:Nat→Bool):Prop where
 sel:Region.noSelect ops=true
 turn:∀i j,i<ops.size→j<ops.size→i≠j→j∉A.getD i []→i∉A.getD j []→(qat ops cl i=2∧qat ops cl j=2)∨qmo ops cl i j=true
 two:∀i,i<ops.size→qat ops cl i≤3
 kept:∀i j,j∈cl→j∉A.getD i []→kp i=true
theorem qup{c:Nat}(h:qd7 c=true):c≠2:=by
 rintro rfl;cases h
theorem qn7{c:Nat}(h:c≤3)(m:c≠2):qd7 c=true:=by
 have:c=0∨c=1∨c=3:=by omega
 rcases this with rfl | rfl | rfl<;>rfl
theorem qyi(T:Turns ops cl A kp){i:Nat}{oi:Oper}(H:ops[i]? = some oi)(M:qd7 (qat ops cl i)=true):∀(p:Plan) (rem:List Nat) (a:Act) (w:World),(qat ops cl i=3→C w)→rem.Nodup→(∀j∈rem,j<ops.size)→i∈rem→(∀k∈rem,k∉A.getD i [])→Cov A (fun i=>qat ops cl i==2) p rem →
  wpP P ops Q C cl kp p a w→wpI P ops C cl kp i (wpP P ops Q C cl kp (p.rm i)) a w
 | .done,rem,a,w,z,K,m,x,I,h,J=>by rw[Cov] at h;rw[h] at x;cases x
 | .step j p,rem,a,w,z,K,m,x,I,h,J=>by
  obtain⟨X,Y,h3,h4⟩:=h;unfold Plan.rm;split
  ·rename_i e;subst e;exact J
  ·rename_i e;have V:i∈rem.erase j:=(K.mem_erase_iff).2 ⟨e,x⟩;have t:=m j X;have W:ops[j]? = some (ops[j]'t):=Array.getElem?_eq_getElem t;have N:qat ops cl i=3→kp j=true:=fun U=>T.kept j i (qx3 U) (Y i x)
   have hh:wpI P ops C cl kp j (fun a w=>wpI P ops C cl kp i (wpP P ops Q C cl kp (p.rm i)) a w) a w:=by
    have D:wpI P ops C cl kp j (wpP P ops Q C cl kp p) a w:=J;rw[qbs W] at D ⊢;have Z:=fun a w z=>qyi T H M p (rem.erase j) a w z (K.erase j) (fun k E=>m k (List.mem_of_mem_erase E)) V (fun k E=>I k (List.mem_of_mem_erase E)) h3
    split at D
    ·rw[if_pos ‹_›];obtain⟨v,y,k⟩:=D;exact⟨v,y,Z _ _ z k⟩
    ·rw[if_neg ‹_›];exact wpOp_mono (fun a w E=>⟨E.1,Z _ _ (fun U=>E.1 (N U)) E.2⟩) D
   refine q9d H W ?_ (fun cs b=>Region.noSelect_spec T.sel i _ cs b H) (fun cs b=>Region.noSelect_spec T.sel j _ cs b W) N hh;rcases T.turn i j (m i x) t e (I j X) (Y i x) with h | h
   ·exact absurd h.1 (qup M)
   ·exact h
 | .fork p q,rem,a,w,z,K,m,x,I,h,J=>by
  have O:=qyi T H M p rem a w z K m x I h.1 J.1;have R:=qyi T H M q rem a w z K m x I h.2 J.2;rw[qbs H,if_pos M] at O R ⊢;obtain⟨v1,y1,k1⟩:=O;obtain⟨v2,y2,k2⟩:=R;have:=qhe (y1.w z) (y2.w z);subst this;exact⟨v1,y1,k1,k2⟩
theorem qsd(T:Turns ops cl A kp){i:Nat}{oi:Oper}(M:ops[i]? = some oi)(O:qat ops cl i=2):∀(p:Plan) (rem:List Nat) (a:Act) (w:World),rem.Nodup→(∀j∈rem,j<ops.size)→i∈rem→(∀k∈rem,k∉A.getD i [])→i∈p.first (fun i=>qat ops cl i==2)→Cov A (fun i=>qat ops cl i==2) p rem →
  wpP P ops Q C cl kp p a w→wpI P ops C cl kp i (wpP P ops Q C cl kp (p.rmE (fun i=>qat ops cl i==2) i)) a w
 | .done,rem,a,w,J,m,E,H,z,h,I=>by cases z
 | .step j p,rem,a,w,J,m,E,H,z,h,I=>by
  obtain⟨R,K,Z,h4⟩:=h;unfold Plan.rmE;split
  ·rename_i e;subst e;exact I
  ·rename_i e;have t:qat ops cl j≠2:=by
    intro h;have K:(qat ops cl j==2)=true:=by simpa using h
    rw[Plan.first,K] at z;simp at z;exact absurd z e
   have U:qd7 (qat ops cl j)=true:=qn7 (T.two j (m j R)) t;have V:i∈p.first (fun i=>qat ops cl i==2):=by
    have K:(qat ops cl j==2)=false:=by simpa using t
    rw[Plan.first,K] at z;exact z
   have W:i∈rem.erase j:=(J.mem_erase_iff).2 ⟨e,E⟩;have x:=m j R;have X:ops[j]? = some (ops[j]'x):=Array.getElem?_eq_getElem x;have hh:wpI P ops C cl kp j (fun a w=>wpI P ops C cl kp i (wpP P ops Q C cl kp (p.rmE (fun i=>qat ops cl i==2) i)) a w) a w:=by
    have N:wpI P ops C cl kp j (wpP P ops Q C cl kp p) a w:=I;rw[qbs X,if_pos U] at N ⊢;obtain⟨v,y,k⟩:=N;exact⟨v,y,qsd T M O p (rem.erase j) _ _ (J.erase j) (fun k Y=>m k (List.mem_of_mem_erase Y)) W (fun k Y=>H k (List.mem_of_mem_erase Y)) V Z k⟩
   refine q9d M X ?_ (fun cs b=>Region.noSelect_spec T.sel i _ cs b M) (fun cs b=>Region.noSelect_spec T.sel j _ cs b X) (fun h=>by rw[O] at h;cases h) hh;rcases T.turn i j (m i E) x e (H j R) (K i E) with h | h
   ·exact absurd h.2 t
   ·exact h
 | .fork p q,rem,a,w,J,m,E,H,z,h,I=>by
  unfold Plan.rmE;split
  ·rename_i D;exact qsd T M O p rem a w J m E H (List.contains_iff_mem.1 D) h.1 I.1
  ·rename_i D;rw[Plan.first,List.mem_append] at z;exact qsd T M O q rem a w J m E H (z.resolve_left fun h=>D (List.contains_iff_mem.2 h)) h.2 I.2
theorem qss{eff:Nat→Bool} : ∀ {p:Plan} {a:Act} {w:World},Cov A eff p []→wpP P ops Q C cl kp p a w→Q .normal a w
 | .done,_,_,_,m=>m
 | .step i p,_,_,h,_=>by have:=h.1;cases this
 | .fork p q,_,_,h,m=>qss h.1 m.1
end
def qc8(l:List Oper)(cl:List Nat)(i:Nat):Bool:=cl.any fun j=> !((qvc l []).getD i []).contains j
def q77(l:List Oper)(cl:List Nat)(p:Plan):Bool :=
 let A:=qvc l []
 let ops:=l.toArray
 let eff:=fun i=>qat ops cl i==2
 Region.noSelect ops&&((List.range l.length).all fun i=>match l[i]? with
  | none=>true
  | some o =>
   (o.after.toList.all fun e=> !Region.binds .any e || decide (e.on<i)) &&
   ((A.getD i []).all fun k=>o.after.toList.any fun e=>Region.binds .any e&&(k==e.on || (A.getD e.on []).contains k)) &&
   ((List.range l.length).all fun j=>i==j || (A.getD i []).contains j || (A.getD j []).contains i || (eff i&&eff j) || qmo ops cl i j)&&decide (qat ops cl i≤3)) &&
 qtc A eff p (List.range l.length)&&qvy A eff p (List.range l.length)
end
section
variable {P:Program}{l:List Oper}{Q:Exit→Act→World→Prop}{C:World→Prop}{cl:List Nat}
theorem q78{A:List (List Nat)}{kp:Nat→Bool}(T:Turns l.toArray cl A kp)(key:∀(i:Nat) o,l[i]? = some o→(∀e∈o.after,Region.binds .any e=true→e.on<i)∧(∀k∈A.getD i [],∃e∈o.after,Region.binds .any e=true∧(k=e.on∨k∈A.getD e.on []))) :
  ∀(x:Nat) (m:Array Bool) (p:Plan) (a:Act) (w:World),(∀j∈cl,j∈(List.range l.length).filter (fun i=> !m.getD i false)→C w)→m.size=l.length→(∀i,m.getD i false=true→∀k∈A.getD i [],m.getD k false=true) →
  ((List.range l.length).filter fun i=> !m.getD i false).length≤x→Cov A (fun i=>qat l.toArray cl i==2) p ((List.range l.length).filter fun i=> !m.getD i false)→qic A (fun i=>qat l.toArray cl i==2) p ((List.range l.length).filter fun i=> !m.getD i false) →
  wpP P l.toArray Q C cl kp p a w→wpAny P .any l.toArray Q x m a w:=by
 have X:∀(m:Array Bool),m.size=l.length→Region.ready .any l.toArray m=[]→(List.range l.length).filter (fun i=> !m.getD i false)=[]:=by
  intro m I hr;rw[List.filter_eq_nil_iff];intro i R;have R:=List.mem_range.1 R
  induction i using Nat.strongRecOn with
  | _ i ih =>
   cases hl:m.getD i false with
   | true=>simp
   | false =>
    exfalso;have:i∈Region.ready .any l.toArray m:=by
     rw[mem_ready];have V:l[i]? = some l[i]:=List.getElem?_eq_getElem R;refine⟨?_,l[i],by simp[R],fun e he hb=> ?_⟩
     ·rw[Array.getD_eq_getD_getElem?] at hl ⊢;have:i<m.size:=by omega
      rw[Array.getElem?_eq_getElem this] at hl ⊢;simpa using hl
     ·have h1:=(key i _ V).1 e he hb;have:=ih e.on h1 (List.mem_range.2 (by omega)) (by omega);simpa using this
    rw[hr] at this;cases this
 intro x
 induction x with
 | zero =>
  intro m p a w hC I shut b1 t hf h;have h0:(List.range l.length).filter (fun i=> !m.getD i false)=[]:=List.length_eq_zero_iff.1 (by omega);rw[h0] at t;refine⟨?_,qss t h⟩;rw[List.eq_nil_iff_forall_not_mem];intro i R;obtain⟨N,o,V,-⟩:=mem_ready.1 R;have J:i<l.length:=by simpa using (Array.getElem?_eq_some_iff.1 V).1
  rw[List.filter_eq_nil_iff] at h0;have:=h0 i (List.mem_range.2 J);rw[Array.getD_eq_getD_getElem?] at N this;have hs:i<m.size:=by omega
  rw[Array.getElem?_eq_getElem hs] at N this;simp at N this;rw[N] at this;cases this
 | succ x ih =>
  intro m p a w hC I shut b1 t hf h;refine⟨fun hr=> ?_,fun i R=> ?_⟩
  ·rw[X m I hr] at t;exact qss t h
  obtain⟨N,o,V,a2⟩:=mem_ready.1 R;have J:i<l.length:=by simpa using (Array.getElem?_eq_some_iff.1 V).1
  have hs:i<m.size:=by omega
  have b2:l[i]? = some o:=by simpa using V
  have b3:m.getD i false=false:=by
   rw[Array.getD_eq_getD_getElem?] at N ⊢;rw[Array.getElem?_eq_getElem hs] at N ⊢;simpa using N
  obtain⟨e1,e2⟩:=key i o b2;have O:∀k∈A.getD i [],m.getD k false=true:=by
   intro k D;obtain⟨e,he,hb,h⟩:=e2 k D;have h1:=a2 e he hb;rcases h with rfl | h
   ·exact h1
   ·exact shut _ h1 k h
  have Z:((List.range l.length).filter (fun i=> !m.getD i false)).Nodup:=List.Pairwise.filter _ List.nodup_range;have z:((List.range l.length).filter (fun i=> !m.getD i false)).erase i=(List.range l.length).filter (fun j=> !(m.setIfInBounds i true).getD j false):=by
   rw[List.Nodup.erase_eq_filter Z,List.filter_filter];refine List.filter_congr fun j K=> ?_
   by_cases e:i=j
   ·subst e;have:(m.setIfInBounds i true).getD i false=true:=by simp[hs]
    rw[this];simp
   ·have:(m.setIfInBounds i true).getD j false=m.getD j false:=getD_set_ne false e;rw[this];have:(j != i)=true:=by simpa using fun h=>e h.symm
    rw[this,Bool.and_comm,Bool.and_true]
  have v:i∈(List.range l.length).filter (fun i=> !m.getD i false):=List.mem_filter.2 ⟨List.mem_range.2 J,by rw[b3];rfl⟩;have a7:∀j∈(List.range l.length).filter (fun i=> !m.getD i false),j<l.toArray.size:=fun j K=>by simpa using List.mem_range.1 (List.mem_filter.1 K).1
  have M:∀k∈(List.range l.length).filter (fun i=> !m.getD i false),k∉A.getD i []:=fun k D W=>by
   have:=(List.mem_filter.1 D).2;rw[O k W] at this;cases this
  have U:((List.range l.length).filter fun j=> !(m.setIfInBounds i true).getD j false).length≤x:=by
   rw[←z,List.length_erase_of_mem v];omega
  have H:∀j,(m.setIfInBounds i true).getD j false=true→∀k∈A.getD j [],(m.setIfInBounds i true).getD k false=true:=by
   intro j K k D;by_cases e:i=j
   ·subst e;exact getD_set_true (O k D)
   ·rw[getD_set_ne false e] at K;exact getD_set_true (shut j K k D)
  generalize (List.range l.length).filter (fun i=> !m.getD i false)=rem at *
  by_cases Y:qat l.toArray cl i=2
  ·have y:(fun i=>qat l.toArray cl i==2) i=true:=by simpa using Y
   have a6:i∈p.first (fun i=>qat l.toArray cl i==2):=by
    rcases hf i v y with h | ⟨k,D,-,W⟩
    ·exact h
    ·exact absurd W (M k D)
   obtain⟨c1,c2⟩:=qmp (eff:=fun i=>qat l.toArray cl i==2) (i:=i) y Z v a6 t;have hp:=qsd T V Y p rem a w Z a7 v M a6 t h;rw[z] at c1 c2;refine wpOp_mono (fun a' w' D=>ih (m.setIfInBounds i true) _ a' w' (fun j K E=> ?_) (by rw[Array.size_setIfInBounds];exact I) H U c1 c2 D.2.2) (q6e (fun h=>by rw[Y] at h;cases h) hp);refine D.2.1 (by rw[Y];rfl) (T.kept i j K fun b0=> ?_);rw[←z] at E;exact M j (List.mem_of_mem_erase E) b0
  ·have y:(fun i=>qat l.toArray cl i==2) i=false:=by simpa using Y
   have a8:qd7 (qat l.toArray cl i)=true:=qn7 (T.two i (by simpa using J)) Y;have c1:=qse (eff:=fun i=>qat l.toArray cl i==2) (i:=i) y Z v t;have c2:=qoa (eff:=fun i=>qat l.toArray cl i==2) (i:=i) y Z hf;have a1:qat l.toArray cl i=3→C w:=fun h3=>hC i (qx3 h3) v
   have hp:=qyi T V a8 p rem a w a1 Z a7 v M t h;rw[z] at c1 c2;refine wpOp_mono (fun a' w' D=>ih (m.setIfInBounds i true) _ a' w' (fun j K E=> ?_) (by rw[Array.size_setIfInBounds];exact I) H U c1 c2 D.2.2) (q6e a1 hp);rw[D.1 a8];rw[←z] at E;exact hC j K (List.mem_of_mem_erase E)
theorem qay{id:Nat}{a:Act}{w:World}(C:World→Prop)(cl:List Nat)(p:Plan)(V:P.follows .mixedOrders=true)(x:q77 l cl p=true)(R:C w.drew)(h:wpP P l.toArray Q C cl (qc8 l cl) p a w.drew):(Code.region id l.toArray true).wp P Q a w:=by
 refine wp_region_any V ?_;have I:(List.range l.length).filter (fun i=> !(Array.replicate l.length false).getD i false)=List.range l.length:=by
  rw[List.filter_eq_self.2 (fun i _=>by rw[qcf];rfl)]
 unfold q77 at x;simp only[Bool.and_eq_true] at x;obtain⟨⟨⟨z,x⟩,t⟩,v⟩:=x;obtain⟨A,M⟩:∃A,A=qvc l []:=⟨_,rfl⟩;have K:∀i j,j∈cl→j∉A.getD i []→qc8 l cl i=true:=by
  intro i j y W;unfold qc8;rw[←M];exact List.any_eq_true.2 ⟨j,y,by simpa using W⟩
 rw[←M] at x t v;have key:∀(i:Nat) o,l[i]? = some o→_:=fun i o E=>by
  have m:i<l.length:=(List.getElem?_eq_some_iff.1 E).1;have:=List.all_eq_true.1 x i (List.mem_range.2 m);rw[E] at this;simp only[Bool.and_eq_true] at this;exact this
 have T:Turns l.toArray cl A (qc8 l cl):=by
  refine⟨z,fun i j m y J N O=> ?_,fun i m=> ?_,K⟩
  ·have m:i<l.length:=by simpa using m
   have y:j<l.length:=by simpa using y
   obtain⟨⟨-,Z⟩,-⟩:=key i _ (List.getElem?_eq_getElem m);have:=List.all_eq_true.1 Z j (List.mem_range.2 y);simp only[Bool.or_eq_true,beq_iff_eq,List.contains_iff_mem,Bool.and_eq_true] at this;rcases this with (((h | h) | h) | h) | h
   ·exact absurd h J
   ·exact absurd h N
   ·exact absurd h O
   ·exact .inl h
   ·exact .inr h
  ·have m:i<l.length:=by simpa using m
   obtain⟨-,k4⟩:=key i _ (List.getElem?_eq_getElem m);simpa using k4
 refine q78 (cl:=cl) (A:=A) T (fun i o E=> ?_) _ _ p a _ (fun _ _ _=>R) (by simp) (fun i m=>by rw[List.size_toArray,qcf] at m;cases m) ?_ ?_ ?_ h
 ·obtain⟨⟨⟨X,Y⟩,-⟩,-⟩:=key i o E;refine⟨fun e H D=> ?_,fun k U=> ?_⟩
  ·have:=List.all_eq_true.1 X e (by simpa using H);simpa [D] using this
  ·have:=List.all_eq_true.1 Y k U;obtain⟨e,H,D⟩:=List.any_eq_true.1 this;simp only[Bool.and_eq_true,Bool.or_eq_true,beq_iff_eq,List.contains_iff_mem] at D;exact⟨e,by simpa using H,D⟩
 ·rw[List.size_toArray,I];simp
 ·rw[List.size_toArray,I];exact qmd t
 ·rw[List.size_toArray,I];exact qpn v
def qc7(P:Program)(ops:Array Oper)(Q:Exit→Act→World→Prop):List Oper→Act→World→Prop
 | [],a,w=>Q .normal a w
 | o::r,a,w=>if qbw o≤1 then ∃v,qbz P ops (fun _=>True) (qbw o) w o v a∧qc7 P ops Q r (a.put o.dst v) w
   else if Region.wanted o (yielded ops a.tmps) then o.wp P a w (qc7 P ops Q r) noQ else qc7 P ops Q r (a.put o.dst undef) w
theorem q8c:∀(r:List Oper) (k:Nat),(∀j,r[j]? = l[k+j]?)→∀a w,qc7 P l.toArray Q r a w→wpP P l.toArray Q (fun _=>True) [] (qc8 l []) (Plan.of (List.range' k r.length)) a w:=by
 intro r
 induction r with
 | nil=>intro k _ a w h;exact h
 | cons o r H =>
  intro k h a w m;have z:l.toArray[k]? = some o:=by simpa using (h 0).symm
  have t:=H (k+1) (fun j=>by have:=h (j+1);simpa [Nat.add_assoc,Nat.add_comm 1 j] using this);have D:qat l.toArray [] k=qbw o:=by
   unfold qat;rw[z];simp
  rw[List.length_cons,List.range'_succ,Plan.of,wpP,qbs z,D];rw[qc7] at m;have x:qd7 (qbw o)=true↔qbw o≤1:=by
   have I:qbw o≤2:=by
    unfold qbw;split<;>(try split)<;>decide
   constructor
   ·intro h;have:=qup h;omega
   ·intro h;exact qn7 (by omega) (by omega)
  split
  ·rw[if_pos (x.1 ‹_›)] at m;obtain⟨v,y,k⟩:=m;exact⟨v,y,t _ _ k⟩
  ·rw[if_neg (fun h=>absurd (x.2 h) ‹_›)] at m;unfold wpOp;rw[z];simp only[qgh,and_false,or_false];split
   ·rw[if_pos ‹_›] at m;exact Oper.wp_mono (fun a w E=>⟨fun _=>trivial,t _ _ E⟩) m
   ·rw[if_neg ‹_›] at m;exact⟨fun _=>trivial,t _ _ m⟩
theorem zao{id:Nat}{a:Act}{w:World}(t:P.follows .mixedOrders=true)(m:q77 l [] (Plan.of (List.range' 0 l.length))=true)(h:qc7 P l.toArray Q l a w.drew):(Code.region id l.toArray true).wp P Q a w :=
 qay (fun _=>True) [] _ t m trivial (q8c l 0 (by simp) a _ h)
section
variable {ops:Array Oper}{o:Oper}{r:List Oper}{a:Act}{w:World}
theorem tn(h:Q .normal a w):qc7 P ops Q [] a w:=h
theorem qm0{s:Sem Value}{n:Next}{w w':World}(h:(do pure (Next.value (←s)):Sem Next).run P w = .ok n w'):∃v,n = .value v:=by
 rw[Sem.run_bind] at h;generalize s.run P w=x at h;cases x with
 | ok v w1 =>
  simp only[Result.andThen_ok] at h;injection h with h1 h2;exact⟨v,h1.symm⟩
 | halt x w1=>simp only[Result.andThen_halt] at h;cases h
theorem qzg{ρ:Operand→Value}(y:qbw o≤1){n:Next}{w':World}(h:(execOp ρ o).run P w = .ok n w'):∃v,n = .value v:=by
 obtain⟨dst,E,D,H,z,guard⟩:=o;cases E<;>simp only[qbw] at y<;>simp only[execOp] at h
 case move x=>injection h with h1 h2;exact⟨_,h1.symm⟩
 case assign x=>injection h with h1 h2;exact⟨_,h1.symm⟩
 case pick c a b =>
  rw[Sem.run_bind] at h;generalize (asBool (ρ c)).run P w=x at h;cases x with
  | ok v w1=>injection h with h1 h2;exact⟨_,h1.symm⟩
  | halt x w1=>cases h
 case nilCheck x =>
  split at h
  ·cases h
  ·cases h
  ·cases h
  ·split at h
   ·cases h
   ·rw[Sem.run_bind] at h;generalize Sem.run P (program) w=x at h;cases x with
    | halt x w1=>cases h
    | ok p w1 =>
     simp only[Result.andThen_ok] at h;rw[Sem.run_bind] at h;generalize Sem.run P (nilAhead _ _ _ _) w1=x at h;cases x with
     | halt x w1=>cases h
     | ok p w1 =>
      simp only[Result.andThen_ok] at h;split at h
      ·rw[Sem.run_bind] at h;cases h
      ·injection h with h1 h2;exact⟨_,h1.symm⟩
   ·injection h with h1 h2;exact⟨_,h1.symm⟩
  ·injection h with h1 h2;exact⟨_,h1.symm⟩
 case call c =>
  cases t:c.callee with
  | value f=>rw[t] at y;simp at y
  | invoke r m=>rw[t] at y;simp at y
  | builtin b =>
   rw[t] at y;unfold resolve at h;rw[t] at h;cases b<;>first | (simp at y;done) | exact qm0 h
 all_goals first | exact qm0 h | (simp at y;done)
theorem qou(E:qbw o≤1){A:Act}(h:∀z,(∀m,m=A→z .normal m w)→wpList P ops z [o] a w):∃v,qdc P ops w o v a∧a.put o.dst v=A:=by
 have h:=h (fun e m w'=>e = .normal∧m=A∧w'=w) (fun _ e=>⟨rfl,e,rfl⟩);unfold wpList at h;split at h
 ·rename_i y;rcases h with h | h
  case inr=>obtain⟨_,_,h,-⟩:=h.2;cases h
  unfold Oper.wp at h;cases t:(execOp a.eval o).run P w with
  | halt x w' =>
   rw[t] at h;cases x<;>simp only[Oper.upon] at h
   obtain⟨h,-⟩:=h;cases h
  | ok n w' =>
   obtain⟨v,rfl⟩:=qzg E t;rw[t] at h;obtain⟨-,D,rfl⟩:=h;exact⟨v,.inl ⟨y,t⟩,D⟩
 ·rename_i y;exact⟨undef,.inr ⟨by simpa using y,rfl⟩,h.2.1⟩
theorem tr{A:Act}(x:(qbw o==1)=true)(h:∀m,(∀t,t=A→m .normal t w)→wpList P ops m [o] a w)(k:qc7 P ops Q r A w):qc7 P ops Q (o::r) a w:=by
 have D:qbw o=1:=by simpa using x
 rw[qc7,if_pos (by omega)];obtain⟨v,z,y⟩:=qou (by omega) h;refine⟨v,?_,by rw[y];exact k⟩;unfold qbz;rw[if_neg (by omega),if_neg (by omega)];exact z
def qlf(o:Oper)(a:Act):Bool:=match o.dst with | some d=>decide (d<a.tmps.size) | none=>false
theorem qht{C:World→Prop}(N:qbw o≤1){A:Act}(hd:qlf o a=true)(y:C w)(h:∀w,C w→∀E,(∀H,H=A→E .normal H w)→wpList P ops E [o] a w):∃v,qb0 P ops C o v a∧a.put o.dst v=A:=by
 have J:∀w,C w→∃v,qdc P ops w o v a∧a.put o.dst v=A:=fun w y=>qou N (h w y)
 have t:∀v u,a.put o.dst v=a.put o.dst u→v=u:=by
  intro v u e;unfold qlf at hd;cases m:o.dst with
  | none=>rw[m] at hd;cases hd
  | some d =>
   rw[m] at hd e;have D:d<a.tmps.size:=by simpa using hd
   have K:=congrArg (fun x:Act=>x.tmps[d]?) e;simpa [Act.put,D] using K
 obtain⟨v,R,I⟩:=J w y;refine⟨v,fun w' z=> ?_,I⟩;obtain⟨u,O,M⟩:=J w' z;have:v=u:=t v u (I.trans M.symm);rw[this];exact O
theorem tp{A:Act}(z:(qbw o==0)=true)(hd:qlf o a=true)(h:∀w m,(∀t,t=A→m .normal t w)→wpList P ops m [o] a w)(k:qc7 P ops Q r A w):qc7 P ops Q (o::r) a w:=by
 have x:qbw o=0:=by simpa using z
 rw[qc7,if_pos (by omega)];obtain⟨v,D,y⟩:=qht (C:=fun _=>True) (w:=w) (by omega) hd trivial (fun w _=>h w);refine⟨v,?_,by rw[y];exact k⟩;unfold qbz;rw[if_pos x];exact D
theorem te(D:(qbw o==2)=true)(h:∀y,(∀t w',qc7 P ops Q r t w'→y .normal t w')→wpList P ops y [o] a w):qc7 P ops Q (o::r) a w:=by
 have E:qbw o=2:=by simpa using D
 rw[qc7,if_neg (by omega)];have:=h (fun e t w'=>match e with | .normal=>qc7 P ops Q r t w' | _=>False) (fun _ _ h=>h);unfold wpList at this;split
 case isFalse v=>rw[if_neg v] at this;exact this
 rename_i v;rw[if_pos v] at this;rcases this with m | m
 case inr =>
  obtain⟨_,_,z⟩:=m.2;exact z.elim
 unfold Oper.wp at *
 generalize (execOp a.eval o).run P w=x at *
 cases x with
 | ok n w' =>
  cases n<;>simp only[Oper.upon] at m ⊢<;>exact m
 | halt x w' =>
  cases x<;>simp only[Oper.upon] at m ⊢
section
variable {C:World→Prop}{cl:List Nat}{p q:Plan}{i:Nat}
def qi5:List Oper→Nat→Option Oper
 | [],_=>none
 | o::_,0=>some o
 | _::r,n+1=>qi5 r n
theorem qyg:∀(l:List Oper) (i:Nat),qi5 l i=l[i]?
 | [],_=>rfl
 | _::_,0=>rfl
 | _::r,n+1=>by rw[qi5,qyg r n,List.getElem?_cons_succ]
theorem qii{i:Nat}{o:Oper}(h:qi5 l i=some o):l.toArray[i]? = some o:=by rw[List.getElem?_toArray,←qyg];exact h
theorem qn(h:Q .normal a w):wpP P l.toArray Q C cl (qc8 l cl) .done a w:=h
theorem qf(m:wpP P l.toArray Q C cl (qc8 l cl) p a w)(t:wpP P l.toArray Q C cl (qc8 l cl) q a w):wpP P l.toArray Q C cl (qc8 l cl) (.fork p q) a w:=⟨m,t⟩
theorem qp{A:Act}(m:qi5 l i=some o)(E:(qat l.toArray cl i==0)=true)(hd:qlf o a=true)(h:∀w x,(∀y,y=A→x .normal y w)→wpList P l.toArray x [o] a w)(k:wpP P l.toArray Q C cl (qc8 l cl) p A w):wpP P l.toArray Q C cl (qc8 l cl) (.step i p) a w:=by
 replace m:=qii m;have t:qat l.toArray cl i=0:=by simpa using E
 have z:qbw o≤1:=qrj (cl:=cl) m (by rw[t];rfl);rw[wpP,qbs m,if_pos (by rw[t];rfl)];obtain⟨v,H,D⟩:=qht (C:=fun _=>True) (w:=w) z hd trivial (fun w _=>h w);refine⟨v,?_,by rw[D];exact k⟩;unfold qbz;rw[if_pos t];exact H
theorem qc{A:Act}(m:qi5 l i=some o)(H:(qat l.toArray cl i==3)=true)(hd:qlf o a=true)(E:C w)(h:∀w,C w→∀x,(∀y,y=A→x .normal y w)→wpList P l.toArray x [o] a w)(k:wpP P l.toArray Q C cl (qc8 l cl) p A w):wpP P l.toArray Q C cl (qc8 l cl) (.step i p) a w:=by
 replace m:=qii m;have t:qat l.toArray cl i=3:=by simpa using H
 have z:qbw o≤1:=qrj (cl:=cl) m (by rw[t];rfl);rw[wpP,qbs m,if_pos (by rw[t];rfl)];obtain⟨v,I,D⟩:=qht (w:=w) z hd E h;refine⟨v,?_,by rw[D];exact k⟩;unfold qbz;rw[if_neg (by omega),if_pos t];exact I
theorem qr{A:Act}(m:qi5 l i=some o)(D:(qat l.toArray cl i==1)=true)(h:∀t,(∀x,x=A→t .normal x w)→wpList P l.toArray t [o] a w)(k:wpP P l.toArray Q C cl (qc8 l cl) p A w):wpP P l.toArray Q C cl (qc8 l cl) (.step i p) a w:=by
 replace m:=qii m;have y:qat l.toArray cl i=1:=by simpa using D
 have z:qbw o≤1:=qrj (cl:=cl) m (by rw[y];rfl);rw[wpP,qbs m,if_pos (by rw[y];rfl)];obtain⟨v,H,E⟩:=qou z h;refine⟨v,?_,by rw[E];exact k⟩;unfold qbz;rw[if_neg (by omega),if_neg (by omega)];exact H
structure Keeps(a b:Prop):Prop where
 c:a
 k:b
theorem qe'(v:qi5 l i=some o)(H:(qat l.toArray cl i==2)=true)(h:∀z,(∀t w',Keeps (qc8 l cl i=true→C w') (wpP P l.toArray Q C cl (qc8 l cl) p t w')→z .normal t w')→wpList P l.toArray z [o] a w):wpP P l.toArray Q C cl (qc8 l cl) (.step i p) a w:=by
 replace v:=qii v;have D:qat l.toArray cl i=2:=by simpa using H
 rw[wpP,qbs v,if_neg (by rw[D];decide)];have:=h (fun e t w'=>match e with | .normal=>(qc8 l cl i=true→C w')∧wpP P l.toArray Q C cl (qc8 l cl) p t w' | _=>False) (fun _ _ h=>⟨h.c,h.k⟩);unfold wpList at this;unfold wpOp;rw[v];simp only;split
 case isFalse y=>rw[if_neg y] at this;exact this
 rename_i y;rw[if_pos y] at this;rcases this with m | m
 case inr =>
  obtain⟨_,_,E⟩:=m.2;exact E.elim
 refine .inl ?_;unfold Oper.wp at *
 generalize (execOp a.eval o).run P w=x at *
 cases x with
 | ok n w' =>
  cases n<;>simp only[Oper.upon] at m ⊢<;>exact m
 | halt x w' =>
  cases x<;>simp only[Oper.upon] at m ⊢
theorem qe(x:qi5 l i=some o)(v:(qat l.toArray cl i==2)=true)(h:∀m,(∀t w',Keeps (C w') (wpP P l.toArray Q C cl (qc8 l cl) p t w')→m .normal t w')→wpList P l.toArray m [o] a w):wpP P l.toArray Q C cl (qc8 l cl) (.step i p) a w :=
 qe' x v fun m y=>h m fun t w' h=>y t w' ⟨fun _=>h.c,h.k⟩
theorem qd(x:qi5 l i=some o)(v:(qat l.toArray cl i==2)=true)(y:qc8 l cl i=false)(h:∀m,(∀t w',wpP P l.toArray Q C cl (qc8 l cl) p t w'→m .normal t w')→wpList P l.toArray m [o] a w):wpP P l.toArray Q C cl (qc8 l cl) (.step i p) a w :=
 qe' x v fun m z=>h m fun t w' h=>z t w' ⟨(fun e=>by rw[y] at e;cases e),h⟩
end
end
end
section
variable {P:Program}{ops:Array Oper}{Q:Exit→Act→World→Prop}{l:List Oper}{o:Oper}{r:List Oper}{a A:Act}{w:World}{C:World→Prop}{cl:List Nat}{p:Plan}{i:Nat}
theorem tw4{id:Nat}(h:qc7 P l.toArray Q l a w.drew)(t:P.follows .mixedOrders=true:=by kernel_rfl)(m:q77 l [] (Plan.of (List.range' 0 l.length))=true:=by decide +kernel):(Code.region id l.toArray true).wp P Q a w:=zao t m h
end
structure Tag(A:Act):Prop where
section
variable {P:Program}{ops:Array Oper}{Q:Exit→Act→World→Prop}{l:List Oper}{o:Oper}{r:List Oper}{a A:Act}{w:World}{C:World→Prop}{cl:List Nat}{p:Plan}{i:Nat}
theorem uw1(_:Tag A)(h:∀w m (_:∀a',a'=A→m .normal a' w),wpList P ops m [o] a w)(k:qc7 P ops Q r A w)(t:(qbw o==0)=true:=by with_unfolding_all rfl)(hd:qlf o a=true:=by with_unfolding_all rfl):qc7 P ops Q (o::r) a w:=tp t hd h k
theorem uw2(_:Tag A)(h:∀m (_:∀a',a'=A→m .normal a' w),wpList P ops m [o] a w)(k:qc7 P ops Q r A w)(t:(qbw o==1)=true:=by with_unfolding_all rfl):qc7 P ops Q (o::r) a w:=tr t h k
theorem uw3(h:∀m (_:∀a' w',qc7 P ops Q r a' w'→m .normal a' w'),wpList P ops m [o] a w)(t:(qbw o==2)=true:=by with_unfolding_all rfl):qc7 P ops Q (o::r) a w:=te t h
theorem uq1(_:Tag A)(h:∀w m (_:∀a',a'=A→m .normal a' w),wpList P l.toArray m [o] a w)(k:wpP P l.toArray Q C cl (qc8 l cl) p A w)(v:qi5 l i=some o:=by with_unfolding_all rfl)(t:(qat l.toArray cl i==0)=true:=by with_unfolding_all rfl)(hd:qlf o a=true:=by with_unfolding_all rfl):wpP P l.toArray Q C cl (qc8 l cl) (.step i p) a w:=qp v t hd h k
theorem uq2(_:Tag A)(h:∀w (_:C w) m (_:∀a',a'=A→m .normal a' w),wpList P l.toArray m [o] a w)(k:wpP P l.toArray Q C cl (qc8 l cl) p A w)(x:qi5 l i=some o:=by with_unfolding_all rfl)(v:(qat l.toArray cl i==3)=true:=by with_unfolding_all rfl)(hd:qlf o a=true:=by with_unfolding_all rfl)(t:C w:=by with_reducible assumption):wpP P l.toArray Q C cl (qc8 l cl) (.step i p) a w:=qc x v hd t h k
theorem uq3(_:Tag A)(h:∀m (_:∀a',a'=A→m .normal a' w),wpList P l.toArray m [o] a w)(k:wpP P l.toArray Q C cl (qc8 l cl) p A w)(v:qi5 l i=some o:=by with_unfolding_all rfl)(t:(qat l.toArray cl i==1)=true:=by with_unfolding_all rfl):wpP P l.toArray Q C cl (qc8 l cl) (.step i p) a w:=qr v t h k
theorem uq4(h:∀m (_:∀a' w',wpP P l.toArray Q C cl (qc8 l cl) p a' w'→m .normal a' w'),wpList P l.toArray m [o] a w)(v:qi5 l i=some o:=by with_unfolding_all rfl)(t:(qat l.toArray cl i==2)=true:=by with_unfolding_all rfl)(x:qc8 l cl i=false:=by decide +kernel):wpP P l.toArray Q C cl (qc8 l cl) (.step i p) a w:=qd v t x h
theorem uq5(h:∀m (_:∀a' w',Keeps (C w') (wpP P l.toArray Q C cl (qc8 l cl) p a' w')→m .normal a' w'),wpList P l.toArray m [o] a w)(v:qi5 l i=some o:=by with_unfolding_all rfl)(t:(qat l.toArray cl i==2)=true:=by with_unfolding_all rfl):wpP P l.toArray Q C cl (qc8 l cl) (.step i p) a w:=qe v t h
end
theorem ur{α:Type _}{a b:α}(h:a=b:=by with_reducible rfl):a=b:=h
theorem ut{G H K:Prop}{A:Act}(h:H)(k:K)(z:Tag A→H→K→G:=by with_reducible first | exact fun t h k=>uw1 t h k | exact fun t h k=>uw2 t h k | exact fun t h k=>uq1 t h k | exact fun t h k=>uq2 t h k | exact fun t h k=>uq3 t h k):G:=z ⟨⟩ h k
theorem uu{G H:Prop}(h:H)(z:H→G:=by with_reducible first | exact fun h=>uw3 h | exact fun h=>uq4 h | exact fun h=>uq5 h | exact fun h=>tn h | exact fun h=>qn h | exact fun h=>tw4 h):G:=z h
theorem Upd.ofDrew{S:Nat→Prop}{w w':World}(h:Upd S w.drew w'):Upd S w w':=⟨h.os,h.tape,h.output,h.size,h.block⟩
theorem Q.ofDrew{w w':World}(h:Q w.drew w'):Q w w':=by
 obtain⟨n,rfl⟩:=h;exact⟨1+n,rfl |>.trans (World.drewN_drewN w 1 n)⟩
theorem qgq{x:Int}(m : -9223372036854775808≤x)(t:x≤9223372036854775807):IntKind.i64.wrap x=x:=by rw[IntKind.wrap_i64];omega
theorem qdl{x:Int}(m:0≤x)(t:x≤18446744073709551615):IntKind.u64.wrap x=x:=by rw[IntKind.wrap_u64];omega
end Go.Proofs.YtfmkdoachjgjbaaGreatDoor
