/-
  A region that draws its order, whose operations with effects stand in a row: it may be walked in its lexical order. Operations that only compute may stand anywhere; loads wait for, or are waited for by, each operation with an effect.
-/
import Derived.Test.YthnohmjbbeahmaaGreatDoorDag
import Derived.Test.YthnohmjbbeahmaaGreatDoorMaa
set_option linter.unusedVariables false
set_option linter.unusedSimpArgs false
namespace Go.Proofs.YthnohmjbbeahmaaGreatDoor
open Go.RowKit
def qcn(o:Oper):Nat :=
 match o.op with
 | .move _ | .assign _ | .pick .. | .extract .. | .fieldAddr .. | .field .. | .makeFunc .. | .nilCheck _ | .binOp .. | .unOp .. | .indexAddr .. | .index .. | .build .. | .slice .. => 0
 | .load .. | .lookup .. | .convert .. => 1
 | .call c=>match c.callee with | .builtin .len=>0 | .builtin .cap=>0 | _=>2
 | _=>2
def noQ:Exit→Act→World→Prop:=fun _ _ _=>False
section
variable {P:Program}{ops:Array Oper}{Q:Exit→Act→World→Prop}
def qez(P:Program)(ops:Array Oper)(w:World)(o:Oper)(v:Value)(a:Act):Prop :=
 (Region.wanted o (yielded ops a.tmps)=true∧(execOp a.eval o).run P w = .ok (.value v) w)∨(Region.wanted o (yielded ops a.tmps)=false∧v=undef)
theorem qez.of_same{o:Oper}{v:Value}{a g:Act}{w:World}(z:qez P ops w o v a)(m:execOp g.eval o=execOp a.eval o)
  (t:Region.wanted o (yielded ops g.tmps)=Region.wanted o (yielded ops a.tmps)):qez P ops w o v g:=by
 unfold qez at *
 rw[m,t]
 exact z
theorem qez.wpOp{i:Nat}{o:Oper}{v:Value}{a:Act}{w:World}(m:ops[i]? = some o)(t:qez P ops w o v a)
  {K:Act→World→Prop} (h:K (a.put o.dst v) w):wpOp P ops Q i K a w:=by
 unfold Go.wpOp
 simp only[m]
 rcases t with ⟨g,hv⟩ | ⟨g,rfl⟩
 ·simp only[g,if_true,Oper.wp,hv,Oper.upon];exact .inl h
 ·simp only[g,Bool.false_eq_true,if_false];exact h
theorem qka{o:Oper}{v u:Value}{a:Act}{w:World}(m:qez P ops w o v a)(g:qez P ops w o u a):v=u:=by
 rcases m with ⟨a1,a2⟩ | ⟨a1,a2⟩<;>rcases g with ⟨b1,b2⟩ | ⟨b1,b2⟩
 ·have:=a2.symm.trans b2;simpa using this
 ·rw[a1] at b1;cases b1
 ·rw[a1] at b1;cases b1
 ·rw[a2,b2]
def qcs(P:Program)(ops:Array Oper)(C:World→Prop)(o:Oper)(v:Value)(a:Act):Prop:=∀w,C w→qez P ops w o v a
theorem qcs.of_same{C:World→Prop}{o:Oper}{v:Value}{a g:Act}(D:qcs P ops C o v a)(t:execOp g.eval o=execOp a.eval o)
  (z:Region.wanted o (yielded ops g.tmps)=Region.wanted o (yielded ops a.tmps)):qcs P ops C o v g:=fun w m=>(D w m).of_same t z
def qcr(P:Program)(ops:Array Oper)(C:World→Prop)(c:Nat)(w:World)(o:Oper)(v:Value)(a:Act):Prop:=if c=0 then qcs P ops (fun _=>True) o v a else if c=3 then qcs P ops C o v a else qez P ops w o v a
theorem qcr.w{C:World→Prop}{c:Nat}{o:Oper}{v:Value}{a:Act}{w:World}(g:qcr P ops C c w o v a)(m:c=3→C w):qez P ops w o v a:=by
 unfold qcr at g;split at g
 ·exact g w trivial
 ·split at g
  ·exact g w (m ‹_›)
  ·exact g
theorem qcr.of_same{C:World→Prop}{c:Nat}{o:Oper}{v:Value}{a m:Act}{w:World}(g:qcr P ops C c w o v a)(t:execOp m.eval o=execOp a.eval o)
  (z:Region.wanted o (yielded ops m.tmps)=Region.wanted o (yielded ops a.tmps)):qcr P ops C c w o v m:=by
 unfold qcr at *
 split at g
 ·rw[if_pos ‹_›];exact g.of_same t z
 ·rw[if_neg ‹_›];split at g
  ·rw[if_pos ‹_›];exact g.of_same t z
  ·rw[if_neg ‹_›];exact g.of_same t z
def qa4(ops:Array Oper)(cl:List Nat)(i:Nat):Nat :=
 match ops[i]? with
 | none=>0
 | some o=>if qcn o==1&&cl.contains i then 3 else qcn o
def qf9(c:Nat):Bool:=c==0 || c==1 || c==3
theorem qvv{cl:List Nat}{i:Nat}{o:Oper}(m:ops[i]? = some o)(h:qf9 (qa4 ops cl i)=true):qcn o≤1:=by
 have e:qa4 ops cl i=if (qcn o==1&&cl.contains i)=true then 3 else qcn o:=by unfold qa4;rw[m]
 rw[e] at h;by_cases g:(qcn o==1&&cl.contains i)=true
 ·rw[Bool.and_eq_true,beq_iff_eq] at g;omega
 ·rw[if_neg g] at h;unfold qf9 at h;simp only[Bool.or_eq_true,beq_iff_eq] at h;have:qcn o≤2:=by
   unfold qcn;split<;>(try split)<;>decide
  omega
theorem q3z{cl:List Nat}{i:Nat}(h:qa4 ops cl i=3):i∈cl:=by
 unfold qa4 at h;split at h
 ·cases h
 ·rename_i o m;split at h
  ·rename_i g;simp at g;exact g.2
  ·have:qcn o≤2:=by
    unfold qcn;split<;>(try split)<;>decide
   omega
def wpI(P:Program)(ops:Array Oper)(C:World→Prop)(cl:List Nat)(kp:Nat→Bool)(i:Nat)(K:Act→World→Prop)(a:Act)(w:World):Prop :=
 match ops[i]? with
 | none=>K a w
 | some o=>if qf9 (qa4 ops cl i)=true then ∃v,qcr P ops C (qa4 ops cl i) w o v a∧K (a.put o.dst v) w else wpOp P ops noQ i (fun g w'=>(kp i=true→C w')∧K g w') a w
section
variable {C:World→Prop}{cl:List Nat}{kp:Nat→Bool}
theorem qci{i:Nat}{o:Oper}{K:Act→World→Prop}{a:Act}{w:World}(m:ops[i]? = some o):wpI P ops C cl kp i K a w=if qf9 (qa4 ops cl i)=true then ∃v,qcr P ops C (qa4 ops cl i) w o v a∧K (a.put o.dst v) w else wpOp P ops noQ i (fun g w'=>(kp i=true→C w')∧K g w') a w:=by
 unfold wpI;rw[m]
theorem qi2:¬LetsOut noQ:=fun⟨_,_,h⟩=>h
theorem zhy{o:Oper}{a:Act}{w:World}{K:Act→World→Prop}(h:o.wp P a w K noQ):o.wp P a w K Q:=by
 unfold Oper.wp at *
 generalize (execOp a.eval o).run P w=r at *
 cases r with
 | ok n w' =>
  cases n<;>simp only[Oper.upon] at h ⊢<;>try exact h
  refine Calls.mono h fun e m g=> ?_
  cases e with
  | returned v=>exact g
  | panicked c=>exact g.elim
  | outgrown=>exact absurd g qi2
 | halt x w' =>
  cases x<;>simp only[Oper.upon] at h ⊢
  exact h.elim
theorem zc3{i:Nat}{a:Act}{w:World}{K:Act→World→Prop}(h:wpOp P ops noQ i K a w):wpOp P ops Q i K a w:=by
 unfold wpOp at *
 split
 ·rename_i g;simp only[g] at h;exact h
 ·rename_i o g;simp only[g] at h;split
  ·rename_i m;rw[if_pos m] at h;rcases h with h | h
   ·exact .inl (zhy h)
   ·exact absurd h.2 qi2
  ·rename_i m;rw[if_neg m] at h;exact h
theorem zc2{i:Nat}{a:Act}{w:World}{K:Act→World→Prop}(F:qa4 ops cl i=3→C w)(h:wpI P ops C cl kp i K a w):wpOp P ops Q i (fun z w'=>(qf9 (qa4 ops cl i)=true→w'=w)∧(qf9 (qa4 ops cl i)=false→kp i=true→C w')∧K z w') a w:=by
 unfold wpI at h;cases g:ops[i]? with
 | none=>rw[g] at h;unfold wpOp;rw[g];exact⟨fun _=>rfl,(fun h=>by have:qa4 ops cl i=0:=(by unfold qa4;rw[g]);rw[this] at h;cases h),h⟩
 | some o =>
  rw[g] at h;simp only at h;split at h
  ·rename_i m;obtain⟨v,D,E⟩:=h;exact(D.w F).wpOp g ⟨fun _=>rfl,(fun h=>by rw[m] at h;cases h),E⟩
  ·rename_i m;refine wpOp_mono (fun a w t=>⟨fun h=>absurd h m,fun _=>t.1,t.2⟩) (zc3 h)
theorem qvg{j:Nat}{m t:Oper}{v:Value}(T:ops[j]? = some t)(H:m.apart ops t=true)(I:∀cs b,m.op ≠ .select cs b)(J:∀cs b,t.op ≠ .select cs b)
  {K:Act→World→Prop} {a:Act} {w:World} (z:qcs P ops C m v a) (h:wpOp P ops noQ j K (a.put m.dst v) w) :
  wpOp P ops noQ j (fun N w'=>qcs P ops C m v N∧K (N.put m.dst v) w') a w:=by
 obtain⟨O,E,R⟩:=Oper.apart_spec H
 have g:∀(a:Act),qcs P ops C m v a→∀u,qcs P ops C m v (a.put t.dst u):=fun a z u =>
  z.of_same (execOp_put m I a t.dst u R) (wanted_put m a t.dst u R)
 have D:∀d,qcs P ops C m v {a with defers:=d::a.defers} := fun d=>z.of_same rfl rfl
 unfold wpOp at *
 simp only[T] at *
 rw[wanted_put t a m.dst v O] at h
 split
 ·rename_i L;simp only[L,if_true] at h;rcases h with h | h
  case inr=>exact absurd h.2 qi2
  refine .inl ?_;unfold Oper.wp at *
  rw[execOp_put t J a m.dst v O] at h;generalize (execOp a.eval t).run P w=r at *
  cases r with
  | ok n w' =>
   cases n<;>simp only[Oper.upon] at h ⊢
   case value u=>exact⟨g a z u,by rw[←Act.put_comm a v u E];exact h⟩
   case skip=>exact⟨g a z _,by rw[←Act.put_comm a v undef E];exact h⟩
   case defer d =>
    refine⟨g _ (D d) _,?_⟩;rw[←Act.put_comm _ v undef E,←Act.put_defers];exact h
   case enter f args =>
    refine Calls.mono h fun e M F=> ?_
    cases e with
    | returned u=>exact⟨g a z u,by rw[←Act.put_comm a v u E];exact F⟩
    | panicked c=>exact F.elim
    | outgrown=>exact F
   case row row args=>exact Rows.mono h fun u M F=>⟨g a z u,by rw[←Act.put_comm a v u E];exact F⟩
  | halt x w' =>
   cases x<;>simp only[Oper.upon] at h ⊢
   case panic u=>exact h.elim
 ·rename_i L;simp only[L] at h;exact⟨g a z _,by rw[←Act.put_comm a v undef E];exact h⟩
theorem qvf{j:Nat}{m t:Oper}(Z:ops[j]? = some t)(N:m.apart ops t=true)(O:∀cs b,m.op ≠ .select cs b)(R:∀cs b,t.op ≠ .select cs b)
  {K:Act→World→Prop} {a:Act} {w:World} (h:wpOp P ops noQ j (fun W w'=>C w'∧∃v,qcs P ops C m v W∧K (W.put m.dst v) w') a w) :
  ∃v,qcs P ops C m v a∧wpOp P ops noQ j K (a.put m.dst v) w:=by
 obtain⟨L,H,X⟩:=Oper.apart_spec N
 have g:∀(a:Act) u v,qcs P ops C m v (a.put t.dst u)→qcs P ops C m v a:=fun a u v z =>
  z.of_same (execOp_put m O a t.dst u X).symm (wanted_put m a t.dst u X).symm
 unfold wpOp at *
 simp only[Z] at *
 split at h
 ·rename_i T;rcases h with h | h
  case inr=>exact absurd h.2 qi2
  unfold Oper.wp at *
  have key:∀v,qcs P ops C m v a→Oper.upon P t (a.put m.dst v) K noQ ((execOp a.eval t).run P w)→∃v,qcs P ops C m v a∧(if Region.wanted t (yielded ops (a.put m.dst v).tmps)=true then (Oper.upon P t (a.put m.dst v) K noQ ((execOp (a.put m.dst v).eval t).run P w)∨t.asks P (a.put m.dst v) w∧LetsOut noQ) else K ((a.put m.dst v).put t.dst undef) w):=by
   intro v z D;refine⟨v,z,?_⟩;rw[wanted_put t a m.dst v L,if_pos T,execOp_put t R a m.dst v L];exact .inl D
  generalize (execOp a.eval t).run P w=r at h key;cases r with
  | ok n w' =>
   cases n<;>simp only[Oper.upon] at h key
   case value u =>
    obtain⟨-,v,z,D⟩:=h;exact key v (g _ _ _ z) (by rw[Act.put_comm a v u H];exact D)
   case skip =>
    obtain⟨-,v,z,D⟩:=h;exact key v (g _ _ _ z) (by rw[Act.put_comm a v undef H];exact D)
   case defer d =>
    obtain⟨-,v,z,D⟩:=h;refine key v ((g _ _ _ z).of_same rfl rfl) ?_;have e:=Act.put_comm ({a with defers:=d::a.defers} : Act) v undef H;have Y:=Act.put_defers a m.dst v d;rw[Y,e];exact D
   case enter f args =>
    obtain⟨e,w2,fr,M,-⟩:=h [];cases e with
    | panicked c=>exact M.elim
    | outgrown=>exact absurd M qi2
    | returned u =>
     obtain⟨-,v,z,-⟩:=M;have E:=g _ _ _ z;refine key v E (Calls.mono h fun e V J=> ?_);cases e with
     | panicked c=>exact J
     | outgrown=>exact J
     | returned U =>
      obtain⟨I,v',F,D⟩:=J;have:=qka (E _ I) (g _ _ _ F _ I);subst this;show K _ _;rw[Act.put_comm a v U H];exact D
   case row row args =>
    obtain⟨u,w2,⟨-,v,z,-⟩,-⟩:=h (Frame.ofRow P row args .normal) [];have E:=g _ _ _ z;refine key v E (Rows.mono h fun U V J=> ?_);obtain⟨I,v',F,D⟩:=J;have:=qka (E _ I) (g _ _ _ F _ I);subst this;show K _ _;rw[Act.put_comm a v U H];exact D
  | halt x w' =>
   cases x<;>simp only[Oper.upon] at h
   exact h.elim
 ·rename_i T;obtain⟨-,v,z,D⟩:=h;refine⟨v,g _ _ _ z,?_⟩;rw[wanted_put t a m.dst v L,if_neg T,Act.put_comm a v undef H];exact D
def qqi(ops:Array Oper)(cl:List Nat)(i j:Nat):Bool :=
 match ops[i]?,ops[j]? with
 | some x,some y=>x.apart ops y&&(qa4 ops cl i==0 || qa4 ops cl j==0 || qa4 ops cl i==3 || qa4 ops cl j==3 || (qa4 ops cl i==1&&qa4 ops cl j==1))
 | _,_=>true
theorem qq0{x y:Oper}(h:x.apart ops y=true):y.apart ops x=true:=by
 unfold Oper.apart at *
 cases m:x.dst with
 | none=>rw[m] at h;cases g:y.dst with
  | none=>rfl
  | some e=>rw[g] at h;simpa using h
 | some d=>rw[m] at h;cases g:y.dst with
  | none=>rw[g] at h;simpa using h
  | some e =>
   rw[g] at h;simp only[Bool.and_eq_true,Bool.not_eq_true',bne_iff_ne,ne_eq,Option.some.injEq] at h ⊢;exact⟨⟨h.2,fun t=>h.1.2 t.symm⟩,h.1.1⟩
theorem zf0{i j:Nat}{m O:Oper}(N:ops[i]? = some m)(M:ops[j]? = some O)(X:qqi ops cl i j=true)(F:∀cs b,m.op ≠ .select cs b)(H:∀cs b,O.op ≠ .select cs b)(a4:qa4 ops cl i=3→kp j=true)
  {K:Act→World→Prop} {a:Act} {w:World} (h:wpI P ops C cl kp j (fun a w=>wpI P ops C cl kp i K a w) a w):wpI P ops C cl kp i (fun a w=>wpI P ops C cl kp j K a w) a w:=by
 unfold qqi at X
 rw[N,M] at X
 simp only[Bool.and_eq_true,Bool.or_eq_true,beq_iff_eq] at X
 obtain⟨E,hc⟩:=X
 obtain⟨h1,h2,h3⟩:=Oper.apart_spec E
 rw[qci M] at h
 rw[qci N]
 by_cases D:qf9 (qa4 ops cl j)=true
 ·rw[if_pos D] at h;obtain⟨R,T,h⟩:=h;rw[qci N] at h;by_cases z:qf9 (qa4 ops cl i)=true
  ·rw[if_pos z] at h ⊢;obtain⟨Z,yi,h⟩:=h;refine⟨Z,yi.of_same (execOp_put m F a O.dst R h3).symm (wanted_put m a O.dst R h3).symm,?_⟩;rw[qci M,if_pos D];refine⟨R,T.of_same (execOp_put O H a m.dst Z h1) (wanted_put O a m.dst Z h1),?_⟩;rw[Act.put_comm a Z R h2];exact h
  ·rw[if_neg z] at h ⊢;have a5:qa4 ops cl i≠0∧qa4 ops cl i≠1∧qa4 ops cl i≠3:=by
    unfold qf9 at z;simp only[Bool.or_eq_true,beq_iff_eq,not_or] at z;exact⟨z.1.1,z.1.2,z.2⟩
   have g:qa4 ops cl j=0∨qa4 ops cl j=3:=by omega
   unfold qcr at T;rcases g with g | g
   ·rw[if_pos g] at T;refine wpOp_mono ?_ (qvg N (qq0 E) H F T h);rintro J w' ⟨y',L,t⟩;refine⟨L,?_⟩;rw[qci M,if_pos D];refine⟨R,?_,t⟩;unfold qcr;rw[if_pos g];exact y'
   ·rw[if_neg (by omega),if_pos g] at T;refine wpOp_mono ?_ (qvg N (qq0 E) H F T h);rintro J w' ⟨y',L,t⟩;refine⟨L,?_⟩;rw[qci M,if_pos D];refine⟨R,?_,t⟩;unfold qcr;rw[if_neg (by omega),if_pos g];exact y'
 ·rw[if_neg D] at h;have a6:qa4 ops cl j≠0∧qa4 ops cl j≠1∧qa4 ops cl j≠3:=by
   unfold qf9 at D;simp only[Bool.or_eq_true,beq_iff_eq,not_or] at D;exact⟨D.1.1,D.1.2,D.2⟩
  have U:qa4 ops cl i=0∨qa4 ops cl i=3:=by omega
  have z:qf9 (qa4 ops cl i)=true:=by
   unfold qf9;rcases U with e | e<;>rw[e]<;>rfl
  rw[if_pos z];have V:∀v,(∃Y,Y=v∧qcr P ops C (qa4 ops cl i) w m Y a)→wpOp P ops noQ j (fun a w=>(kp j=true→C w)∧K a w) (a.put m.dst v) w→∃v,qcr P ops C (qa4 ops cl i) w m v a∧wpI P ops C cl kp j K (a.put m.dst v) w:=by
   rintro v ⟨Y,rfl,I⟩ t;refine⟨Y,I,?_⟩;rw[qci M,if_neg D];exact t
  rcases U with g | g
  ·have h':wpOp P ops noQ j (fun J w'=>(fun _=>True) w'∧∃v,qcs P ops (fun _=>True) m v J∧(fun a w=>(kp j=true→C w)∧K a w) (J.put m.dst v) w') a w:=by
    refine wpOp_mono ?_ h;rintro J w' ⟨L,W⟩;rw[qci N,if_pos z] at W;obtain⟨v,I,t⟩:=W;refine⟨trivial,v,?_,L,t⟩;simpa only[qcr,if_pos g] using I
   obtain⟨v,I,t⟩:=qvf (C:=fun _=>True) (K:=fun a w=>(kp j=true→C w)∧K a w) M E F H h';refine V v ⟨v,rfl,?_⟩ t;unfold qcr;rw[if_pos g];exact I
  ·have h':wpOp P ops noQ j (fun J w'=>C w'∧∃v,qcs P ops C m v J∧(fun a w=>(kp j=true→C w)∧K a w) (J.put m.dst v) w') a w:=by
    refine wpOp_mono ?_ h;rintro J w' ⟨L,W⟩;rw[qci N,if_pos z] at W;obtain⟨v,I,t⟩:=W;refine⟨L (a4 g),v,?_,L,t⟩;unfold qcr at I;rw[if_neg (by omega),if_pos g] at I;exact I
   obtain⟨v,I,t⟩:=qvf (C:=C) (K:=fun a w=>(kp j=true→C w)∧K a w) M E F H h';refine V v ⟨v,rfl,?_⟩ t;unfold qcr;rw[if_neg (by omega),if_pos g];exact I
end
inductive Plan where
 | done
 | step (i:Nat) (p:Plan)
 | fork (p q:Plan)
def Plan.first(eff:Nat→Bool):Plan→List Nat
 | .done=>[]
 | .step i p=>if eff i then [i] else p.first eff
 | .fork p q=>p.first eff++q.first eff
def Plan.of:List Nat→Plan
 | []=> .done
 | i::r=> .step i (Plan.of r)
def qlo(A:List (List Nat))(eff:Nat→Bool)(p:Plan)(rem:List Nat):Prop:=∀j∈rem,eff j=true→j∈p.first eff∨∃k∈rem,eff k=true∧k∈A.getD j []
def Cov(A:List (List Nat))(eff:Nat→Bool):Plan→List Nat→Prop
 | .done,rem=>rem=[]
 | .step i p,rem=>i∈rem∧(∀k∈rem,k∉A.getD i [])∧Cov A eff p (rem.erase i)∧(eff i=true→qlo A eff p (rem.erase i))
 | .fork p q,rem=>Cov A eff p rem∧Cov A eff q rem
def q1q(A:List (List Nat))(eff:Nat→Bool)(p:Plan)(rem:List Nat):Bool:=rem.all fun j=> !eff j || (p.first eff).contains j || rem.any fun k=>eff k&&(A.getD j []).contains k
def qye(A:List (List Nat))(eff:Nat→Bool):Plan→List Nat→Bool
 | .done,rem=>rem.isEmpty
 | .step i p,rem=>rem.contains i&&(rem.all fun k=> !(A.getD i []).contains k)&&qye A eff p (rem.erase i)&&(!eff i || q1q A eff p (rem.erase i))
 | .fork p q,rem=>qye A eff p rem&&qye A eff q rem
theorem qt3{A:List (List Nat)}{eff:Nat→Bool}{p:Plan}{rem:List Nat}(h:q1q A eff p rem=true):qlo A eff p rem:=by
 intro j t m;have:=List.all_eq_true.1 h j t;rw[m] at this;simp only[Bool.not_true,Bool.false_or,Bool.or_eq_true] at this;rcases this with h | h
 ·exact .inl (List.contains_iff_mem.1 h)
 ·obtain⟨k,v,g⟩:=List.any_eq_true.1 h;rw[Bool.and_eq_true] at g;exact .inr ⟨k,v,g.1,List.contains_iff_mem.1 g.2⟩
theorem qqd{A:List (List Nat)}{eff:Nat→Bool} : ∀ {p:Plan} {rem:List Nat},qye A eff p rem=true→Cov A eff p rem
 | .done,rem,h=>by simpa [qye,Cov] using h
 | .step i p,rem,h=>by
  unfold qye at h;simp only[Bool.and_eq_true] at h;obtain⟨⟨⟨m,t⟩,v⟩,g⟩:=h;refine⟨List.contains_iff_mem.1 m,fun k D=> ?_,qqd v,fun z=> ?_⟩
  ·have:=List.all_eq_true.1 t k D;simpa using this
  ·rw[z] at g;exact qt3 (by simpa using g)
 | .fork p q,rem,h=>by
  unfold qye at h;rw[Bool.and_eq_true] at h;exact⟨qqd h.1,qqd h.2⟩
def wpP(P:Program)(ops:Array Oper)(Q:Exit→Act→World→Prop)(C:World→Prop)(cl:List Nat)(kp:Nat→Bool):Plan→Act→World→Prop
 | .done,a,w=>Q .normal a w
 | .step i p,a,w=>wpI P ops C cl kp i (wpP P ops Q C cl kp p) a w
 | .fork p q,a,w=>wpP P ops Q C cl kp p a w∧wpP P ops Q C cl kp q a w
def Plan.rm(i:Nat):Plan→Plan
 | .done=> .done
 | .step j p=>if i=j then p else .step j (p.rm i)
 | .fork p q=> .fork (p.rm i) (q.rm i)
def Plan.rmE(eff:Nat→Bool)(i:Nat):Plan→Plan
 | .done=> .done
 | .step j p=>if i=j then p else .step j (p.rmE eff i)
 | .fork p q=>if (p.first eff).contains i then p.rmE eff i else q.rmE eff i
section
variable {A:List (List Nat)}{eff:Nat→Bool}
theorem qn1{i:Nat}(g:eff i=false):∀p:Plan,(p.rm i).first eff=p.first eff
 | .done=>rfl
 | .step j p=>by
  unfold Plan.rm;split
  ·rename_i e;subst e;rw[Plan.first,g];rfl
  ·rw[Plan.first,Plan.first,qn1 g p]
 | .fork p q=>by rw[Plan.rm,Plan.first,Plan.first,qn1 g p,qn1 g q]
theorem qsq{i:Nat}(t:eff i=false){p:Plan}{rem:List Nat}(nd:rem.Nodup)(h:qlo A eff p rem):qlo A eff (p.rm i) (rem.erase i):=by
 intro j z v;rw[qn1 t];rcases h j (List.mem_of_mem_erase z) v with h | ⟨k,D,g,m⟩
 ·exact .inl h
 ·exact .inr ⟨k,(nd.mem_erase_iff).2 ⟨(fun e=>by rw[e,t] at g;cases g),D⟩,g,m⟩
theorem qw9{i:Nat}(m:eff i=false):∀ {p:Plan} {rem:List Nat},rem.Nodup→i∈rem→Cov A eff p rem→Cov A eff (p.rm i) (rem.erase i)
 | .done,rem,nd,g,h=>by rw[Cov] at h;rw[h] at g;cases g
 | .step j p,rem,nd,g,h=>by
  obtain⟨D,E,v,F⟩:=h;unfold Plan.rm;split
  ·rename_i e;subst e;exact v
  ·rename_i e;have t:i∈rem.erase j:=(nd.mem_erase_iff).2 ⟨e,g⟩;refine⟨(nd.mem_erase_iff).2 ⟨fun z=>e z.symm,D⟩,fun k I=>E k (List.mem_of_mem_erase I),?_,fun H=> ?_⟩
   ·rw[List.erase_comm];exact qw9 m (nd.erase j) t v
   ·rw[List.erase_comm];exact qsq m (nd.erase j) (F H)
 | .fork p q,rem,nd,g,h=>⟨qw9 m nd g h.1,qw9 m nd g h.2⟩
theorem qql{i:Nat}(z:eff i=true):∀ {p:Plan} {rem:List Nat},rem.Nodup→i∈rem→i∈p.first eff→Cov A eff p rem→Cov A eff (p.rmE eff i) (rem.erase i)∧qlo A eff (p.rmE eff i) (rem.erase i)
 | .done,rem,nd,v,g,h=>by cases g
 | .step j p,rem,nd,v,g,h=>by
  obtain⟨O,R,M,T⟩:=h;unfold Plan.rmE;split
  ·rename_i e;subst e;exact⟨M,T z⟩
  ·rename_i e;have t:eff j=false:=by
    cases t:eff j with
    | false=>rfl
    | true =>
     rw[Plan.first,t] at g;simp at g;exact absurd g e
   have F:i∈p.first eff:=by rw[Plan.first,t] at g;exact g
   have H:i∈rem.erase j:=(nd.mem_erase_iff).2 ⟨e,v⟩;obtain⟨K,L⟩:=qql z (nd.erase j) H F M;rw[List.erase_comm] at K L;refine⟨⟨(nd.mem_erase_iff).2 ⟨fun D=>e D.symm,O⟩,fun k I=>R k (List.mem_of_mem_erase I),K,fun m=>by rw[t] at m;cases m⟩,?_⟩;intro k I m;have J:k≠j:=fun D=>by rw[D,t] at m;cases m
   rw[Plan.first,t];rcases L k (((nd.erase i).mem_erase_iff).2 ⟨J,I⟩) m with h | ⟨U,h,N⟩
   ·exact .inl h
   ·exact .inr ⟨U,List.mem_of_mem_erase h,N⟩
 | .fork p q,rem,nd,v,g,h=>by
  unfold Plan.rmE;split
  ·rename_i E;exact qql z nd v (List.contains_iff_mem.1 E) h.1
  ·rename_i E;rw[Plan.first,List.mem_append] at g;exact qql z nd v (g.resolve_left fun h=>E (List.contains_iff_mem.2 h)) h.2
end
section
variable {C:World→Prop}{cl:List Nat}{A:List (List Nat)}{kp:Nat→Bool}
structure Turns(ops:Array Oper)(cl:List Nat)(A:List (List Nat))(kp:Nat→Bool):Prop where
 sel:Region.noSelect ops=true
 turn:∀i j,i<ops.size→j<ops.size→i≠j→j∉A.getD i []→i∉A.getD j []→(qa4 ops cl i=2∧qa4 ops cl j=2)∨qqi ops cl i j=true
 two:∀i,i<ops.size→qa4 ops cl i≤3
 kept:∀i j,j∈cl→j∉A.getD i []→kp i=true
theorem qz2{c:Nat}(h:qf9 c=true):c≠2:=by
 rintro rfl;cases h
theorem qsn{c:Nat}(h:c≤3)(g:c≠2):qf9 c=true:=by
 have:c=0∨c=1∨c=3:=by omega
 rcases this with rfl | rfl | rfl<;>rfl
theorem q4t(T:Turns ops cl A kp){i:Nat}{oi:Oper}(F:ops[i]? = some oi)(J:qf9 (qa4 ops cl i)=true):∀(p:Plan) (rem:List Nat) (a:Act) (w:World),(qa4 ops cl i=3→C w)→rem.Nodup→(∀j∈rem,j<ops.size)→i∈rem→(∀k∈rem,k∉A.getD i [])→Cov A (fun i=>qa4 ops cl i==2) p rem →
  wpP P ops Q C cl kp p a w→wpI P ops C cl kp i (wpP P ops Q C cl kp (p.rm i)) a w
 | .done,rem,a,w,z,nd,g,t,H,h,I=>by rw[Cov] at h;rw[h] at t;cases t
 | .step j p,rem,a,w,z,nd,g,t,H,h,I=>by
  obtain⟨U,V,Y,h4⟩:=h;unfold Plan.rm;split
  ·rename_i e;subst e;exact I
  ·rename_i e;have O:i∈rem.erase j:=(nd.mem_erase_iff).2 ⟨e,t⟩;have m:=g j U;have R:ops[j]? = some (ops[j]'m):=Array.getElem?_eq_getElem m;have K:qa4 ops cl i=3→kp j=true:=fun N=>T.kept j i (q3z N) (V i t)
   have Z:wpI P ops C cl kp j (fun a w=>wpI P ops C cl kp i (wpP P ops Q C cl kp (p.rm i)) a w) a w:=by
    have D:wpI P ops C cl kp j (wpP P ops Q C cl kp p) a w:=I;rw[qci R] at D ⊢;have W:=fun a w z=>q4t T F J p (rem.erase j) a w z (nd.erase j) (fun k E=>g k (List.mem_of_mem_erase E)) O (fun k E=>H k (List.mem_of_mem_erase E)) Y
    split at D
    ·rw[if_pos ‹_›];obtain⟨v,y,k⟩:=D;exact⟨v,y,W _ _ z k⟩
    ·rw[if_neg ‹_›];exact wpOp_mono (fun a w E=>⟨E.1,W _ _ (fun N=>E.1 (K N)) E.2⟩) D
   refine zf0 F R ?_ (fun cs b=>Region.noSelect_spec T.sel i _ cs b F) (fun cs b=>Region.noSelect_spec T.sel j _ cs b R) K Z;rcases T.turn i j (g i t) m e (H j U) (V i t) with h | h
   ·exact absurd h.1 (qz2 J)
   ·exact h
 | .fork p q,rem,a,w,z,nd,g,t,H,h,I=>by
  have L:=q4t T F J p rem a w z nd g t H h.1 I.1;have M:=q4t T F J q rem a w z nd g t H h.2 I.2;rw[qci F,if_pos J] at L M ⊢;obtain⟨v1,X,k1⟩:=L;obtain⟨v2,y2,k2⟩:=M;have:=qka (X.w z) (y2.w z);subst this;exact⟨v1,X,k1,k2⟩
theorem qw8(T:Turns ops cl A kp){i:Nat}{Y:Oper}(J:ops[i]? = some Y)(L:qa4 ops cl i=2):∀(p:Plan) (rem:List Nat) (a:Act) (w:World),rem.Nodup→(∀j∈rem,j<ops.size)→i∈rem→(∀k∈rem,k∉A.getD i [])→i∈p.first (fun i=>qa4 ops cl i==2)→Cov A (fun i=>qa4 ops cl i==2) p rem →
  wpP P ops Q C cl kp p a w→wpI P ops C cl kp i (wpP P ops Q C cl kp (p.rmE (fun i=>qa4 ops cl i==2) i)) a w
 | .done,rem,a,w,nd,g,E,F,z,h,H=>by cases z
 | .step j p,rem,a,w,nd,g,E,F,z,h,H=>by
  obtain⟨M,I,W,Z⟩:=h;unfold Plan.rmE;split
  ·rename_i e;subst e;exact H
  ·rename_i e;have m:qa4 ops cl j≠2:=by
    intro h;have I:(qa4 ops cl j==2)=true:=by simpa using h
    rw[Plan.first,I] at z;simp at z;exact absurd z e
   have N:qf9 (qa4 ops cl j)=true:=qsn (T.two j (g j M)) m;have O:i∈p.first (fun i=>qa4 ops cl i==2):=by
    have I:(qa4 ops cl j==2)=false:=by simpa using m
    rw[Plan.first,I] at z;exact z
   have R:i∈rem.erase j:=(nd.mem_erase_iff).2 ⟨e,E⟩;have t:=g j M;have U:ops[j]? = some (ops[j]'t):=Array.getElem?_eq_getElem t;have X:wpI P ops C cl kp j (fun a w=>wpI P ops C cl kp i (wpP P ops Q C cl kp (p.rmE (fun i=>qa4 ops cl i==2) i)) a w) a w:=by
    have K:wpI P ops C cl kp j (wpP P ops Q C cl kp p) a w:=H;rw[qci U,if_pos N] at K ⊢;obtain⟨v,y,k⟩:=K;exact⟨v,y,qw8 T J L p (rem.erase j) _ _ (nd.erase j) (fun k V=>g k (List.mem_of_mem_erase V)) R (fun k V=>F k (List.mem_of_mem_erase V)) O W k⟩
   refine zf0 J U ?_ (fun cs b=>Region.noSelect_spec T.sel i _ cs b J) (fun cs b=>Region.noSelect_spec T.sel j _ cs b U) (fun h=>by rw[L] at h;cases h) X;rcases T.turn i j (g i E) t e (F j M) (I i E) with h | h
   ·exact absurd h.2 m
   ·exact h
 | .fork p q,rem,a,w,nd,g,E,F,z,h,H=>by
  unfold Plan.rmE;split
  ·rename_i D;exact qw8 T J L p rem a w nd g E F (List.contains_iff_mem.1 D) h.1 H.1
  ·rename_i D;rw[Plan.first,List.mem_append] at z;exact qw8 T J L q rem a w nd g E F (z.resolve_left fun h=>D (List.contains_iff_mem.2 h)) h.2 H.2
theorem qxo{eff:Nat→Bool} : ∀ {p:Plan} {a:Act} {w:World},Cov A eff p []→wpP P ops Q C cl kp p a w→Q .normal a w
 | .done,_,_,_,g=>g
 | .step i p,_,_,h,_=>by have:=h.1;cases this
 | .fork p q,_,_,h,g=>qxo h.1 g.1
end
def qer(l:List Oper)(cl:List Nat)(i:Nat):Bool:=cl.any fun j=> !((qvm l []).getD i []).contains j
def zet(l:List Oper)(cl:List Nat)(p:Plan):Bool :=
 let A:=qvm l []
 let ops:=l.toArray
 let eff:=fun i=>qa4 ops cl i==2
 Region.noSelect ops&&((List.range l.length).all fun i=>match l[i]? with
  | none=>true
  | some o =>
   (o.after.toList.all fun e=> !Region.binds .any e || decide (e.on<i)) &&
   ((A.getD i []).all fun k=>o.after.toList.any fun e=>Region.binds .any e&&(k==e.on || (A.getD e.on []).contains k)) &&
   ((List.range l.length).all fun j=>i==j || (A.getD i []).contains j || (A.getD j []).contains i || (eff i&&eff j) || qqi ops cl i j)&&decide (qa4 ops cl i≤3)) &&
 qye A eff p (List.range l.length)&&q1q A eff p (List.range l.length)
end
section
variable {P:Program}{l:List Oper}{Q:Exit→Act→World→Prop}{C:World→Prop}{cl:List Nat}
theorem zeu{A:List (List Nat)}{kp:Nat→Bool}(T:Turns l.toArray cl A kp)(key:∀(i:Nat) o,l[i]? = some o→(∀e∈o.after,Region.binds .any e=true→e.on<i)∧(∀k∈A.getD i [],∃e∈o.after,Region.binds .any e=true∧(k=e.on∨k∈A.getD e.on []))) :
  ∀(v:Nat) (g:Array Bool) (p:Plan) (a:Act) (w:World),(∀j∈cl,j∈(List.range l.length).filter (fun i=> !g.getD i false)→C w)→g.size=l.length→(∀i,g.getD i false=true→∀k∈A.getD i [],g.getD k false=true) →
  ((List.range l.length).filter fun i=> !g.getD i false).length≤v→Cov A (fun i=>qa4 l.toArray cl i==2) p ((List.range l.length).filter fun i=> !g.getD i false)→qlo A (fun i=>qa4 l.toArray cl i==2) p ((List.range l.length).filter fun i=> !g.getD i false) →
  wpP P l.toArray Q C cl kp p a w→wpAny P .any l.toArray Q v g a w:=by
 have W:∀(g:Array Bool),g.size=l.length→Region.ready .any l.toArray g=[]→(List.range l.length).filter (fun i=> !g.getD i false)=[]:=by
  intro g I hr;rw[List.filter_eq_nil_iff];intro i O;have O:=List.mem_range.1 O
  induction i using Nat.strongRecOn with
  | _ i ih =>
   cases hl:g.getD i false with
   | true=>simp
   | false =>
    exfalso;have:i∈Region.ready .any l.toArray g:=by
     rw[mem_ready];have U:l[i]? = some l[i]:=List.getElem?_eq_getElem O;refine⟨?_,l[i],by simp[O],fun e he hb=> ?_⟩
     ·rw[Array.getD_eq_getD_getElem?] at hl ⊢;have:i<g.size:=by omega
      rw[Array.getElem?_eq_getElem this] at hl ⊢;simpa using hl
     ·have h1:=(key i _ U).1 e he hb;have:=ih e.on h1 (List.mem_range.2 (by omega)) (by omega);simpa using this
    rw[hr] at this;cases this
 intro v
 induction v with
 | zero =>
  intro g p a w hC I shut b3 m hf h;have h0:(List.range l.length).filter (fun i=> !g.getD i false)=[]:=List.length_eq_zero_iff.1 (by omega);rw[h0] at m;refine⟨?_,qxo m h⟩;rw[List.eq_nil_iff_forall_not_mem];intro i O;obtain⟨M,o,U,-⟩:=mem_ready.1 O;have J:i<l.length:=by simpa using (Array.getElem?_eq_some_iff.1 U).1
  rw[List.filter_eq_nil_iff] at h0;have:=h0 i (List.mem_range.2 J);rw[Array.getD_eq_getD_getElem?] at M this;have hs:i<g.size:=by omega
  rw[Array.getElem?_eq_getElem hs] at M this;simp at M this;rw[M] at this;cases this
 | succ v ih =>
  intro g p a w hC I shut b3 m hf h;refine⟨fun hr=> ?_,fun i O=> ?_⟩
  ·rw[W g I hr] at m;exact qxo m h
  obtain⟨M,o,U,a5⟩:=mem_ready.1 O;have J:i<l.length:=by simpa using (Array.getElem?_eq_some_iff.1 U).1
  have hs:i<g.size:=by omega
  have b4:l[i]? = some o:=by simpa using U
  have b5:g.getD i false=false:=by
   rw[Array.getD_eq_getD_getElem?] at M ⊢;rw[Array.getElem?_eq_getElem hs] at M ⊢;simpa using M
  obtain⟨e1,e2⟩:=key i o b4;have N:∀k∈A.getD i [],g.getD k false=true:=by
   intro k E;obtain⟨e,he,hb,h⟩:=e2 k E;have h1:=a5 e he hb;rcases h with rfl | h
   ·exact h1
   ·exact shut _ h1 k h
  have nd:((List.range l.length).filter (fun i=> !g.getD i false)).Nodup:=List.Pairwise.filter _ List.nodup_range;have D:((List.range l.length).filter (fun i=> !g.getD i false)).erase i=(List.range l.length).filter (fun j=> !(g.setIfInBounds i true).getD j false):=by
   rw[List.Nodup.erase_eq_filter nd,List.filter_filter];refine List.filter_congr fun j K=> ?_
   by_cases e:i=j
   ·subst e;have:(g.setIfInBounds i true).getD i false=true:=by simp[hs]
    rw[this];simp
   ·have:(g.setIfInBounds i true).getD j false=g.getD j false:=getD_set_ne false e;rw[this];have:(j != i)=true:=by simpa using fun h=>e h.symm
    rw[this,Bool.and_comm,Bool.and_true]
  have t:i∈(List.range l.length).filter (fun i=> !g.getD i false):=List.mem_filter.2 ⟨List.mem_range.2 J,by rw[b5];rfl⟩;have a7:∀j∈(List.range l.length).filter (fun i=> !g.getD i false),j<l.toArray.size:=fun j K=>by simpa using List.mem_range.1 (List.mem_filter.1 K).1
  have L:∀k∈(List.range l.length).filter (fun i=> !g.getD i false),k∉A.getD i []:=fun k E V=>by
   have:=(List.mem_filter.1 E).2;rw[N k V] at this;cases this
  have R:((List.range l.length).filter fun j=> !(g.setIfInBounds i true).getD j false).length≤v:=by
   rw[←D,List.length_erase_of_mem t];omega
  have H:∀j,(g.setIfInBounds i true).getD j false=true→∀k∈A.getD j [],(g.setIfInBounds i true).getD k false=true:=by
   intro j K k E;by_cases e:i=j
   ·subst e;exact getD_set_true (N k E)
   ·rw[getD_set_ne false e] at K;exact getD_set_true (shut j K k E)
  generalize (List.range l.length).filter (fun i=> !g.getD i false)=rem at *
  by_cases X:qa4 l.toArray cl i=2
  ·have z:(fun i=>qa4 l.toArray cl i==2) i=true:=by simpa using X
   have a6:i∈p.first (fun i=>qa4 l.toArray cl i==2):=by
    rcases hf i t z with h | ⟨k,E,-,V⟩
    ·exact h
    ·exact absurd V (L k E)
   obtain⟨Y,Z⟩:=qql (eff:=fun i=>qa4 l.toArray cl i==2) (i:=i) z nd t a6 m;have hp:=qw8 T U X p rem a w nd a7 t L a6 m h;rw[D] at Y Z;refine wpOp_mono (fun a' w' E=>ih (g.setIfInBounds i true) _ a' w' (fun j K F=> ?_) (by rw[Array.size_setIfInBounds];exact I) H R Y Z E.2.2) (zc2 (fun h=>by rw[X] at h;cases h) hp);refine E.2.1 (by rw[X];rfl) (T.kept i j K fun a9=> ?_);rw[←D] at F;exact L j (List.mem_of_mem_erase F) a9
  ·have z:(fun i=>qa4 l.toArray cl i==2) i=false:=by simpa using X
   have a8:qf9 (qa4 l.toArray cl i)=true:=qsn (T.two i (by simpa using J)) X;have Y:=qw9 (eff:=fun i=>qa4 l.toArray cl i==2) (i:=i) z nd t m;have Z:=qsq (eff:=fun i=>qa4 l.toArray cl i==2) (i:=i) z nd hf;have a4:qa4 l.toArray cl i=3→C w:=fun h3=>hC i (q3z h3) t
   have hp:=q4t T U a8 p rem a w a4 nd a7 t L m h;rw[D] at Y Z;refine wpOp_mono (fun a' w' E=>ih (g.setIfInBounds i true) _ a' w' (fun j K F=> ?_) (by rw[Array.size_setIfInBounds];exact I) H R Y Z E.2.2) (zc2 a4 hp);rw[E.1 a8];rw[←D] at F;exact hC j K (List.mem_of_mem_erase F)
theorem qc7{id:Nat}{a:Act}{w:World}(C:World→Prop)(cl:List Nat)(p:Plan)(U:P.follows .mixedOrders=true)(v:zet l cl p=true)(O:C w.drew)(h:wpP P l.toArray Q C cl (qer l cl) p a w.drew):(Code.region id l.toArray true).wp P Q a w:=by
 refine wp_region_any U ?_;have I:(List.range l.length).filter (fun i=> !(Array.replicate l.length false).getD i false)=List.range l.length:=by
  rw[List.filter_eq_self.2 (fun i _=>by rw[qb2];rfl)]
 unfold zet at v;simp only[Bool.and_eq_true] at v;obtain⟨⟨⟨D,v⟩,m⟩,t⟩:=v;obtain⟨A,L⟩:∃A,A=qvm l []:=⟨_,rfl⟩;have K:∀i j,j∈cl→j∉A.getD i []→qer l cl i=true:=by
  intro i j z V;unfold qer;rw[←L];exact List.any_eq_true.2 ⟨j,z,by simpa using V⟩
 rw[←L] at v m t;have key:∀(i:Nat) o,l[i]? = some o→_:=fun i o F=>by
  have g:i<l.length:=(List.getElem?_eq_some_iff.1 F).1;have:=List.all_eq_true.1 v i (List.mem_range.2 g);rw[F] at this;simp only[Bool.and_eq_true] at this;exact this
 have T:Turns l.toArray cl A (qer l cl):=by
  refine⟨D,fun i j g z J M N=> ?_,fun i g=> ?_,K⟩
  ·have g:i<l.length:=by simpa using g
   have z:j<l.length:=by simpa using z
   obtain⟨⟨-,Y⟩,-⟩:=key i _ (List.getElem?_eq_getElem g);have:=List.all_eq_true.1 Y j (List.mem_range.2 z);simp only[Bool.or_eq_true,beq_iff_eq,List.contains_iff_mem,Bool.and_eq_true] at this;rcases this with (((h | h) | h) | h) | h
   ·exact absurd h J
   ·exact absurd h M
   ·exact absurd h N
   ·exact .inl h
   ·exact .inr h
  ·have g:i<l.length:=by simpa using g
   obtain⟨-,Z⟩:=key i _ (List.getElem?_eq_getElem g);simpa using Z
 refine zeu (cl:=cl) (A:=A) T (fun i o F=> ?_) _ _ p a _ (fun _ _ _=>O) (by simp) (fun i g=>by rw[List.size_toArray,qb2] at g;cases g) ?_ ?_ ?_ h
 ·obtain⟨⟨⟨W,X⟩,-⟩,-⟩:=key i o F;refine⟨fun e H E=> ?_,fun k R=> ?_⟩
  ·have:=List.all_eq_true.1 W e (by simpa using H);simpa [E] using this
  ·have:=List.all_eq_true.1 X k R;obtain⟨e,H,E⟩:=List.any_eq_true.1 this;simp only[Bool.and_eq_true,Bool.or_eq_true,beq_iff_eq,List.contains_iff_mem] at E;exact⟨e,by simpa using H,E⟩
 ·rw[List.size_toArray,I];simp
 ·rw[List.size_toArray,I];exact qqd m
 ·rw[List.size_toArray,I];exact qt3 t
def qep(P:Program)(ops:Array Oper)(Q:Exit→Act→World→Prop):List Oper→Act→World→Prop
 | [],a,w=>Q .normal a w
 | o::r,a,w=>if qcn o≤1 then ∃v,qcr P ops (fun _=>True) (qcn o) w o v a∧qep P ops Q r (a.put o.dst v) w
   else if Region.wanted o (yielded ops a.tmps) then o.wp P a w (qep P ops Q r) noQ else qep P ops Q r (a.put o.dst undef) w
theorem zez:∀(r:List Oper) (k:Nat),(∀j,r[j]? = l[k+j]?)→∀a w,qep P l.toArray Q r a w→wpP P l.toArray Q (fun _=>True) [] (qer l []) (Plan.of (List.range' k r.length)) a w:=by
 intro r
 induction r with
 | nil=>intro k _ a w h;exact h
 | cons o r F =>
  intro k h a w g;have z:l.toArray[k]? = some o:=by simpa using (h 0).symm
  have m:=F (k+1) (fun j=>by have:=h (j+1);simpa [Nat.add_assoc,Nat.add_comm 1 j] using this);have D:qa4 l.toArray [] k=qcn o:=by
   unfold qa4;rw[z];simp
  rw[List.length_cons,List.range'_succ,Plan.of,wpP,qci z,D];rw[qep] at g;have t:qf9 (qcn o)=true↔qcn o≤1:=by
   have H:qcn o≤2:=by
    unfold qcn;split<;>(try split)<;>decide
   constructor
   ·intro h;have:=qz2 h;omega
   ·intro h;exact qsn (by omega) (by omega)
  split
  ·rw[if_pos (t.1 ‹_›)] at g;obtain⟨v,y,k⟩:=g;exact⟨v,y,m _ _ k⟩
  ·rw[if_neg (fun h=>absurd (t.2 h) ‹_›)] at g;unfold wpOp;rw[z];simp only[qi2,and_false,or_false];split
   ·rw[if_pos ‹_›] at g;exact Oper.wp_mono (fun a w E=>⟨fun _=>trivial,m _ _ E⟩) g
   ·rw[if_neg ‹_›] at g;exact⟨fun _=>trivial,m _ _ g⟩
theorem zhz{id:Nat}{a:Act}{w:World}(m:P.follows .mixedOrders=true)(g:zet l [] (Plan.of (List.range' 0 l.length))=true)(h:qep P l.toArray Q l a w.drew):(Code.region id l.toArray true).wp P Q a w :=
 qc7 (fun _=>True) [] _ m g trivial (zez l 0 (by simp) a _ h)
section
variable {ops:Array Oper}{o:Oper}{r:List Oper}{a:Act}{w:World}
theorem tn(h:Q .normal a w):qep P ops Q [] a w:=h
theorem qq3{s:Sem Value}{n:Next}{w w':World}(h:(do pure (Next.value (←s)):Sem Next).run P w = .ok n w'):∃v,n = .value v:=by
 rw[Sem.run_bind] at h;generalize s.run P w=x at h;cases x with
 | ok v w1 =>
  simp only[Result.andThen_ok] at h;injection h with h1 h2;exact⟨v,h1.symm⟩
 | halt x w1=>simp only[Result.andThen_halt] at h;cases h
theorem q5o{ρ:Operand→Value}(t:qcn o≤1){n:Next}{w':World}(h:(execOp ρ o).run P w = .ok n w'):∃v,n = .value v:=by
 obtain⟨E,F,D,pos,z,guard⟩:=o;cases F<;>simp only[qcn] at t<;>simp only[execOp] at h
 case move x=>injection h with h1 h2;exact⟨_,h1.symm⟩
 case assign x=>injection h with h1 h2;exact⟨_,h1.symm⟩
 case pick c a b =>
  rw[Sem.run_bind] at h;generalize (asBool (ρ c)).run P w=x at h;cases x with
  | ok v w1=>injection h with h1 h2;exact⟨_,h1.symm⟩
  | halt x w1=>cases h
 case nilCheck x =>
  split at h
  ·cases h
  ·cases h
  ·cases h
  ·split at h
   ·cases h
   ·rw[Sem.run_bind] at h;generalize Sem.run P (program) w=x at h;cases x with
    | halt x w1=>cases h
    | ok p w1 =>
     simp only[Result.andThen_ok] at h;rw[Sem.run_bind] at h;generalize Sem.run P (nilAhead _ _ _ _) w1=x at h;cases x with
     | halt x w1=>cases h
     | ok p w1 =>
      simp only[Result.andThen_ok] at h;split at h
      ·rw[Sem.run_bind] at h;cases h
      ·injection h with h1 h2;exact⟨_,h1.symm⟩
   ·injection h with h1 h2;exact⟨_,h1.symm⟩
  ·injection h with h1 h2;exact⟨_,h1.symm⟩
 case call c =>
  cases g:c.callee with
  | value f=>rw[g] at t;simp at t
  | invoke r m=>rw[g] at t;simp at t
  | builtin b =>
   rw[g] at t;unfold resolve at h;rw[g] at h;cases b<;>first | (simp at t;done) | exact qq3 h
 all_goals first | exact qq3 h | (simp at t;done)
theorem qs7(E:qcn o≤1){A:Act}(h:∀z,(∀g,g=A→z .normal g w)→wpList P ops z [o] a w):∃v,qez P ops w o v a∧a.put o.dst v=A:=by
 have h:=h (fun e g w'=>e = .normal∧g=A∧w'=w) (fun _ e=>⟨rfl,e,rfl⟩);unfold wpList at h;split at h
 ·rename_i t;rcases h with h | h
  case inr=>obtain⟨_,_,h,-⟩:=h.2;cases h
  unfold Oper.wp at h;cases m:(execOp a.eval o).run P w with
  | halt x w' =>
   rw[m] at h;cases x<;>simp only[Oper.upon] at h
   obtain⟨h,-⟩:=h;cases h
  | ok n w' =>
   obtain⟨v,rfl⟩:=q5o E m;rw[m] at h;obtain⟨-,D,rfl⟩:=h;exact⟨v,.inl ⟨t,m⟩,D⟩
 ·rename_i t;exact⟨undef,.inr ⟨by simpa using t,rfl⟩,h.2.1⟩
theorem tr{A:Act}(t:(qcn o==1)=true)(h:∀g,(∀m,m=A→g .normal m w)→wpList P ops g [o] a w)(k:qep P ops Q r A w):qep P ops Q (o::r) a w:=by
 have D:qcn o=1:=by simpa using t
 rw[qep,if_pos (by omega)];obtain⟨v,z,hv⟩:=qs7 (by omega) h;refine⟨v,?_,by rw[hv];exact k⟩;unfold qcr;rw[if_neg (by omega),if_neg (by omega)];exact z
def qpi(o:Oper)(a:Act):Bool:=match o.dst with | some d=>decide (d<a.tmps.size) | none=>false
theorem qkx{C:World→Prop}(K:qcn o≤1){A:Act}(hd:qpi o a=true)(t:C w)(h:∀w,C w→∀E,(∀F,F=A→E .normal F w)→wpList P ops E [o] a w):∃v,qcs P ops C o v a∧a.put o.dst v=A:=by
 have hv:∀w,C w→∃v,qez P ops w o v a∧a.put o.dst v=A:=fun w t=>qs7 K (h w t)
 have m:∀v u,a.put o.dst v=a.put o.dst u→v=u:=by
  intro v u e;unfold qpi at hd;cases g:o.dst with
  | none=>rw[g] at hd;cases hd
  | some d =>
   rw[g] at hd e;have D:d<a.tmps.size:=by simpa using hd
   have I:=congrArg (fun x:Act=>x.tmps[d]?) e;simpa [Act.put,D] using I
 obtain⟨v,M,H⟩:=hv w t;refine⟨v,fun w' z=> ?_,H⟩;obtain⟨u,L,J⟩:=hv w' z;have:v=u:=m v u (H.trans J.symm);rw[this];exact L
theorem tp{A:Act}(D:(qcn o==0)=true)(hd:qpi o a=true)(h:∀w g,(∀m,m=A→g .normal m w)→wpList P ops g [o] a w)(k:qep P ops Q r A w):qep P ops Q (o::r) a w:=by
 have t:qcn o=0:=by simpa using D
 rw[qep,if_pos (by omega)];obtain⟨v,E,z⟩:=qkx (C:=fun _=>True) (w:=w) (by omega) hd trivial (fun w _=>h w);refine⟨v,?_,by rw[z];exact k⟩;unfold qcr;rw[if_pos t];exact E
theorem te(D:(qcn o==2)=true)(h:∀v,(∀m w',qep P ops Q r m w'→v .normal m w')→wpList P ops v [o] a w):qep P ops Q (o::r) a w:=by
 have E:qcn o=2:=by simpa using D
 rw[qep,if_neg (by omega)];have:=h (fun e m w'=>match e with | .normal=>qep P ops Q r m w' | _=>False) (fun _ _ h=>h);unfold wpList at this;split
 case isFalse t=>rw[if_neg t] at this;exact this
 rename_i t;rw[if_pos t] at this;rcases this with g | g
 case inr =>
  obtain⟨_,_,z⟩:=g.2;exact z.elim
 unfold Oper.wp at *
 generalize (execOp a.eval o).run P w=x at *
 cases x with
 | ok n w' =>
  cases n<;>simp only[Oper.upon] at g ⊢<;>exact g
 | halt x w' =>
  cases x<;>simp only[Oper.upon] at g ⊢
section
variable {C:World→Prop}{cl:List Nat}{p q:Plan}{i:Nat}
def qmu:List Oper→Nat→Option Oper
 | [],_=>none
 | o::_,0=>some o
 | _::r,n+1=>qmu r n
theorem q4q:∀(l:List Oper) (i:Nat),qmu l i=l[i]?
 | [],_=>rfl
 | _::_,0=>rfl
 | _::r,n+1=>by rw[qmu,q4q r n,List.getElem?_cons_succ]
theorem qly{i:Nat}{o:Oper}(h:qmu l i=some o):l.toArray[i]? = some o:=by rw[List.getElem?_toArray,←q4q];exact h
theorem qn(h:Q .normal a w):wpP P l.toArray Q C cl (qer l cl) .done a w:=h
theorem qf(g:wpP P l.toArray Q C cl (qer l cl) p a w)(m:wpP P l.toArray Q C cl (qer l cl) q a w):wpP P l.toArray Q C cl (qer l cl) (.fork p q) a w:=⟨g,m⟩
theorem qp{A:Act}(g:qmu l i=some o)(F:(qa4 l.toArray cl i==0)=true)(hd:qpi o a=true)(h:∀w t,(∀z,z=A→t .normal z w)→wpList P l.toArray t [o] a w)(k:wpP P l.toArray Q C cl (qer l cl) p A w):wpP P l.toArray Q C cl (qer l cl) (.step i p) a w:=by
 replace g:=qly g;have m:qa4 l.toArray cl i=0:=by simpa using F
 have D:qcn o≤1:=qvv (cl:=cl) g (by rw[m];rfl);rw[wpP,qci g,if_pos (by rw[m];rfl)];obtain⟨v,H,E⟩:=qkx (C:=fun _=>True) (w:=w) D hd trivial (fun w _=>h w);refine⟨v,?_,by rw[E];exact k⟩;unfold qcr;rw[if_pos m];exact H
theorem qc{A:Act}(g:qmu l i=some o)(H:(qa4 l.toArray cl i==3)=true)(hd:qpi o a=true)(F:C w)(h:∀w,C w→∀t,(∀z,z=A→t .normal z w)→wpList P l.toArray t [o] a w)(k:wpP P l.toArray Q C cl (qer l cl) p A w):wpP P l.toArray Q C cl (qer l cl) (.step i p) a w:=by
 replace g:=qly g;have m:qa4 l.toArray cl i=3:=by simpa using H
 have D:qcn o≤1:=qvv (cl:=cl) g (by rw[m];rfl);rw[wpP,qci g,if_pos (by rw[m];rfl)];obtain⟨v,I,E⟩:=qkx (w:=w) D hd F h;refine⟨v,?_,by rw[E];exact k⟩;unfold qcr;rw[if_neg (by omega),if_pos m];exact I
theorem qr{A:Act}(g:qmu l i=some o)(E:(qa4 l.toArray cl i==1)=true)(h:∀m,(∀t,t=A→m .normal t w)→wpList P l.toArray m [o] a w)(k:wpP P l.toArray Q C cl (qer l cl) p A w):wpP P l.toArray Q C cl (qer l cl) (.step i p) a w:=by
 replace g:=qly g;have z:qa4 l.toArray cl i=1:=by simpa using E
 have D:qcn o≤1:=qvv (cl:=cl) g (by rw[z];rfl);rw[wpP,qci g,if_pos (by rw[z];rfl)];obtain⟨v,F,hv⟩:=qs7 D h;refine⟨v,?_,by rw[hv];exact k⟩;unfold qcr;rw[if_neg (by omega),if_neg (by omega)];exact F
structure Keeps(a b:Prop):Prop where
 c:a
 k:b
theorem qe'(t:qmu l i=some o)(F:(qa4 l.toArray cl i==2)=true)(h:∀z,(∀m w',Keeps (qer l cl i=true→C w') (wpP P l.toArray Q C cl (qer l cl) p m w')→z .normal m w')→wpList P l.toArray z [o] a w):wpP P l.toArray Q C cl (qer l cl) (.step i p) a w:=by
 replace t:=qly t;have D:qa4 l.toArray cl i=2:=by simpa using F
 rw[wpP,qci t,if_neg (by rw[D];decide)];have:=h (fun e m w'=>match e with | .normal=>(qer l cl i=true→C w')∧wpP P l.toArray Q C cl (qer l cl) p m w' | _=>False) (fun _ _ h=>⟨h.c,h.k⟩);unfold wpList at this;unfold wpOp;rw[t];simp only;split
 case isFalse v=>rw[if_neg v] at this;exact this
 rename_i v;rw[if_pos v] at this;rcases this with g | g
 case inr =>
  obtain⟨_,_,E⟩:=g.2;exact E.elim
 refine .inl ?_;unfold Oper.wp at *
 generalize (execOp a.eval o).run P w=x at *
 cases x with
 | ok n w' =>
  cases n<;>simp only[Oper.upon] at g ⊢<;>exact g
 | halt x w' =>
  cases x<;>simp only[Oper.upon] at g ⊢
theorem qe(v:qmu l i=some o)(t:(qa4 l.toArray cl i==2)=true)(h:∀g,(∀m w',Keeps (C w') (wpP P l.toArray Q C cl (qer l cl) p m w')→g .normal m w')→wpList P l.toArray g [o] a w):wpP P l.toArray Q C cl (qer l cl) (.step i p) a w :=
 qe' v t fun g z=>h g fun m w' h=>z m w' ⟨fun _=>h.c,h.k⟩
theorem qd(v:qmu l i=some o)(t:(qa4 l.toArray cl i==2)=true)(z:qer l cl i=false)(h:∀g,(∀m w',wpP P l.toArray Q C cl (qer l cl) p m w'→g .normal m w')→wpList P l.toArray g [o] a w):wpP P l.toArray Q C cl (qer l cl) (.step i p) a w :=
 qe' v t fun g D=>h g fun m w' h=>D m w' ⟨(fun e=>by rw[z] at e;cases e),h⟩
end
end
end
section
variable {P:Program}{ops:Array Oper}{Q:Exit→Act→World→Prop}{l:List Oper}{o:Oper}{r:List Oper}{a A:Act}{w:World}{C:World→Prop}{cl:List Nat}{p:Plan}{i:Nat}
theorem qg{x:Prop}(h:x):x:=h
theorem tw1(h:∀ {w g} {_:∀a',a'=A→g .normal a' w},wpList P ops g [o] a w)(k:qep P ops Q r A w)(m:(qcn o==0)=true:=by with_unfolding_all rfl)(hd:qpi o a=true:=by with_unfolding_all rfl):qep P ops Q (o::r) a w:=tp m hd (fun _ _ k=>@h _ _ k) k
theorem tw2(h:∀ {g} {_:∀a',a'=A→g .normal a' w},wpList P ops g [o] a w)(k:qep P ops Q r A w)(m:(qcn o==1)=true:=by with_unfolding_all rfl):qep P ops Q (o::r) a w:=tr m (fun _ k=>@h _ k) k
theorem tw3(h:∀ {g} {_:∀a' w',qep P ops Q r a' w'→g .normal a' w'},wpList P ops g [o] a w)(m:(qcn o==2)=true:=by with_unfolding_all rfl):qep P ops Q (o::r) a w:=te m fun _ k=>@h _ k
theorem tw4{id:Nat}(h:qep P l.toArray Q l a w.drew)(m:P.follows .mixedOrders=true:=by kernel_rfl)(g:zet l [] (Plan.of (List.range' 0 l.length))=true:=by decide +kernel):(Code.region id l.toArray true).wp P Q a w:=zhz m g h
theorem qw1(h:∀ {w g} {_:∀a',a'=A→g .normal a' w},wpList P l.toArray g [o] a w)(k:wpP P l.toArray Q C cl (qer l cl) p A w)(t:qmu l i=some o:=by with_unfolding_all rfl)(m:(qa4 l.toArray cl i==0)=true:=by with_unfolding_all rfl)(hd:qpi o a=true:=by with_unfolding_all rfl):wpP P l.toArray Q C cl (qer l cl) (.step i p) a w:=qp t m hd (fun _ _ k=>@h _ _ k) k
theorem qw2(h:∀ {w} {_:C w} {Q'} {_:∀a',a'=A→Q' .normal a' w},wpList P l.toArray Q' [o] a w)(k:wpP P l.toArray Q C cl (qer l cl) p A w)(t:qmu l i=some o:=by with_unfolding_all rfl)(m:(qa4 l.toArray cl i==3)=true:=by with_unfolding_all rfl)(hd:qpi o a=true:=by with_unfolding_all rfl)(g:C w:=by with_reducible assumption):wpP P l.toArray Q C cl (qer l cl) (.step i p) a w:=qc t m hd g (fun _ c _ k=>@h _ c _ k) k
theorem qw3(h:∀ {g} {_:∀a',a'=A→g .normal a' w},wpList P l.toArray g [o] a w)(k:wpP P l.toArray Q C cl (qer l cl) p A w)(t:qmu l i=some o:=by with_unfolding_all rfl)(m:(qa4 l.toArray cl i==1)=true:=by with_unfolding_all rfl):wpP P l.toArray Q C cl (qer l cl) (.step i p) a w:=qr t m (fun _ k=>@h _ k) k
theorem qw4(h:∀ {g} {_:∀a' w',wpP P l.toArray Q C cl (qer l cl) p a' w'→g .normal a' w'},wpList P l.toArray g [o] a w)(t:qmu l i=some o:=by with_unfolding_all rfl)(m:(qa4 l.toArray cl i==2)=true:=by with_unfolding_all rfl)(v:qer l cl i=false:=by decide +kernel):wpP P l.toArray Q C cl (qer l cl) (.step i p) a w:=qd t m v fun _ k=>@h _ k
theorem qw5(h:∀ {g} {_:∀a' w',Keeps (C w') (wpP P l.toArray Q C cl (qer l cl) p a' w')→g .normal a' w'},wpList P l.toArray g [o] a w)(t:qmu l i=some o:=by with_unfolding_all rfl)(m:(qa4 l.toArray cl i==2)=true:=by with_unfolding_all rfl):wpP P l.toArray Q C cl (qer l cl) (.step i p) a w:=qe t m fun _ k=>@h _ k
end
theorem Upd.ofDrew{S:Nat→Prop}{w w':World}(h:Upd S w.drew w'):Upd S w w':=⟨h.os,h.tape,h.output,h.size,h.block⟩
theorem Q.ofDrew{w w':World}(h:Q w.drew w'):Q w w':=by
 obtain⟨n,rfl⟩:=h;exact⟨1+n,rfl |>.trans (World.drewN_drewN w 1 n)⟩
theorem qkj{x:Int}(g : -9223372036854775808≤x)(m:x≤9223372036854775807):IntKind.i64.wrap x=x:=by rw[IntKind.wrap_i64];omega
theorem qaw{x:Int}(g:0≤x)(m:x≤18446744073709551615):IntKind.u64.wrap x=x:=by rw[IntKind.wrap_u64];omega
end Go.Proofs.YthnohmjbbeahmaaGreatDoor
