/-
  A region that draws its order, whose operations with effects stand in a row: it may be walked in its lexical order. Operations that only compute may stand anywhere; loads wait for, or are waited for by, each operation with an effect.
-/
import Derived.Test.YtjpmomdechibmaaGreatDoorDag
import Derived.Test.YtjpmomdechibmaaGreatDoorMaa
set_option linter.unusedVariables false
set_option linter.unusedSimpArgs false
namespace Go.Proofs.YtjpmomdechibmaaGreatDoor
open Go.RowKit
def qb4(o:Oper):Nat :=
 match o.op with
 | .move _ | .assign _ | .pick .. | .extract .. | .fieldAddr .. | .field .. | .makeFunc .. | .nilCheck _ | .binOp .. | .unOp .. | .indexAddr .. | .index .. | .build .. | .slice .. => 0
 | .load .. | .lookup .. | .convert .. => 1
 | .call c=>match c.callee with | .builtin .len=>0 | .builtin .cap=>0 | _=>2
 | _=>2
def noQ:Exit→Act→World→Prop:=fun _ _ _=>False
section
variable {P:Program}{ops:Array Oper}{Q:Exit→Act→World→Prop}
def qd4(P:Program)(ops:Array Oper)(w:World)(o:Oper)(v:Value)(a:Act):Prop :=
 (Region.wanted o (yielded ops a.tmps)=true∧(execOp a.eval o).run P w = .ok (.value v) w)∨(Region.wanted o (yielded ops a.tmps)=false∧v=undef)
theorem qd4.of_same{o:Oper}{v:Value}{a f:Act}{w:World}(m:qd4 P ops w o v a)(g:execOp f.eval o=execOp a.eval o)
  (j:Region.wanted o (yielded ops f.tmps)=Region.wanted o (yielded ops a.tmps)):qd4 P ops w o v f:=by
 unfold qd4 at *
 rw[g,j]
 exact m
theorem qd4.wpOp{i:Nat}{o:Oper}{v:Value}{a:Act}{w:World}(g:ops[i]? = some o)(m:qd4 P ops w o v a)
  {K:Act→World→Prop} (h:K (a.put o.dst v) w):wpOp P ops Q i K a w:=by
 unfold Go.wpOp
 simp only[g]
 rcases m with ⟨f,j⟩ | ⟨f,rfl⟩
 ·simp only[f,if_true,Oper.wp,j,Oper.upon];exact .inl h
 ·simp only[f,Bool.false_eq_true,if_false];exact h
theorem qjf{o:Oper}{v u:Value}{a:Act}{w:World}(g:qd4 P ops w o v a)(f:qd4 P ops w o u a):v=u:=by
 rcases g with ⟨a1,a2⟩ | ⟨a1,a2⟩<;>rcases f with ⟨b1,b2⟩ | ⟨b1,b2⟩
 ·have:=a2.symm.trans b2
  simpa using this
 ·rw[a1] at b1;cases b1
 ·rw[a1] at b1;cases b1
 ·rw[a2,b2]
def qcb(P:Program)(ops:Array Oper)(C:World→Prop)(o:Oper)(v:Value)(a:Act):Prop:=∀w,C w→qd4 P ops w o v a
theorem qcb.of_same{C:World→Prop}{o:Oper}{v:Value}{a f:Act}(t:qcb P ops C o v a)(j:execOp f.eval o=execOp a.eval o)
  (m:Region.wanted o (yielded ops f.tmps)=Region.wanted o (yielded ops a.tmps)):qcb P ops C o v f:=fun w g=>(t w g).of_same j m
def qca(P:Program)(ops:Array Oper)(C:World→Prop)(c:Nat)(w:World)(o:Oper)(v:Value)(a:Act):Prop:=if c=0 then qcb P ops (fun _=>True) o v a else if c=3 then qcb P ops C o v a else qd4 P ops w o v a
theorem qca.w{C:World→Prop}{c:Nat}{o:Oper}{v:Value}{a:Act}{w:World}(f:qca P ops C c w o v a)(g:c=3→C w):qd4 P ops w o v a:=by
 unfold qca at f
 split at f
 ·exact f w trivial
 ·split at f
  ·exact f w (g ‹_›)
  ·exact f
theorem qca.of_same{C:World→Prop}{c:Nat}{o:Oper}{v:Value}{a g:Act}{w:World}(f:qca P ops C c w o v a)(j:execOp g.eval o=execOp a.eval o)
  (m:Region.wanted o (yielded ops g.tmps)=Region.wanted o (yielded ops a.tmps)):qca P ops C c w o v g:=by
 unfold qca at *
 split at f
 ·rw[if_pos ‹_›];exact f.of_same j m
 ·rw[if_neg ‹_›]
  split at f
  ·rw[if_pos ‹_›];exact f.of_same j m
  ·rw[if_neg ‹_›];exact f.of_same j m
def qaq(ops:Array Oper)(cl:List Nat)(i:Nat):Nat :=
 match ops[i]? with
 | none=>0
 | some o=>if qb4 o==1&&cl.contains i then 3 else qb4 o
def qe6(c:Nat):Bool:=c==0 || c==1 || c==3
theorem qtf{cl:List Nat}{i:Nat}{o:Oper}(g:ops[i]? = some o)(h:qe6 (qaq ops cl i)=true):qb4 o≤1:=by
 have e:qaq ops cl i=if (qb4 o==1&&cl.contains i)=true then 3 else qb4 o:=by unfold qaq;rw[g]
 rw[e] at h
 by_cases f:(qb4 o==1&&cl.contains i)=true
 ·rw[Bool.and_eq_true,beq_iff_eq] at f
  omega
 ·rw[if_neg f] at h
  unfold qe6 at h
  simp only[Bool.or_eq_true,beq_iff_eq] at h
  have:qb4 o≤2:=by
   unfold qb4
   split<;>(try split)<;>decide
  omega
theorem q0z{cl:List Nat}{i:Nat}(h:qaq ops cl i=3):i∈cl:=by
 unfold qaq at h
 split at h
 ·cases h
 ·rename_i o g
  split at h
  ·rename_i f
   simp at f
   exact f.2
  ·have:qb4 o≤2:=by
    unfold qb4
    split<;>(try split)<;>decide
   omega
def wpI(P:Program)(ops:Array Oper)(C:World→Prop)(cl:List Nat)(kp:Nat→Bool)(i:Nat)(K:Act→World→Prop)(a:Act)(w:World):Prop :=
 match ops[i]? with
 | none=>K a w
 | some o=>if qe6 (qaq ops cl i)=true then ∃v,qca P ops C (qaq ops cl i) w o v a∧K (a.put o.dst v) w else wpOp P ops noQ i (fun f w'=>(kp i=true→C w')∧K f w') a w
section
variable {C:World→Prop}{cl:List Nat}{kp:Nat→Bool}
theorem qb0{i:Nat}{o:Oper}{K:Act→World→Prop}{a:Act}{w:World}(g:ops[i]? = some o):wpI P ops C cl kp i K a w=if qe6 (qaq ops cl i)=true then ∃v,qca P ops C (qaq ops cl i) w o v a∧K (a.put o.dst v) w else wpOp P ops noQ i (fun f w'=>(kp i=true→C w')∧K f w') a w:=by
 unfold wpI
 rw[g]
theorem qh4:¬LetsOut noQ:=fun⟨_,_,h⟩=>h
theorem zdc{o:Oper}{a:Act}{w:World}{K:Act→World→Prop}(h:o.wp P a w K noQ):o.wp P a w K Q:=by
 unfold Oper.wp at *
 generalize (execOp a.eval o).run P w=r at *
 cases r with
 | ok n w' =>
  cases n<;>simp only[Oper.upon] at h ⊢<;>try exact h
  refine Calls.mono h fun e g f=> ?_
  cases e with
  | returned v=>exact f
  | panicked c=>exact f.elim
  | outgrown=>exact absurd f qh4
 | halt x w' =>
  cases x<;>simp only[Oper.upon] at h ⊢
  exact h.elim
theorem q8v{i:Nat}{a:Act}{w:World}{K:Act→World→Prop}(h:wpOp P ops noQ i K a w):wpOp P ops Q i K a w:=by
 unfold wpOp at *
 split
 ·rename_i f;simp only[f] at h;exact h
 ·rename_i o f
  simp only[f] at h
  split
  ·rename_i g
   rw[if_pos g] at h
   rcases h with h | h
   ·exact .inl (zdc h)
   ·exact absurd h.2 qh4
  ·rename_i g
   rw[if_neg g] at h
   exact h
theorem q8u{i:Nat}{a:Act}{w:World}{K:Act→World→Prop}(y:qaq ops cl i=3→C w)(h:wpI P ops C cl kp i K a w):wpOp P ops Q i (fun m w'=>(qe6 (qaq ops cl i)=true→w'=w)∧(qe6 (qaq ops cl i)=false→kp i=true→C w')∧K m w') a w:=by
 unfold wpI at h
 cases f:ops[i]? with
 | none=>rw[f] at h;unfold wpOp;rw[f];exact⟨fun _=>rfl,(fun h=>by have:qaq ops cl i=0:=(by unfold qaq;rw[f]);rw[this] at h;cases h),h⟩
 | some o =>
  rw[f] at h
  simp only at h
  split at h
  ·rename_i g
   obtain⟨v,t,x⟩:=h
   exact(t.w y).wpOp f ⟨fun _=>rfl,(fun h=>by rw[g] at h;cases h),x⟩
  ·rename_i g
   refine wpOp_mono (fun a w j=>⟨fun h=>absurd h g,fun _=>j.1,j.2⟩) (q8v h)
theorem qs1{j:Nat}{m t:Oper}{v:Value}(R:ops[j]? = some t)(F:m.apart ops t=true)(H:∀cs b,m.op ≠ .select cs b)(I:∀cs b,t.op ≠ .select cs b)
  {K:Act→World→Prop} {a:Act} {w:World} (y:qcb P ops C m v a) (h:wpOp P ops noQ j K (a.put m.dst v) w) :
  wpOp P ops noQ j (fun M w'=>qcb P ops C m v M∧K (M.put m.dst v) w') a w:=by
 obtain⟨N,D,O⟩:=Oper.apart_spec F
 have g:∀(a:Act),qcb P ops C m v a→∀u,qcb P ops C m v (a.put t.dst u):=fun a y u =>
  y.of_same (execOp_put m H a t.dst u O) (wanted_put m a t.dst u O)
 have z:∀d,qcb P ops C m v {a with defers:=d::a.defers} := fun d=>y.of_same rfl rfl
 unfold wpOp at *
 simp only[R] at *
 rw[wanted_put t a m.dst v N] at h
 split
 ·rename_i J
  simp only[J,if_true] at h
  rcases h with h | h
  case inr=>exact absurd h.2 qh4
  refine .inl ?_
  unfold Oper.wp at *
  rw[execOp_put t I a m.dst v N] at h
  generalize (execOp a.eval t).run P w=r at *
  cases r with
  | ok n w' =>
   cases n<;>simp only[Oper.upon] at h ⊢
   case value u=>exact⟨g a y u,by rw[←Act.put_comm a v u D];exact h⟩
   case skip=>exact⟨g a y _,by rw[←Act.put_comm a v undef D];exact h⟩
   case defer d =>
    refine⟨g _ (z d) _,?_⟩
    rw[←Act.put_comm _ v undef D,←Act.put_defers]
    exact h
   case enter f args =>
    refine Calls.mono h fun e L E=> ?_
    cases e with
    | returned u=>exact⟨g a y u,by rw[←Act.put_comm a v u D];exact E⟩
    | panicked c=>exact E.elim
    | outgrown=>exact E
   case row row args=>exact Rows.mono h fun u L E=>⟨g a y u,by rw[←Act.put_comm a v u D];exact E⟩
  | halt x w' =>
   cases x<;>simp only[Oper.upon] at h ⊢
   case panic u=>exact h.elim
 ·rename_i J
  simp only[J] at h
  exact⟨g a y _,by rw[←Act.put_comm a v undef D];exact h⟩
theorem qs0{j:Nat}{m t:Oper}(Y:ops[j]? = some t)(M:m.apart ops t=true)(N:∀cs b,m.op ≠ .select cs b)(O:∀cs b,t.op ≠ .select cs b)
  {K:Act→World→Prop} {a:Act} {w:World} (h:wpOp P ops noQ j (fun V w'=>C w'∧∃v,qcb P ops C m v V∧K (V.put m.dst v) w') a w) :
  ∃v,qcb P ops C m v a∧wpOp P ops noQ j K (a.put m.dst v) w:=by
 obtain⟨J,F,W⟩:=Oper.apart_spec M
 have g:∀(a:Act) u v,qcb P ops C m v (a.put t.dst u)→qcb P ops C m v a:=fun a u v y =>
  y.of_same (execOp_put m N a t.dst u W).symm (wanted_put m a t.dst u W).symm
 unfold wpOp at *
 simp only[Y] at *
 split at h
 ·rename_i R
  rcases h with h | h
  case inr=>exact absurd h.2 qh4
  unfold Oper.wp at *
  have key:∀v,qcb P ops C m v a→Oper.upon P t (a.put m.dst v) K noQ ((execOp a.eval t).run P w)→∃v,qcb P ops C m v a∧(if Region.wanted t (yielded ops (a.put m.dst v).tmps)=true then (Oper.upon P t (a.put m.dst v) K noQ ((execOp (a.put m.dst v).eval t).run P w)∨t.asks P (a.put m.dst v) w∧LetsOut noQ) else K ((a.put m.dst v).put t.dst undef) w):=by
   intro v y z
   refine⟨v,y,?_⟩
   rw[wanted_put t a m.dst v J,if_pos R,execOp_put t O a m.dst v J]
   exact .inl z
  generalize (execOp a.eval t).run P w=r at h key
  cases r with
  | ok n w' =>
   cases n<;>simp only[Oper.upon] at h key
   case value u =>
    obtain⟨-,v,y,z⟩:=h
    exact key v (g _ _ _ y) (by rw[Act.put_comm a v u F];exact z)
   case skip =>
    obtain⟨-,v,y,z⟩:=h
    exact key v (g _ _ _ y) (by rw[Act.put_comm a v undef F];exact z)
   case defer d =>
    obtain⟨-,v,y,z⟩:=h
    refine key v ((g _ _ _ y).of_same rfl rfl) ?_
    have e:=Act.put_comm ({a with defers:=d::a.defers} : Act) v undef F
    have X:=Act.put_defers a m.dst v d
    rw[X,e]
    exact z
   case enter f args =>
    obtain⟨e,w2,fr,L,-⟩:=h []
    cases e with
    | panicked c=>exact L.elim
    | outgrown=>exact absurd L qh4
    | returned u =>
     obtain⟨-,v,y,-⟩:=L
     have D:=g _ _ _ y
     refine key v D (Calls.mono h fun e U I=> ?_)
     cases e with
     | panicked c=>exact I
     | outgrown=>exact I
     | returned T =>
      obtain⟨H,Z,E,z⟩:=I
      have:=qjf (D _ H) (g _ _ _ E _ H)
      subst this
      show K _ _
      rw[Act.put_comm a v T F]
      exact z
   case row row args =>
    obtain⟨u,w2,⟨-,v,y,-⟩,-⟩:=h (Frame.ofRow P row args .normal) []
    have D:=g _ _ _ y
    refine key v D (Rows.mono h fun T U I=> ?_)
    obtain⟨H,Z,E,z⟩:=I
    have:=qjf (D _ H) (g _ _ _ E _ H)
    subst this
    show K _ _
    rw[Act.put_comm a v T F]
    exact z
  | halt x w' =>
   cases x<;>simp only[Oper.upon] at h
   exact h.elim
 ·rename_i R
  obtain⟨-,v,y,z⟩:=h
  refine⟨v,g _ _ _ y,?_⟩
  rw[wanted_put t a m.dst v J,if_neg R,Act.put_comm a v undef F]
  exact z
def qol(ops:Array Oper)(cl:List Nat)(i j:Nat):Bool :=
 match ops[i]?,ops[j]? with
 | some x,some y=>x.apart ops y&&(qaq ops cl i==0 || qaq ops cl j==0 || qaq ops cl i==3 || qaq ops cl j==3 || (qaq ops cl i==1&&qaq ops cl j==1))
 | _,_=>true
theorem qoz{x y:Oper}(h:x.apart ops y=true):y.apart ops x=true:=by
 unfold Oper.apart at *
 cases g:x.dst with
 | none=>rw[g] at h;cases f:y.dst with
  | none=>rfl
  | some e=>rw[f] at h;simpa using h
 | some d=>rw[g] at h;cases f:y.dst with
  | none=>rw[f] at h;simpa using h
  | some e =>
   rw[f] at h
   simp only[Bool.and_eq_true,Bool.not_eq_true',bne_iff_ne,ne_eq,Option.some.injEq] at h ⊢
   exact⟨⟨h.2,fun j=>h.1.2 j.symm⟩,h.1.1⟩
theorem zbv{i j:Nat}{g L:Oper}(J:ops[i]? = some g)(I:ops[j]? = some L)(U:qol ops cl i j=true)(z:∀cs b,g.op ≠ .select cs b)(D:∀cs b,L.op ≠ .select cs b)(Y:qaq ops cl i=3→kp j=true)
  {K:Act→World→Prop} {a:Act} {w:World} (h:wpI P ops C cl kp j (fun a w=>wpI P ops C cl kp i K a w) a w):wpI P ops C cl kp i (fun a w=>wpI P ops C cl kp j K a w) a w:=by
 unfold qol at U
 rw[J,I] at U
 simp only[Bool.and_eq_true,Bool.or_eq_true,beq_iff_eq] at U
 obtain⟨y,hc⟩:=U
 obtain⟨h1,h2,h3⟩:=Oper.apart_spec y
 rw[qb0 I] at h
 rw[qb0 J]
 by_cases x:qe6 (qaq ops cl j)=true
 ·rw[if_pos x] at h
  obtain⟨M,N,h⟩:=h
  rw[qb0 J] at h
  by_cases t:qe6 (qaq ops cl i)=true
  ·rw[if_pos t] at h ⊢
   obtain⟨W,yi,h⟩:=h
   refine⟨W,yi.of_same (execOp_put g z a L.dst M h3).symm (wanted_put g a L.dst M h3).symm,?_⟩
   rw[qb0 I,if_pos x]
   refine⟨M,N.of_same (execOp_put L D a g.dst W h1) (wanted_put L a g.dst W h1),?_⟩
   rw[Act.put_comm a W M h2]
   exact h
  ·rw[if_neg t] at h ⊢
   have a4:qaq ops cl i≠0∧qaq ops cl i≠1∧qaq ops cl i≠3:=by
    unfold qe6 at t
    simp only[Bool.or_eq_true,beq_iff_eq,not_or] at t
    exact⟨t.1.1,t.1.2,t.2⟩
   have f:qaq ops cl j=0∨qaq ops cl j=3:=by omega
   unfold qca at N
   rcases f with f | f
   ·rw[if_pos f] at N
    refine wpOp_mono ?_ (qs1 J (qoz y) D z N h)
    rintro F w' ⟨Z,H,m⟩
    refine⟨H,?_⟩
    rw[qb0 I,if_pos x]
    refine⟨M,?_,m⟩
    unfold qca
    rw[if_pos f]
    exact Z
   ·rw[if_neg (by omega),if_pos f] at N
    refine wpOp_mono ?_ (qs1 J (qoz y) D z N h)
    rintro F w' ⟨Z,H,m⟩
    refine⟨H,?_⟩
    rw[qb0 I,if_pos x]
    refine⟨M,?_,m⟩
    unfold qca
    rw[if_neg (by omega),if_pos f]
    exact Z
 ·rw[if_neg x] at h
  have a5:qaq ops cl j≠0∧qaq ops cl j≠1∧qaq ops cl j≠3:=by
   unfold qe6 at x
   simp only[Bool.or_eq_true,beq_iff_eq,not_or] at x
   exact⟨x.1.1,x.1.2,x.2⟩
  have O:qaq ops cl i=0∨qaq ops cl i=3:=by omega
  have t:qe6 (qaq ops cl i)=true:=by
   unfold qe6
   rcases O with e | e<;>rw[e]<;>rfl
  rw[if_pos t]
  have R:∀v,(∃V,V=v∧qca P ops C (qaq ops cl i) w g V a)→wpOp P ops noQ j (fun a w=>(kp j=true→C w)∧K a w) (a.put g.dst v) w→∃v,qca P ops C (qaq ops cl i) w g v a∧wpI P ops C cl kp j K (a.put g.dst v) w:=by
   rintro v ⟨V,rfl,E⟩ m
   refine⟨V,E,?_⟩
   rw[qb0 I,if_neg x]
   exact m
  rcases O with f | f
  ·have X:wpOp P ops noQ j (fun F w'=>(fun _=>True) w'∧∃v,qcb P ops (fun _=>True) g v F∧(fun a w=>(kp j=true→C w)∧K a w) (F.put g.dst v) w') a w:=by
    refine wpOp_mono ?_ h
    rintro F w' ⟨H,T⟩
    rw[qb0 J,if_pos t] at T
    obtain⟨v,E,m⟩:=T
    refine⟨trivial,v,?_,H,m⟩
    simpa only[qca,if_pos f] using E
   obtain⟨v,E,m⟩:=qs0 (C:=fun _=>True) (K:=fun a w=>(kp j=true→C w)∧K a w) I y z D X
   refine R v ⟨v,rfl,?_⟩ m
   unfold qca
   rw[if_pos f]
   exact E
  ·have X:wpOp P ops noQ j (fun F w'=>C w'∧∃v,qcb P ops C g v F∧(fun a w=>(kp j=true→C w)∧K a w) (F.put g.dst v) w') a w:=by
    refine wpOp_mono ?_ h
    rintro F w' ⟨H,T⟩
    rw[qb0 J,if_pos t] at T
    obtain⟨v,E,m⟩:=T
    refine⟨H (Y f),v,?_,H,m⟩
    unfold qca at E
    rw[if_neg (by omega),if_pos f] at E
    exact E
   obtain⟨v,E,m⟩:=qs0 (C:=C) (K:=fun a w=>(kp j=true→C w)∧K a w) I y z D X
   refine R v ⟨v,rfl,?_⟩ m
   unfold qca
   rw[if_neg (by omega),if_pos f]
   exact E
end
inductive Plan where
 | done
 | step (i:Nat) (p:Plan)
 | fork (p q:Plan)
def Plan.first(eff:Nat→Bool):Plan→List Nat
 | .done=>[]
 | .step i p=>if eff i then [i] else p.first eff
 | .fork p q=>p.first eff++q.first eff
def Plan.of:List Nat→Plan
 | []=> .done
 | i::r=> .step i (Plan.of r)
def qkj(A:List (List Nat))(eff:Nat→Bool)(p:Plan)(rem:List Nat):Prop:=∀j∈rem,eff j=true→j∈p.first eff∨∃k∈rem,eff k=true∧k∈A.getD j []
def Cov(A:List (List Nat))(eff:Nat→Bool):Plan→List Nat→Prop
 | .done,rem=>rem=[]
 | .step i p,rem=>i∈rem∧(∀k∈rem,k∉A.getD i [])∧Cov A eff p (rem.erase i)∧(eff i=true→qkj A eff p (rem.erase i))
 | .fork p q,rem=>Cov A eff p rem∧Cov A eff q rem
def qyv(A:List (List Nat))(eff:Nat→Bool)(p:Plan)(rem:List Nat):Bool:=rem.all fun j=> !eff j || (p.first eff).contains j || rem.any fun k=>eff k&&(A.getD j []).contains k
def qvm(A:List (List Nat))(eff:Nat→Bool):Plan→List Nat→Bool
 | .done,rem=>rem.isEmpty
 | .step i p,rem=>rem.contains i&&(rem.all fun k=> !(A.getD i []).contains k)&&qvm A eff p (rem.erase i)&&(!eff i || qyv A eff p (rem.erase i))
 | .fork p q,rem=>qvm A eff p rem&&qvm A eff q rem
theorem qro{A:List (List Nat)}{eff:Nat→Bool}{p:Plan}{rem:List Nat}(h:qyv A eff p rem=true):qkj A eff p rem:=by
 intro j m g
 have:=List.all_eq_true.1 h j m
 rw[g] at this
 simp only[Bool.not_true,Bool.false_or,Bool.or_eq_true] at this
 rcases this with h | h
 ·exact .inl (List.contains_iff_mem.1 h)
 ·obtain⟨k,t,f⟩:=List.any_eq_true.1 h
  rw[Bool.and_eq_true] at f
  exact .inr ⟨k,t,f.1,List.contains_iff_mem.1 f.2⟩
theorem qoi{A:List (List Nat)}{eff:Nat→Bool} : ∀ {p:Plan} {rem:List Nat},qvm A eff p rem=true→Cov A eff p rem
 | .done,rem,h=>by simpa [qvm,Cov] using h
 | .step i p,rem,h=>by
  unfold qvm at h
  simp only[Bool.and_eq_true] at h
  obtain⟨⟨⟨g,j⟩,m⟩,f⟩:=h
  refine⟨List.contains_iff_mem.1 g,fun k v=> ?_,qoi m,fun t=> ?_⟩
  ·have:=List.all_eq_true.1 j k v
   simpa using this
  ·rw[t] at f
   exact qro (by simpa using f)
 | .fork p q,rem,h=>by
  unfold qvm at h
  rw[Bool.and_eq_true] at h
  exact⟨qoi h.1,qoi h.2⟩
def wpP(P:Program)(ops:Array Oper)(Q:Exit→Act→World→Prop)(C:World→Prop)(cl:List Nat)(kp:Nat→Bool):Plan→Act→World→Prop
 | .done,a,w=>Q .normal a w
 | .step i p,a,w=>wpI P ops C cl kp i (wpP P ops Q C cl kp p) a w
 | .fork p q,a,w=>wpP P ops Q C cl kp p a w∧wpP P ops Q C cl kp q a w
def Plan.rm(i:Nat):Plan→Plan
 | .done=> .done
 | .step j p=>if i=j then p else .step j (p.rm i)
 | .fork p q=> .fork (p.rm i) (q.rm i)
def Plan.rmE(eff:Nat→Bool)(i:Nat):Plan→Plan
 | .done=> .done
 | .step j p=>if i=j then p else .step j (p.rmE eff i)
 | .fork p q=>if (p.first eff).contains i then p.rmE eff i else q.rmE eff i
section
variable {A:List (List Nat)}{eff:Nat→Bool}
theorem qma{i:Nat}(f:eff i=false):∀p:Plan,(p.rm i).first eff=p.first eff
 | .done=>rfl
 | .step j p=>by
  unfold Plan.rm
  split
  ·rename_i e
   subst e
   rw[Plan.first,f]
   rfl
  ·rw[Plan.first,Plan.first,qma f p]
 | .fork p q=>by rw[Plan.rm,Plan.first,Plan.first,qma f p,qma f q]
theorem qqc{i:Nat}(m:eff i=false){p:Plan}{rem:List Nat}(nd:rem.Nodup)(h:qkj A eff p rem):qkj A eff (p.rm i) (rem.erase i):=by
 intro j v t
 rw[qma m]
 rcases h j (List.mem_of_mem_erase v) t with h | ⟨k,x,f,g⟩
 ·exact .inl h
 ·exact .inr ⟨k,(nd.mem_erase_iff).2 ⟨(fun e=>by rw[e,m] at f;cases f),x⟩,f,g⟩
theorem quk{i:Nat}(g:eff i=false):∀ {p:Plan} {rem:List Nat},rem.Nodup→i∈rem→Cov A eff p rem→Cov A eff (p.rm i) (rem.erase i)
 | .done,rem,nd,f,h=>by rw[Cov] at h;rw[h] at f;cases f
 | .step j p,rem,nd,f,h=>by
  obtain⟨x,y,t,z⟩:=h
  unfold Plan.rm
  split
  ·rename_i e
   subst e
   exact t
  ·rename_i e
   have m:i∈rem.erase j:=(nd.mem_erase_iff).2 ⟨e,f⟩
   refine⟨(nd.mem_erase_iff).2 ⟨fun v=>e v.symm,x⟩,fun k E=>y k (List.mem_of_mem_erase E),?_,fun D=> ?_⟩
   ·rw[List.erase_comm]
    exact quk g (nd.erase j) m t
   ·rw[List.erase_comm]
    exact qqc g (nd.erase j) (z D)
 | .fork p q,rem,nd,f,h=>⟨quk g nd f h.1,quk g nd f h.2⟩
theorem qon{i:Nat}(v:eff i=true):∀ {p:Plan} {rem:List Nat},rem.Nodup→i∈rem→i∈p.first eff→Cov A eff p rem→Cov A eff (p.rmE eff i) (rem.erase i)∧qkj A eff (p.rmE eff i) (rem.erase i)
 | .done,rem,nd,t,f,h=>by cases f
 | .step j p,rem,nd,t,f,h=>by
  obtain⟨L,M,J,N⟩:=h
  unfold Plan.rmE
  split
  ·rename_i e
   subst e
   exact⟨J,N v⟩
  ·rename_i e
   have m:eff j=false:=by
    cases m:eff j with
    | false=>rfl
    | true =>
     rw[Plan.first,m] at f
     simp at f
     exact absurd f e
   have z:i∈p.first eff:=by rw[Plan.first,m] at f;exact f
   have D:i∈rem.erase j:=(nd.mem_erase_iff).2 ⟨e,t⟩
   obtain⟨H,I⟩:=qon v (nd.erase j) D z J
   rw[List.erase_comm] at H I
   refine⟨⟨(nd.mem_erase_iff).2 ⟨fun x=>e x.symm,L⟩,fun k E=>M k (List.mem_of_mem_erase E),H,fun g=>by rw[m] at g;cases g⟩,?_⟩
   intro k E g
   have F:k≠j:=fun x=>by rw[x,m] at g;cases g
   rw[Plan.first,m]
   rcases I k (((nd.erase i).mem_erase_iff).2 ⟨F,E⟩) g with h | ⟨O,h,K⟩
   ·exact .inl h
   ·exact .inr ⟨O,List.mem_of_mem_erase h,K⟩
 | .fork p q,rem,nd,t,f,h=>by
  unfold Plan.rmE
  split
  ·rename_i y
   exact qon v nd t (List.contains_iff_mem.1 y) h.1
  ·rename_i y
   rw[Plan.first,List.mem_append] at f
   exact qon v nd t (f.resolve_left fun h=>y (List.contains_iff_mem.2 h)) h.2
end
section
variable {C:World→Prop}{cl:List Nat}{A:List (List Nat)}{kp:Nat→Bool}
structure Turns(ops:Array Oper)(cl:List Nat)(A:List (List Nat))(kp:Nat→Bool):Prop where
 sel:Region.noSelect ops=true
 turn:∀i j,i<ops.size→j<ops.size→i≠j→j∉A.getD i []→i∉A.getD j []→(qaq ops cl i=2∧qaq ops cl j=2)∨qol ops cl i j=true
 two:∀i,i<ops.size→qaq ops cl i≤3
 kept:∀i j,j∈cl→j∉A.getD i []→kp i=true
theorem qxb{c:Nat}(h:qe6 c=true):c≠2:=by
 rintro rfl
 cases h
theorem qqb{c:Nat}(h:c≤3)(f:c≠2):qe6 c=true:=by
 have:c=0∨c=1∨c=3:=by omega
 rcases this with rfl | rfl | rfl<;>rfl
theorem q1i(T:Turns ops cl A kp){i:Nat}{oi:Oper}(D:ops[i]? = some oi)(H:qe6 (qaq ops cl i)=true):∀(p:Plan) (rem:List Nat) (a:Act) (w:World),(qaq ops cl i=3→C w)→rem.Nodup→(∀j∈rem,j<ops.size)→i∈rem→(∀k∈rem,k∉A.getD i [])→Cov A (fun i=>qaq ops cl i==2) p rem →
  wpP P ops Q C cl kp p a w→wpI P ops C cl kp i (wpP P ops Q C cl kp (p.rm i)) a w
 | .done,rem,a,w,t,nd,f,m,E,h,F=>by rw[Cov] at h;rw[h] at m;cases m
 | .step j p,rem,a,w,t,nd,f,m,E,h,F=>by
  obtain⟨O,R,W,h4⟩:=h
  unfold Plan.rm
  split
  ·rename_i e
   subst e
   exact F
  ·rename_i e
   have M:i∈rem.erase j:=(nd.mem_erase_iff).2 ⟨e,m⟩
   have g:=f j O
   have N:ops[j]? = some (ops[j]'g):=Array.getElem?_eq_getElem g
   have I:qaq ops cl i=3→kp j=true:=fun L=>T.kept j i (q0z L) (R i m)
   have X:wpI P ops C cl kp j (fun a w=>wpI P ops C cl kp i (wpP P ops Q C cl kp (p.rm i)) a w) a w:=by
    have x:wpI P ops C cl kp j (wpP P ops Q C cl kp p) a w:=F
    rw[qb0 N] at x ⊢
    have U:=fun a w t=>q1i T D H p (rem.erase j) a w t (nd.erase j) (fun k z=>f k (List.mem_of_mem_erase z)) M (fun k z=>E k (List.mem_of_mem_erase z)) W
    split at x
    ·rw[if_pos ‹_›]
     obtain⟨v,y,k⟩:=x
     exact⟨v,y,U _ _ t k⟩
    ·rw[if_neg ‹_›]
     exact wpOp_mono (fun a w z=>⟨z.1,U _ _ (fun L=>z.1 (I L)) z.2⟩) x
   refine zbv D N ?_ (fun cs b=>Region.noSelect_spec T.sel i _ cs b D) (fun cs b=>Region.noSelect_spec T.sel j _ cs b N) I X
   rcases T.turn i j (f i m) g e (E j O) (R i m) with h | h
   ·exact absurd h.1 (qxb H)
   ·exact h
 | .fork p q,rem,a,w,t,nd,f,m,E,h,F=>by
  have J:=q1i T D H p rem a w t nd f m E h.1 F.1
  have K:=q1i T D H q rem a w t nd f m E h.2 F.2
  rw[qb0 D,if_pos H] at J K ⊢
  obtain⟨v1,V,Y⟩:=J
  obtain⟨v2,y2,Z⟩:=K
  have:=qjf (V.w t) (y2.w t)
  subst this
  exact⟨v1,V,Y,Z⟩
theorem quj(T:Turns ops cl A kp){i:Nat}{W:Oper}(H:ops[i]? = some W)(J:qaq ops cl i=2):∀(p:Plan) (rem:List Nat) (a:Act) (w:World),rem.Nodup→(∀j∈rem,j<ops.size)→i∈rem→(∀k∈rem,k∉A.getD i [])→i∈p.first (fun i=>qaq ops cl i==2)→Cov A (fun i=>qaq ops cl i==2) p rem →
  wpP P ops Q C cl kp p a w→wpI P ops C cl kp i (wpP P ops Q C cl kp (p.rmE (fun i=>qaq ops cl i==2) i)) a w
 | .done,rem,a,w,nd,f,z,D,t,h,E=>by cases t
 | .step j p,rem,a,w,nd,f,z,D,t,h,E=>by
  obtain⟨K,F,U,X⟩:=h
  unfold Plan.rmE
  split
  ·rename_i e
   subst e
   exact E
  ·rename_i e
   have g:qaq ops cl j≠2:=by
    intro h
    have F:(qaq ops cl j==2)=true:=by simpa using h
    rw[Plan.first,F] at t
    simp at t
    exact absurd t e
   have L:qe6 (qaq ops cl j)=true:=qqb (T.two j (f j K)) g
   have M:i∈p.first (fun i=>qaq ops cl i==2):=by
    have F:(qaq ops cl j==2)=false:=by simpa using g
    rw[Plan.first,F] at t
    exact t
   have N:i∈rem.erase j:=(nd.mem_erase_iff).2 ⟨e,z⟩
   have m:=f j K
   have O:ops[j]? = some (ops[j]'m):=Array.getElem?_eq_getElem m
   have V:wpI P ops C cl kp j (fun a w=>wpI P ops C cl kp i (wpP P ops Q C cl kp (p.rmE (fun i=>qaq ops cl i==2) i)) a w) a w:=by
    have I:wpI P ops C cl kp j (wpP P ops Q C cl kp p) a w:=E
    rw[qb0 O,if_pos L] at I ⊢
    obtain⟨v,y,k⟩:=I
    exact⟨v,y,quj T H J p (rem.erase j) _ _ (nd.erase j) (fun k R=>f k (List.mem_of_mem_erase R)) N (fun k R=>D k (List.mem_of_mem_erase R)) M U k⟩
   refine zbv H O ?_ (fun cs b=>Region.noSelect_spec T.sel i _ cs b H) (fun cs b=>Region.noSelect_spec T.sel j _ cs b O) (fun h=>by rw[J] at h;cases h) V
   rcases T.turn i j (f i z) m e (D j K) (F i z) with h | h
   ·exact absurd h.2 g
   ·exact h
 | .fork p q,rem,a,w,nd,f,z,D,t,h,E=>by
  unfold Plan.rmE
  split
  ·rename_i x
   exact quj T H J p rem a w nd f z D (List.contains_iff_mem.1 x) h.1 E.1
  ·rename_i x
   rw[Plan.first,List.mem_append] at t
   exact quj T H J q rem a w nd f z D (t.resolve_left fun h=>x (List.contains_iff_mem.2 h)) h.2 E.2
theorem qux{eff:Nat→Bool} : ∀ {p:Plan} {a:Act} {w:World},Cov A eff p []→wpP P ops Q C cl kp p a w→Q .normal a w
 | .done,_,_,_,f=>f
 | .step i p,_,_,h,_=>by have:=h.1;cases this
 | .fork p q,_,_,h,f=>qux h.1 f.1
end
def qdw(l:List Oper)(cl:List Nat)(i:Nat):Bool:=cl.any fun j=> !((qs6 l []).getD i []).contains j
def zao(l:List Oper)(cl:List Nat)(p:Plan):Bool :=
 let A:=qs6 l []
 let ops:=l.toArray
 let eff:=fun i=>qaq ops cl i==2
 Region.noSelect ops&&((List.range l.length).all fun i=>match l[i]? with
  | none=>true
  | some o =>
   (o.after.toList.all fun e=> !Region.binds .any e || decide (e.on<i)) &&
   ((A.getD i []).all fun k=>o.after.toList.any fun e=>Region.binds .any e&&(k==e.on || (A.getD e.on []).contains k)) &&
   ((List.range l.length).all fun j=>i==j || (A.getD i []).contains j || (A.getD j []).contains i || (eff i&&eff j) || qol ops cl i j)&&decide (qaq ops cl i≤3)) &&
 qvm A eff p (List.range l.length)&&qyv A eff p (List.range l.length)
end
section
variable {P:Program}{l:List Oper}{Q:Exit→Act→World→Prop}{C:World→Prop}{cl:List Nat}
theorem zap{A:List (List Nat)}{kp:Nat→Bool}(T:Turns l.toArray cl A kp)(key:∀(i:Nat) o,l[i]? = some o→(∀e∈o.after,Region.binds .any e=true→e.on<i)∧(∀k∈A.getD i [],∃e∈o.after,Region.binds .any e=true∧(k=e.on∨k∈A.getD e.on []))) :
  ∀(t:Nat) (f:Array Bool) (p:Plan) (a:Act) (w:World),(∀j∈cl,j∈(List.range l.length).filter (fun i=> !f.getD i false)→C w)→f.size=l.length→(∀i,f.getD i false=true→∀k∈A.getD i [],f.getD k false=true) →
  ((List.range l.length).filter fun i=> !f.getD i false).length≤t→Cov A (fun i=>qaq l.toArray cl i==2) p ((List.range l.length).filter fun i=> !f.getD i false)→qkj A (fun i=>qaq l.toArray cl i==2) p ((List.range l.length).filter fun i=> !f.getD i false) →
  wpP P l.toArray Q C cl kp p a w→wpAny P .any l.toArray Q t f a w:=by
 have R:∀(f:Array Bool),f.size=l.length→Region.ready .any l.toArray f=[]→(List.range l.length).filter (fun i=> !f.getD i false)=[]:=by
  intro f E hr
  rw[List.filter_eq_nil_iff]
  intro i L
  have L:=List.mem_range.1 L
  induction i using Nat.strongRecOn with
  | _ i ih =>
   cases hl:f.getD i false with
   | true=>simp
   | false =>
    exfalso
    have:i∈Region.ready .any l.toArray f:=by
     rw[mem_ready]
     have N:l[i]? = some l[i]:=List.getElem?_eq_getElem L
     refine⟨?_,l[i],by simp[L],fun e he hb=> ?_⟩
     ·rw[Array.getD_eq_getD_getElem?] at hl ⊢
      have:i<f.size:=by omega
      rw[Array.getElem?_eq_getElem this] at hl ⊢
      simpa using hl
     ·have h1:=(key i _ N).1 e he hb
      have:=ih e.on h1 (List.mem_range.2 (by omega)) (by omega)
      simpa using this
    rw[hr] at this
    cases this
 intro t
 induction t with
 | zero =>
  intro f p a w hC E shut a7 g hf h
  have h0:(List.range l.length).filter (fun i=> !f.getD i false)=[]:=List.length_eq_zero_iff.1 (by omega)
  rw[h0] at g
  refine⟨?_,qux g h⟩
  rw[List.eq_nil_iff_forall_not_mem]
  intro i L
  obtain⟨J,o,N,-⟩:=mem_ready.1 L
  have F:i<l.length:=by simpa using (Array.getElem?_eq_some_iff.1 N).1
  rw[List.filter_eq_nil_iff] at h0
  have:=h0 i (List.mem_range.2 F)
  rw[Array.getD_eq_getD_getElem?] at J this
  have hs:i<f.size:=by omega
  rw[Array.getElem?_eq_getElem hs] at J this
  simp at J this
  rw[J] at this
  cases this
 | succ t ih =>
  intro f p a w hC E shut a7 g hf h
  refine⟨fun hr=> ?_,fun i L=> ?_⟩
  ·rw[R f E hr] at g
   exact qux g h
  obtain⟨J,o,N,Y⟩:=mem_ready.1 L
  have F:i<l.length:=by simpa using (Array.getElem?_eq_some_iff.1 N).1
  have hs:i<f.size:=by omega
  have a8:l[i]? = some o:=by simpa using N
  have a9:f.getD i false=false:=by
   rw[Array.getD_eq_getD_getElem?] at J ⊢
   rw[Array.getElem?_eq_getElem hs] at J ⊢
   simpa using J
  obtain⟨e1,e2⟩:=key i o a8
  have K:∀k∈A.getD i [],f.getD k false=true:=by
   intro k y
   obtain⟨e,he,hb,h⟩:=e2 k y
   have h1:=Y e he hb
   rcases h with rfl | h
   ·exact h1
   ·exact shut _ h1 k h
  have nd:((List.range l.length).filter (fun i=> !f.getD i false)).Nodup:=List.Pairwise.filter _ List.nodup_range
  have x:((List.range l.length).filter (fun i=> !f.getD i false)).erase i=(List.range l.length).filter (fun j=> !(f.setIfInBounds i true).getD j false):=by
   rw[List.Nodup.erase_eq_filter nd,List.filter_filter]
   refine List.filter_congr fun j H=> ?_
   by_cases e:i=j
   ·subst e
    have:(f.setIfInBounds i true).getD i false=true:=by simp[hs]
    rw[this]
    simp
   ·have:(f.setIfInBounds i true).getD j false=f.getD j false:=getD_set_ne false e
    rw[this]
    have:(j != i)=true:=by simpa using fun h=>e h.symm
    rw[this,Bool.and_comm,Bool.and_true]
  have m:i∈(List.range l.length).filter (fun i=> !f.getD i false):=List.mem_filter.2 ⟨List.mem_range.2 F,by rw[a9];rfl⟩
  have a4:∀j∈(List.range l.length).filter (fun i=> !f.getD i false),j<l.toArray.size:=fun j H=>by simpa using List.mem_range.1 (List.mem_filter.1 H).1
  have I:∀k∈(List.range l.length).filter (fun i=> !f.getD i false),k∉A.getD i []:=fun k y O=>by
   have:=(List.mem_filter.1 y).2
   rw[K k O] at this
   cases this
  have M:((List.range l.length).filter fun j=> !(f.setIfInBounds i true).getD j false).length≤t:=by
   rw[←x,List.length_erase_of_mem m]
   omega
  have D:∀j,(f.setIfInBounds i true).getD j false=true→∀k∈A.getD j [],(f.setIfInBounds i true).getD k false=true:=by
   intro j H k y
   by_cases e:i=j
   ·subst e
    exact getD_set_true (K k y)
   ·rw[getD_set_ne false e] at H
    exact getD_set_true (shut j H k y)
  generalize (List.range l.length).filter (fun i=> !f.getD i false)=rem at *
  by_cases U:qaq l.toArray cl i=2
  ·have v:(fun i=>qaq l.toArray cl i==2) i=true:=by simpa using U
   have Z:i∈p.first (fun i=>qaq l.toArray cl i==2):=by
    rcases hf i m v with h | ⟨k,y,-,O⟩
    ·exact h
    ·exact absurd O (I k y)
   obtain⟨V,W⟩:=qon (eff:=fun i=>qaq l.toArray cl i==2) (i:=i) v nd m Z g
   have hp:=quj T N U p rem a w nd a4 m I Z g h
   rw[x] at V W
   refine wpOp_mono (fun a' w' y=>ih (f.setIfInBounds i true) _ a' w' (fun j H z=> ?_) (by rw[Array.size_setIfInBounds];exact E) D M V W y.2.2) (q8u (fun h=>by rw[U] at h;cases h) hp)
   refine y.2.1 (by rw[U];rfl) (T.kept i j H fun a6=> ?_)
   rw[←x] at z
   exact I j (List.mem_of_mem_erase z) a6
  ·have v:(fun i=>qaq l.toArray cl i==2) i=false:=by simpa using U
   have a5:qe6 (qaq l.toArray cl i)=true:=qqb (T.two i (by simpa using F)) U
   have V:=quk (eff:=fun i=>qaq l.toArray cl i==2) (i:=i) v nd m g
   have W:=qqc (eff:=fun i=>qaq l.toArray cl i==2) (i:=i) v nd hf
   have X:qaq l.toArray cl i=3→C w:=fun h3=>hC i (q0z h3) m
   have hp:=q1i T N a5 p rem a w X nd a4 m I g h
   rw[x] at V W
   refine wpOp_mono (fun a' w' y=>ih (f.setIfInBounds i true) _ a' w' (fun j H z=> ?_) (by rw[Array.size_setIfInBounds];exact E) D M V W y.2.2) (q8u X hp)
   rw[y.1 a5]
   rw[←x] at z
   exact hC j H (List.mem_of_mem_erase z)
theorem qb2{id:Nat}{a:Act}{w:World}(C:World→Prop)(cl:List Nat)(p:Plan)(N:P.follows .mixedOrders=true)(t:zao l cl p=true)(L:C w.drew)(h:wpP P l.toArray Q C cl (qdw l cl) p a w.drew):(Code.region id l.toArray true).wp P Q a w:=by
 refine wp_region_any N ?_
 have E:(List.range l.length).filter (fun i=> !(Array.replicate l.length false).getD i false)=List.range l.length:=by
  rw[List.filter_eq_self.2 (fun i _=>by rw[qbn];rfl)]
 unfold zao at t
 simp only[Bool.and_eq_true] at t
 obtain⟨⟨⟨x,t⟩,g⟩,m⟩:=t
 obtain⟨A,I⟩:∃A,A=qs6 l []:=⟨_,rfl⟩
 have H:∀i j,j∈cl→j∉A.getD i []→qdw l cl i=true:=by
  intro i j v O
  unfold qdw
  rw[←I]
  exact List.any_eq_true.2 ⟨j,v,by simpa using O⟩
 rw[←I] at t g m
 have key:∀(i:Nat) o,l[i]? = some o→_:=fun i o z=>by
  have f:i<l.length:=(List.getElem?_eq_some_iff.1 z).1
  have:=List.all_eq_true.1 t i (List.mem_range.2 f)
  rw[z] at this
  simp only[Bool.and_eq_true] at this
  exact this
 have T:Turns l.toArray cl A (qdw l cl):=by
  refine⟨x,fun i j f v F J K=> ?_,fun i f=> ?_,H⟩
  ·have f:i<l.length:=by simpa using f
   have v:j<l.length:=by simpa using v
   obtain⟨⟨-,V⟩,-⟩:=key i _ (List.getElem?_eq_getElem f)
   have:=List.all_eq_true.1 V j (List.mem_range.2 v)
   simp only[Bool.or_eq_true,beq_iff_eq,List.contains_iff_mem,Bool.and_eq_true] at this
   rcases this with (((h | h) | h) | h) | h
   ·exact absurd h F
   ·exact absurd h J
   ·exact absurd h K
   ·exact .inl h
   ·exact .inr h
  ·have f:i<l.length:=by simpa using f
   obtain⟨-,W⟩:=key i _ (List.getElem?_eq_getElem f)
   simpa using W
 refine zap (cl:=cl) (A:=A) T (fun i o z=> ?_) _ _ p a _ (fun _ _ _=>L) (by simp) (fun i f=>by rw[List.size_toArray,qbn] at f;cases f) ?_ ?_ ?_ h
 ·obtain⟨⟨⟨R,U⟩,-⟩,-⟩:=key i o z
  refine⟨fun e D y=> ?_,fun k M=> ?_⟩
  ·have:=List.all_eq_true.1 R e (by simpa using D)
   simpa [y] using this
  ·have:=List.all_eq_true.1 U k M
   obtain⟨e,D,y⟩:=List.any_eq_true.1 this
   simp only[Bool.and_eq_true,Bool.or_eq_true,beq_iff_eq,List.contains_iff_mem] at y
   exact⟨e,by simpa using D,y⟩
 ·rw[List.size_toArray,E]
  simp
 ·rw[List.size_toArray,E]
  exact qoi g
 ·rw[List.size_toArray,E]
  exact qro m
def qdv(P:Program)(ops:Array Oper)(Q:Exit→Act→World→Prop):List Oper→Act→World→Prop
 | [],a,w=>Q .normal a w
 | o::r,a,w=>if qb4 o≤1 then ∃v,qca P ops (fun _=>True) (qb4 o) w o v a∧qdv P ops Q r (a.put o.dst v) w
   else if Region.wanted o (yielded ops a.tmps) then o.wp P a w (qdv P ops Q r) noQ else qdv P ops Q r (a.put o.dst undef) w
theorem zat:∀(r:List Oper) (k:Nat),(∀j,r[j]? = l[k+j]?)→∀a w,qdv P l.toArray Q r a w→wpP P l.toArray Q (fun _=>True) [] (qdw l []) (Plan.of (List.range' k r.length)) a w:=by
 intro r
 induction r with
 | nil=>intro k _ a w h;exact h
 | cons o r D =>
  intro k h a w f
  have t:l.toArray[k]? = some o:=by simpa using (h 0).symm
  have g:=D (k+1) (fun j=>by have:=h (j+1);simpa [Nat.add_assoc,Nat.add_comm 1 j] using this)
  have x:qaq l.toArray [] k=qb4 o:=by
   unfold qaq
   rw[t]
   simp
  rw[List.length_cons,List.range'_succ,Plan.of,wpP,qb0 t,x]
  rw[qdv] at f
  have m:qe6 (qb4 o)=true↔qb4 o≤1:=by
   have E:qb4 o≤2:=by
    unfold qb4
    split<;>(try split)<;>decide
   constructor
   ·intro h
    have:=qxb h
    omega
   ·intro h
    exact qqb (by omega) (by omega)
  split
  ·rw[if_pos (m.1 ‹_›)] at f
   obtain⟨v,y,k⟩:=f
   exact⟨v,y,g _ _ k⟩
  ·rw[if_neg (fun h=>absurd (m.2 h) ‹_›)] at f
   unfold wpOp
   rw[t]
   simp only[qh4,and_false,or_false]
   split
   ·rw[if_pos ‹_›] at f
    exact Oper.wp_mono (fun a w z=>⟨fun _=>trivial,g _ _ z⟩) f
   ·rw[if_neg ‹_›] at f
    exact⟨fun _=>trivial,g _ _ f⟩
theorem zdd{id:Nat}{a:Act}{w:World}(g:P.follows .mixedOrders=true)(f:zao l [] (Plan.of (List.range' 0 l.length))=true)(h:qdv P l.toArray Q l a w.drew):(Code.region id l.toArray true).wp P Q a w :=
 qb2 (fun _=>True) [] _ g f trivial (zat l 0 (by simp) a _ h)
section
variable {ops:Array Oper}{o:Oper}{r:List Oper}{a:Act}{w:World}
theorem tn(h:Q .normal a w):qdv P ops Q [] a w:=h
theorem qo2{s:Sem Value}{n:Next}{w w':World}(h:(do pure (Next.value (←s)):Sem Next).run P w = .ok n w'):∃v,n = .value v:=by
 rw[Sem.run_bind] at h
 generalize s.run P w=x at h
 cases x with
 | ok v w1 =>
  simp only[Result.andThen_ok] at h
  injection h with h1 h2
  exact⟨v,h1.symm⟩
 | halt x w1=>simp only[Result.andThen_halt] at h;cases h
theorem q18{ρ:Operand→Value}(j:qb4 o≤1){n:Next}{w':World}(h:(execOp ρ o).run P w = .ok n w'):∃v,n = .value v:=by
 obtain⟨z,D,y,pos,t,guard⟩:=o
 cases D<;>simp only[qb4] at j<;>simp only[execOp] at h
 case move x=>injection h with h1 h2;exact⟨_,h1.symm⟩
 case assign x=>injection h with h1 h2;exact⟨_,h1.symm⟩
 case pick c a b =>
  rw[Sem.run_bind] at h
  generalize (asBool (ρ c)).run P w=x at h
  cases x with
  | ok v w1=>injection h with h1 h2;exact⟨_,h1.symm⟩
  | halt x w1=>cases h
 case nilCheck x =>
  split at h
  ·cases h
  ·cases h
  ·cases h
  ·split at h
   ·cases h
   ·rw[Sem.run_bind] at h
    generalize Sem.run P (program) w=x at h
    cases x with
    | halt x w1=>cases h
    | ok p w1 =>
     simp only[Result.andThen_ok] at h
     rw[Sem.run_bind] at h
     generalize Sem.run P (nilAhead _ _ _ _) w1=x at h
     cases x with
     | halt x w1=>cases h
     | ok p w1 =>
      simp only[Result.andThen_ok] at h
      split at h
      ·rw[Sem.run_bind] at h
       cases h
      ·injection h with h1 h2
       exact⟨_,h1.symm⟩
   ·injection h with h1 h2;exact⟨_,h1.symm⟩
  ·injection h with h1 h2;exact⟨_,h1.symm⟩
 case call c =>
  cases g:c.callee with
  | value f=>rw[g] at j;simp at j
  | invoke r m=>rw[g] at j;simp at j
  | builtin b =>
   rw[g] at j
   unfold resolve at h
   rw[g] at h
   cases b<;>first | (simp at j;done) | exact qo2 h
 all_goals first | exact qo2 h | (simp at j;done)
theorem qqu(y:qb4 o≤1){A:Act}(h:∀m,(∀f,f=A→m .normal f w)→wpList P ops m [o] a w):∃v,qd4 P ops w o v a∧a.put o.dst v=A:=by
 have h:=h (fun e f w'=>e = .normal∧f=A∧w'=w) (fun _ e=>⟨rfl,e,rfl⟩)
 unfold wpList at h
 split at h
 ·rename_i j
  rcases h with h | h
  case inr=>obtain⟨_,_,h,-⟩:=h.2;cases h
  unfold Oper.wp at h
  cases g:(execOp a.eval o).run P w with
  | halt x w' =>
   rw[g] at h
   cases x<;>simp only[Oper.upon] at h
   obtain⟨h,-⟩:=h
   cases h
  | ok n w' =>
   obtain⟨v,rfl⟩:=q18 y g
   rw[g] at h
   obtain⟨-,t,rfl⟩:=h
   exact⟨v,.inl ⟨j,g⟩,t⟩
 ·rename_i j
  exact⟨undef,.inr ⟨by simpa using j,rfl⟩,h.2.1⟩
theorem tr{A:Act}(j:(qb4 o==1)=true)(h:∀f,(∀g,g=A→f .normal g w)→wpList P ops f [o] a w)(k:qdv P ops Q r A w):qdv P ops Q (o::r) a w:=by
 have x:qb4 o=1:=by simpa using j
 rw[qdv,if_pos (by omega)]
 obtain⟨v,t,m⟩:=qqu (by omega) h
 refine⟨v,?_,by rw[m];exact k⟩
 unfold qca
 rw[if_neg (by omega),if_neg (by omega)]
 exact t
def qnn(o:Oper)(a:Act):Bool:=match o.dst with | some d=>decide (d<a.tmps.size) | none=>false
theorem qjv{C:World→Prop}(J:qb4 o≤1){A:Act}(g:qnn o a=true)(m:C w)(h:∀w,C w→∀z,(∀D,D=A→z .normal D w)→wpList P ops z [o] a w):∃v,qcb P ops C o v a∧a.put o.dst v=A:=by
 have F:∀w,C w→∃v,qd4 P ops w o v a∧a.put o.dst v=A:=fun w m=>qqu J (h w m)
 have j:∀v u,a.put o.dst v=a.put o.dst u→v=u:=by
  intro v u e
  unfold qnn at g
  cases f:o.dst with
  | none=>rw[f] at g;cases g
  | some d =>
   rw[f] at g e
   have y:d<a.tmps.size:=by simpa using g
   have H:=congrArg (fun x:Act=>x.tmps[d]?) e
   simpa [Act.put,y] using H
 obtain⟨v,L,E⟩:=F w m
 refine⟨v,fun w' t=> ?_,E⟩
 obtain⟨u,K,I⟩:=F w' t
 have:v=u:=j v u (E.trans I.symm)
 rw[this]
 exact K
theorem tp{A:Act}(t:(qb4 o==0)=true)(x:qnn o a=true)(h:∀w f,(∀g,g=A→f .normal g w)→wpList P ops f [o] a w)(k:qdv P ops Q r A w):qdv P ops Q (o::r) a w:=by
 have j:qb4 o=0:=by simpa using t
 rw[qdv,if_pos (by omega)]
 obtain⟨v,y,m⟩:=qjv (C:=fun _=>True) (w:=w) (by omega) x trivial (fun w _=>h w)
 refine⟨v,?_,by rw[m];exact k⟩
 unfold qca
 rw[if_pos j]
 exact y
theorem te(v:(qb4 o==2)=true)(h:∀m,(∀g w',qdv P ops Q r g w'→m .normal g w')→wpList P ops m [o] a w):qdv P ops Q (o::r) a w:=by
 have y:qb4 o=2:=by simpa using v
 rw[qdv,if_neg (by omega)]
 have:=h (fun e g w'=>match e with | .normal=>qdv P ops Q r g w' | _=>False) (fun _ _ h=>h)
 unfold wpList at this
 split
 case isFalse j=>rw[if_neg j] at this;exact this
 rename_i j
 rw[if_pos j] at this
 rcases this with f | f
 case inr =>
  obtain⟨_,_,t⟩:=f.2
  exact t.elim
 unfold Oper.wp at *
 generalize (execOp a.eval o).run P w=x at *
 cases x with
 | ok n w' =>
  cases n<;>simp only[Oper.upon] at f ⊢<;>exact f
 | halt x w' =>
  cases x<;>simp only[Oper.upon] at f ⊢
section
variable {C:World→Prop}{cl:List Nat}{p q:Plan}{i:Nat}
def qla:List Oper→Nat→Option Oper
 | [],_=>none
 | o::_,0=>some o
 | _::r,n+1=>qla r n
theorem q1g:∀(l:List Oper) (i:Nat),qla l i=l[i]?
 | [],_=>rfl
 | _::_,0=>rfl
 | _::r,n+1=>by rw[qla,q1g r n,List.getElem?_cons_succ]
theorem qkq{i:Nat}{o:Oper}(h:qla l i=some o):l.toArray[i]? = some o:=by rw[List.getElem?_toArray,←q1g];exact h
theorem qn(h:Q .normal a w):wpP P l.toArray Q C cl (qdw l cl) .done a w:=h
theorem qf(f:wpP P l.toArray Q C cl (qdw l cl) p a w)(g:wpP P l.toArray Q C cl (qdw l cl) q a w):wpP P l.toArray Q C cl (qdw l cl) (.fork p q) a w:=⟨f,g⟩
theorem qp{A:Act}(f:qla l i=some o)(y:(qaq l.toArray cl i==0)=true)(z:qnn o a=true)(h:∀w j,(∀m,m=A→j .normal m w)→wpList P l.toArray j [o] a w)(k:wpP P l.toArray Q C cl (qdw l cl) p A w):wpP P l.toArray Q C cl (qdw l cl) (.step i p) a w:=by
 replace f:=qkq f
 have g:qaq l.toArray cl i=0:=by simpa using y
 have t:qb4 o≤1:=qtf (cl:=cl) f (by rw[g];rfl)
 rw[wpP,qb0 f,if_pos (by rw[g];rfl)]
 obtain⟨v,D,x⟩:=qjv (C:=fun _=>True) (w:=w) t z trivial (fun w _=>h w)
 refine⟨v,?_,by rw[x];exact k⟩
 unfold qca
 rw[if_pos g]
 exact D
theorem qc{A:Act}(f:qla l i=some o)(z:(qaq l.toArray cl i==3)=true)(D:qnn o a=true)(y:C w)(h:∀w,C w→∀j,(∀m,m=A→j .normal m w)→wpList P l.toArray j [o] a w)(k:wpP P l.toArray Q C cl (qdw l cl) p A w):wpP P l.toArray Q C cl (qdw l cl) (.step i p) a w:=by
 replace f:=qkq f
 have g:qaq l.toArray cl i=3:=by simpa using z
 have t:qb4 o≤1:=qtf (cl:=cl) f (by rw[g];rfl)
 rw[wpP,qb0 f,if_pos (by rw[g];rfl)]
 obtain⟨v,E,x⟩:=qjv (w:=w) t D y h
 refine⟨v,?_,by rw[x];exact k⟩
 unfold qca
 rw[if_neg (by omega),if_pos g]
 exact E
theorem qr{A:Act}(f:qla l i=some o)(x:(qaq l.toArray cl i==1)=true)(h:∀g,(∀j,j=A→g .normal j w)→wpList P l.toArray g [o] a w)(k:wpP P l.toArray Q C cl (qdw l cl) p A w):wpP P l.toArray Q C cl (qdw l cl) (.step i p) a w:=by
 replace f:=qkq f
 have m:qaq l.toArray cl i=1:=by simpa using x
 have t:qb4 o≤1:=qtf (cl:=cl) f (by rw[m];rfl)
 rw[wpP,qb0 f,if_pos (by rw[m];rfl)]
 obtain⟨v,z,y⟩:=qqu t h
 refine⟨v,?_,by rw[y];exact k⟩
 unfold qca
 rw[if_neg (by omega),if_neg (by omega)]
 exact z
structure Keeps(a b:Prop):Prop where
 c:a
 k:b
theorem qe'(j:qla l i=some o)(z:(qaq l.toArray cl i==2)=true)(h:∀t,(∀g w',Keeps (qdw l cl i=true→C w') (wpP P l.toArray Q C cl (qdw l cl) p g w')→t .normal g w')→wpList P l.toArray t [o] a w):wpP P l.toArray Q C cl (qdw l cl) (.step i p) a w:=by
 replace j:=qkq j
 have v:qaq l.toArray cl i=2:=by simpa using z
 rw[wpP,qb0 j,if_neg (by rw[v];decide)]
 have:=h (fun e g w'=>match e with | .normal=>(qdw l cl i=true→C w')∧wpP P l.toArray Q C cl (qdw l cl) p g w' | _=>False) (fun _ _ h=>⟨h.c,h.k⟩)
 unfold wpList at this
 unfold wpOp
 rw[j]
 simp only
 split
 case isFalse m=>rw[if_neg m] at this;exact this
 rename_i m
 rw[if_pos m] at this
 rcases this with f | f
 case inr =>
  obtain⟨_,_,y⟩:=f.2
  exact y.elim
 refine .inl ?_
 unfold Oper.wp at *
 generalize (execOp a.eval o).run P w=x at *
 cases x with
 | ok n w' =>
  cases n<;>simp only[Oper.upon] at f ⊢<;>exact f
 | halt x w' =>
  cases x<;>simp only[Oper.upon] at f ⊢
theorem qe(m:qla l i=some o)(j:(qaq l.toArray cl i==2)=true)(h:∀f,(∀g w',Keeps (C w') (wpP P l.toArray Q C cl (qdw l cl) p g w')→f .normal g w')→wpList P l.toArray f [o] a w):wpP P l.toArray Q C cl (qdw l cl) (.step i p) a w :=
 qe' m j fun f t=>h f fun g w' h=>t g w' ⟨fun _=>h.c,h.k⟩
theorem qd(m:qla l i=some o)(j:(qaq l.toArray cl i==2)=true)(t:qdw l cl i=false)(h:∀f,(∀g w',wpP P l.toArray Q C cl (qdw l cl) p g w'→f .normal g w')→wpList P l.toArray f [o] a w):wpP P l.toArray Q C cl (qdw l cl) (.step i p) a w :=
 qe' m j fun f v=>h f fun g w' h=>v g w' ⟨(fun e=>by rw[t] at e;cases e),h⟩
end
end
end
section
variable {P:Program}{ops:Array Oper}{Q:Exit→Act→World→Prop}{l:List Oper}{o:Oper}{r:List Oper}{a A:Act}{w:World}{C:World→Prop}{cl:List Nat}{p:Plan}{i:Nat}
theorem qh{x:Prop}(h:x):x:=h
theorem tw1(h:∀ {w f} {_:∀a',a'=A→f .normal a' w},wpList P ops f [o] a w)(k:qdv P ops Q r A w)(g:(qb4 o==0)=true:=by with_unfolding_all rfl)(j:qnn o a=true:=by with_unfolding_all rfl):qdv P ops Q (o::r) a w:=tp g j (fun _ _ k=>@h _ _ k) k
theorem tw2(h:∀ {f} {_:∀a',a'=A→f .normal a' w},wpList P ops f [o] a w)(k:qdv P ops Q r A w)(g:(qb4 o==1)=true:=by with_unfolding_all rfl):qdv P ops Q (o::r) a w:=tr g (fun _ k=>@h _ k) k
theorem tw3(h:∀ {f} {_:∀a' w',qdv P ops Q r a' w'→f .normal a' w'},wpList P ops f [o] a w)(g:(qb4 o==2)=true:=by with_unfolding_all rfl):qdv P ops Q (o::r) a w:=te g fun _ k=>@h _ k
theorem tw4{id:Nat}(h:qdv P l.toArray Q l a w.drew)(g:P.follows .mixedOrders=true:=by kernel_rfl)(f:zao l [] (Plan.of (List.range' 0 l.length))=true:=by decide +kernel):(Code.region id l.toArray true).wp P Q a w:=zdd g f h
theorem qw1(h:∀ {w f} {_:∀a',a'=A→f .normal a' w},wpList P l.toArray f [o] a w)(k:wpP P l.toArray Q C cl (qdw l cl) p A w)(m:qla l i=some o:=by with_unfolding_all rfl)(g:(qaq l.toArray cl i==0)=true:=by with_unfolding_all rfl)(j:qnn o a=true:=by with_unfolding_all rfl):wpP P l.toArray Q C cl (qdw l cl) (.step i p) a w:=qp m g j (fun _ _ k=>@h _ _ k) k
theorem qw2(h:∀ {w} {_:C w} {Q'} {_:∀a',a'=A→Q' .normal a' w},wpList P l.toArray Q' [o] a w)(k:wpP P l.toArray Q C cl (qdw l cl) p A w)(m:qla l i=some o:=by with_unfolding_all rfl)(g:(qaq l.toArray cl i==3)=true:=by with_unfolding_all rfl)(j:qnn o a=true:=by with_unfolding_all rfl)(f:C w:=by with_reducible assumption):wpP P l.toArray Q C cl (qdw l cl) (.step i p) a w:=qc m g j f (fun _ c _ k=>@h _ c _ k) k
theorem qw3(h:∀ {f} {_:∀a',a'=A→f .normal a' w},wpList P l.toArray f [o] a w)(k:wpP P l.toArray Q C cl (qdw l cl) p A w)(j:qla l i=some o:=by with_unfolding_all rfl)(g:(qaq l.toArray cl i==1)=true:=by with_unfolding_all rfl):wpP P l.toArray Q C cl (qdw l cl) (.step i p) a w:=qr j g (fun _ k=>@h _ k) k
theorem qw4(h:∀ {f} {_:∀a' w',wpP P l.toArray Q C cl (qdw l cl) p a' w'→f .normal a' w'},wpList P l.toArray f [o] a w)(j:qla l i=some o:=by with_unfolding_all rfl)(g:(qaq l.toArray cl i==2)=true:=by with_unfolding_all rfl)(m:qdw l cl i=false:=by decide +kernel):wpP P l.toArray Q C cl (qdw l cl) (.step i p) a w:=qd j g m fun _ k=>@h _ k
theorem qw5(h:∀ {f} {_:∀a' w',Keeps (C w') (wpP P l.toArray Q C cl (qdw l cl) p a' w')→f .normal a' w'},wpList P l.toArray f [o] a w)(j:qla l i=some o:=by with_unfolding_all rfl)(g:(qaq l.toArray cl i==2)=true:=by with_unfolding_all rfl):wpP P l.toArray Q C cl (qdw l cl) (.step i p) a w:=qe j g fun _ k=>@h _ k
end
theorem Upd.ofDrew{S:Nat→Prop}{w w':World}(h:Upd S w.drew w'):Upd S w w':=⟨h.os,h.tape,h.output,h.size,h.block⟩
theorem Q.ofDrew{w w':World}(h:Q w.drew w'):Q w w':=by
 obtain⟨n,rfl⟩:=h
 exact⟨1+n,rfl |>.trans (World.drewN_drewN w 1 n)⟩
theorem qik{x:Int}(f : -9223372036854775808≤x)(g:x≤9223372036854775807):IntKind.i64.wrap x=x:=by rw[IntKind.wrap_i64];omega
theorem qd3{x:Int}(f:0≤x)(g:x≤18446744073709551615):IntKind.u64.wrap x=x:=by rw[IntKind.wrap_u64];omega
end Go.Proofs.YtjpmomdechibmaaGreatDoor
