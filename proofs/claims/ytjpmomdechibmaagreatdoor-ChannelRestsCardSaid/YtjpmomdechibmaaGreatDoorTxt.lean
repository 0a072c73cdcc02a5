/-
  A region that draws its order, whose operations with effects stand in a row: it may be walked in its lexical order. Operations that only compute may stand anywhere; loads wait for, or are waited for by, each operation with an effect.
-/
import Derived.Test.YtjpmomdechibmaaGreatDoorDag
import Derived.Test.YtjpmomdechibmaaGreatDoorMaa
set_option linter.unusedVariables false
set_option linter.unusedSimpArgs false
namespace Go.Proofs.YtjpmomdechibmaaGreatDoor
open Go.RowKit
def qcf(o:Oper):Nat :=
 match o.op with
 | .move _ | .assign _ | .pick .. | .extract .. | .fieldAddr .. | .field .. | .makeFunc .. | .nilCheck _ | .binOp .. | .unOp .. | .indexAddr .. | .index .. | .build .. | .slice .. => 0
 | .load .. | .lookup .. | .convert .. => 1
 | .call c=>match c.callee with | .builtin .len=>0 | .builtin .cap=>0 | _=>2
 | _=>2
def noQ:Exit→Act→World→Prop:=fun _ _ _=>False
section
variable {P:Program}{ops:Array Oper}{Q:Exit→Act→World→Prop}
def qeh(P:Program)(ops:Array Oper)(w:World)(o:Oper)(v:Value)(a:Act):Prop :=
 (Region.wanted o (yielded ops a.tmps)=true∧(execOp a.eval o).run P w = .ok (.value v) w)∨(Region.wanted o (yielded ops a.tmps)=false∧v=undef)
theorem qeh.of_same{o:Oper}{v:Value}{a f:Act}{w:World}(t:qeh P ops w o v a)(g:execOp f.eval o=execOp a.eval o)
  (m:Region.wanted o (yielded ops f.tmps)=Region.wanted o (yielded ops a.tmps)):qeh P ops w o v f:=by
 unfold qeh at *
 rw[g,m]
 exact t
theorem qeh.wpOp{i:Nat}{o:Oper}{v:Value}{a:Act}{w:World}(g:ops[i]? = some o)(t:qeh P ops w o v a)
  {K:Act→World→Prop} (h:K (a.put o.dst v) w):wpOp P ops Q i K a w:=by
 unfold Go.wpOp
 simp only[g]
 rcases t with ⟨f,m⟩ | ⟨f,rfl⟩
 ·simp only[f,if_true,Oper.wp,m,Oper.upon];exact .inl h
 ·simp only[f,Bool.false_eq_true,if_false];exact h
theorem qjy{o:Oper}{v u:Value}{a:Act}{w:World}(g:qeh P ops w o v a)(f:qeh P ops w o u a):v=u:=by
 rcases g with ⟨a1,a2⟩ | ⟨a1,a2⟩<;>rcases f with ⟨b1,b2⟩ | ⟨b1,b2⟩
 ·have:=a2.symm.trans b2
  simpa using this
 ·rw[a1] at b1;cases b1
 ·rw[a1] at b1;cases b1
 ·rw[a2,b2]
def qcm(P:Program)(ops:Array Oper)(C:World→Prop)(o:Oper)(v:Value)(a:Act):Prop:=∀w,C w→qeh P ops w o v a
theorem qcm.of_same{C:World→Prop}{o:Oper}{v:Value}{a f:Act}(x:qcm P ops C o v a)(m:execOp f.eval o=execOp a.eval o)
  (t:Region.wanted o (yielded ops f.tmps)=Region.wanted o (yielded ops a.tmps)):qcm P ops C o v f:=fun w g=>(x w g).of_same m t
def qcl(P:Program)(ops:Array Oper)(C:World→Prop)(c:Nat)(w:World)(o:Oper)(v:Value)(a:Act):Prop:=if c=0 then qcm P ops (fun _=>True) o v a else if c=3 then qcm P ops C o v a else qeh P ops w o v a
theorem qcl.w{C:World→Prop}{c:Nat}{o:Oper}{v:Value}{a:Act}{w:World}(f:qcl P ops C c w o v a)(g:c=3→C w):qeh P ops w o v a:=by
 unfold qcl at f
 split at f
 ·exact f w trivial
 ·split at f
  ·exact f w (g ‹_›)
  ·exact f
theorem qcl.of_same{C:World→Prop}{c:Nat}{o:Oper}{v:Value}{a g:Act}{w:World}(f:qcl P ops C c w o v a)(m:execOp g.eval o=execOp a.eval o)
  (t:Region.wanted o (yielded ops g.tmps)=Region.wanted o (yielded ops a.tmps)):qcl P ops C c w o v g:=by
 unfold qcl at *
 split at f
 ·rw[if_pos ‹_›];exact f.of_same m t
 ·rw[if_neg ‹_›]
  split at f
  ·rw[if_pos ‹_›];exact f.of_same m t
  ·rw[if_neg ‹_›];exact f.of_same m t
def qaz(ops:Array Oper)(cl:List Nat)(i:Nat):Nat :=
 match ops[i]? with
 | none=>0
 | some o=>if qcf o==1&&cl.contains i then 3 else qcf o
def qfl(c:Nat):Bool:=c==0 || c==1 || c==3
theorem qun{cl:List Nat}{i:Nat}{o:Oper}(g:ops[i]? = some o)(h:qfl (qaz ops cl i)=true):qcf o≤1:=by
 have e:qaz ops cl i=if (qcf o==1&&cl.contains i)=true then 3 else qcf o:=by unfold qaz;rw[g]
 rw[e] at h
 by_cases f:(qcf o==1&&cl.contains i)=true
 ·rw[Bool.and_eq_true,beq_iff_eq] at f
  omega
 ·rw[if_neg f] at h
  unfold qfl at h
  simp only[Bool.or_eq_true,beq_iff_eq] at h
  have:qcf o≤2:=by
   unfold qcf
   split<;>(try split)<;>decide
  omega
theorem q2h{cl:List Nat}{i:Nat}(h:qaz ops cl i=3):i∈cl:=by
 unfold qaz at h
 split at h
 ·cases h
 ·rename_i o g
  split at h
  ·rename_i f
   simp at f
   exact f.2
  ·have:qcf o≤2:=by
    unfold qcf
    split<;>(try split)<;>decide
   omega
def wpI(P:Program)(ops:Array Oper)(C:World→Prop)(cl:List Nat)(kp:Nat→Bool)(i:Nat)(K:Act→World→Prop)(a:Act)(w:World):Prop :=
 match ops[i]? with
 | none=>K a w
 | some o=>if qfl (qaz ops cl i)=true then ∃v,qcl P ops C (qaz ops cl i) w o v a∧K (a.put o.dst v) w else wpOp P ops noQ i (fun f w'=>(kp i=true→C w')∧K f w') a w
section
variable {C:World→Prop}{cl:List Nat}{kp:Nat→Bool}
theorem qcb{i:Nat}{o:Oper}{K:Act→World→Prop}{a:Act}{w:World}(g:ops[i]? = some o):wpI P ops C cl kp i K a w=if qfl (qaz ops cl i)=true then ∃v,qcl P ops C (qaz ops cl i) w o v a∧K (a.put o.dst v) w else wpOp P ops noQ i (fun f w'=>(kp i=true→C w')∧K f w') a w:=by
 unfold wpI
 rw[g]
theorem qij:¬LetsOut noQ:=fun⟨_,_,h⟩=>h
theorem zfa{o:Oper}{a:Act}{w:World}{K:Act→World→Prop}(h:o.wp P a w K noQ):o.wp P a w K Q:=by
 unfold Oper.wp at *
 generalize (execOp a.eval o).run P w=r at *
 cases r with
 | ok n w' =>
  cases n<;>simp only[Oper.upon] at h ⊢<;>try exact h
  refine Calls.mono h fun e g f=> ?_
  cases e with
  | returned v=>exact f
  | panicked c=>exact f.elim
  | outgrown=>exact absurd f qij
 | halt x w' =>
  cases x<;>simp only[Oper.upon] at h ⊢
  exact h.elim
theorem zam{i:Nat}{a:Act}{w:World}{K:Act→World→Prop}(h:wpOp P ops noQ i K a w):wpOp P ops Q i K a w:=by
 unfold wpOp at *
 split
 ·rename_i f;simp only[f] at h;exact h
 ·rename_i o f
  simp only[f] at h
  split
  ·rename_i g
   rw[if_pos g] at h
   rcases h with h | h
   ·exact .inl (zfa h)
   ·exact absurd h.2 qij
  ·rename_i g
   rw[if_neg g] at h
   exact h
theorem zal{i:Nat}{a:Act}{w:World}{K:Act→World→Prop}(z:qaz ops cl i=3→C w)(h:wpI P ops C cl kp i K a w):wpOp P ops Q i (fun t w'=>(qfl (qaz ops cl i)=true→w'=w)∧(qfl (qaz ops cl i)=false→kp i=true→C w')∧K t w') a w:=by
 unfold wpI at h
 cases f:ops[i]? with
 | none=>rw[f] at h;unfold wpOp;rw[f];exact⟨fun _=>rfl,(fun h=>by have:qaz ops cl i=0:=(by unfold qaz;rw[f]);rw[this] at h;cases h),h⟩
 | some o =>
  rw[f] at h
  simp only at h
  split at h
  ·rename_i g
   obtain⟨v,x,y⟩:=h
   exact(x.w z).wpOp f ⟨fun _=>rfl,(fun h=>by rw[g] at h;cases h),y⟩
  ·rename_i g
   refine wpOp_mono (fun a w m=>⟨fun h=>absurd h g,fun _=>m.1,m.2⟩) (zam h)
theorem qt9{j:Nat}{m t:Oper}{v:Value}(R:ops[j]? = some t)(F:m.apart ops t=true)(H:∀cs b,m.op ≠ .select cs b)(I:∀cs b,t.op ≠ .select cs b)
  {K:Act→World→Prop} {a:Act} {w:World} (y:qcm P ops C m v a) (h:wpOp P ops noQ j K (a.put m.dst v) w) :
  wpOp P ops noQ j (fun M w'=>qcm P ops C m v M∧K (M.put m.dst v) w') a w:=by
 obtain⟨N,D,O⟩:=Oper.apart_spec F
 have g:∀(a:Act),qcm P ops C m v a→∀u,qcm P ops C m v (a.put t.dst u):=fun a y u =>
  y.of_same (execOp_put m H a t.dst u O) (wanted_put m a t.dst u O)
 have z:∀d,qcm P ops C m v {a with defers:=d::a.defers} := fun d=>y.of_same rfl rfl
 unfold wpOp at *
 simp only[R] at *
 rw[wanted_put t a m.dst v N] at h
 split
 ·rename_i J
  simp only[J,if_true] at h
  rcases h with h | h
  case inr=>exact absurd h.2 qij
  refine .inl ?_
  unfold Oper.wp at *
  rw[execOp_put t I a m.dst v N] at h
  generalize (execOp a.eval t).run P w=r at *
  cases r with
  | ok n w' =>
   cases n<;>simp only[Oper.upon] at h ⊢
   case value u=>exact⟨g a y u,by rw[←Act.put_comm a v u D];exact h⟩
   case skip=>exact⟨g a y _,by rw[←Act.put_comm a v undef D];exact h⟩
   case defer d =>
    refine⟨g _ (z d) _,?_⟩
    rw[←Act.put_comm _ v undef D,←Act.put_defers]
    exact h
   case enter f args =>
    refine Calls.mono h fun e L E=> ?_
    cases e with
    | returned u=>exact⟨g a y u,by rw[←Act.put_comm a v u D];exact E⟩
    | panicked c=>exact E.elim
    | outgrown=>exact E
   case row row args=>exact Rows.mono h fun u L E=>⟨g a y u,by rw[←Act.put_comm a v u D];exact E⟩
  | halt x w' =>
   cases x<;>simp only[Oper.upon] at h ⊢
   case panic u=>exact h.elim
 ·rename_i J
  simp only[J] at h
  exact⟨g a y _,by rw[←Act.put_comm a v undef D];exact h⟩
theorem qt8{j:Nat}{m t:Oper}(Y:ops[j]? = some t)(M:m.apart ops t=true)(N:∀cs b,m.op ≠ .select cs b)(O:∀cs b,t.op ≠ .select cs b)
  {K:Act→World→Prop} {a:Act} {w:World} (h:wpOp P ops noQ j (fun V w'=>C w'∧∃v,qcm P ops C m v V∧K (V.put m.dst v) w') a w) :
  ∃v,qcm P ops C m v a∧wpOp P ops noQ j K (a.put m.dst v) w:=by
 obtain⟨J,F,W⟩:=Oper.apart_spec M
 have g:∀(a:Act) u v,qcm P ops C m v (a.put t.dst u)→qcm P ops C m v a:=fun a u v y =>
  y.of_same (execOp_put m N a t.dst u W).symm (wanted_put m a t.dst u W).symm
 unfold wpOp at *
 simp only[Y] at *
 split at h
 ·rename_i R
  rcases h with h | h
  case inr=>exact absurd h.2 qij
  unfold Oper.wp at *
  have key:∀v,qcm P ops C m v a→Oper.upon P t (a.put m.dst v) K noQ ((execOp a.eval t).run P w)→∃v,qcm P ops C m v a∧(if Region.wanted t (yielded ops (a.put m.dst v).tmps)=true then (Oper.upon P t (a.put m.dst v) K noQ ((execOp (a.put m.dst v).eval t).run P w)∨t.asks P (a.put m.dst v) w∧LetsOut noQ) else K ((a.put m.dst v).put t.dst undef) w):=by
   intro v y z
   refine⟨v,y,?_⟩
   rw[wanted_put t a m.dst v J,if_pos R,execOp_put t O a m.dst v J]
   exact .inl z
  generalize (execOp a.eval t).run P w=r at h key
  cases r with
  | ok n w' =>
   cases n<;>simp only[Oper.upon] at h key
   case value u =>
    obtain⟨-,v,y,z⟩:=h
    exact key v (g _ _ _ y) (by rw[Act.put_comm a v u F];exact z)
   case skip =>
    obtain⟨-,v,y,z⟩:=h
    exact key v (g _ _ _ y) (by rw[Act.put_comm a v undef F];exact z)
   case defer d =>
    obtain⟨-,v,y,z⟩:=h
    refine key v ((g _ _ _ y).of_same rfl rfl) ?_
    have e:=Act.put_comm ({a with defers:=d::a.defers} : Act) v undef F
    have X:=Act.put_defers a m.dst v d
    rw[X,e]
    exact z
   case enter f args =>
    obtain⟨e,w2,fr,L,-⟩:=h []
    cases e with
    | panicked c=>exact L.elim
    | outgrown=>exact absurd L qij
    | returned u =>
     obtain⟨-,v,y,-⟩:=L
     have D:=g _ _ _ y
     refine key v D (Calls.mono h fun e U I=> ?_)
     cases e with
     | panicked c=>exact I
     | outgrown=>exact I
     | returned T =>
      obtain⟨H,Z,E,z⟩:=I
      have:=qjy (D _ H) (g _ _ _ E _ H)
      subst this
      show K _ _
      rw[Act.put_comm a v T F]
      exact z
   case row row args =>
    obtain⟨u,w2,⟨-,v,y,-⟩,-⟩:=h (Frame.ofRow P row args .normal) []
    have D:=g _ _ _ y
    refine key v D (Rows.mono h fun T U I=> ?_)
    obtain⟨H,Z,E,z⟩:=I
    have:=qjy (D _ H) (g _ _ _ E _ H)
    subst this
    show K _ _
    rw[Act.put_comm a v T F]
    exact z
  | halt x w' =>
   cases x<;>simp only[Oper.upon] at h
   exact h.elim
 ·rename_i R
  obtain⟨-,v,y,z⟩:=h
  refine⟨v,g _ _ _ y,?_⟩
  rw[wanted_put t a m.dst v J,if_neg R,Act.put_comm a v undef F]
  exact z
def qpf(ops:Array Oper)(cl:List Nat)(i j:Nat):Bool :=
 match ops[i]?,ops[j]? with
 | some x,some y=>x.apart ops y&&(qaz ops cl i==0 || qaz ops cl j==0 || qaz ops cl i==3 || qaz ops cl j==3 || (qaz ops cl i==1&&qaz ops cl j==1))
 | _,_=>true
theorem qpv{x y:Oper}(h:x.apart ops y=true):y.apart ops x=true:=by
 unfold Oper.apart at *
 cases g:x.dst with
 | none=>rw[g] at h;cases f:y.dst with
  | none=>rfl
  | some e=>rw[f] at h;simpa using h
 | some d=>rw[g] at h;cases f:y.dst with
  | none=>rw[f] at h;simpa using h
  | some e =>
   rw[f] at h
   simp only[Bool.and_eq_true,Bool.not_eq_true',bne_iff_ne,ne_eq,Option.some.injEq] at h ⊢
   exact⟨⟨h.2,fun m=>h.1.2 m.symm⟩,h.1.1⟩
theorem zdp{i j:Nat}{g L:Oper}(J:ops[i]? = some g)(I:ops[j]? = some L)(U:qpf ops cl i j=true)(z:∀cs b,g.op ≠ .select cs b)(D:∀cs b,L.op ≠ .select cs b)(Y:qaz ops cl i=3→kp j=true)
  {K:Act→World→Prop} {a:Act} {w:World} (h:wpI P ops C cl kp j (fun a w=>wpI P ops C cl kp i K a w) a w):wpI P ops C cl kp i (fun a w=>wpI P ops C cl kp j K a w) a w:=by
 unfold qpf at U
 rw[J,I] at U
 simp only[Bool.and_eq_true,Bool.or_eq_true,beq_iff_eq] at U
 obtain⟨y,hc⟩:=U
 obtain⟨h1,h2,h3⟩:=Oper.apart_spec y
 rw[qcb I] at h
 rw[qcb J]
 by_cases x:qfl (qaz ops cl j)=true
 ·rw[if_pos x] at h
  obtain⟨M,N,h⟩:=h
  rw[qcb J] at h
  by_cases t:qfl (qaz ops cl i)=true
  ·rw[if_pos t] at h ⊢
   obtain⟨W,yi,h⟩:=h
   refine⟨W,yi.of_same (execOp_put g z a L.dst M h3).symm (wanted_put g a L.dst M h3).symm,?_⟩
   rw[qcb I,if_pos x]
   refine⟨M,N.of_same (execOp_put L D a g.dst W h1) (wanted_put L a g.dst W h1),?_⟩
   rw[Act.put_comm a W M h2]
   exact h
  ·rw[if_neg t] at h ⊢
   have a4:qaz ops cl i≠0∧qaz ops cl i≠1∧qaz ops cl i≠3:=by
    unfold qfl at t
    simp only[Bool.or_eq_true,beq_iff_eq,not_or] at t
    exact⟨t.1.1,t.1.2,t.2⟩
   have f:qaz ops cl j=0∨qaz ops cl j=3:=by omega
   unfold qcl at N
   rcases f with f | f
   ·rw[if_pos f] at N
    refine wpOp_mono ?_ (qt9 J (qpv y) D z N h)
    rintro F w' ⟨Z,H,m⟩
    refine⟨H,?_⟩
    rw[qcb I,if_pos x]
    refine⟨M,?_,m⟩
    unfold qcl
    rw[if_pos f]
    exact Z
   ·rw[if_neg (by omega),if_pos f] at N
    refine wpOp_mono ?_ (qt9 J (qpv y) D z N h)
    rintro F w' ⟨Z,H,m⟩
    refine⟨H,?_⟩
    rw[qcb I,if_pos x]
    refine⟨M,?_,m⟩
    unfold qcl
    rw[if_neg (by omega),if_pos f]
    exact Z
 ·rw[if_neg x] at h
  have a5:qaz ops cl j≠0∧qaz ops cl j≠1∧qaz ops cl j≠3:=by
   unfold qfl at x
   simp only[Bool.or_eq_true,beq_iff_eq,not_or] at x
   exact⟨x.1.1,x.1.2,x.2⟩
  have O:qaz ops cl i=0∨qaz ops cl i=3:=by omega
  have t:qfl (qaz ops cl i)=true:=by
   unfold qfl
   rcases O with e | e<;>rw[e]<;>rfl
  rw[if_pos t]
  have R:∀v,(∃V,V=v∧qcl P ops C (qaz ops cl i) w g V a)→wpOp P ops noQ j (fun a w=>(kp j=true→C w)∧K a w) (a.put g.dst v) w→∃v,qcl P ops C (qaz ops cl i) w g v a∧wpI P ops C cl kp j K (a.put g.dst v) w:=by
   rintro v ⟨V,rfl,E⟩ m
   refine⟨V,E,?_⟩
   rw[qcb I,if_neg x]
   exact m
  rcases O with f | f
  ·have X:wpOp P ops noQ j (fun F w'=>(fun _=>True) w'∧∃v,qcm P ops (fun _=>True) g v F∧(fun a w=>(kp j=true→C w)∧K a w) (F.put g.dst v) w') a w:=by
    refine wpOp_mono ?_ h
    rintro F w' ⟨H,T⟩
    rw[qcb J,if_pos t] at T
    obtain⟨v,E,m⟩:=T
    refine⟨trivial,v,?_,H,m⟩
    simpa only[qcl,if_pos f] using E
   obtain⟨v,E,m⟩:=qt8 (C:=fun _=>True) (K:=fun a w=>(kp j=true→C w)∧K a w) I y z D X
   refine R v ⟨v,rfl,?_⟩ m
   unfold qcl
   rw[if_pos f]
   exact E
  ·have X:wpOp P ops noQ j (fun F w'=>C w'∧∃v,qcm P ops C g v F∧(fun a w=>(kp j=true→C w)∧K a w) (F.put g.dst v) w') a w:=by
    refine wpOp_mono ?_ h
    rintro F w' ⟨H,T⟩
    rw[qcb J,if_pos t] at T
    obtain⟨v,E,m⟩:=T
    refine⟨H (Y f),v,?_,H,m⟩
    unfold qcl at E
    rw[if_neg (by omega),if_pos f] at E
    exact E
   obtain⟨v,E,m⟩:=qt8 (C:=C) (K:=fun a w=>(kp j=true→C w)∧K a w) I y z D X
   refine R v ⟨v,rfl,?_⟩ m
   unfold qcl
   rw[if_neg (by omega),if_pos f]
   exact E
end
inductive Plan where
 | done
 | step (i:Nat) (p:Plan)
 | fork (p q:Plan)
def Plan.first(eff:Nat→Bool):Plan→List Nat
 | .done=>[]
 | .step i p=>if eff i then [i] else p.first eff
 | .fork p q=>p.first eff++q.first eff
def Plan.of:List Nat→Plan
 | []=> .done
 | i::r=> .step i (Plan.of r)
def qk2(A:List (List Nat))(eff:Nat→Bool)(p:Plan)(rem:List Nat):Prop:=∀j∈rem,eff j=true→j∈p.first eff∨∃k∈rem,eff k=true∧k∈A.getD j []
def Cov(A:List (List Nat))(eff:Nat→Bool):Plan→List Nat→Prop
 | .done,rem=>rem=[]
 | .step i p,rem=>i∈rem∧(∀k∈rem,k∉A.getD i [])∧Cov A eff p (rem.erase i)∧(eff i=true→qk2 A eff p (rem.erase i))
 | .fork p q,rem=>Cov A eff p rem∧Cov A eff q rem
def qz4(A:List (List Nat))(eff:Nat→Bool)(p:Plan)(rem:List Nat):Bool:=rem.all fun j=> !eff j || (p.first eff).contains j || rem.any fun k=>eff k&&(A.getD j []).contains k
def qwp(A:List (List Nat))(eff:Nat→Bool):Plan→List Nat→Bool
 | .done,rem=>rem.isEmpty
 | .step i p,rem=>rem.contains i&&(rem.all fun k=> !(A.getD i []).contains k)&&qwp A eff p (rem.erase i)&&(!eff i || qz4 A eff p (rem.erase i))
 | .fork p q,rem=>qwp A eff p rem&&qwp A eff q rem
theorem qss{A:List (List Nat)}{eff:Nat→Bool}{p:Plan}{rem:List Nat}(h:qz4 A eff p rem=true):qk2 A eff p rem:=by
 intro j m g
 have:=List.all_eq_true.1 h j m
 rw[g] at this
 simp only[Bool.not_true,Bool.false_or,Bool.or_eq_true] at this
 rcases this with h | h
 ·exact .inl (List.contains_iff_mem.1 h)
 ·obtain⟨k,t,f⟩:=List.any_eq_true.1 h
  rw[Bool.and_eq_true] at f
  exact .inr ⟨k,t,f.1,List.contains_iff_mem.1 f.2⟩
theorem qpc{A:List (List Nat)}{eff:Nat→Bool} : ∀ {p:Plan} {rem:List Nat},qwp A eff p rem=true→Cov A eff p rem
 | .done,rem,h=>by simpa [qwp,Cov] using h
 | .step i p,rem,h=>by
  unfold qwp at h
  simp only[Bool.and_eq_true] at h
  obtain⟨⟨⟨g,m⟩,t⟩,f⟩:=h
  refine⟨List.contains_iff_mem.1 g,fun k x=> ?_,qpc t,fun v=> ?_⟩
  ·have:=List.all_eq_true.1 m k x
   simpa using this
  ·rw[v] at f
   exact qss (by simpa using f)
 | .fork p q,rem,h=>by
  unfold qwp at h
  rw[Bool.and_eq_true] at h
  exact⟨qpc h.1,qpc h.2⟩
def wpP(P:Program)(ops:Array Oper)(Q:Exit→Act→World→Prop)(C:World→Prop)(cl:List Nat)(kp:Nat→Bool):Plan→Act→World→Prop
 | .done,a,w=>Q .normal a w
 | .step i p,a,w=>wpI P ops C cl kp i (wpP P ops Q C cl kp p) a w
 | .fork p q,a,w=>wpP P ops Q C cl kp p a w∧wpP P ops Q C cl kp q a w
def Plan.rm(i:Nat):Plan→Plan
 | .done=> .done
 | .step j p=>if i=j then p else .step j (p.rm i)
 | .fork p q=> .fork (p.rm i) (q.rm i)
def Plan.rmE(eff:Nat→Bool)(i:Nat):Plan→Plan
 | .done=> .done
 | .step j p=>if i=j then p else .step j (p.rmE eff i)
 | .fork p q=>if (p.first eff).contains i then p.rmE eff i else q.rmE eff i
section
variable {A:List (List Nat)}{eff:Nat→Bool}
theorem qmz{i:Nat}(f:eff i=false):∀p:Plan,(p.rm i).first eff=p.first eff
 | .done=>rfl
 | .step j p=>by
  unfold Plan.rm
  split
  ·rename_i e
   subst e
   rw[Plan.first,f]
   rfl
  ·rw[Plan.first,Plan.first,qmz f p]
 | .fork p q=>by rw[Plan.rm,Plan.first,Plan.first,qmz f p,qmz f q]
theorem qrf{i:Nat}(m:eff i=false){p:Plan}{rem:List Nat}(nd:rem.Nodup)(h:qk2 A eff p rem):qk2 A eff (p.rm i) (rem.erase i):=by
 intro j v t
 rw[qmz m]
 rcases h j (List.mem_of_mem_erase v) t with h | ⟨k,x,f,g⟩
 ·exact .inl h
 ·exact .inr ⟨k,(nd.mem_erase_iff).2 ⟨(fun e=>by rw[e,m] at f;cases f),x⟩,f,g⟩
theorem qvq{i:Nat}(g:eff i=false):∀ {p:Plan} {rem:List Nat},rem.Nodup→i∈rem→Cov A eff p rem→Cov A eff (p.rm i) (rem.erase i)
 | .done,rem,nd,f,h=>by rw[Cov] at h;rw[h] at f;cases f
 | .step j p,rem,nd,f,h=>by
  obtain⟨x,y,t,z⟩:=h
  unfold Plan.rm
  split
  ·rename_i e
   subst e
   exact t
  ·rename_i e
   have m:i∈rem.erase j:=(nd.mem_erase_iff).2 ⟨e,f⟩
   refine⟨(nd.mem_erase_iff).2 ⟨fun v=>e v.symm,x⟩,fun k E=>y k (List.mem_of_mem_erase E),?_,fun D=> ?_⟩
   ·rw[List.erase_comm]
    exact qvq g (nd.erase j) m t
   ·rw[List.erase_comm]
    exact qrf g (nd.erase j) (z D)
 | .fork p q,rem,nd,f,h=>⟨qvq g nd f h.1,qvq g nd f h.2⟩
theorem qpi{i:Nat}(v:eff i=true):∀ {p:Plan} {rem:List Nat},rem.Nodup→i∈rem→i∈p.first eff→Cov A eff p rem→Cov A eff (p.rmE eff i) (rem.erase i)∧qk2 A eff (p.rmE eff i) (rem.erase i)
 | .done,rem,nd,t,f,h=>by cases f
 | .step j p,rem,nd,t,f,h=>by
  obtain⟨L,M,J,N⟩:=h
  unfold Plan.rmE
  split
  ·rename_i e
   subst e
   exact⟨J,N v⟩
  ·rename_i e
   have m:eff j=false:=by
    cases m:eff j with
    | false=>rfl
    | true =>
     rw[Plan.first,m] at f
     simp at f
     exact absurd f e
   have z:i∈p.first eff:=by rw[Plan.first,m] at f;exact f
   have D:i∈rem.erase j:=(nd.mem_erase_iff).2 ⟨e,t⟩
   obtain⟨H,I⟩:=qpi v (nd.erase j) D z J
   rw[List.erase_comm] at H I
   refine⟨⟨(nd.mem_erase_iff).2 ⟨fun x=>e x.symm,L⟩,fun k E=>M k (List.mem_of_mem_erase E),H,fun g=>by rw[m] at g;cases g⟩,?_⟩
   intro k E g
   have F:k≠j:=fun x=>by rw[x,m] at g;cases g
   rw[Plan.first,m]
   rcases I k (((nd.erase i).mem_erase_iff).2 ⟨F,E⟩) g with h | ⟨O,h,K⟩
   ·exact .inl h
   ·exact .inr ⟨O,List.mem_of_mem_erase h,K⟩
 | .fork p q,rem,nd,t,f,h=>by
  unfold Plan.rmE
  split
  ·rename_i y
   exact qpi v nd t (List.contains_iff_mem.1 y) h.1
  ·rename_i y
   rw[Plan.first,List.mem_append] at f
   exact qpi v nd t (f.resolve_left fun h=>y (List.contains_iff_mem.2 h)) h.2
end
section
variable {C:World→Prop}{cl:List Nat}{A:List (List Nat)}{kp:Nat→Bool}
structure Turns(ops:Array Oper)(cl:List Nat)(A:List (List Nat))(kp:Nat→Bool):Prop where
 sel:Region.noSelect ops=true
 turn:∀i j,i<ops.size→j<ops.size→i≠j→j∉A.getD i []→i∉A.getD j []→(qaz ops cl i=2∧qaz ops cl j=2)∨qpf ops cl i j=true
 two:∀i,i<ops.size→qaz ops cl i≤3
 kept:∀i j,j∈cl→j∉A.getD i []→kp i=true
theorem qyl{c:Nat}(h:qfl c=true):c≠2:=by
 rintro rfl
 cases h
theorem qre{c:Nat}(h:c≤3)(f:c≠2):qfl c=true:=by
 have:c=0∨c=1∨c=3:=by omega
 rcases this with rfl | rfl | rfl<;>rfl
theorem q27(T:Turns ops cl A kp){i:Nat}{oi:Oper}(D:ops[i]? = some oi)(H:qfl (qaz ops cl i)=true):∀(p:Plan) (rem:List Nat) (a:Act) (w:World),(qaz ops cl i=3→C w)→rem.Nodup→(∀j∈rem,j<ops.size)→i∈rem→(∀k∈rem,k∉A.getD i [])→Cov A (fun i=>qaz ops cl i==2) p rem →
  wpP P ops Q C cl kp p a w→wpI P ops C cl kp i (wpP P ops Q C cl kp (p.rm i)) a w
 | .done,rem,a,w,t,nd,f,m,E,h,F=>by rw[Cov] at h;rw[h] at m;cases m
 | .step j p,rem,a,w,t,nd,f,m,E,h,F=>by
  obtain⟨O,R,W,h4⟩:=h
  unfold Plan.rm
  split
  ·rename_i e
   subst e
   exact F
  ·rename_i e
   have M:i∈rem.erase j:=(nd.mem_erase_iff).2 ⟨e,m⟩
   have g:=f j O
   have N:ops[j]? = some (ops[j]'g):=Array.getElem?_eq_getElem g
   have I:qaz ops cl i=3→kp j=true:=fun L=>T.kept j i (q2h L) (R i m)
   have X:wpI P ops C cl kp j (fun a w=>wpI P ops C cl kp i (wpP P ops Q C cl kp (p.rm i)) a w) a w:=by
    have x:wpI P ops C cl kp j (wpP P ops Q C cl kp p) a w:=F
    rw[qcb N] at x ⊢
    have U:=fun a w t=>q27 T D H p (rem.erase j) a w t (nd.erase j) (fun k z=>f k (List.mem_of_mem_erase z)) M (fun k z=>E k (List.mem_of_mem_erase z)) W
    split at x
    ·rw[if_pos ‹_›]
     obtain⟨v,y,k⟩:=x
     exact⟨v,y,U _ _ t k⟩
    ·rw[if_neg ‹_›]
     exact wpOp_mono (fun a w z=>⟨z.1,U _ _ (fun L=>z.1 (I L)) z.2⟩) x
   refine zdp D N ?_ (fun cs b=>Region.noSelect_spec T.sel i _ cs b D) (fun cs b=>Region.noSelect_spec T.sel j _ cs b N) I X
   rcases T.turn i j (f i m) g e (E j O) (R i m) with h | h
   ·exact absurd h.1 (qyl H)
   ·exact h
 | .fork p q,rem,a,w,t,nd,f,m,E,h,F=>by
  have J:=q27 T D H p rem a w t nd f m E h.1 F.1
  have K:=q27 T D H q rem a w t nd f m E h.2 F.2
  rw[qcb D,if_pos H] at J K ⊢
  obtain⟨v1,V,Y⟩:=J
  obtain⟨v2,y2,Z⟩:=K
  have:=qjy (V.w t) (y2.w t)
  subst this
  exact⟨v1,V,Y,Z⟩
theorem qvp(T:Turns ops cl A kp){i:Nat}{W:Oper}(H:ops[i]? = some W)(J:qaz ops cl i=2):∀(p:Plan) (rem:List Nat) (a:Act) (w:World),rem.Nodup→(∀j∈rem,j<ops.size)→i∈rem→(∀k∈rem,k∉A.getD i [])→i∈p.first (fun i=>qaz ops cl i==2)→Cov A (fun i=>qaz ops cl i==2) p rem →
  wpP P ops Q C cl kp p a w→wpI P ops C cl kp i (wpP P ops Q C cl kp (p.rmE (fun i=>qaz ops cl i==2) i)) a w
 | .done,rem,a,w,nd,f,z,D,t,h,E=>by cases t
 | .step j p,rem,a,w,nd,f,z,D,t,h,E=>by
  obtain⟨K,F,U,X⟩:=h
  unfold Plan.rmE
  split
  ·rename_i e
   subst e
   exact E
  ·rename_i e
   have g:qaz ops cl j≠2:=by
    intro h
    have F:(qaz ops cl j==2)=true:=by simpa using h
    rw[Plan.first,F] at t
    simp at t
    exact absurd t e
   have L:qfl (qaz ops cl j)=true:=qre (T.two j (f j K)) g
   have M:i∈p.first (fun i=>qaz ops cl i==2):=by
    have F:(qaz ops cl j==2)=false:=by simpa using g
    rw[Plan.first,F] at t
    exact t
   have N:i∈rem.erase j:=(nd.mem_erase_iff).2 ⟨e,z⟩
   have m:=f j K
   have O:ops[j]? = some (ops[j]'m):=Array.getElem?_eq_getElem m
   have V:wpI P ops C cl kp j (fun a w=>wpI P ops C cl kp i (wpP P ops Q C cl kp (p.rmE (fun i=>qaz ops cl i==2) i)) a w) a w:=by
    have I:wpI P ops C cl kp j (wpP P ops Q C cl kp p) a w:=E
    rw[qcb O,if_pos L] at I ⊢
    obtain⟨v,y,k⟩:=I
    exact⟨v,y,qvp T H J p (rem.erase j) _ _ (nd.erase j) (fun k R=>f k (List.mem_of_mem_erase R)) N (fun k R=>D k (List.mem_of_mem_erase R)) M U k⟩
   refine zdp H O ?_ (fun cs b=>Region.noSelect_spec T.sel i _ cs b H) (fun cs b=>Region.noSelect_spec T.sel j _ cs b O) (fun h=>by rw[J] at h;cases h) V
   rcases T.turn i j (f i z) m e (D j K) (F i z) with h | h
   ·exact absurd h.2 g
   ·exact h
 | .fork p q,rem,a,w,nd,f,z,D,t,h,E=>by
  unfold Plan.rmE
  split
  ·rename_i x
   exact qvp T H J p rem a w nd f z D (List.contains_iff_mem.1 x) h.1 E.1
  ·rename_i x
   rw[Plan.first,List.mem_append] at t
   exact qvp T H J q rem a w nd f z D (t.resolve_left fun h=>x (List.contains_iff_mem.2 h)) h.2 E.2
theorem qv2{eff:Nat→Bool} : ∀ {p:Plan} {a:Act} {w:World},Cov A eff p []→wpP P ops Q C cl kp p a w→Q .normal a w
 | .done,_,_,_,f=>f
 | .step i p,_,_,h,_=>by have:=h.1;cases this
 | .fork p q,_,_,h,f=>qv2 h.1 f.1
end
def qd7(l:List Oper)(cl:List Nat)(i:Nat):Bool:=cl.any fun j=> !((que l []).getD i []).contains j
def zce(l:List Oper)(cl:List Nat)(p:Plan):Bool :=
 let A:=que l []
 let ops:=l.toArray
 let eff:=fun i=>qaz ops cl i==2
 Region.noSelect ops&&((List.range l.length).all fun i=>match l[i]? with
  | none=>true
  | some o =>
   (o.after.toList.all fun e=> !Region.binds .any e || decide (e.on<i)) &&
   ((A.getD i []).all fun k=>o.after.toList.any fun e=>Region.binds .any e&&(k==e.on || (A.getD e.on []).contains k)) &&
   ((List.range l.length).all fun j=>i==j || (A.getD i []).contains j || (A.getD j []).contains i || (eff i&&eff j) || qpf ops cl i j)&&decide (qaz ops cl i≤3)) &&
 qwp A eff p (List.range l.length)&&qz4 A eff p (List.range l.length)
end
section
variable {P:Program}{l:List Oper}{Q:Exit→Act→World→Prop}{C:World→Prop}{cl:List Nat}
theorem zcf{A:List (List Nat)}{kp:Nat→Bool}(T:Turns l.toArray cl A kp)(key:∀(i:Nat) o,l[i]? = some o→(∀e∈o.after,Region.binds .any e=true→e.on<i)∧(∀k∈A.getD i [],∃e∈o.after,Region.binds .any e=true∧(k=e.on∨k∈A.getD e.on []))) :
  ∀(t:Nat) (f:Array Bool) (p:Plan) (a:Act) (w:World),(∀j∈cl,j∈(List.range l.length).filter (fun i=> !f.getD i false)→C w)→f.size=l.length→(∀i,f.getD i false=true→∀k∈A.getD i [],f.getD k false=true) →
  ((List.range l.length).filter fun i=> !f.getD i false).length≤t→Cov A (fun i=>qaz l.toArray cl i==2) p ((List.range l.length).filter fun i=> !f.getD i false)→qk2 A (fun i=>qaz l.toArray cl i==2) p ((List.range l.length).filter fun i=> !f.getD i false) →
  wpP P l.toArray Q C cl kp p a w→wpAny P .any l.toArray Q t f a w:=by
 have R:∀(f:Array Bool),f.size=l.length→Region.ready .any l.toArray f=[]→(List.range l.length).filter (fun i=> !f.getD i false)=[]:=by
  intro f E hr
  rw[List.filter_eq_nil_iff]
  intro i L
  have L:=List.mem_range.1 L
  induction i using Nat.strongRecOn with
  | _ i ih =>
   cases hl:f.getD i false with
   | true=>simp
   | false =>
    exfalso
    have:i∈Region.ready .any l.toArray f:=by
     rw[mem_ready]
     have N:l[i]? = some l[i]:=List.getElem?_eq_getElem L
     refine⟨?_,l[i],by simp[L],fun e he hb=> ?_⟩
     ·rw[Array.getD_eq_getD_getElem?] at hl ⊢
      have:i<f.size:=by omega
      rw[Array.getElem?_eq_getElem this] at hl ⊢
      simpa using hl
     ·have h1:=(key i _ N).1 e he hb
      have:=ih e.on h1 (List.mem_range.2 (by omega)) (by omega)
      simpa using this
    rw[hr] at this
    cases this
 intro t
 induction t with
 | zero =>
  intro f p a w hC E shut a7 g hf h
  have h0:(List.range l.length).filter (fun i=> !f.getD i false)=[]:=List.length_eq_zero_iff.1 (by omega)
  rw[h0] at g
  refine⟨?_,qv2 g h⟩
  rw[List.eq_nil_iff_forall_not_mem]
  intro i L
  obtain⟨J,o,N,-⟩:=mem_ready.1 L
  have F:i<l.length:=by simpa using (Array.getElem?_eq_some_iff.1 N).1
  rw[List.filter_eq_nil_iff] at h0
  have:=h0 i (List.mem_range.2 F)
  rw[Array.getD_eq_getD_getElem?] at J this
  have hs:i<f.size:=by omega
  rw[Array.getElem?_eq_getElem hs] at J this
  simp at J this
  rw[J] at this
  cases this
 | succ t ih =>
  intro f p a w hC E shut a7 g hf h
  refine⟨fun hr=> ?_,fun i L=> ?_⟩
  ·rw[R f E hr] at g
   exact qv2 g h
  obtain⟨J,o,N,Y⟩:=mem_ready.1 L
  have F:i<l.length:=by simpa using (Array.getElem?_eq_some_iff.1 N).1
  have hs:i<f.size:=by omega
  have a8:l[i]? = some o:=by simpa using N
  have a9:f.getD i false=false:=by
   rw[Array.getD_eq_getD_getElem?] at J ⊢
   rw[Array.getElem?_eq_getElem hs] at J ⊢
   simpa using J
  obtain⟨e1,e2⟩:=key i o a8
  have K:∀k∈A.getD i [],f.getD k false=true:=by
   intro k y
   obtain⟨e,he,hb,h⟩:=e2 k y
   have h1:=Y e he hb
   rcases h with rfl | h
   ·exact h1
   ·exact shut _ h1 k h
  have nd:((List.range l.length).filter (fun i=> !f.getD i false)).Nodup:=List.Pairwise.filter _ List.nodup_range
  have x:((List.range l.length).filter (fun i=> !f.getD i false)).erase i=(List.range l.length).filter (fun j=> !(f.setIfInBounds i true).getD j false):=by
   rw[List.Nodup.erase_eq_filter nd,List.filter_filter]
   refine List.filter_congr fun j H=> ?_
   by_cases e:i=j
   ·subst e
    have:(f.setIfInBounds i true).getD i false=true:=by simp[hs]
    rw[this]
    simp
   ·have:(f.setIfInBounds i true).getD j false=f.getD j false:=getD_set_ne false e
    rw[this]
    have:(j != i)=true:=by simpa using fun h=>e h.symm
    rw[this,Bool.and_comm,Bool.and_true]
  have m:i∈(List.range l.length).filter (fun i=> !f.getD i false):=List.mem_filter.2 ⟨List.mem_range.2 F,by rw[a9];rfl⟩
  have a4:∀j∈(List.range l.length).filter (fun i=> !f.getD i false),j<l.toArray.size:=fun j H=>by simpa using List.mem_range.1 (List.mem_filter.1 H).1
  have I:∀k∈(List.range l.length).filter (fun i=> !f.getD i false),k∉A.getD i []:=fun k y O=>by
   have:=(List.mem_filter.1 y).2
   rw[K k O] at this
   cases this
  have M:((List.range l.length).filter fun j=> !(f.setIfInBounds i true).getD j false).length≤t:=by
   rw[←x,List.length_erase_of_mem m]
   omega
  have D:∀j,(f.setIfInBounds i true).getD j false=true→∀k∈A.getD j [],(f.setIfInBounds i true).getD k false=true:=by
   intro j H k y
   by_cases e:i=j
   ·subst e
    exact getD_set_true (K k y)
   ·rw[getD_set_ne false e] at H
    exact getD_set_true (shut j H k y)
  generalize (List.range l.length).filter (fun i=> !f.getD i false)=rem at *
  by_cases U:qaz l.toArray cl i=2
  ·have v:(fun i=>qaz l.toArray cl i==2) i=true:=by simpa using U
   have Z:i∈p.first (fun i=>qaz l.toArray cl i==2):=by
    rcases hf i m v with h | ⟨k,y,-,O⟩
    ·exact h
    ·exact absurd O (I k y)
   obtain⟨V,W⟩:=qpi (eff:=fun i=>qaz l.toArray cl i==2) (i:=i) v nd m Z g
   have hp:=qvp T N U p rem a w nd a4 m I Z g h
   rw[x] at V W
   refine wpOp_mono (fun a' w' y=>ih (f.setIfInBounds i true) _ a' w' (fun j H z=> ?_) (by rw[Array.size_setIfInBounds];exact E) D M V W y.2.2) (zal (fun h=>by rw[U] at h;cases h) hp)
   refine y.2.1 (by rw[U];rfl) (T.kept i j H fun a6=> ?_)
   rw[←x] at z
   exact I j (List.mem_of_mem_erase z) a6
  ·have v:(fun i=>qaz l.toArray cl i==2) i=false:=by simpa using U
   have a5:qfl (qaz l.toArray cl i)=true:=qre (T.two i (by simpa using F)) U
   have V:=qvq (eff:=fun i=>qaz l.toArray cl i==2) (i:=i) v nd m g
   have W:=qrf (eff:=fun i=>qaz l.toArray cl i==2) (i:=i) v nd hf
   have X:qaz l.toArray cl i=3→C w:=fun h3=>hC i (q2h h3) m
   have hp:=q27 T N a5 p rem a w X nd a4 m I g h
   rw[x] at V W
   refine wpOp_mono (fun a' w' y=>ih (f.setIfInBounds i true) _ a' w' (fun j H z=> ?_) (by rw[Array.size_setIfInBounds];exact E) D M V W y.2.2) (zal X hp)
   rw[y.1 a5]
   rw[←x] at z
   exact hC j H (List.mem_of_mem_erase z)
theorem qb5{id:Nat}{a:Act}{w:World}(C:World→Prop)(cl:List Nat)(p:Plan)(N:P.follows .mixedOrders=true)(t:zce l cl p=true)(L:C w.drew)(h:wpP P l.toArray Q C cl (qd7 l cl) p a w.drew):(Code.region id l.toArray true).wp P Q a w:=by
 refine wp_region_any N ?_
 have E:(List.range l.length).filter (fun i=> !(Array.replicate l.length false).getD i false)=List.range l.length:=by
  rw[List.filter_eq_self.2 (fun i _=>by rw[qbu];rfl)]
 unfold zce at t
 simp only[Bool.and_eq_true] at t
 obtain⟨⟨⟨x,t⟩,g⟩,m⟩:=t
 obtain⟨A,I⟩:∃A,A=que l []:=⟨_,rfl⟩
 have H:∀i j,j∈cl→j∉A.getD i []→qd7 l cl i=true:=by
  intro i j v O
  unfold qd7
  rw[←I]
  exact List.any_eq_true.2 ⟨j,v,by simpa using O⟩
 rw[←I] at t g m
 have key:∀(i:Nat) o,l[i]? = some o→_:=fun i o z=>by
  have f:i<l.length:=(List.getElem?_eq_some_iff.1 z).1
  have:=List.all_eq_true.1 t i (List.mem_range.2 f)
  rw[z] at this
  simp only[Bool.and_eq_true] at this
  exact this
 have T:Turns l.toArray cl A (qd7 l cl):=by
  refine⟨x,fun i j f v F J K=> ?_,fun i f=> ?_,H⟩
  ·have f:i<l.length:=by simpa using f
   have v:j<l.length:=by simpa using v
   obtain⟨⟨-,V⟩,-⟩:=key i _ (List.getElem?_eq_getElem f)
   have:=List.all_eq_true.1 V j (List.mem_range.2 v)
   simp only[Bool.or_eq_true,beq_iff_eq,List.contains_iff_mem,Bool.and_eq_true] at this
   rcases this with (((h | h) | h) | h) | h
   ·exact absurd h F
   ·exact absurd h J
   ·exact absurd h K
   ·exact .inl h
   ·exact .inr h
  ·have f:i<l.length:=by simpa using f
   obtain⟨-,W⟩:=key i _ (List.getElem?_eq_getElem f)
   simpa using W
 refine zcf (cl:=cl) (A:=A) T (fun i o z=> ?_) _ _ p a _ (fun _ _ _=>L) (by simp) (fun i f=>by rw[List.size_toArray,qbu] at f;cases f) ?_ ?_ ?_ h
 ·obtain⟨⟨⟨R,U⟩,-⟩,-⟩:=key i o z
  refine⟨fun e D y=> ?_,fun k M=> ?_⟩
  ·have:=List.all_eq_true.1 R e (by simpa using D)
   simpa [y] using this
  ·have:=List.all_eq_true.1 U k M
   obtain⟨e,D,y⟩:=List.any_eq_true.1 this
   simp only[Bool.and_eq_true,Bool.or_eq_true,beq_iff_eq,List.contains_iff_mem] at y
   exact⟨e,by simpa using D,y⟩
 ·rw[List.size_toArray,E]
  simp
 ·rw[List.size_toArray,E]
  exact qpc g
 ·rw[List.size_toArray,E]
  exact qss m
def qd6(P:Program)(ops:Array Oper)(Q:Exit→Act→World→Prop):List Oper→Act→World→Prop
 | [],a,w=>Q .normal a w
 | o::r,a,w=>if qcf o≤1 then ∃v,qcl P ops (fun _=>True) (qcf o) w o v a∧qd6 P ops Q r (a.put o.dst v) w
   else if Region.wanted o (yielded ops a.tmps) then o.wp P a w (qd6 P ops Q r) noQ else qd6 P ops Q r (a.put o.dst undef) w
theorem zcj:∀(r:List Oper) (k:Nat),(∀j,r[j]? = l[k+j]?)→∀a w,qd6 P l.toArray Q r a w→wpP P l.toArray Q (fun _=>True) [] (qd7 l []) (Plan.of (List.range' k r.length)) a w:=by
 intro r
 induction r with
 | nil=>intro k _ a w h;exact h
 | cons o r D =>
  intro k h a w f
  have t:l.toArray[k]? = some o:=by simpa using (h 0).symm
  have g:=D (k+1) (fun j=>by have:=h (j+1);simpa [Nat.add_assoc,Nat.add_comm 1 j] using this)
  have x:qaz l.toArray [] k=qcf o:=by
   unfold qaz
   rw[t]
   simp
  rw[List.length_cons,List.range'_succ,Plan.of,wpP,qcb t,x]
  rw[qd6] at f
  have m:qfl (qcf o)=true↔qcf o≤1:=by
   have E:qcf o≤2:=by
    unfold qcf
    split<;>(try split)<;>decide
   constructor
   ·intro h
    have:=qyl h
    omega
   ·intro h
    exact qre (by omega) (by omega)
  split
  ·rw[if_pos (m.1 ‹_›)] at f
   obtain⟨v,y,k⟩:=f
   exact⟨v,y,g _ _ k⟩
  ·rw[if_neg (fun h=>absurd (m.2 h) ‹_›)] at f
   unfold wpOp
   rw[t]
   simp only[qij,and_false,or_false]
   split
   ·rw[if_pos ‹_›] at f
    exact Oper.wp_mono (fun a w z=>⟨fun _=>trivial,g _ _ z⟩) f
   ·rw[if_neg ‹_›] at f
    exact⟨fun _=>trivial,g _ _ f⟩
theorem zfb{id:Nat}{a:Act}{w:World}(g:P.follows .mixedOrders=true)(f:zce l [] (Plan.of (List.range' 0 l.length))=true)(h:qd6 P l.toArray Q l a w.drew):(Code.region id l.toArray true).wp P Q a w :=
 qb5 (fun _=>True) [] _ g f trivial (zcj l 0 (by simp) a _ h)
section
variable {ops:Array Oper}{o:Oper}{r:List Oper}{a:Act}{w:World}
theorem tn(h:Q .normal a w):qd6 P ops Q [] a w:=h
theorem qpy{s:Sem Value}{n:Next}{w w':World}(h:(do pure (Next.value (←s)):Sem Next).run P w = .ok n w'):∃v,n = .value v:=by
 rw[Sem.run_bind] at h
 generalize s.run P w=x at h
 cases x with
 | ok v w1 =>
  simp only[Result.andThen_ok] at h
  injection h with h1 h2
  exact⟨v,h1.symm⟩
 | halt x w1=>simp only[Result.andThen_halt] at h;cases h
theorem q3w{ρ:Operand→Value}(t:qcf o≤1){n:Next}{w':World}(h:(execOp ρ o).run P w = .ok n w'):∃v,n = .value v:=by
 obtain⟨D,E,z,pos,y,guard⟩:=o
 cases E<;>simp only[qcf] at t<;>simp only[execOp] at h
 case move x=>injection h with h1 h2;exact⟨_,h1.symm⟩
 case assign x=>injection h with h1 h2;exact⟨_,h1.symm⟩
 case pick c a b =>
  rw[Sem.run_bind] at h
  generalize (asBool (ρ c)).run P w=x at h
  cases x with
  | ok v w1=>injection h with h1 h2;exact⟨_,h1.symm⟩
  | halt x w1=>cases h
 case nilCheck x =>
  split at h
  ·cases h
  ·cases h
  ·cases h
  ·split at h
   ·cases h
   ·rw[Sem.run_bind] at h
    generalize Sem.run P (program) w=x at h
    cases x with
    | halt x w1=>cases h
    | ok p w1 =>
     simp only[Result.andThen_ok] at h
     rw[Sem.run_bind] at h
     generalize Sem.run P (nilAhead _ _ _ _) w1=x at h
     cases x with
     | halt x w1=>cases h
     | ok p w1 =>
      simp only[Result.andThen_ok] at h
      split at h
      ·rw[Sem.run_bind] at h
       cases h
      ·injection h with h1 h2
       exact⟨_,h1.symm⟩
   ·injection h with h1 h2;exact⟨_,h1.symm⟩
  ·injection h with h1 h2;exact⟨_,h1.symm⟩
 case call c =>
  cases g:c.callee with
  | value f=>rw[g] at t;simp at t
  | invoke r m=>rw[g] at t;simp at t
  | builtin b =>
   rw[g] at t
   unfold resolve at h
   rw[g] at h
   cases b<;>first | (simp at t;done) | exact qpy h
 all_goals first | exact qpy h | (simp at t;done)
theorem qry(z:qcf o≤1){A:Act}(h:∀t,(∀f,f=A→t .normal f w)→wpList P ops t [o] a w):∃v,qeh P ops w o v a∧a.put o.dst v=A:=by
 have h:=h (fun e f w'=>e = .normal∧f=A∧w'=w) (fun _ e=>⟨rfl,e,rfl⟩)
 unfold wpList at h
 split at h
 ·rename_i m
  rcases h with h | h
  case inr=>obtain⟨_,_,h,-⟩:=h.2;cases h
  unfold Oper.wp at h
  cases g:(execOp a.eval o).run P w with
  | halt x w' =>
   rw[g] at h
   cases x<;>simp only[Oper.upon] at h
   obtain⟨h,-⟩:=h
   cases h
  | ok n w' =>
   obtain⟨v,rfl⟩:=q3w z g
   rw[g] at h
   obtain⟨-,y,rfl⟩:=h
   exact⟨v,.inl ⟨m,g⟩,y⟩
 ·rename_i m
  exact⟨undef,.inr ⟨by simpa using m,rfl⟩,h.2.1⟩
theorem tr{A:Act}(m:(qcf o==1)=true)(h:∀f,(∀g,g=A→f .normal g w)→wpList P ops f [o] a w)(k:qd6 P ops Q r A w):qd6 P ops Q (o::r) a w:=by
 have y:qcf o=1:=by simpa using m
 rw[qd6,if_pos (by omega)]
 obtain⟨v,x,t⟩:=qry (by omega) h
 refine⟨v,?_,by rw[t];exact k⟩
 unfold qcl
 rw[if_neg (by omega),if_neg (by omega)]
 exact x
def qof(o:Oper)(a:Act):Bool:=match o.dst with | some d=>decide (d<a.tmps.size) | none=>false
theorem qke{C:World→Prop}(K:qcf o≤1){A:Act}(g:qof o a=true)(t:C w)(h:∀w,C w→∀D,(∀E,E=A→D .normal E w)→wpList P ops D [o] a w):∃v,qcm P ops C o v a∧a.put o.dst v=A:=by
 have H:∀w,C w→∃v,qeh P ops w o v a∧a.put o.dst v=A:=fun w t=>qry K (h w t)
 have m:∀v u,a.put o.dst v=a.put o.dst u→v=u:=by
  intro v u e
  unfold qof at g
  cases f:o.dst with
  | none=>rw[f] at g;cases g
  | some d =>
   rw[f] at g e
   have z:d<a.tmps.size:=by simpa using g
   have I:=congrArg (fun x:Act=>x.tmps[d]?) e
   simpa [Act.put,z] using I
 obtain⟨v,M,F⟩:=H w t
 refine⟨v,fun w' y=> ?_,F⟩
 obtain⟨u,L,J⟩:=H w' y
 have:v=u:=m v u (F.trans J.symm)
 rw[this]
 exact L
theorem tp{A:Act}(x:(qcf o==0)=true)(y:qof o a=true)(h:∀w f,(∀g,g=A→f .normal g w)→wpList P ops f [o] a w)(k:qd6 P ops Q r A w):qd6 P ops Q (o::r) a w:=by
 have m:qcf o=0:=by simpa using x
 rw[qd6,if_pos (by omega)]
 obtain⟨v,z,t⟩:=qke (C:=fun _=>True) (w:=w) (by omega) y trivial (fun w _=>h w)
 refine⟨v,?_,by rw[t];exact k⟩
 unfold qcl
 rw[if_pos m]
 exact z
theorem te(y:(qcf o==2)=true)(h:∀t,(∀g w',qd6 P ops Q r g w'→t .normal g w')→wpList P ops t [o] a w):qd6 P ops Q (o::r) a w:=by
 have z:qcf o=2:=by simpa using y
 rw[qd6,if_neg (by omega)]
 have:=h (fun e g w'=>match e with | .normal=>qd6 P ops Q r g w' | _=>False) (fun _ _ h=>h)
 unfold wpList at this
 split
 case isFalse m=>rw[if_neg m] at this;exact this
 rename_i m
 rw[if_pos m] at this
 rcases this with f | f
 case inr =>
  obtain⟨_,_,v⟩:=f.2
  exact v.elim
 unfold Oper.wp at *
 generalize (execOp a.eval o).run P w=x at *
 cases x with
 | ok n w' =>
  cases n<;>simp only[Oper.upon] at f ⊢<;>exact f
 | halt x w' =>
  cases x<;>simp only[Oper.upon] at f ⊢
section
variable {C:World→Prop}{cl:List Nat}{p q:Plan}{i:Nat}
def qly:List Oper→Nat→Option Oper
 | [],_=>none
 | o::_,0=>some o
 | _::r,n+1=>qly r n
theorem q23:∀(l:List Oper) (i:Nat),qly l i=l[i]?
 | [],_=>rfl
 | _::_,0=>rfl
 | _::r,n+1=>by rw[qly,q23 r n,List.getElem?_cons_succ]
theorem qla{i:Nat}{o:Oper}(h:qly l i=some o):l.toArray[i]? = some o:=by rw[List.getElem?_toArray,←q23];exact h
theorem qn(h:Q .normal a w):wpP P l.toArray Q C cl (qd7 l cl) .done a w:=h
theorem qf(f:wpP P l.toArray Q C cl (qd7 l cl) p a w)(g:wpP P l.toArray Q C cl (qd7 l cl) q a w):wpP P l.toArray Q C cl (qd7 l cl) (.fork p q) a w:=⟨f,g⟩
theorem qp{A:Act}(f:qly l i=some o)(z:(qaz l.toArray cl i==0)=true)(D:qof o a=true)(h:∀w m,(∀t,t=A→m .normal t w)→wpList P l.toArray m [o] a w)(k:wpP P l.toArray Q C cl (qd7 l cl) p A w):wpP P l.toArray Q C cl (qd7 l cl) (.step i p) a w:=by
 replace f:=qla f
 have g:qaz l.toArray cl i=0:=by simpa using z
 have x:qcf o≤1:=qun (cl:=cl) f (by rw[g];rfl)
 rw[wpP,qcb f,if_pos (by rw[g];rfl)]
 obtain⟨v,E,y⟩:=qke (C:=fun _=>True) (w:=w) x D trivial (fun w _=>h w)
 refine⟨v,?_,by rw[y];exact k⟩
 unfold qcl
 rw[if_pos g]
 exact E
theorem qc{A:Act}(f:qly l i=some o)(D:(qaz l.toArray cl i==3)=true)(E:qof o a=true)(z:C w)(h:∀w,C w→∀m,(∀t,t=A→m .normal t w)→wpList P l.toArray m [o] a w)(k:wpP P l.toArray Q C cl (qd7 l cl) p A w):wpP P l.toArray Q C cl (qd7 l cl) (.step i p) a w:=by
 replace f:=qla f
 have g:qaz l.toArray cl i=3:=by simpa using D
 have x:qcf o≤1:=qun (cl:=cl) f (by rw[g];rfl)
 rw[wpP,qcb f,if_pos (by rw[g];rfl)]
 obtain⟨v,F,y⟩:=qke (w:=w) x E z h
 refine⟨v,?_,by rw[y];exact k⟩
 unfold qcl
 rw[if_neg (by omega),if_pos g]
 exact F
theorem qr{A:Act}(f:qly l i=some o)(y:(qaz l.toArray cl i==1)=true)(h:∀g,(∀m,m=A→g .normal m w)→wpList P l.toArray g [o] a w)(k:wpP P l.toArray Q C cl (qd7 l cl) p A w):wpP P l.toArray Q C cl (qd7 l cl) (.step i p) a w:=by
 replace f:=qla f
 have t:qaz l.toArray cl i=1:=by simpa using y
 have x:qcf o≤1:=qun (cl:=cl) f (by rw[t];rfl)
 rw[wpP,qcb f,if_pos (by rw[t];rfl)]
 obtain⟨v,D,z⟩:=qry x h
 refine⟨v,?_,by rw[z];exact k⟩
 unfold qcl
 rw[if_neg (by omega),if_neg (by omega)]
 exact D
structure Keeps(a b:Prop):Prop where
 c:a
 k:b
theorem qe'(m:qly l i=some o)(D:(qaz l.toArray cl i==2)=true)(h:∀v,(∀g w',Keeps (qd7 l cl i=true→C w') (wpP P l.toArray Q C cl (qd7 l cl) p g w')→v .normal g w')→wpList P l.toArray v [o] a w):wpP P l.toArray Q C cl (qd7 l cl) (.step i p) a w:=by
 replace m:=qla m
 have y:qaz l.toArray cl i=2:=by simpa using D
 rw[wpP,qcb m,if_neg (by rw[y];decide)]
 have:=h (fun e g w'=>match e with | .normal=>(qd7 l cl i=true→C w')∧wpP P l.toArray Q C cl (qd7 l cl) p g w' | _=>False) (fun _ _ h=>⟨h.c,h.k⟩)
 unfold wpList at this
 unfold wpOp
 rw[m]
 simp only
 split
 case isFalse t=>rw[if_neg t] at this;exact this
 rename_i t
 rw[if_pos t] at this
 rcases this with f | f
 case inr =>
  obtain⟨_,_,z⟩:=f.2
  exact z.elim
 refine .inl ?_
 unfold Oper.wp at *
 generalize (execOp a.eval o).run P w=x at *
 cases x with
 | ok n w' =>
  cases n<;>simp only[Oper.upon] at f ⊢<;>exact f
 | halt x w' =>
  cases x<;>simp only[Oper.upon] at f ⊢
theorem qe(t:qly l i=some o)(m:(qaz l.toArray cl i==2)=true)(h:∀f,(∀g w',Keeps (C w') (wpP P l.toArray Q C cl (qd7 l cl) p g w')→f .normal g w')→wpList P l.toArray f [o] a w):wpP P l.toArray Q C cl (qd7 l cl) (.step i p) a w :=
 qe' t m fun f v=>h f fun g w' h=>v g w' ⟨fun _=>h.c,h.k⟩
theorem qd(t:qly l i=some o)(m:(qaz l.toArray cl i==2)=true)(v:qd7 l cl i=false)(h:∀f,(∀g w',wpP P l.toArray Q C cl (qd7 l cl) p g w'→f .normal g w')→wpList P l.toArray f [o] a w):wpP P l.toArray Q C cl (qd7 l cl) (.step i p) a w :=
 qe' t m fun f x=>h f fun g w' h=>x g w' ⟨(fun e=>by rw[v] at e;cases e),h⟩
end
end
end
section
variable {P:Program}{ops:Array Oper}{Q:Exit→Act→World→Prop}{l:List Oper}{o:Oper}{r:List Oper}{a A:Act}{w:World}{C:World→Prop}{cl:List Nat}{p:Plan}{i:Nat}
theorem qg{x:Prop}(h:x):x:=h
theorem zr(h:∀ {w f} {_:∀a',a'=A→f .normal a' w},wpList P ops f [o] a w)(k:qd6 P ops Q r A w)(g:(qcf o==0)=true:=by with_unfolding_all rfl)(m:qof o a=true:=by with_unfolding_all rfl):qd6 P ops Q (o::r) a w:=tp g m (fun _ _ k=>@h _ _ k) k
theorem zt(h:∀ {f} {_:∀a',a'=A→f .normal a' w},wpList P ops f [o] a w)(k:qd6 P ops Q r A w)(g:(qcf o==1)=true:=by with_unfolding_all rfl):qd6 P ops Q (o::r) a w:=tr g (fun _ k=>@h _ k) k
theorem zu(h:∀ {f} {_:∀a' w',qd6 P ops Q r a' w'→f .normal a' w'},wpList P ops f [o] a w)(g:(qcf o==2)=true:=by with_unfolding_all rfl):qd6 P ops Q (o::r) a w:=te g fun _ k=>@h _ k
theorem zv{id:Nat}(h:qd6 P l.toArray Q l a w.drew)(g:P.follows .mixedOrders=true:=by kernel_rfl)(f:zce l [] (Plan.of (List.range' 0 l.length))=true:=by decide +kernel):(Code.region id l.toArray true).wp P Q a w:=zfb g f h
theorem qw1(h:∀ {w f} {_:∀a',a'=A→f .normal a' w},wpList P l.toArray f [o] a w)(k:wpP P l.toArray Q C cl (qd7 l cl) p A w)(t:qly l i=some o:=by with_unfolding_all rfl)(g:(qaz l.toArray cl i==0)=true:=by with_unfolding_all rfl)(m:qof o a=true:=by with_unfolding_all rfl):wpP P l.toArray Q C cl (qd7 l cl) (.step i p) a w:=qp t g m (fun _ _ k=>@h _ _ k) k
theorem qw2(h:∀ {w} {_:C w} {Q'} {_:∀a',a'=A→Q' .normal a' w},wpList P l.toArray Q' [o] a w)(k:wpP P l.toArray Q C cl (qd7 l cl) p A w)(t:qly l i=some o:=by with_unfolding_all rfl)(g:(qaz l.toArray cl i==3)=true:=by with_unfolding_all rfl)(m:qof o a=true:=by with_unfolding_all rfl)(f:C w:=by with_reducible assumption):wpP P l.toArray Q C cl (qd7 l cl) (.step i p) a w:=qc t g m f (fun _ c _ k=>@h _ c _ k) k
theorem qw3(h:∀ {f} {_:∀a',a'=A→f .normal a' w},wpList P l.toArray f [o] a w)(k:wpP P l.toArray Q C cl (qd7 l cl) p A w)(m:qly l i=some o:=by with_unfolding_all rfl)(g:(qaz l.toArray cl i==1)=true:=by with_unfolding_all rfl):wpP P l.toArray Q C cl (qd7 l cl) (.step i p) a w:=qr m g (fun _ k=>@h _ k) k
theorem qw4(h:∀ {f} {_:∀a' w',wpP P l.toArray Q C cl (qd7 l cl) p a' w'→f .normal a' w'},wpList P l.toArray f [o] a w)(m:qly l i=some o:=by with_unfolding_all rfl)(g:(qaz l.toArray cl i==2)=true:=by with_unfolding_all rfl)(t:qd7 l cl i=false:=by decide +kernel):wpP P l.toArray Q C cl (qd7 l cl) (.step i p) a w:=qd m g t fun _ k=>@h _ k
theorem qw5(h:∀ {f} {_:∀a' w',Keeps (C w') (wpP P l.toArray Q C cl (qd7 l cl) p a' w')→f .normal a' w'},wpList P l.toArray f [o] a w)(m:qly l i=some o:=by with_unfolding_all rfl)(g:(qaz l.toArray cl i==2)=true:=by with_unfolding_all rfl):wpP P l.toArray Q C cl (qd7 l cl) (.step i p) a w:=qe m g fun _ k=>@h _ k
end
theorem Upd.ofDrew{S:Nat→Prop}{w w':World}(h:Upd S w.drew w'):Upd S w w':=⟨h.os,h.tape,h.output,h.size,h.block⟩
theorem Q.ofDrew{w w':World}(h:Q w.drew w'):Q w w':=by
 obtain⟨n,rfl⟩:=h
 exact⟨1+n,rfl |>.trans (World.drewN_drewN w 1 n)⟩
theorem qiz{x:Int}(f : -9223372036854775808≤x)(g:x≤9223372036854775807):IntKind.i64.wrap x=x:=by rw[IntKind.wrap_i64];omega
theorem qeg{x:Int}(f:0≤x)(g:x≤18446744073709551615):IntKind.u64.wrap x=x:=by rw[IntKind.wrap_u64];omega
end Go.Proofs.YtjpmomdechibmaaGreatDoor
