/-
  A region that draws its order, whose operations with effects stand in a row: it may be walked in its lexical order. Operations that only compute may stand anywhere; loads wait for, or are waited for by, each operation with an effect.
-/
import Derived.Test.YthnohmjbbeahmaaGreatDoorMaa
set_option linter.unusedVariables false
set_option linter.unusedSimpArgs false
namespace Go.Proofs.YthnohmjbbeahmaaGreatDoor
open Go.RowKit
def qcs(o:Oper):Nat :=
 match o.op with
 | .move _ | .assign _ | .pick .. | .extract .. | .fieldAddr .. | .field .. | .makeFunc .. | .nilCheck _ | .binOp .. | .unOp .. | .indexAddr .. | .index .. | .build .. | .slice .. => 0
 | .load .. | .lookup .. | .convert .. => 1
 | .call c=>match c.callee with | .builtin .len=>0 | .builtin .cap=>0 | _=>2
 | _=>2
def noQ:Exit→Act→World→Prop:=fun _ _ _=>False
section
variable {P:Program}{ops:Array Oper}{Q:Exit→Act→World→Prop}
def qez(P:Program)(ops:Array Oper)(w:World)(o:Oper)(v:Value)(a:Act):Prop :=
 (Region.wanted o (yielded ops a.tmps)=true∧(execOp a.eval o).run P w = .ok (.value v) w)∨(Region.wanted o (yielded ops a.tmps)=false∧v=undef)
theorem qez.of_same{o:Oper}{v:Value}{a g:Act}{w:World}(x:qez P ops w o v a)(m:execOp g.eval o=execOp a.eval o)
  (t:Region.wanted o (yielded ops g.tmps)=Region.wanted o (yielded ops a.tmps)):qez P ops w o v g:=by
 unfold qez at *
 rw[m,t]
 exact x
theorem qez.wpOp{i:Nat}{o:Oper}{v:Value}{a:Act}{w:World}(m:ops[i]? = some o)(t:qez P ops w o v a)
  {K:Act→World→Prop} (h:K (a.put o.dst v) w):wpOp P ops Q i K a w:=by
 unfold Go.wpOp
 simp only[m]
 rcases t with ⟨g,hv⟩ | ⟨g,rfl⟩
 ·simp only[g,if_true,Oper.wp,hv,Oper.upon];exact .inl h
 ·simp only[g,Bool.false_eq_true,if_false];exact h
theorem qkt{o:Oper}{v u:Value}{a:Act}{w:World}(m:qez P ops w o v a)(g:qez P ops w o u a):v=u:=by
 rcases m with ⟨a1,a2⟩ | ⟨a1,a2⟩<;>rcases g with ⟨b1,b2⟩ | ⟨b1,b2⟩
 ·have:=a2.symm.trans b2;simpa using this
 ·rw[a1] at b1;cases b1
 ·rw[a1] at b1;cases b1
 ·rw[a2,b2]
def qcx(P:Program)(ops:Array Oper)(C:World→Prop)(o:Oper)(v:Value)(a:Act):Prop:=∀w,C w→qez P ops w o v a
theorem qcx.of_same{C:World→Prop}{o:Oper}{v:Value}{a g:Act}(y:qcx P ops C o v a)(t:execOp g.eval o=execOp a.eval o)
  (x:Region.wanted o (yielded ops g.tmps)=Region.wanted o (yielded ops a.tmps)):qcx P ops C o v g:=fun w m=>(y w m).of_same t x
def qcw(P:Program)(ops:Array Oper)(C:World→Prop)(c:Nat)(w:World)(o:Oper)(v:Value)(a:Act):Prop:=if c=0 then qcx P ops (fun _=>True) o v a else if c=3 then qcx P ops C o v a else qez P ops w o v a
theorem qcw.w{C:World→Prop}{c:Nat}{o:Oper}{v:Value}{a:Act}{w:World}(g:qcw P ops C c w o v a)(m:c=3→C w):qez P ops w o v a:=by
 unfold qcw at g;split at g
 ·exact g w trivial
 ·split at g
  ·exact g w (m ‹_›)
  ·exact g
theorem qcw.of_same{C:World→Prop}{c:Nat}{o:Oper}{v:Value}{a m:Act}{w:World}(g:qcw P ops C c w o v a)(t:execOp m.eval o=execOp a.eval o)
  (x:Region.wanted o (yielded ops m.tmps)=Region.wanted o (yielded ops a.tmps)):qcw P ops C c w o v m:=by
 unfold qcw at *
 split at g
 ·rw[if_pos ‹_›];exact g.of_same t x
 ·rw[if_neg ‹_›];split at g
  ·rw[if_pos ‹_›];exact g.of_same t x
  ·rw[if_neg ‹_›];exact g.of_same t x
def qa5(ops:Array Oper)(cl:List Nat)(i:Nat):Nat :=
 match ops[i]? with
 | none=>0
 | some o=>if qcs o==1&&cl.contains i then 3 else qcs o
def qf9(c:Nat):Bool:=c==0 || c==1 || c==3
theorem qwz{cl:List Nat}{i:Nat}{o:Oper}(m:ops[i]? = some o)(h:qf9 (qa5 ops cl i)=true):qcs o≤1:=by
 have e:qa5 ops cl i=if (qcs o==1&&cl.contains i)=true then 3 else qcs o:=by unfold qa5;rw[m]
 rw[e] at h;by_cases g:(qcs o==1&&cl.contains i)=true
 ·rw[Bool.and_eq_true,beq_iff_eq] at g;omega
 ·rw[if_neg g] at h;unfold qf9 at h;simp only[Bool.or_eq_true,beq_iff_eq] at h;have:qcs o≤2:=by
   unfold qcs;split<;>(try split)<;>decide
  omega
theorem q5b{cl:List Nat}{i:Nat}(h:qa5 ops cl i=3):i∈cl:=by
 unfold qa5 at h;split at h
 ·cases h
 ·rename_i o m;split at h
  ·rename_i g;simp at g;exact g.2
  ·have:qcs o≤2:=by
    unfold qcs;split<;>(try split)<;>decide
   omega
def wpI(P:Program)(ops:Array Oper)(C:World→Prop)(cl:List Nat)(kp:Nat→Bool)(i:Nat)(K:Act→World→Prop)(a:Act)(w:World):Prop :=
 match ops[i]? with
 | none=>K a w
 | some o=>if qf9 (qa5 ops cl i)=true then ∃v,qcw P ops C (qa5 ops cl i) w o v a∧K (a.put o.dst v) w else wpOp P ops noQ i (fun g w'=>(kp i=true→C w')∧K g w') a w
section
variable {C:World→Prop}{cl:List Nat}{kp:Nat→Bool}
theorem qcm{i:Nat}{o:Oper}{K:Act→World→Prop}{a:Act}{w:World}(m:ops[i]? = some o):wpI P ops C cl kp i K a w=if qf9 (qa5 ops cl i)=true then ∃v,qcw P ops C (qa5 ops cl i) w o v a∧K (a.put o.dst v) w else wpOp P ops noQ i (fun g w'=>(kp i=true→C w')∧K g w') a w:=by
 unfold wpI;rw[m]
theorem qjj:¬LetsOut noQ:=fun⟨_,_,h⟩=>h
theorem zjn{o:Oper}{a:Act}{w:World}{K:Act→World→Prop}(h:o.wp P a w K noQ):o.wp P a w K Q:=by
 unfold Oper.wp at *
 generalize (execOp a.eval o).run P w=r at *
 cases r with
 | ok n w' =>
  cases n<;>simp only[Oper.upon] at h ⊢<;>try exact h
  refine Calls.mono h fun e m g=> ?_
  cases e with
  | returned v=>exact g
  | panicked c=>exact g.elim
  | outgrown=>exact absurd g qjj
 | halt x w' =>
  cases x<;>simp only[Oper.upon] at h ⊢
  exact h.elim
theorem zet{i:Nat}{a:Act}{w:World}{K:Act→World→Prop}(h:wpOp P ops noQ i K a w):wpOp P ops Q i K a w:=by
 unfold wpOp at *
 split
 ·rename_i g;simp only[g] at h;exact h
 ·rename_i o g;simp only[g] at h;split
  ·rename_i m;rw[if_pos m] at h;rcases h with h | h
   ·exact .inl (zjn h)
   ·exact absurd h.2 qjj
  ·rename_i m;rw[if_neg m] at h;exact h
theorem zes{i:Nat}{a:Act}{w:World}{K:Act→World→Prop}(D:qa5 ops cl i=3→C w)(h:wpI P ops C cl kp i K a w):wpOp P ops Q i (fun x w'=>(qf9 (qa5 ops cl i)=true→w'=w)∧(qf9 (qa5 ops cl i)=false→kp i=true→C w')∧K x w') a w:=by
 unfold wpI at h;cases g:ops[i]? with
 | none=>rw[g] at h;unfold wpOp;rw[g];exact⟨fun _=>rfl,(fun h=>by have:qa5 ops cl i=0:=(by unfold qa5;rw[g]);rw[this] at h;cases h),h⟩
 | some o =>
  rw[g] at h;simp only at h;split at h
  ·rename_i m;obtain⟨v,y,z⟩:=h;exact(y.w D).wpOp g ⟨fun _=>rfl,(fun h=>by rw[m] at h;cases h),z⟩
  ·rename_i m;refine wpOp_mono (fun a w t=>⟨fun h=>absurd h m,fun _=>t.1,t.2⟩) (zet h)
theorem qwj{j:Nat}{m t:Oper}{v:Value}(R:ops[j]? = some t)(F:m.apart ops t=true)(H:∀cs b,m.op ≠ .select cs b)(I:∀cs b,t.op ≠ .select cs b)
  {K:Act→World→Prop} {a:Act} {w:World} (y:qcx P ops C m v a) (h:wpOp P ops noQ j K (a.put m.dst v) w) :
  wpOp P ops noQ j (fun M w'=>qcx P ops C m v M∧K (M.put m.dst v) w') a w:=by
 obtain⟨N,D,O⟩:=Oper.apart_spec F
 have g:∀(a:Act),qcx P ops C m v a→∀u,qcx P ops C m v (a.put t.dst u):=fun a y u =>
  y.of_same (execOp_put m H a t.dst u O) (wanted_put m a t.dst u O)
 have z:∀d,qcx P ops C m v {a with defers:=d::a.defers} := fun d=>y.of_same rfl rfl
 unfold wpOp at *
 simp only[R] at *
 rw[wanted_put t a m.dst v N] at h
 split
 ·rename_i J;simp only[J,if_true] at h;rcases h with h | h
  case inr=>exact absurd h.2 qjj
  refine .inl ?_;unfold Oper.wp at *
  rw[execOp_put t I a m.dst v N] at h;generalize (execOp a.eval t).run P w=r at *
  cases r with
  | ok n w' =>
   cases n<;>simp only[Oper.upon] at h ⊢
   case value u=>exact⟨g a y u,by rw[←Act.put_comm a v u D];exact h⟩
   case skip=>exact⟨g a y _,by rw[←Act.put_comm a v undef D];exact h⟩
   case defer d =>
    refine⟨g _ (z d) _,?_⟩;rw[←Act.put_comm _ v undef D,←Act.put_defers];exact h
   case enter f args =>
    refine Calls.mono h fun e L E=> ?_
    cases e with
    | returned u=>exact⟨g a y u,by rw[←Act.put_comm a v u D];exact E⟩
    | panicked c=>exact E.elim
    | outgrown=>exact E
   case row row args=>exact Rows.mono h fun u L E=>⟨g a y u,by rw[←Act.put_comm a v u D];exact E⟩
  | halt x w' =>
   cases x<;>simp only[Oper.upon] at h ⊢
   case panic u=>exact h.elim
 ·rename_i J;simp only[J] at h;exact⟨g a y _,by rw[←Act.put_comm a v undef D];exact h⟩
theorem qwi{j:Nat}{m t:Oper}(Y:ops[j]? = some t)(M:m.apart ops t=true)(N:∀cs b,m.op ≠ .select cs b)(O:∀cs b,t.op ≠ .select cs b)
  {K:Act→World→Prop} {a:Act} {w:World} (h:wpOp P ops noQ j (fun V w'=>C w'∧∃v,qcx P ops C m v V∧K (V.put m.dst v) w') a w) :
  ∃v,qcx P ops C m v a∧wpOp P ops noQ j K (a.put m.dst v) w:=by
 obtain⟨J,F,W⟩:=Oper.apart_spec M
 have g:∀(a:Act) u v,qcx P ops C m v (a.put t.dst u)→qcx P ops C m v a:=fun a u v y =>
  y.of_same (execOp_put m N a t.dst u W).symm (wanted_put m a t.dst u W).symm
 unfold wpOp at *
 simp only[Y] at *
 split at h
 ·rename_i R;rcases h with h | h
  case inr=>exact absurd h.2 qjj
  unfold Oper.wp at *
  have key:∀v,qcx P ops C m v a→Oper.upon P t (a.put m.dst v) K noQ ((execOp a.eval t).run P w)→∃v,qcx P ops C m v a∧(if Region.wanted t (yielded ops (a.put m.dst v).tmps)=true then (Oper.upon P t (a.put m.dst v) K noQ ((execOp (a.put m.dst v).eval t).run P w)∨t.asks P (a.put m.dst v) w∧LetsOut noQ) else K ((a.put m.dst v).put t.dst undef) w):=by
   intro v y z;refine⟨v,y,?_⟩;rw[wanted_put t a m.dst v J,if_pos R,execOp_put t O a m.dst v J];exact .inl z
  generalize (execOp a.eval t).run P w=r at h key;cases r with
  | ok n w' =>
   cases n<;>simp only[Oper.upon] at h key
   case value u =>
    obtain⟨-,v,y,z⟩:=h;exact key v (g _ _ _ y) (by rw[Act.put_comm a v u F];exact z)
   case skip =>
    obtain⟨-,v,y,z⟩:=h;exact key v (g _ _ _ y) (by rw[Act.put_comm a v undef F];exact z)
   case defer d =>
    obtain⟨-,v,y,z⟩:=h;refine key v ((g _ _ _ y).of_same rfl rfl) ?_;have e:=Act.put_comm ({a with defers:=d::a.defers} : Act) v undef F;have X:=Act.put_defers a m.dst v d;rw[X,e];exact z
   case enter f args =>
    obtain⟨e,w2,fr,L,-⟩:=h [];cases e with
    | panicked c=>exact L.elim
    | outgrown=>exact absurd L qjj
    | returned u =>
     obtain⟨-,v,y,-⟩:=L;have D:=g _ _ _ y;refine key v D (Calls.mono h fun e U I=> ?_);cases e with
     | panicked c=>exact I
     | outgrown=>exact I
     | returned T =>
      obtain⟨H,Z,E,z⟩:=I;have:=qkt (D _ H) (g _ _ _ E _ H);subst this;show K _ _;rw[Act.put_comm a v T F];exact z
   case row row args =>
    obtain⟨u,w2,⟨-,v,y,-⟩,-⟩:=h (Frame.ofRow P row args .normal) [];have D:=g _ _ _ y;refine key v D (Rows.mono h fun T U I=> ?_);obtain⟨H,Z,E,z⟩:=I;have:=qkt (D _ H) (g _ _ _ E _ H);subst this;show K _ _;rw[Act.put_comm a v T F];exact z
  | halt x w' =>
   cases x<;>simp only[Oper.upon] at h
   exact h.elim
 ·rename_i R;obtain⟨-,v,y,z⟩:=h;refine⟨v,g _ _ _ y,?_⟩;rw[wanted_put t a m.dst v J,if_neg R,Act.put_comm a v undef F];exact z
def qrb(ops:Array Oper)(cl:List Nat)(i j:Nat):Bool :=
 match ops[i]?,ops[j]? with
 | some x,some y=>x.apart ops y&&(qa5 ops cl i==0 || qa5 ops cl j==0 || qa5 ops cl i==3 || qa5 ops cl j==3 || (qa5 ops cl i==1&&qa5 ops cl j==1))
 | _,_=>true
theorem qrp{x y:Oper}(h:x.apart ops y=true):y.apart ops x=true:=by
 unfold Oper.apart at *
 cases m:x.dst with
 | none=>rw[m] at h;cases g:y.dst with
  | none=>rfl
  | some e=>rw[g] at h;simpa using h
 | some d=>rw[m] at h;cases g:y.dst with
  | none=>rw[g] at h;simpa using h
  | some e =>
   rw[g] at h;simp only[Bool.and_eq_true,Bool.not_eq_true',bne_iff_ne,ne_eq,Option.some.injEq] at h ⊢;exact⟨⟨h.2,fun t=>h.1.2 t.symm⟩,h.1.1⟩
theorem zhu{i j:Nat}{m M:Oper}(L:ops[i]? = some m)(J:ops[j]? = some M)(V:qrb ops cl i j=true)(D:∀cs b,m.op ≠ .select cs b)(E:∀cs b,M.op ≠ .select cs b)(Z:qa5 ops cl i=3→kp j=true)
  {K:Act→World→Prop} {a:Act} {w:World} (h:wpI P ops C cl kp j (fun a w=>wpI P ops C cl kp i K a w) a w):wpI P ops C cl kp i (fun a w=>wpI P ops C cl kp j K a w) a w:=by
 unfold qrb at V
 rw[L,J] at V
 simp only[Bool.and_eq_true,Bool.or_eq_true,beq_iff_eq] at V
 obtain⟨z,hc⟩:=V
 obtain⟨h1,h2,h3⟩:=Oper.apart_spec z
 rw[qcm J] at h
 rw[qcm L]
 by_cases y:qf9 (qa5 ops cl j)=true
 ·rw[if_pos y] at h;obtain⟨N,O,h⟩:=h;rw[qcm L] at h;by_cases x:qf9 (qa5 ops cl i)=true
  ·rw[if_pos x] at h ⊢;obtain⟨X,yi,h⟩:=h;refine⟨X,yi.of_same (execOp_put m D a M.dst N h3).symm (wanted_put m a M.dst N h3).symm,?_⟩;rw[qcm J,if_pos y];refine⟨N,O.of_same (execOp_put M E a m.dst X h1) (wanted_put M a m.dst X h1),?_⟩;rw[Act.put_comm a X N h2];exact h
  ·rw[if_neg x] at h ⊢;have a4:qa5 ops cl i≠0∧qa5 ops cl i≠1∧qa5 ops cl i≠3:=by
    unfold qf9 at x;simp only[Bool.or_eq_true,beq_iff_eq,not_or] at x;exact⟨x.1.1,x.1.2,x.2⟩
   have g:qa5 ops cl j=0∨qa5 ops cl j=3:=by omega
   unfold qcw at O;rcases g with g | g
   ·rw[if_pos g] at O;refine wpOp_mono ?_ (qwj L (qrp z) E D O h);rintro H w' ⟨y',I,t⟩;refine⟨I,?_⟩;rw[qcm J,if_pos y];refine⟨N,?_,t⟩;unfold qcw;rw[if_pos g];exact y'
   ·rw[if_neg (by omega),if_pos g] at O;refine wpOp_mono ?_ (qwj L (qrp z) E D O h);rintro H w' ⟨y',I,t⟩;refine⟨I,?_⟩;rw[qcm J,if_pos y];refine⟨N,?_,t⟩;unfold qcw;rw[if_neg (by omega),if_pos g];exact y'
 ·rw[if_neg y] at h;have a5:qa5 ops cl j≠0∧qa5 ops cl j≠1∧qa5 ops cl j≠3:=by
   unfold qf9 at y;simp only[Bool.or_eq_true,beq_iff_eq,not_or] at y;exact⟨y.1.1,y.1.2,y.2⟩
  have R:qa5 ops cl i=0∨qa5 ops cl i=3:=by omega
  have x:qf9 (qa5 ops cl i)=true:=by
   unfold qf9;rcases R with e | e<;>rw[e]<;>rfl
  rw[if_pos x];have T:∀v,(∃W,W=v∧qcw P ops C (qa5 ops cl i) w m W a)→wpOp P ops noQ j (fun a w=>(kp j=true→C w)∧K a w) (a.put m.dst v) w→∃v,qcw P ops C (qa5 ops cl i) w m v a∧wpI P ops C cl kp j K (a.put m.dst v) w:=by
   rintro v ⟨W,rfl,F⟩ t;refine⟨W,F,?_⟩;rw[qcm J,if_neg y];exact t
  rcases R with g | g
  ·have Y:wpOp P ops noQ j (fun H w'=>(fun _=>True) w'∧∃v,qcx P ops (fun _=>True) m v H∧(fun a w=>(kp j=true→C w)∧K a w) (H.put m.dst v) w') a w:=by
    refine wpOp_mono ?_ h;rintro H w' ⟨I,U⟩;rw[qcm L,if_pos x] at U;obtain⟨v,F,t⟩:=U;refine⟨trivial,v,?_,I,t⟩;simpa only[qcw,if_pos g] using F
   obtain⟨v,F,t⟩:=qwi (C:=fun _=>True) (K:=fun a w=>(kp j=true→C w)∧K a w) J z D E Y;refine T v ⟨v,rfl,?_⟩ t;unfold qcw;rw[if_pos g];exact F
  ·have Y:wpOp P ops noQ j (fun H w'=>C w'∧∃v,qcx P ops C m v H∧(fun a w=>(kp j=true→C w)∧K a w) (H.put m.dst v) w') a w:=by
    refine wpOp_mono ?_ h;rintro H w' ⟨I,U⟩;rw[qcm L,if_pos x] at U;obtain⟨v,F,t⟩:=U;refine⟨I (Z g),v,?_,I,t⟩;unfold qcw at F;rw[if_neg (by omega),if_pos g] at F;exact F
   obtain⟨v,F,t⟩:=qwi (C:=C) (K:=fun a w=>(kp j=true→C w)∧K a w) J z D E Y;refine T v ⟨v,rfl,?_⟩ t;unfold qcw;rw[if_neg (by omega),if_pos g];exact F
end
inductive Plan where
 | done
 | step (i:Nat) (p:Plan)
 | fork (p q:Plan)
def Plan.first(eff:Nat→Bool):Plan→List Nat
 | .done=>[]
 | .step i p=>if eff i then [i] else p.first eff
 | .fork p q=>p.first eff++q.first eff
def Plan.of:List Nat→Plan
 | []=> .done
 | i::r=> .step i (Plan.of r)
def qma(A:List (List Nat))(eff:Nat→Bool)(p:Plan)(rem:List Nat):Prop:=∀j∈rem,eff j=true→j∈p.first eff∨∃k∈rem,eff k=true∧k∈A.getD j []
def Cov(A:List (List Nat))(eff:Nat→Bool):Plan→List Nat→Prop
 | .done,rem=>rem=[]
 | .step i p,rem=>i∈rem∧(∀k∈rem,k∉A.getD i [])∧Cov A eff p (rem.erase i)∧(eff i=true→qma A eff p (rem.erase i))
 | .fork p q,rem=>Cov A eff p rem∧Cov A eff q rem
def q27(A:List (List Nat))(eff:Nat→Bool)(p:Plan)(rem:List Nat):Bool:=rem.all fun j=> !eff j || (p.first eff).contains j || rem.any fun k=>eff k&&(A.getD j []).contains k
def qzm(A:List (List Nat))(eff:Nat→Bool):Plan→List Nat→Bool
 | .done,rem=>rem.isEmpty
 | .step i p,rem=>rem.contains i&&(rem.all fun k=> !(A.getD i []).contains k)&&qzm A eff p (rem.erase i)&&(!eff i || q27 A eff p (rem.erase i))
 | .fork p q,rem=>qzm A eff p rem&&qzm A eff q rem
theorem qu3{A:List (List Nat)}{eff:Nat→Bool}{p:Plan}{rem:List Nat}(h:q27 A eff p rem=true):qma A eff p rem:=by
 intro j t m;have:=List.all_eq_true.1 h j t;rw[m] at this;simp only[Bool.not_true,Bool.false_or,Bool.or_eq_true] at this;rcases this with h | h
 ·exact .inl (List.contains_iff_mem.1 h)
 ·obtain⟨k,v,g⟩:=List.any_eq_true.1 h;rw[Bool.and_eq_true] at g;exact .inr ⟨k,v,g.1,List.contains_iff_mem.1 g.2⟩
theorem qq5{A:List (List Nat)}{eff:Nat→Bool} : ∀ {p:Plan} {rem:List Nat},qzm A eff p rem=true→Cov A eff p rem
 | .done,rem,h=>by simpa [qzm,Cov] using h
 | .step i p,rem,h=>by
  unfold qzm at h;simp only[Bool.and_eq_true] at h;obtain⟨⟨⟨m,t⟩,v⟩,g⟩:=h;refine⟨List.contains_iff_mem.1 m,fun k y=> ?_,qq5 v,fun x=> ?_⟩
  ·have:=List.all_eq_true.1 t k y;simpa using this
  ·rw[x] at g;exact qu3 (by simpa using g)
 | .fork p q,rem,h=>by
  unfold qzm at h;rw[Bool.and_eq_true] at h;exact⟨qq5 h.1,qq5 h.2⟩
def wpP(P:Program)(ops:Array Oper)(Q:Exit→Act→World→Prop)(C:World→Prop)(cl:List Nat)(kp:Nat→Bool):Plan→Act→World→Prop
 | .done,a,w=>Q .normal a w
 | .step i p,a,w=>wpI P ops C cl kp i (wpP P ops Q C cl kp p) a w
 | .fork p q,a,w=>wpP P ops Q C cl kp p a w∧wpP P ops Q C cl kp q a w
def Plan.rm(i:Nat):Plan→Plan
 | .done=> .done
 | .step j p=>if i=j then p else .step j (p.rm i)
 | .fork p q=> .fork (p.rm i) (q.rm i)
def Plan.rmE(eff:Nat→Bool)(i:Nat):Plan→Plan
 | .done=> .done
 | .step j p=>if i=j then p else .step j (p.rmE eff i)
 | .fork p q=>if (p.first eff).contains i then p.rmE eff i else q.rmE eff i
section
variable {A:List (List Nat)}{eff:Nat→Bool}
theorem qot{i:Nat}(g:eff i=false):∀p:Plan,(p.rm i).first eff=p.first eff
 | .done=>rfl
 | .step j p=>by
  unfold Plan.rm;split
  ·rename_i e;subst e;rw[Plan.first,g];rfl
  ·rw[Plan.first,Plan.first,qot g p]
 | .fork p q=>by rw[Plan.rm,Plan.first,Plan.first,qot g p,qot g q]
theorem qti{i:Nat}(t:eff i=false){p:Plan}{rem:List Nat}(nd:rem.Nodup)(h:qma A eff p rem):qma A eff (p.rm i) (rem.erase i):=by
 intro j x v;rw[qot t];rcases h j (List.mem_of_mem_erase x) v with h | ⟨k,y,g,m⟩
 ·exact .inl h
 ·exact .inr ⟨k,(nd.mem_erase_iff).2 ⟨(fun e=>by rw[e,t] at g;cases g),y⟩,g,m⟩
theorem qyh{i:Nat}(m:eff i=false):∀ {p:Plan} {rem:List Nat},rem.Nodup→i∈rem→Cov A eff p rem→Cov A eff (p.rm i) (rem.erase i)
 | .done,rem,nd,g,h=>by rw[Cov] at h;rw[h] at g;cases g
 | .step j p,rem,nd,g,h=>by
  obtain⟨y,z,v,D⟩:=h;unfold Plan.rm;split
  ·rename_i e;subst e;exact v
  ·rename_i e;have t:i∈rem.erase j:=(nd.mem_erase_iff).2 ⟨e,g⟩;refine⟨(nd.mem_erase_iff).2 ⟨fun x=>e x.symm,y⟩,fun k F=>z k (List.mem_of_mem_erase F),?_,fun E=> ?_⟩
   ·rw[List.erase_comm];exact qyh m (nd.erase j) t v
   ·rw[List.erase_comm];exact qti m (nd.erase j) (D E)
 | .fork p q,rem,nd,g,h=>⟨qyh m nd g h.1,qyh m nd g h.2⟩
theorem qre{i:Nat}(x:eff i=true):∀ {p:Plan} {rem:List Nat},rem.Nodup→i∈rem→i∈p.first eff→Cov A eff p rem→Cov A eff (p.rmE eff i) (rem.erase i)∧qma A eff (p.rmE eff i) (rem.erase i)
 | .done,rem,nd,v,g,h=>by cases g
 | .step j p,rem,nd,v,g,h=>by
  obtain⟨M,N,K,O⟩:=h;unfold Plan.rmE;split
  ·rename_i e;subst e;exact⟨K,O x⟩
  ·rename_i e;have t:eff j=false:=by
    cases t:eff j with
    | false=>rfl
    | true =>
     rw[Plan.first,t] at g;simp at g;exact absurd g e
   have D:i∈p.first eff:=by rw[Plan.first,t] at g;exact g
   have E:i∈rem.erase j:=(nd.mem_erase_iff).2 ⟨e,v⟩;obtain⟨I,J⟩:=qre x (nd.erase j) E D K;rw[List.erase_comm] at I J;refine⟨⟨(nd.mem_erase_iff).2 ⟨fun y=>e y.symm,M⟩,fun k F=>N k (List.mem_of_mem_erase F),I,fun m=>by rw[t] at m;cases m⟩,?_⟩;intro k F m;have H:k≠j:=fun y=>by rw[y,t] at m;cases m
   rw[Plan.first,t];rcases J k (((nd.erase i).mem_erase_iff).2 ⟨H,F⟩) m with h | ⟨R,h,L⟩
   ·exact .inl h
   ·exact .inr ⟨R,List.mem_of_mem_erase h,L⟩
 | .fork p q,rem,nd,v,g,h=>by
  unfold Plan.rmE;split
  ·rename_i z;exact qre x nd v (List.contains_iff_mem.1 z) h.1
  ·rename_i z;rw[Plan.first,List.mem_append] at g;exact qre x nd v (g.resolve_left fun h=>z (List.contains_iff_mem.2 h)) h.2
end
section
variable {C:World→Prop}{cl:List Nat}{A:List (List Nat)}{kp:Nat→Bool}
structure Turns(ops:Array Oper)(cl:List Nat)(A:List (List Nat))(kp:Nat→Bool):Prop where
 sel:Region.noSelect ops=true
 turn:∀i j,i<ops.size→j<ops.size→i≠j→j∉A.getD i []→i∉A.getD j []→(qa5 ops cl i=2∧qa5 ops cl j=2)∨qrb ops cl i j=true
 two:∀i,i<ops.size→qa5 ops cl i≤3
 kept:∀i j,j∈cl→j∉A.getD i []→kp i=true
theorem q1d{c:Nat}(h:qf9 c=true):c≠2:=by
 rintro rfl;cases h
theorem qtg{c:Nat}(h:c≤3)(g:c≠2):qf9 c=true:=by
 have:c=0∨c=1∨c=3:=by omega
 rcases this with rfl | rfl | rfl<;>rfl
theorem q6a(T:Turns ops cl A kp){i:Nat}{oi:Oper}(E:ops[i]? = some oi)(I:qf9 (qa5 ops cl i)=true):∀(p:Plan) (rem:List Nat) (a:Act) (w:World),(qa5 ops cl i=3→C w)→rem.Nodup→(∀j∈rem,j<ops.size)→i∈rem→(∀k∈rem,k∉A.getD i [])→Cov A (fun i=>qa5 ops cl i==2) p rem →
  wpP P ops Q C cl kp p a w→wpI P ops C cl kp i (wpP P ops Q C cl kp (p.rm i)) a w
 | .done,rem,a,w,x,nd,g,t,F,h,H=>by rw[Cov] at h;rw[h] at t;cases t
 | .step j p,rem,a,w,x,nd,g,t,F,h,H=>by
  obtain⟨R,U,X,h4⟩:=h;unfold Plan.rm;split
  ·rename_i e;subst e;exact H
  ·rename_i e;have N:i∈rem.erase j:=(nd.mem_erase_iff).2 ⟨e,t⟩;have m:=g j R;have O:ops[j]? = some (ops[j]'m):=Array.getElem?_eq_getElem m;have J:qa5 ops cl i=3→kp j=true:=fun M=>T.kept j i (q5b M) (U i t)
   have Y:wpI P ops C cl kp j (fun a w=>wpI P ops C cl kp i (wpP P ops Q C cl kp (p.rm i)) a w) a w:=by
    have z:wpI P ops C cl kp j (wpP P ops Q C cl kp p) a w:=H;rw[qcm O] at z ⊢;have V:=fun a w x=>q6a T E I p (rem.erase j) a w x (nd.erase j) (fun k D=>g k (List.mem_of_mem_erase D)) N (fun k D=>F k (List.mem_of_mem_erase D)) X
    split at z
    ·rw[if_pos ‹_›];obtain⟨v,y,k⟩:=z;exact⟨v,y,V _ _ x k⟩
    ·rw[if_neg ‹_›];exact wpOp_mono (fun a w D=>⟨D.1,V _ _ (fun M=>D.1 (J M)) D.2⟩) z
   refine zhu E O ?_ (fun cs b=>Region.noSelect_spec T.sel i _ cs b E) (fun cs b=>Region.noSelect_spec T.sel j _ cs b O) J Y;rcases T.turn i j (g i t) m e (F j R) (U i t) with h | h
   ·exact absurd h.1 (q1d I)
   ·exact h
 | .fork p q,rem,a,w,x,nd,g,t,F,h,H=>by
  have K:=q6a T E I p rem a w x nd g t F h.1 H.1;have L:=q6a T E I q rem a w x nd g t F h.2 H.2;rw[qcm E,if_pos I] at K L ⊢;obtain⟨v1,W,Z⟩:=K;obtain⟨v2,y2,k2⟩:=L;have:=qkt (W.w x) (y2.w x);subst this;exact⟨v1,W,Z,k2⟩
theorem qyg(T:Turns ops cl A kp){i:Nat}{X:Oper}(I:ops[i]? = some X)(K:qa5 ops cl i=2):∀(p:Plan) (rem:List Nat) (a:Act) (w:World),rem.Nodup→(∀j∈rem,j<ops.size)→i∈rem→(∀k∈rem,k∉A.getD i [])→i∈p.first (fun i=>qa5 ops cl i==2)→Cov A (fun i=>qa5 ops cl i==2) p rem →
  wpP P ops Q C cl kp p a w→wpI P ops C cl kp i (wpP P ops Q C cl kp (p.rmE (fun i=>qa5 ops cl i==2) i)) a w
 | .done,rem,a,w,nd,g,D,E,x,h,F=>by cases x
 | .step j p,rem,a,w,nd,g,D,E,x,h,F=>by
  obtain⟨L,H,V,Y⟩:=h;unfold Plan.rmE;split
  ·rename_i e;subst e;exact F
  ·rename_i e;have m:qa5 ops cl j≠2:=by
    intro h;have H:(qa5 ops cl j==2)=true:=by simpa using h
    rw[Plan.first,H] at x;simp at x;exact absurd x e
   have M:qf9 (qa5 ops cl j)=true:=qtg (T.two j (g j L)) m;have N:i∈p.first (fun i=>qa5 ops cl i==2):=by
    have H:(qa5 ops cl j==2)=false:=by simpa using m
    rw[Plan.first,H] at x;exact x
   have O:i∈rem.erase j:=(nd.mem_erase_iff).2 ⟨e,D⟩;have t:=g j L;have R:ops[j]? = some (ops[j]'t):=Array.getElem?_eq_getElem t;have W:wpI P ops C cl kp j (fun a w=>wpI P ops C cl kp i (wpP P ops Q C cl kp (p.rmE (fun i=>qa5 ops cl i==2) i)) a w) a w:=by
    have J:wpI P ops C cl kp j (wpP P ops Q C cl kp p) a w:=F;rw[qcm R,if_pos M] at J ⊢;obtain⟨v,y,k⟩:=J;exact⟨v,y,qyg T I K p (rem.erase j) _ _ (nd.erase j) (fun k U=>g k (List.mem_of_mem_erase U)) O (fun k U=>E k (List.mem_of_mem_erase U)) N V k⟩
   refine zhu I R ?_ (fun cs b=>Region.noSelect_spec T.sel i _ cs b I) (fun cs b=>Region.noSelect_spec T.sel j _ cs b R) (fun h=>by rw[K] at h;cases h) W;rcases T.turn i j (g i D) t e (E j L) (H i D) with h | h
   ·exact absurd h.2 m
   ·exact h
 | .fork p q,rem,a,w,nd,g,D,E,x,h,F=>by
  unfold Plan.rmE;split
  ·rename_i z;exact qyg T I K p rem a w nd g D E (List.contains_iff_mem.1 z) h.1 F.1
  ·rename_i z;rw[Plan.first,List.mem_append] at x;exact qyg T I K q rem a w nd g D E (x.resolve_left fun h=>z (List.contains_iff_mem.2 h)) h.2 F.2
theorem qyw{eff:Nat→Bool} : ∀ {p:Plan} {a:Act} {w:World},Cov A eff p []→wpP P ops Q C cl kp p a w→Q .normal a w
 | .done,_,_,_,g=>g
 | .step i p,_,_,h,_=>by have:=h.1;cases this
 | .fork p q,_,_,h,g=>qyw h.1 g.1
end
def qeq(l:List Oper)(cl:List Nat)(i:Nat):Bool:=cl.any fun j=> !((qwp l []).getD i []).contains j
def zgo(l:List Oper)(cl:List Nat)(p:Plan):Bool :=
 let A:=qwp l []
 let ops:=l.toArray
 let eff:=fun i=>qa5 ops cl i==2
 Region.noSelect ops&&((List.range l.length).all fun i=>match l[i]? with
  | none=>true
  | some o =>
   (o.after.toList.all fun e=> !Region.binds .any e || decide (e.on<i)) &&
   ((A.getD i []).all fun k=>o.after.toList.any fun e=>Region.binds .any e&&(k==e.on || (A.getD e.on []).contains k)) &&
   ((List.range l.length).all fun j=>i==j || (A.getD i []).contains j || (A.getD j []).contains i || (eff i&&eff j) || qrb ops cl i j)&&decide (qa5 ops cl i≤3)) &&
 qzm A eff p (List.range l.length)&&q27 A eff p (List.range l.length)
end
section
variable {P:Program}{l:List Oper}{Q:Exit→Act→World→Prop}{C:World→Prop}{cl:List Nat}
theorem zgp{A:List (List Nat)}{kp:Nat→Bool}(T:Turns l.toArray cl A kp)(key:∀(i:Nat) o,l[i]? = some o→(∀e∈o.after,Region.binds .any e=true→e.on<i)∧(∀k∈A.getD i [],∃e∈o.after,Region.binds .any e=true∧(k=e.on∨k∈A.getD e.on []))) :
  ∀(v:Nat) (g:Array Bool) (p:Plan) (a:Act) (w:World),(∀j∈cl,j∈(List.range l.length).filter (fun i=> !g.getD i false)→C w)→g.size=l.length→(∀i,g.getD i false=true→∀k∈A.getD i [],g.getD k false=true) →
  ((List.range l.length).filter fun i=> !g.getD i false).length≤v→Cov A (fun i=>qa5 l.toArray cl i==2) p ((List.range l.length).filter fun i=> !g.getD i false)→qma A (fun i=>qa5 l.toArray cl i==2) p ((List.range l.length).filter fun i=> !g.getD i false) →
  wpP P l.toArray Q C cl kp p a w→wpAny P .any l.toArray Q v g a w:=by
 have U:∀(g:Array Bool),g.size=l.length→Region.ready .any l.toArray g=[]→(List.range l.length).filter (fun i=> !g.getD i false)=[]:=by
  intro g F hr;rw[List.filter_eq_nil_iff];intro i M;have M:=List.mem_range.1 M
  induction i using Nat.strongRecOn with
  | _ i ih =>
   cases hl:g.getD i false with
   | true=>simp
   | false =>
    exfalso;have:i∈Region.ready .any l.toArray g:=by
     rw[mem_ready];have O:l[i]? = some l[i]:=List.getElem?_eq_getElem M;refine⟨?_,l[i],by simp[M],fun e he hb=> ?_⟩
     ·rw[Array.getD_eq_getD_getElem?] at hl ⊢;have:i<g.size:=by omega
      rw[Array.getElem?_eq_getElem this] at hl ⊢;simpa using hl
     ·have h1:=(key i _ O).1 e he hb;have:=ih e.on h1 (List.mem_range.2 (by omega)) (by omega);simpa using this
    rw[hr] at this;cases this
 intro v
 induction v with
 | zero =>
  intro g p a w hC F shut a8 m hf h;have h0:(List.range l.length).filter (fun i=> !g.getD i false)=[]:=List.length_eq_zero_iff.1 (by omega);rw[h0] at m;refine⟨?_,qyw m h⟩;rw[List.eq_nil_iff_forall_not_mem];intro i M;obtain⟨K,o,O,-⟩:=mem_ready.1 M;have H:i<l.length:=by simpa using (Array.getElem?_eq_some_iff.1 O).1
  rw[List.filter_eq_nil_iff] at h0;have:=h0 i (List.mem_range.2 H);rw[Array.getD_eq_getD_getElem?] at K this;have hs:i<g.size:=by omega
  rw[Array.getElem?_eq_getElem hs] at K this;simp at K this;rw[K] at this;cases this
 | succ v ih =>
  intro g p a w hC F shut a8 m hf h;refine⟨fun hr=> ?_,fun i M=> ?_⟩
  ·rw[U g F hr] at m;exact qyw m h
  obtain⟨K,o,O,Z⟩:=mem_ready.1 M;have H:i<l.length:=by simpa using (Array.getElem?_eq_some_iff.1 O).1
  have hs:i<g.size:=by omega
  have a9:l[i]? = some o:=by simpa using O
  have b3:g.getD i false=false:=by
   rw[Array.getD_eq_getD_getElem?] at K ⊢;rw[Array.getElem?_eq_getElem hs] at K ⊢;simpa using K
  obtain⟨e1,e2⟩:=key i o a9;have L:∀k∈A.getD i [],g.getD k false=true:=by
   intro k z;obtain⟨e,he,hb,h⟩:=e2 k z;have h1:=Z e he hb;rcases h with rfl | h
   ·exact h1
   ·exact shut _ h1 k h
  have nd:((List.range l.length).filter (fun i=> !g.getD i false)).Nodup:=List.Pairwise.filter _ List.nodup_range;have y:((List.range l.length).filter (fun i=> !g.getD i false)).erase i=(List.range l.length).filter (fun j=> !(g.setIfInBounds i true).getD j false):=by
   rw[List.Nodup.erase_eq_filter nd,List.filter_filter];refine List.filter_congr fun j I=> ?_
   by_cases e:i=j
   ·subst e;have:(g.setIfInBounds i true).getD i false=true:=by simp[hs]
    rw[this];simp
   ·have:(g.setIfInBounds i true).getD j false=g.getD j false:=getD_set_ne false e;rw[this];have:(j != i)=true:=by simpa using fun h=>e h.symm
    rw[this,Bool.and_comm,Bool.and_true]
  have t:i∈(List.range l.length).filter (fun i=> !g.getD i false):=List.mem_filter.2 ⟨List.mem_range.2 H,by rw[b3];rfl⟩;have a5:∀j∈(List.range l.length).filter (fun i=> !g.getD i false),j<l.toArray.size:=fun j I=>by simpa using List.mem_range.1 (List.mem_filter.1 I).1
  have J:∀k∈(List.range l.length).filter (fun i=> !g.getD i false),k∉A.getD i []:=fun k z R=>by
   have:=(List.mem_filter.1 z).2;rw[L k R] at this;cases this
  have N:((List.range l.length).filter fun j=> !(g.setIfInBounds i true).getD j false).length≤v:=by
   rw[←y,List.length_erase_of_mem t];omega
  have E:∀j,(g.setIfInBounds i true).getD j false=true→∀k∈A.getD j [],(g.setIfInBounds i true).getD k false=true:=by
   intro j I k z;by_cases e:i=j
   ·subst e;exact getD_set_true (L k z)
   ·rw[getD_set_ne false e] at I;exact getD_set_true (shut j I k z)
  generalize (List.range l.length).filter (fun i=> !g.getD i false)=rem at *
  by_cases V:qa5 l.toArray cl i=2
  ·have x:(fun i=>qa5 l.toArray cl i==2) i=true:=by simpa using V
   have a4:i∈p.first (fun i=>qa5 l.toArray cl i==2):=by
    rcases hf i t x with h | ⟨k,z,-,R⟩
    ·exact h
    ·exact absurd R (J k z)
   obtain⟨W,X⟩:=qre (eff:=fun i=>qa5 l.toArray cl i==2) (i:=i) x nd t a4 m;have hp:=qyg T O V p rem a w nd a5 t J a4 m h;rw[y] at W X;refine wpOp_mono (fun a' w' z=>ih (g.setIfInBounds i true) _ a' w' (fun j I D=> ?_) (by rw[Array.size_setIfInBounds];exact F) E N W X z.2.2) (zes (fun h=>by rw[V] at h;cases h) hp);refine z.2.1 (by rw[V];rfl) (T.kept i j I fun a7=> ?_);rw[←y] at D;exact J j (List.mem_of_mem_erase D) a7
  ·have x:(fun i=>qa5 l.toArray cl i==2) i=false:=by simpa using V
   have a6:qf9 (qa5 l.toArray cl i)=true:=qtg (T.two i (by simpa using H)) V;have W:=qyh (eff:=fun i=>qa5 l.toArray cl i==2) (i:=i) x nd t m;have X:=qti (eff:=fun i=>qa5 l.toArray cl i==2) (i:=i) x nd hf;have Y:qa5 l.toArray cl i=3→C w:=fun h3=>hC i (q5b h3) t
   have hp:=q6a T O a6 p rem a w Y nd a5 t J m h;rw[y] at W X;refine wpOp_mono (fun a' w' z=>ih (g.setIfInBounds i true) _ a' w' (fun j I D=> ?_) (by rw[Array.size_setIfInBounds];exact F) E N W X z.2.2) (zes Y hp);rw[z.1 a6];rw[←y] at D;exact hC j I (List.mem_of_mem_erase D)
theorem qcq{id:Nat}{a:Act}{w:World}(C:World→Prop)(cl:List Nat)(p:Plan)(O:P.follows .mixedOrders=true)(v:zgo l cl p=true)(M:C w.drew)(h:wpP P l.toArray Q C cl (qeq l cl) p a w.drew):(Code.region id l.toArray true).wp P Q a w:=by
 refine wp_region_any O ?_;have F:(List.range l.length).filter (fun i=> !(Array.replicate l.length false).getD i false)=List.range l.length:=by
  rw[List.filter_eq_self.2 (fun i _=>by rw[qb1];rfl)]
 unfold zgo at v;simp only[Bool.and_eq_true] at v;obtain⟨⟨⟨y,v⟩,m⟩,t⟩:=v;obtain⟨A,J⟩:∃A,A=qwp l []:=⟨_,rfl⟩;have I:∀i j,j∈cl→j∉A.getD i []→qeq l cl i=true:=by
  intro i j x R;unfold qeq;rw[←J];exact List.any_eq_true.2 ⟨j,x,by simpa using R⟩
 rw[←J] at v m t;have key:∀(i:Nat) o,l[i]? = some o→_:=fun i o D=>by
  have g:i<l.length:=(List.getElem?_eq_some_iff.1 D).1;have:=List.all_eq_true.1 v i (List.mem_range.2 g);rw[D] at this;simp only[Bool.and_eq_true] at this;exact this
 have T:Turns l.toArray cl A (qeq l cl):=by
  refine⟨y,fun i j g x H K L=> ?_,fun i g=> ?_,I⟩
  ·have g:i<l.length:=by simpa using g
   have x:j<l.length:=by simpa using x
   obtain⟨⟨-,W⟩,-⟩:=key i _ (List.getElem?_eq_getElem g);have:=List.all_eq_true.1 W j (List.mem_range.2 x);simp only[Bool.or_eq_true,beq_iff_eq,List.contains_iff_mem,Bool.and_eq_true] at this;rcases this with (((h | h) | h) | h) | h
   ·exact absurd h H
   ·exact absurd h K
   ·exact absurd h L
   ·exact .inl h
   ·exact .inr h
  ·have g:i<l.length:=by simpa using g
   obtain⟨-,X⟩:=key i _ (List.getElem?_eq_getElem g);simpa using X
 refine zgp (cl:=cl) (A:=A) T (fun i o D=> ?_) _ _ p a _ (fun _ _ _=>M) (by simp) (fun i g=>by rw[List.size_toArray,qb1] at g;cases g) ?_ ?_ ?_ h
 ·obtain⟨⟨⟨U,V⟩,-⟩,-⟩:=key i o D;refine⟨fun e E z=> ?_,fun k N=> ?_⟩
  ·have:=List.all_eq_true.1 U e (by simpa using E);simpa [z] using this
  ·have:=List.all_eq_true.1 V k N;obtain⟨e,E,z⟩:=List.any_eq_true.1 this;simp only[Bool.and_eq_true,Bool.or_eq_true,beq_iff_eq,List.contains_iff_mem] at z;exact⟨e,by simpa using E,z⟩
 ·rw[List.size_toArray,F];simp
 ·rw[List.size_toArray,F];exact qq5 m
 ·rw[List.size_toArray,F];exact qu3 t
def qep(P:Program)(ops:Array Oper)(Q:Exit→Act→World→Prop):List Oper→Act→World→Prop
 | [],a,w=>Q .normal a w
 | o::r,a,w=>if qcs o≤1 then ∃v,qcw P ops (fun _=>True) (qcs o) w o v a∧qep P ops Q r (a.put o.dst v) w
   else if Region.wanted o (yielded ops a.tmps) then o.wp P a w (qep P ops Q r) noQ else qep P ops Q r (a.put o.dst undef) w
theorem zgt:∀(r:List Oper) (k:Nat),(∀j,r[j]? = l[k+j]?)→∀a w,qep P l.toArray Q r a w→wpP P l.toArray Q (fun _=>True) [] (qeq l []) (Plan.of (List.range' k r.length)) a w:=by
 intro r
 induction r with
 | nil=>intro k _ a w h;exact h
 | cons o r E =>
  intro k h a w g;have x:l.toArray[k]? = some o:=by simpa using (h 0).symm
  have m:=E (k+1) (fun j=>by have:=h (j+1);simpa [Nat.add_assoc,Nat.add_comm 1 j] using this);have z:qa5 l.toArray [] k=qcs o:=by
   unfold qa5;rw[x];simp
  rw[List.length_cons,List.range'_succ,Plan.of,wpP,qcm x,z];rw[qep] at g;have t:qf9 (qcs o)=true↔qcs o≤1:=by
   have F:qcs o≤2:=by
    unfold qcs;split<;>(try split)<;>decide
   constructor
   ·intro h;have:=q1d h;omega
   ·intro h;exact qtg (by omega) (by omega)
  split
  ·rw[if_pos (t.1 ‹_›)] at g;obtain⟨v,y,k⟩:=g;exact⟨v,y,m _ _ k⟩
  ·rw[if_neg (fun h=>absurd (t.2 h) ‹_›)] at g;unfold wpOp;rw[x];simp only[qjj,and_false,or_false];split
   ·rw[if_pos ‹_›] at g;exact Oper.wp_mono (fun a w D=>⟨fun _=>trivial,m _ _ D⟩) g
   ·rw[if_neg ‹_›] at g;exact⟨fun _=>trivial,m _ _ g⟩
theorem zjo{id:Nat}{a:Act}{w:World}(m:P.follows .mixedOrders=true)(g:zgo l [] (Plan.of (List.range' 0 l.length))=true)(h:qep P l.toArray Q l a w.drew):(Code.region id l.toArray true).wp P Q a w :=
 qcq (fun _=>True) [] _ m g trivial (zgt l 0 (by simp) a _ h)
section
variable {ops:Array Oper}{o:Oper}{r:List Oper}{a:Act}{w:World}
theorem tn(h:Q .normal a w):qep P ops Q [] a w:=h
theorem qrs{s:Sem Value}{n:Next}{w w':World}(h:(do pure (Next.value (←s)):Sem Next).run P w = .ok n w'):∃v,n = .value v:=by
 rw[Sem.run_bind] at h;generalize s.run P w=x at h;cases x with
 | ok v w1 =>
  simp only[Result.andThen_ok] at h;injection h with h1 h2;exact⟨v,h1.symm⟩
 | halt x w1=>simp only[Result.andThen_halt] at h;cases h
theorem q66{ρ:Operand→Value}(t:qcs o≤1){n:Next}{w':World}(h:(execOp ρ o).run P w = .ok n w'):∃v,n = .value v:=by
 obtain⟨D,E,z,pos,y,guard⟩:=o;cases E<;>simp only[qcs] at t<;>simp only[execOp] at h
 case move x=>injection h with h1 h2;exact⟨_,h1.symm⟩
 case assign x=>injection h with h1 h2;exact⟨_,h1.symm⟩
 case pick c a b =>
  rw[Sem.run_bind] at h;generalize (asBool (ρ c)).run P w=x at h;cases x with
  | ok v w1=>injection h with h1 h2;exact⟨_,h1.symm⟩
  | halt x w1=>cases h
 case nilCheck x =>
  split at h
  ·cases h
  ·cases h
  ·cases h
  ·split at h
   ·cases h
   ·rw[Sem.run_bind] at h;generalize Sem.run P (program) w=x at h;cases x with
    | halt x w1=>cases h
    | ok p w1 =>
     simp only[Result.andThen_ok] at h;rw[Sem.run_bind] at h;generalize Sem.run P (nilAhead _ _ _ _) w1=x at h;cases x with
     | halt x w1=>cases h
     | ok p w1 =>
      simp only[Result.andThen_ok] at h;split at h
      ·rw[Sem.run_bind] at h;cases h
      ·injection h with h1 h2;exact⟨_,h1.symm⟩
   ·injection h with h1 h2;exact⟨_,h1.symm⟩
  ·injection h with h1 h2;exact⟨_,h1.symm⟩
 case call c =>
  cases g:c.callee with
  | value f=>rw[g] at t;simp at t
  | invoke r m=>rw[g] at t;simp at t
  | builtin b =>
   rw[g] at t;unfold resolve at h;rw[g] at h;cases b<;>first | (simp at t;done) | exact qrs h
 all_goals first | exact qrs h | (simp at t;done)
theorem qt0(D:qcs o≤1){A:Act}(h:∀y,(∀g,g=A→y .normal g w)→wpList P ops y [o] a w):∃v,qez P ops w o v a∧a.put o.dst v=A:=by
 have h:=h (fun e g w'=>e = .normal∧g=A∧w'=w) (fun _ e=>⟨rfl,e,rfl⟩);unfold wpList at h;split at h
 ·rename_i t;rcases h with h | h
  case inr=>obtain⟨_,_,h,-⟩:=h.2;cases h
  unfold Oper.wp at h;cases m:(execOp a.eval o).run P w with
  | halt x w' =>
   rw[m] at h;cases x<;>simp only[Oper.upon] at h
   obtain⟨h,-⟩:=h;cases h
  | ok n w' =>
   obtain⟨v,rfl⟩:=q66 D m;rw[m] at h;obtain⟨-,z,rfl⟩:=h;exact⟨v,.inl ⟨t,m⟩,z⟩
 ·rename_i t;exact⟨undef,.inr ⟨by simpa using t,rfl⟩,h.2.1⟩
theorem tr{A:Act}(t:(qcs o==1)=true)(h:∀g,(∀m,m=A→g .normal m w)→wpList P ops g [o] a w)(k:qep P ops Q r A w):qep P ops Q (o::r) a w:=by
 have y:qcs o=1:=by simpa using t
 rw[qep,if_pos (by omega)];obtain⟨v,x,hv⟩:=qt0 (by omega) h;refine⟨v,?_,by rw[hv];exact k⟩;unfold qcw;rw[if_neg (by omega),if_neg (by omega)];exact x
def qp3(o:Oper)(a:Act):Bool:=match o.dst with | some d=>decide (d<a.tmps.size) | none=>false
theorem qlh{C:World→Prop}(J:qcs o≤1){A:Act}(hd:qp3 o a=true)(t:C w)(h:∀w,C w→∀D,(∀E,E=A→D .normal E w)→wpList P ops D [o] a w):∃v,qcx P ops C o v a∧a.put o.dst v=A:=by
 have hv:∀w,C w→∃v,qez P ops w o v a∧a.put o.dst v=A:=fun w t=>qt0 J (h w t)
 have m:∀v u,a.put o.dst v=a.put o.dst u→v=u:=by
  intro v u e;unfold qp3 at hd;cases g:o.dst with
  | none=>rw[g] at hd;cases hd
  | some d =>
   rw[g] at hd e;have z:d<a.tmps.size:=by simpa using hd
   have H:=congrArg (fun x:Act=>x.tmps[d]?) e;simpa [Act.put,z] using H
 obtain⟨v,L,F⟩:=hv w t;refine⟨v,fun w' y=> ?_,F⟩;obtain⟨u,K,I⟩:=hv w' y;have:v=u:=m v u (F.trans I.symm);rw[this];exact K
theorem tp{A:Act}(y:(qcs o==0)=true)(hd:qp3 o a=true)(h:∀w g,(∀m,m=A→g .normal m w)→wpList P ops g [o] a w)(k:qep P ops Q r A w):qep P ops Q (o::r) a w:=by
 have t:qcs o=0:=by simpa using y
 rw[qep,if_pos (by omega)];obtain⟨v,z,x⟩:=qlh (C:=fun _=>True) (w:=w) (by omega) hd trivial (fun w _=>h w);refine⟨v,?_,by rw[x];exact k⟩;unfold qcw;rw[if_pos t];exact z
theorem te(z:(qcs o==2)=true)(h:∀v,(∀m w',qep P ops Q r m w'→v .normal m w')→wpList P ops v [o] a w):qep P ops Q (o::r) a w:=by
 have D:qcs o=2:=by simpa using z
 rw[qep,if_neg (by omega)];have:=h (fun e m w'=>match e with | .normal=>qep P ops Q r m w' | _=>False) (fun _ _ h=>h);unfold wpList at this;split
 case isFalse t=>rw[if_neg t] at this;exact this
 rename_i t;rw[if_pos t] at this;rcases this with g | g
 case inr =>
  obtain⟨_,_,y⟩:=g.2;exact y.elim
 unfold Oper.wp at *
 generalize (execOp a.eval o).run P w=x at *
 cases x with
 | ok n w' =>
  cases n<;>simp only[Oper.upon] at g ⊢<;>exact g
 | halt x w' =>
  cases x<;>simp only[Oper.upon] at g ⊢
section
variable {C:World→Prop}{cl:List Nat}{p q:Plan}{i:Nat}
def qno:List Oper→Nat→Option Oper
 | [],_=>none
 | o::_,0=>some o
 | _::r,n+1=>qno r n
theorem q57:∀(l:List Oper) (i:Nat),qno l i=l[i]?
 | [],_=>rfl
 | _::_,0=>rfl
 | _::r,n+1=>by rw[qno,q57 r n,List.getElem?_cons_succ]
theorem qmo{i:Nat}{o:Oper}(h:qno l i=some o):l.toArray[i]? = some o:=by rw[List.getElem?_toArray,←q57];exact h
theorem qn(h:Q .normal a w):wpP P l.toArray Q C cl (qeq l cl) .done a w:=h
theorem qf(g:wpP P l.toArray Q C cl (qeq l cl) p a w)(m:wpP P l.toArray Q C cl (qeq l cl) q a w):wpP P l.toArray Q C cl (qeq l cl) (.fork p q) a w:=⟨g,m⟩
theorem qp{A:Act}(g:qno l i=some o)(D:(qa5 l.toArray cl i==0)=true)(hd:qp3 o a=true)(h:∀w t,(∀x,x=A→t .normal x w)→wpList P l.toArray t [o] a w)(k:wpP P l.toArray Q C cl (qeq l cl) p A w):wpP P l.toArray Q C cl (qeq l cl) (.step i p) a w:=by
 replace g:=qmo g;have m:qa5 l.toArray cl i=0:=by simpa using D
 have y:qcs o≤1:=qwz (cl:=cl) g (by rw[m];rfl);rw[wpP,qcm g,if_pos (by rw[m];rfl)];obtain⟨v,E,z⟩:=qlh (C:=fun _=>True) (w:=w) y hd trivial (fun w _=>h w);refine⟨v,?_,by rw[z];exact k⟩;unfold qcw;rw[if_pos m];exact E
theorem qc{A:Act}(g:qno l i=some o)(E:(qa5 l.toArray cl i==3)=true)(hd:qp3 o a=true)(D:C w)(h:∀w,C w→∀t,(∀x,x=A→t .normal x w)→wpList P l.toArray t [o] a w)(k:wpP P l.toArray Q C cl (qeq l cl) p A w):wpP P l.toArray Q C cl (qeq l cl) (.step i p) a w:=by
 replace g:=qmo g;have m:qa5 l.toArray cl i=3:=by simpa using E
 have y:qcs o≤1:=qwz (cl:=cl) g (by rw[m];rfl);rw[wpP,qcm g,if_pos (by rw[m];rfl)];obtain⟨v,F,z⟩:=qlh (w:=w) y hd D h;refine⟨v,?_,by rw[z];exact k⟩;unfold qcw;rw[if_neg (by omega),if_pos m];exact F
theorem qr{A:Act}(g:qno l i=some o)(z:(qa5 l.toArray cl i==1)=true)(h:∀m,(∀t,t=A→m .normal t w)→wpList P l.toArray m [o] a w)(k:wpP P l.toArray Q C cl (qeq l cl) p A w):wpP P l.toArray Q C cl (qeq l cl) (.step i p) a w:=by
 replace g:=qmo g;have x:qa5 l.toArray cl i=1:=by simpa using z
 have y:qcs o≤1:=qwz (cl:=cl) g (by rw[x];rfl);rw[wpP,qcm g,if_pos (by rw[x];rfl)];obtain⟨v,D,hv⟩:=qt0 y h;refine⟨v,?_,by rw[hv];exact k⟩;unfold qcw;rw[if_neg (by omega),if_neg (by omega)];exact D
structure Keeps(a b:Prop):Prop where
 c:a
 k:b
theorem qe'(t:qno l i=some o)(E:(qa5 l.toArray cl i==2)=true)(h:∀y,(∀m w',Keeps (qeq l cl i=true→C w') (wpP P l.toArray Q C cl (qeq l cl) p m w')→y .normal m w')→wpList P l.toArray y [o] a w):wpP P l.toArray Q C cl (qeq l cl) (.step i p) a w:=by
 replace t:=qmo t;have z:qa5 l.toArray cl i=2:=by simpa using E
 rw[wpP,qcm t,if_neg (by rw[z];decide)];have:=h (fun e m w'=>match e with | .normal=>(qeq l cl i=true→C w')∧wpP P l.toArray Q C cl (qeq l cl) p m w' | _=>False) (fun _ _ h=>⟨h.c,h.k⟩);unfold wpList at this;unfold wpOp;rw[t];simp only;split
 case isFalse v=>rw[if_neg v] at this;exact this
 rename_i v;rw[if_pos v] at this;rcases this with g | g
 case inr =>
  obtain⟨_,_,D⟩:=g.2;exact D.elim
 refine .inl ?_;unfold Oper.wp at *
 generalize (execOp a.eval o).run P w=x at *
 cases x with
 | ok n w' =>
  cases n<;>simp only[Oper.upon] at g ⊢<;>exact g
 | halt x w' =>
  cases x<;>simp only[Oper.upon] at g ⊢
theorem qe(v:qno l i=some o)(t:(qa5 l.toArray cl i==2)=true)(h:∀g,(∀m w',Keeps (C w') (wpP P l.toArray Q C cl (qeq l cl) p m w')→g .normal m w')→wpList P l.toArray g [o] a w):wpP P l.toArray Q C cl (qeq l cl) (.step i p) a w :=
 qe' v t fun g x=>h g fun m w' h=>x m w' ⟨fun _=>h.c,h.k⟩
theorem qd(v:qno l i=some o)(t:(qa5 l.toArray cl i==2)=true)(x:qeq l cl i=false)(h:∀g,(∀m w',wpP P l.toArray Q C cl (qeq l cl) p m w'→g .normal m w')→wpList P l.toArray g [o] a w):wpP P l.toArray Q C cl (qeq l cl) (.step i p) a w :=
 qe' v t fun g y=>h g fun m w' h=>y m w' ⟨(fun e=>by rw[x] at e;cases e),h⟩
end
end
end
section
variable {P:Program}{ops:Array Oper}{Q:Exit→Act→World→Prop}{l:List Oper}{o:Oper}{r:List Oper}{a A:Act}{w:World}{C:World→Prop}{cl:List Nat}{p:Plan}{i:Nat}
theorem qg{x:Prop}(h:x):x:=h
theorem zi(h:∀ {w g} {_:∀a',a'=A→g .normal a' w},wpList P ops g [o] a w)(k:qep P ops Q r A w)(m:(qcs o==0)=true:=by with_unfolding_all rfl)(hd:qp3 o a=true:=by with_unfolding_all rfl):qep P ops Q (o::r) a w:=tp m hd (fun _ _ k=>@h _ _ k) k
theorem zj(h:∀ {g} {_:∀a',a'=A→g .normal a' w},wpList P ops g [o] a w)(k:qep P ops Q r A w)(m:(qcs o==1)=true:=by with_unfolding_all rfl):qep P ops Q (o::r) a w:=tr m (fun _ k=>@h _ k) k
theorem zk(h:∀ {g} {_:∀a' w',qep P ops Q r a' w'→g .normal a' w'},wpList P ops g [o] a w)(m:(qcs o==2)=true:=by with_unfolding_all rfl):qep P ops Q (o::r) a w:=te m fun _ k=>@h _ k
theorem zl{id:Nat}(h:qep P l.toArray Q l a w.drew)(m:P.follows .mixedOrders=true:=by kernel_rfl)(g:zgo l [] (Plan.of (List.range' 0 l.length))=true:=by decide +kernel):(Code.region id l.toArray true).wp P Q a w:=zjo m g h
theorem qw1(h:∀ {w g} {_:∀a',a'=A→g .normal a' w},wpList P l.toArray g [o] a w)(k:wpP P l.toArray Q C cl (qeq l cl) p A w)(t:qno l i=some o:=by with_unfolding_all rfl)(m:(qa5 l.toArray cl i==0)=true:=by with_unfolding_all rfl)(hd:qp3 o a=true:=by with_unfolding_all rfl):wpP P l.toArray Q C cl (qeq l cl) (.step i p) a w:=qp t m hd (fun _ _ k=>@h _ _ k) k
theorem qw2(h:∀ {w} {_:C w} {Q'} {_:∀a',a'=A→Q' .normal a' w},wpList P l.toArray Q' [o] a w)(k:wpP P l.toArray Q C cl (qeq l cl) p A w)(t:qno l i=some o:=by with_unfolding_all rfl)(m:(qa5 l.toArray cl i==3)=true:=by with_unfolding_all rfl)(hd:qp3 o a=true:=by with_unfolding_all rfl)(g:C w:=by with_reducible assumption):wpP P l.toArray Q C cl (qeq l cl) (.step i p) a w:=qc t m hd g (fun _ c _ k=>@h _ c _ k) k
theorem qw3(h:∀ {g} {_:∀a',a'=A→g .normal a' w},wpList P l.toArray g [o] a w)(k:wpP P l.toArray Q C cl (qeq l cl) p A w)(t:qno l i=some o:=by with_unfolding_all rfl)(m:(qa5 l.toArray cl i==1)=true:=by with_unfolding_all rfl):wpP P l.toArray Q C cl (qeq l cl) (.step i p) a w:=qr t m (fun _ k=>@h _ k) k
theorem qw4(h:∀ {g} {_:∀a' w',wpP P l.toArray Q C cl (qeq l cl) p a' w'→g .normal a' w'},wpList P l.toArray g [o] a w)(t:qno l i=some o:=by with_unfolding_all rfl)(m:(qa5 l.toArray cl i==2)=true:=by with_unfolding_all rfl)(v:qeq l cl i=false:=by decide +kernel):wpP P l.toArray Q C cl (qeq l cl) (.step i p) a w:=qd t m v fun _ k=>@h _ k
theorem qw5(h:∀ {g} {_:∀a' w',Keeps (C w') (wpP P l.toArray Q C cl (qeq l cl) p a' w')→g .normal a' w'},wpList P l.toArray g [o] a w)(t:qno l i=some o:=by with_unfolding_all rfl)(m:(qa5 l.toArray cl i==2)=true:=by with_unfolding_all rfl):wpP P l.toArray Q C cl (qeq l cl) (.step i p) a w:=qe t m fun _ k=>@h _ k
end
theorem Upd.ofDrew{S:Nat→Prop}{w w':World}(h:Upd S w.drew w'):Upd S w w':=⟨h.os,h.tape,h.output,h.size,h.block⟩
theorem Q.ofDrew{w w':World}(h:Q w.drew w'):Q w w':=by
 obtain⟨n,rfl⟩:=h;exact⟨1+n,rfl |>.trans (World.drewN_drewN w 1 n)⟩
theorem qk2{x:Int}(g : -9223372036854775808≤x)(m:x≤9223372036854775807):IntKind.i64.wrap x=x:=by rw[IntKind.wrap_i64];omega
theorem qdq{x:Int}(g:0≤x)(m:x≤18446744073709551615):IntKind.u64.wrap x=x:=by rw[IntKind.wrap_u64];omega
end Go.Proofs.YthnohmjbbeahmaaGreatDoor
