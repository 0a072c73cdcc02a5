/-
  A region that draws its order, whose operations with effects stand in a row: it may be walked in its lexical order. Operations that only compute may stand anywhere; loads wait for, or are waited for by, each operation with an effect.
-/
import Derived.Test.YtfmkdoachjgjbaaGreatDoorMaa
set_option linter.unusedVariables false
set_option linter.unusedSimpArgs false
namespace Go.Proofs.YtfmkdoachjgjbaaGreatDoor
open Go.RowKit
def qcb(o:Oper):Nat :=
 match o.op with
 | .move _ | .assign _ | .pick .. | .extract .. | .fieldAddr .. | .field .. | .makeFunc .. | .nilCheck _ | .binOp .. | .unOp .. | .indexAddr .. | .index .. | .build .. | .slice .. => 0
 | .load .. | .lookup .. | .convert .. => 1
 | .call c=>match c.callee with | .builtin .len=>0 | .builtin .cap=>0 | _=>2
 | _=>2
def noQ:Exit→Act→World→Prop:=fun _ _ _=>False
section
variable {P:Program}{ops:Array Oper}{Q:Exit→Act→World→Prop}
def qdq(P:Program)(ops:Array Oper)(w:World)(o:Oper)(v:Value)(a:Act):Prop :=
 (Region.wanted o (yielded ops a.tmps)=true∧(execOp a.eval o).run P w = .ok (.value v) w)∨(Region.wanted o (yielded ops a.tmps)=false∧v=undef)
theorem qdq.of_same{o:Oper}{v:Value}{a f:Act}{w:World}(E:qdq P ops w o v a)(m:execOp f.eval o=execOp a.eval o)
  (z:Region.wanted o (yielded ops f.tmps)=Region.wanted o (yielded ops a.tmps)):qdq P ops w o v f:=by
 unfold qdq at *
 rw[m,z]
 exact E
theorem qdq.wpOp{i:Nat}{o:Oper}{v:Value}{a:Act}{w:World}(m:ops[i]? = some o)(E:qdq P ops w o v a)
  {K:Act→World→Prop} (h:K (a.put o.dst v) w):wpOp P ops Q i K a w:=by
 unfold Go.wpOp
 simp only[m]
 rcases E with ⟨f,z⟩ | ⟨f,rfl⟩
 ·simp only[f,if_true,Oper.wp,z,Oper.upon];exact .inl h
 ·simp only[f,Bool.false_eq_true,if_false];exact h
theorem qib{o:Oper}{v u:Value}{a:Act}{w:World}(m:qdq P ops w o v a)(f:qdq P ops w o u a):v=u:=by
 rcases m with ⟨a1,a2⟩ | ⟨a1,a2⟩<;>rcases f with ⟨b1,b2⟩ | ⟨b1,b2⟩
 ·have:=a2.symm.trans b2;simpa using this
 ·rw[a1] at b1;cases b1
 ·rw[a1] at b1;cases b1
 ·rw[a2,b2]
def qce(P:Program)(ops:Array Oper)(C:World→Prop)(o:Oper)(v:Value)(a:Act):Prop:=∀w,C w→qdq P ops w o v a
theorem qce.of_same{C:World→Prop}{o:Oper}{v:Value}{a f:Act}(F:qce P ops C o v a)(z:execOp f.eval o=execOp a.eval o)
  (E:Region.wanted o (yielded ops f.tmps)=Region.wanted o (yielded ops a.tmps)):qce P ops C o v f:=fun w m=>(F w m).of_same z E
def qcd(P:Program)(ops:Array Oper)(C:World→Prop)(c:Nat)(w:World)(o:Oper)(v:Value)(a:Act):Prop:=if c=0 then qce P ops (fun _=>True) o v a else if c=3 then qce P ops C o v a else qdq P ops w o v a
theorem qcd.w{C:World→Prop}{c:Nat}{o:Oper}{v:Value}{a:Act}{w:World}(f:qcd P ops C c w o v a)(m:c=3→C w):qdq P ops w o v a:=by
 unfold qcd at f;split at f
 ·exact f w trivial
 ·split at f
  ·exact f w (m ‹_›)
  ·exact f
theorem qcd.of_same{C:World→Prop}{c:Nat}{o:Oper}{v:Value}{a m:Act}{w:World}(f:qcd P ops C c w o v a)(z:execOp m.eval o=execOp a.eval o)
  (E:Region.wanted o (yielded ops m.tmps)=Region.wanted o (yielded ops a.tmps)):qcd P ops C c w o v m:=by
 unfold qcd at *
 split at f
 ·rw[if_pos ‹_›];exact f.of_same z E
 ·rw[if_neg ‹_›];split at f
  ·rw[if_pos ‹_›];exact f.of_same z E
  ·rw[if_neg ‹_›];exact f.of_same z E
def qaz(ops:Array Oper)(cl:List Nat)(i:Nat):Nat :=
 match ops[i]? with
 | none=>0
 | some o=>if qcb o==1&&cl.contains i then 3 else qcb o
def qer(c:Nat):Bool:=c==0 || c==1 || c==3
theorem qr4{cl:List Nat}{i:Nat}{o:Oper}(m:ops[i]? = some o)(h:qer (qaz ops cl i)=true):qcb o≤1:=by
 have e:qaz ops cl i=if (qcb o==1&&cl.contains i)=true then 3 else qcb o:=by unfold qaz;rw[m]
 rw[e] at h;by_cases f:(qcb o==1&&cl.contains i)=true
 ·rw[Bool.and_eq_true,beq_iff_eq] at f;omega
 ·rw[if_neg f] at h;unfold qer at h;simp only[Bool.or_eq_true,beq_iff_eq] at h;have:qcb o≤2:=by
   unfold qcb;split<;>(try split)<;>decide
  omega
theorem qy1{cl:List Nat}{i:Nat}(h:qaz ops cl i=3):i∈cl:=by
 unfold qaz at h;split at h
 ·cases h
 ·rename_i o m;split at h
  ·rename_i f;simp at f;exact f.2
  ·have:qcb o≤2:=by
    unfold qcb;split<;>(try split)<;>decide
   omega
def wpI(P:Program)(ops:Array Oper)(C:World→Prop)(cl:List Nat)(kp:Nat→Bool)(i:Nat)(K:Act→World→Prop)(a:Act)(w:World):Prop :=
 match ops[i]? with
 | none=>K a w
 | some o=>if qer (qaz ops cl i)=true then ∃v,qcd P ops C (qaz ops cl i) w o v a∧K (a.put o.dst v) w else wpOp P ops noQ i (fun f w'=>(kp i=true→C w')∧K f w') a w
section
variable {C:World→Prop}{cl:List Nat}{kp:Nat→Bool}
theorem qb6{i:Nat}{o:Oper}{K:Act→World→Prop}{a:Act}{w:World}(m:ops[i]? = some o):wpI P ops C cl kp i K a w=if qer (qaz ops cl i)=true then ∃v,qcd P ops C (qaz ops cl i) w o v a∧K (a.put o.dst v) w else wpOp P ops noQ i (fun f w'=>(kp i=true→C w')∧K f w') a w:=by
 unfold wpI;rw[m]
theorem qg9:¬LetsOut noQ:=fun⟨_,_,h⟩=>h
theorem zc5{o:Oper}{a:Act}{w:World}{K:Act→World→Prop}(h:o.wp P a w K noQ):o.wp P a w K Q:=by
 unfold Oper.wp at *
 generalize (execOp a.eval o).run P w=r at *
 cases r with
 | ok n w' =>
  cases n<;>simp only[Oper.upon] at h ⊢<;>try exact h
  refine Calls.mono h fun e m f=> ?_
  cases e with
  | returned v=>exact f
  | panicked c=>exact f.elim
  | outgrown=>exact absurd f qg9
 | halt x w' =>
  cases x<;>simp only[Oper.upon] at h ⊢
  exact h.elim
theorem q8m{i:Nat}{a:Act}{w:World}{K:Act→World→Prop}(h:wpOp P ops noQ i K a w):wpOp P ops Q i K a w:=by
 unfold wpOp at *
 split
 ·rename_i f;simp only[f] at h;exact h
 ·rename_i o f;simp only[f] at h;split
  ·rename_i m;rw[if_pos m] at h;rcases h with h | h
   ·exact .inl (zc5 h)
   ·exact absurd h.2 qg9
  ·rename_i m;rw[if_neg m] at h;exact h
theorem q8l{i:Nat}{a:Act}{w:World}{K:Act→World→Prop}(I:qaz ops cl i=3→C w)(h:wpI P ops C cl kp i K a w):wpOp P ops Q i (fun E w'=>(qer (qaz ops cl i)=true→w'=w)∧(qer (qaz ops cl i)=false→kp i=true→C w')∧K E w') a w:=by
 unfold wpI at h;cases f:ops[i]? with
 | none=>rw[f] at h;unfold wpOp;rw[f];exact⟨fun _=>rfl,(fun h=>by have:qaz ops cl i=0:=(by unfold qaz;rw[f]);rw[this] at h;cases h),h⟩
 | some o =>
  rw[f] at h;simp only at h;split at h
  ·rename_i m;obtain⟨v,F,H⟩:=h;exact(F.w I).wpOp f ⟨fun _=>rfl,(fun h=>by rw[m] at h;cases h),H⟩
  ·rename_i m;refine wpOp_mono (fun a w z=>⟨fun h=>absurd h m,fun _=>z.1,z.2⟩) (q8m h)
theorem qrg{j:Nat}{m z:Oper}{v:Value}(U:ops[j]? = some z)(J:m.apart ops z=true)(L:∀cs b,m.op ≠ .select cs b)(M:∀cs b,z.op ≠ .select cs b)
  {K:Act→World→Prop} {a:Act} {w:World} (E:qce P ops C m v a) (h:wpOp P ops noQ j K (a.put m.dst v) w) :
  wpOp P ops noQ j (fun R w'=>qce P ops C m v R∧K (R.put m.dst v) w') a w:=by
 obtain⟨S,H,T⟩:=Oper.apart_spec J
 have keep:∀(a:Act),qce P ops C m v a→∀u,qce P ops C m v (a.put z.dst u):=fun a E u =>
  E.of_same (execOp_put m L a z.dst u T) (wanted_put m a z.dst u T)
 have F:∀d,qce P ops C m v {a with defers:=d::a.defers} := fun d=>E.of_same rfl rfl
 unfold wpOp at *
 simp only[U] at *
 rw[wanted_put z a m.dst v S] at h
 split
 ·rename_i N;simp only[N,if_true] at h;rcases h with h | h
  case inr=>exact absurd h.2 qg9
  refine .inl ?_;unfold Oper.wp at *
  rw[execOp_put z M a m.dst v S] at h;generalize (execOp a.eval z).run P w=r at *
  cases r with
  | ok n w' =>
   cases n<;>simp only[Oper.upon] at h ⊢
   case value u=>exact⟨keep a E u,by rw[←Act.put_comm a v u H];exact h⟩
   case skip=>exact⟨keep a E _,by rw[←Act.put_comm a v undef H];exact h⟩
   case defer d =>
    refine⟨keep _ (F d) _,?_⟩;rw[←Act.put_comm _ v undef H,←Act.put_defers];exact h
   case enter f args =>
    refine Calls.mono h fun e O I=> ?_
    cases e with
    | returned u=>exact⟨keep a E u,by rw[←Act.put_comm a v u H];exact I⟩
    | panicked c=>exact I.elim
    | outgrown=>exact I
   case row row args=>exact Rows.mono h fun u O I=>⟨keep a E u,by rw[←Act.put_comm a v u H];exact I⟩
  | halt x w' =>
   cases x<;>simp only[Oper.upon] at h ⊢
   case panic u=>exact h.elim
 ·rename_i N;simp only[N] at h;exact⟨keep a E _,by rw[←Act.put_comm a v undef H];exact h⟩
theorem qrf{j:Nat}{z E:Oper}(hj:ops[j]? = some E)(S:z.apart ops E=true)(T:∀cs b,z.op ≠ .select cs b)(U:∀cs b,E.op ≠ .select cs b)
  {K:Act→World→Prop} {a:Act} {w:World} (h:wpOp P ops noQ j (fun Y w'=>C w'∧∃v,qce P ops C z v Y∧K (Y.put z.dst v) w') a w) :
  ∃v,qce P ops C z v a∧wpOp P ops noQ j K (a.put z.dst v) w:=by
 obtain⟨O,L,Z⟩:=Oper.apart_spec S
 have m:∀(a:Act) u v,qce P ops C z v (a.put E.dst u)→qce P ops C z v a:=fun a u v F =>
  F.of_same (execOp_put z T a E.dst u Z).symm (wanted_put z a E.dst u Z).symm
 unfold wpOp at *
 simp only[hj] at *
 split at h
 ·rename_i V;rcases h with h | h
  case inr=>exact absurd h.2 qg9
  unfold Oper.wp at *
  have key:∀v,qce P ops C z v a→Oper.upon P E (a.put z.dst v) K noQ ((execOp a.eval E).run P w)→∃v,qce P ops C z v a∧(if Region.wanted E (yielded ops (a.put z.dst v).tmps)=true then (Oper.upon P E (a.put z.dst v) K noQ ((execOp (a.put z.dst v).eval E).run P w)∨E.asks P (a.put z.dst v) w∧LetsOut noQ) else K ((a.put z.dst v).put E.dst undef) w):=by
   intro v F H;refine⟨v,F,?_⟩;rw[wanted_put E a z.dst v O,if_pos V,execOp_put E U a z.dst v O];exact .inl H
  generalize (execOp a.eval E).run P w=r at h key;cases r with
  | ok n w' =>
   cases n<;>simp only[Oper.upon] at h key
   case value u =>
    obtain⟨-,v,F,H⟩:=h;exact key v (m _ _ _ F) (by rw[Act.put_comm a v u L];exact H)
   case skip =>
    obtain⟨-,v,F,H⟩:=h;exact key v (m _ _ _ F) (by rw[Act.put_comm a v undef L];exact H)
   case defer d =>
    obtain⟨-,v,F,H⟩:=h;refine key v ((m _ _ _ F).of_same rfl rfl) ?_;have e:=Act.put_comm ({a with defers:=d::a.defers} : Act) v undef L;have e2:=Act.put_defers a z.dst v d;rw[e2,e];exact H
   case enter f args =>
    obtain⟨e,w2,fr,R,-⟩:=h [];cases e with
    | panicked c=>exact R.elim
    | outgrown=>exact absurd R qg9
    | returned u =>
     obtain⟨-,v,F,-⟩:=R;have I:=m _ _ _ F;refine key v I (Calls.mono h fun e X N=> ?_);cases e with
     | panicked c=>exact N
     | outgrown=>exact N
     | returned W =>
      obtain⟨M,v',J,H⟩:=N;have:=qib (I _ M) (m _ _ _ J _ M);subst this;show K _ _;rw[Act.put_comm a v W L];exact H
   case row row args =>
    obtain⟨u,w2,⟨-,v,F,-⟩,-⟩:=h (Frame.ofRow P row args .normal) [];have I:=m _ _ _ F;refine key v I (Rows.mono h fun W X N=> ?_);obtain⟨M,v',J,H⟩:=N;have:=qib (I _ M) (m _ _ _ J _ M);subst this;show K _ _;rw[Act.put_comm a v W L];exact H
  | halt x w' =>
   cases x<;>simp only[Oper.upon] at h
   exact h.elim
 ·rename_i V;obtain⟨-,v,F,H⟩:=h;refine⟨v,m _ _ _ F,?_⟩;rw[wanted_put E a z.dst v O,if_neg V,Act.put_comm a v undef L];exact H
def qnl(ops:Array Oper)(cl:List Nat)(i j:Nat):Bool :=
 match ops[i]?,ops[j]? with
 | some x,some y=>x.apart ops y&&(qaz ops cl i==0 || qaz ops cl j==0 || qaz ops cl i==3 || qaz ops cl j==3 || (qaz ops cl i==1&&qaz ops cl j==1))
 | _,_=>true
theorem qnz{x y:Oper}(h:x.apart ops y=true):y.apart ops x=true:=by
 unfold Oper.apart at *
 cases m:x.dst with
 | none=>rw[m] at h;cases f:y.dst with
  | none=>rfl
  | some e=>rw[f] at h;simpa using h
 | some d=>rw[m] at h;cases f:y.dst with
  | none=>rw[f] at h;simpa using h
  | some e =>
   rw[f] at h;simp only[Bool.and_eq_true,Bool.not_eq_true',bne_iff_ne,ne_eq,Option.some.injEq] at h ⊢;exact⟨⟨h.2,fun v=>h.1.2 v.symm⟩,h.1.1⟩
theorem zbo{i j:Nat}{m S:Oper}(R:ops[i]? = some m)(O:ops[j]? = some S)(Y:qnl ops cl i j=true)(I:∀cs b,m.op ≠ .select cs b)(J:∀cs b,S.op ≠ .select cs b)(a6:qaz ops cl i=3→kp j=true)
  {K:Act→World→Prop} {a:Act} {w:World} (h:wpI P ops C cl kp j (fun a w=>wpI P ops C cl kp i K a w) a w):wpI P ops C cl kp i (fun a w=>wpI P ops C cl kp j K a w) a w:=by
 unfold qnl at Y
 rw[R,O] at Y
 simp only[Bool.and_eq_true,Bool.or_eq_true,beq_iff_eq] at Y
 obtain⟨H,hc⟩:=Y
 obtain⟨h1,h2,h3⟩:=Oper.apart_spec H
 rw[qb6 O] at h
 rw[qb6 R]
 by_cases F:qer (qaz ops cl j)=true
 ·rw[if_pos F] at h;obtain⟨T,U,h⟩:=h;rw[qb6 R] at h;by_cases E:qer (qaz ops cl i)=true
  ·rw[if_pos E] at h ⊢;obtain⟨vi,yi,h⟩:=h;refine⟨vi,yi.of_same (execOp_put m I a S.dst T h3).symm (wanted_put m a S.dst T h3).symm,?_⟩;rw[qb6 O,if_pos F];refine⟨T,U.of_same (execOp_put S J a m.dst vi h1) (wanted_put S a m.dst vi h1),?_⟩;rw[Act.put_comm a vi T h2];exact h
  ·rw[if_neg E] at h ⊢;have a7:qaz ops cl i≠0∧qaz ops cl i≠1∧qaz ops cl i≠3:=by
    unfold qer at E;simp only[Bool.or_eq_true,beq_iff_eq,not_or] at E;exact⟨E.1.1,E.1.2,E.2⟩
   have f:qaz ops cl j=0∨qaz ops cl j=3:=by omega
   unfold qcd at U;rcases f with f | f
   ·rw[if_pos f] at U;refine wpOp_mono ?_ (qrg R (qnz H) J I U h);rintro M w' ⟨y',N,z⟩;refine⟨N,?_⟩;rw[qb6 O,if_pos F];refine⟨T,?_,z⟩;unfold qcd;rw[if_pos f];exact y'
   ·rw[if_neg (by omega),if_pos f] at U;refine wpOp_mono ?_ (qrg R (qnz H) J I U h);rintro M w' ⟨y',N,z⟩;refine⟨N,?_⟩;rw[qb6 O,if_pos F];refine⟨T,?_,z⟩;unfold qcd;rw[if_neg (by omega),if_pos f];exact y'
 ·rw[if_neg F] at h;have a8:qaz ops cl j≠0∧qaz ops cl j≠1∧qaz ops cl j≠3:=by
   unfold qer at F;simp only[Bool.or_eq_true,beq_iff_eq,not_or] at F;exact⟨F.1.1,F.1.2,F.2⟩
  have V:qaz ops cl i=0∨qaz ops cl i=3:=by omega
  have E:qer (qaz ops cl i)=true:=by
   unfold qer;rcases V with e | e<;>rw[e]<;>rfl
  rw[if_pos E];have W:∀v,(∃Z,Z=v∧qcd P ops C (qaz ops cl i) w m Z a)→wpOp P ops noQ j (fun a w=>(kp j=true→C w)∧K a w) (a.put m.dst v) w→∃v,qcd P ops C (qaz ops cl i) w m v a∧wpI P ops C cl kp j K (a.put m.dst v) w:=by
   rintro v ⟨Z,rfl,L⟩ z;refine⟨Z,L,?_⟩;rw[qb6 O,if_neg F];exact z
  rcases V with f | f
  ·have h':wpOp P ops noQ j (fun M w'=>(fun _=>True) w'∧∃v,qce P ops (fun _=>True) m v M∧(fun a w=>(kp j=true→C w)∧K a w) (M.put m.dst v) w') a w:=by
    refine wpOp_mono ?_ h;rintro M w' ⟨N,X⟩;rw[qb6 R,if_pos E] at X;obtain⟨v,L,z⟩:=X;refine⟨trivial,v,?_,N,z⟩;simpa only[qcd,if_pos f] using L
   obtain⟨v,L,z⟩:=qrf (C:=fun _=>True) (K:=fun a w=>(kp j=true→C w)∧K a w) O H I J h';refine W v ⟨v,rfl,?_⟩ z;unfold qcd;rw[if_pos f];exact L
  ·have h':wpOp P ops noQ j (fun M w'=>C w'∧∃v,qce P ops C m v M∧(fun a w=>(kp j=true→C w)∧K a w) (M.put m.dst v) w') a w:=by
    refine wpOp_mono ?_ h;rintro M w' ⟨N,X⟩;rw[qb6 R,if_pos E] at X;obtain⟨v,L,z⟩:=X;refine⟨N (a6 f),v,?_,N,z⟩;unfold qcd at L;rw[if_neg (by omega),if_pos f] at L;exact L
   obtain⟨v,L,z⟩:=qrf (C:=C) (K:=fun a w=>(kp j=true→C w)∧K a w) O H I J h';refine W v ⟨v,rfl,?_⟩ z;unfold qcd;rw[if_neg (by omega),if_pos f];exact L
end
inductive Plan where
 | done
 | step (i:Nat) (p:Plan)
 | fork (p q:Plan)
def Plan.first(eff:Nat→Bool):Plan→List Nat
 | .done=>[]
 | .step i p=>if eff i then [i] else p.first eff
 | .fork p q=>p.first eff++q.first eff
def Plan.of:List Nat→Plan
 | []=> .done
 | i::r=> .step i (Plan.of r)
def qjf(A:List (List Nat))(eff:Nat→Bool)(p:Plan)(rem:List Nat):Prop:=∀j∈rem,eff j=true→j∈p.first eff∨∃k∈rem,eff k=true∧k∈A.getD j []
def Cov(A:List (List Nat))(eff:Nat→Bool):Plan→List Nat→Prop
 | .done,rem=>rem=[]
 | .step i p,rem=>i∈rem∧(∀k∈rem,k∉A.getD i [])∧Cov A eff p (rem.erase i)∧(eff i=true→qjf A eff p (rem.erase i))
 | .fork p q,rem=>Cov A eff p rem∧Cov A eff q rem
def qws(A:List (List Nat))(eff:Nat→Bool)(p:Plan)(rem:List Nat):Bool:=rem.all fun j=> !eff j || (p.first eff).contains j || rem.any fun k=>eff k&&(A.getD j []).contains k
def qts(A:List (List Nat))(eff:Nat→Bool):Plan→List Nat→Bool
 | .done,rem=>rem.isEmpty
 | .step i p,rem=>rem.contains i&&(rem.all fun k=> !(A.getD i []).contains k)&&qts A eff p (rem.erase i)&&(!eff i || qws A eff p (rem.erase i))
 | .fork p q,rem=>qts A eff p rem&&qts A eff q rem
theorem qqc{A:List (List Nat)}{eff:Nat→Bool}{p:Plan}{rem:List Nat}(h:qws A eff p rem=true):qjf A eff p rem:=by
 intro j v m;have:=List.all_eq_true.1 h j v;rw[m] at this;simp only[Bool.not_true,Bool.false_or,Bool.or_eq_true] at this;rcases this with h | h
 ·exact .inl (List.contains_iff_mem.1 h)
 ·obtain⟨k,z,f⟩:=List.any_eq_true.1 h;rw[Bool.and_eq_true] at f;exact .inr ⟨k,z,f.1,List.contains_iff_mem.1 f.2⟩
theorem qm9{A:List (List Nat)}{eff:Nat→Bool} : ∀ {p:Plan} {rem:List Nat},qts A eff p rem=true→Cov A eff p rem
 | .done,rem,h=>by simpa [qts,Cov] using h
 | .step i p,rem,h=>by
  unfold qts at h;simp only[Bool.and_eq_true] at h;obtain⟨⟨⟨m,v⟩,z⟩,f⟩:=h;refine⟨List.contains_iff_mem.1 m,fun k F=> ?_,qm9 z,fun E=> ?_⟩
  ·have:=List.all_eq_true.1 v k F;simpa using this
  ·rw[E] at f;exact qqc (by simpa using f)
 | .fork p q,rem,h=>by
  unfold qts at h;rw[Bool.and_eq_true] at h;exact⟨qm9 h.1,qm9 h.2⟩
def wpP(P:Program)(ops:Array Oper)(Q:Exit→Act→World→Prop)(C:World→Prop)(cl:List Nat)(kp:Nat→Bool):Plan→Act→World→Prop
 | .done,a,w=>Q .normal a w
 | .step i p,a,w=>wpI P ops C cl kp i (wpP P ops Q C cl kp p) a w
 | .fork p q,a,w=>wpP P ops Q C cl kp p a w∧wpP P ops Q C cl kp q a w
def Plan.rm(i:Nat):Plan→Plan
 | .done=> .done
 | .step j p=>if i=j then p else .step j (p.rm i)
 | .fork p q=> .fork (p.rm i) (q.rm i)
def Plan.rmE(eff:Nat→Bool)(i:Nat):Plan→Plan
 | .done=> .done
 | .step j p=>if i=j then p else .step j (p.rmE eff i)
 | .fork p q=>if (p.first eff).contains i then p.rmE eff i else q.rmE eff i
section
variable {A:List (List Nat)}{eff:Nat→Bool}
theorem qla{i:Nat}(f:eff i=false):∀p:Plan,(p.rm i).first eff=p.first eff
 | .done=>rfl
 | .step j p=>by
  unfold Plan.rm;split
  ·rename_i e;subst e;rw[Plan.first,f];rfl
  ·rw[Plan.first,Plan.first,qla f p]
 | .fork p q=>by rw[Plan.rm,Plan.first,Plan.first,qla f p,qla f q]
theorem qo1{i:Nat}(v:eff i=false){p:Plan}{rem:List Nat}(H:rem.Nodup)(h:qjf A eff p rem):qjf A eff (p.rm i) (rem.erase i):=by
 intro j E z;rw[qla v];rcases h j (List.mem_of_mem_erase E) z with h | ⟨k,F,f,m⟩
 ·exact .inl h
 ·exact .inr ⟨k,(H.mem_erase_iff).2 ⟨(fun e=>by rw[e,v] at f;cases f),F⟩,f,m⟩
theorem qsw{i:Nat}(v:eff i=false):∀ {p:Plan} {rem:List Nat},rem.Nodup→i∈rem→Cov A eff p rem→Cov A eff (p.rm i) (rem.erase i)
 | .done,rem,f,m,h=>by rw[Cov] at h;rw[h] at m;cases m
 | .step j p,rem,f,m,h=>by
  obtain⟨H,I,E,J⟩:=h;unfold Plan.rm;split
  ·rename_i e;subst e;exact E
  ·rename_i e;have z:i∈rem.erase j:=(f.mem_erase_iff).2 ⟨e,m⟩;refine⟨(f.mem_erase_iff).2 ⟨fun F=>e F.symm,H⟩,fun k L=>I k (List.mem_of_mem_erase L),?_,fun K=> ?_⟩
   ·rw[List.erase_comm];exact qsw v (f.erase j) z E
   ·rw[List.erase_comm];exact qo1 v (f.erase j) (J K)
 | .fork p q,rem,f,m,h=>⟨qsw v f m h.1,qsw v f m h.2⟩
theorem qnn{i:Nat}(F:eff i=true):∀ {p:Plan} {rem:List Nat},rem.Nodup→i∈rem→i∈p.first eff→Cov A eff p rem→Cov A eff (p.rmE eff i) (rem.erase i)∧qjf A eff (p.rmE eff i) (rem.erase i)
 | .done,rem,m,E,f,h=>by cases f
 | .step j p,rem,m,E,f,h=>by
  obtain⟨T,U,R,V⟩:=h;unfold Plan.rmE;split
  ·rename_i e;subst e;exact⟨R,V F⟩
  ·rename_i e;have z:eff j=false:=by
    cases z:eff j with
    | false=>rfl
    | true =>
     rw[Plan.first,z] at f;simp at f;exact absurd f e
   have J:i∈p.first eff:=by rw[Plan.first,z] at f;exact f
   have K:i∈rem.erase j:=(m.mem_erase_iff).2 ⟨e,E⟩;obtain⟨N,O⟩:=qnn F (m.erase j) K J R;rw[List.erase_comm] at N O;refine⟨⟨(m.mem_erase_iff).2 ⟨fun H=>e H.symm,T⟩,fun k L=>U k (List.mem_of_mem_erase L),N,fun v=>by rw[z] at v;cases v⟩,?_⟩;intro k L v;have M:k≠j:=fun H=>by rw[H,z] at v;cases v
   rw[Plan.first,z];rcases O k (((m.erase i).mem_erase_iff).2 ⟨M,L⟩) v with h | ⟨W,h,S⟩
   ·exact .inl h
   ·exact .inr ⟨W,List.mem_of_mem_erase h,S⟩
 | .fork p q,rem,m,E,f,h=>by
  unfold Plan.rmE;split
  ·rename_i I;exact qnn F m E (List.contains_iff_mem.1 I) h.1
  ·rename_i I;rw[Plan.first,List.mem_append] at f;exact qnn F m E (f.resolve_left fun h=>I (List.contains_iff_mem.2 h)) h.2
end
section
variable {C:World→Prop}{cl:List Nat}{A:List (List Nat)}{kp:Nat→Bool}
structure Turns(ops:Array Oper)(cl:List Nat)(A:List (List Nat))(kp:Nat→Bool):Prop where
 sel:Region.noSelect ops=true
 turn:∀i j,i<ops.size→j<ops.size→i≠j→j∉A.getD i []→i∉A.getD j []→(qaz ops cl i=2∧qaz ops cl j=2)∨qnl ops cl i j=true
 two:∀i,i<ops.size→qaz ops cl i≤3
 kept:∀i j,j∈cl→j∉A.getD i []→kp i=true
theorem qvb{c:Nat}(h:qer c=true):c≠2:=by
 rintro rfl;cases h
theorem qoz{c:Nat}(h:c≤3)(f:c≠2):qer c=true:=by
 have:c=0∨c=1∨c=3:=by omega
 rcases this with rfl | rfl | rfl<;>rfl
theorem qzm(T:Turns ops cl A kp){i:Nat}{oi:Oper}(I:ops[i]? = some oi)(M:qer (qaz ops cl i)=true):∀(p:Plan) (rem:List Nat) (a:Act) (w:World),(qaz ops cl i=3→C w)→rem.Nodup→(∀j∈rem,j<ops.size)→i∈rem→(∀k∈rem,k∉A.getD i [])→Cov A (fun i=>qaz ops cl i==2) p rem →
  wpP P ops Q C cl kp p a w→wpI P ops C cl kp i (wpP P ops Q C cl kp (p.rm i)) a w
 | .done,rem,a,w,E,L,f,z,J,h,K=>by rw[Cov] at h;rw[h] at z;cases z
 | .step j p,rem,a,w,E,L,f,z,J,h,K=>by
  obtain⟨W,X,h3,h4⟩:=h;unfold Plan.rm;split
  ·rename_i e;subst e;exact K
  ·rename_i e;have U:i∈rem.erase j:=(L.mem_erase_iff).2 ⟨e,z⟩;have m:=f j W;have V:ops[j]? = some (ops[j]'m):=Array.getElem?_eq_getElem m;have N:qaz ops cl i=3→kp j=true:=fun S=>T.kept j i (qy1 S) (X i z)
   have hh:wpI P ops C cl kp j (fun a w=>wpI P ops C cl kp i (wpP P ops Q C cl kp (p.rm i)) a w) a w:=by
    have F:wpI P ops C cl kp j (wpP P ops Q C cl kp p) a w:=K;rw[qb6 V] at F ⊢;have Y:=fun a w E=>qzm T I M p (rem.erase j) a w E (L.erase j) (fun k H=>f k (List.mem_of_mem_erase H)) U (fun k H=>J k (List.mem_of_mem_erase H)) h3
    split at F
    ·rw[if_pos ‹_›];obtain⟨v,y,k⟩:=F;exact⟨v,y,Y _ _ E k⟩
    ·rw[if_neg ‹_›];exact wpOp_mono (fun a w H=>⟨H.1,Y _ _ (fun S=>H.1 (N S)) H.2⟩) F
   refine zbo I V ?_ (fun cs b=>Region.noSelect_spec T.sel i _ cs b I) (fun cs b=>Region.noSelect_spec T.sel j _ cs b V) N hh;rcases T.turn i j (f i z) m e (J j W) (X i z) with h | h
   ·exact absurd h.1 (qvb M)
   ·exact h
 | .fork p q,rem,a,w,E,L,f,z,J,h,K=>by
  have O:=qzm T I M p rem a w E L f z J h.1 K.1;have R:=qzm T I M q rem a w E L f z J h.2 K.2;rw[qb6 I,if_pos M] at O R ⊢;obtain⟨v1,Z,k1⟩:=O;obtain⟨v2,y2,k2⟩:=R;have:=qib (Z.w E) (y2.w E);subst this;exact⟨v1,Z,k1,k2⟩
theorem qsv(T:Turns ops cl A kp){i:Nat}{oi:Oper}(M:ops[i]? = some oi)(O:qaz ops cl i=2):∀(p:Plan) (rem:List Nat) (a:Act) (w:World),rem.Nodup→(∀j∈rem,j<ops.size)→i∈rem→(∀k∈rem,k∉A.getD i [])→i∈p.first (fun i=>qaz ops cl i==2)→Cov A (fun i=>qaz ops cl i==2) p rem →
  wpP P ops Q C cl kp p a w→wpI P ops C cl kp i (wpP P ops Q C cl kp (p.rmE (fun i=>qaz ops cl i==2) i)) a w
 | .done,rem,a,w,K,f,H,I,E,h,J=>by cases E
 | .step j p,rem,a,w,K,f,H,I,E,h,J=>by
  obtain⟨R,L,Y,h4⟩:=h;unfold Plan.rmE;split
  ·rename_i e;subst e;exact J
  ·rename_i e;have m:qaz ops cl j≠2:=by
    intro h;have L:(qaz ops cl j==2)=true:=by simpa using h
    rw[Plan.first,L] at E;simp at E;exact absurd E e
   have S:qer (qaz ops cl j)=true:=qoz (T.two j (f j R)) m;have U:i∈p.first (fun i=>qaz ops cl i==2):=by
    have L:(qaz ops cl j==2)=false:=by simpa using m
    rw[Plan.first,L] at E;exact E
   have V:i∈rem.erase j:=(K.mem_erase_iff).2 ⟨e,H⟩;have z:=f j R;have W:ops[j]? = some (ops[j]'z):=Array.getElem?_eq_getElem z;have Z:wpI P ops C cl kp j (fun a w=>wpI P ops C cl kp i (wpP P ops Q C cl kp (p.rmE (fun i=>qaz ops cl i==2) i)) a w) a w:=by
    have N:wpI P ops C cl kp j (wpP P ops Q C cl kp p) a w:=J;rw[qb6 W,if_pos S] at N ⊢;obtain⟨v,y,k⟩:=N;exact⟨v,y,qsv T M O p (rem.erase j) _ _ (K.erase j) (fun k X=>f k (List.mem_of_mem_erase X)) V (fun k X=>I k (List.mem_of_mem_erase X)) U Y k⟩
   refine zbo M W ?_ (fun cs b=>Region.noSelect_spec T.sel i _ cs b M) (fun cs b=>Region.noSelect_spec T.sel j _ cs b W) (fun h=>by rw[O] at h;cases h) Z;rcases T.turn i j (f i H) z e (I j R) (L i H) with h | h
   ·exact absurd h.2 m
   ·exact h
 | .fork p q,rem,a,w,K,f,H,I,E,h,J=>by
  unfold Plan.rmE;split
  ·rename_i F;exact qsv T M O p rem a w K f H I (List.contains_iff_mem.1 F) h.1 J.1
  ·rename_i F;rw[Plan.first,List.mem_append] at E;exact qsv T M O q rem a w K f H I (E.resolve_left fun h=>F (List.contains_iff_mem.2 h)) h.2 J.2
theorem qs8{eff:Nat→Bool} : ∀ {p:Plan} {a:Act} {w:World},Cov A eff p []→wpP P ops Q C cl kp p a w→Q .normal a w
 | .done,_,_,_,f=>f
 | .step i p,_,_,h,_=>by have:=h.1;cases this
 | .fork p q,_,_,h,f=>qs8 h.1 f.1
end
def qdm(l:List Oper)(cl:List Nat)(i:Nat):Bool:=cl.any fun j=> !((qrp l []).getD i []).contains j
def zah(l:List Oper)(cl:List Nat)(p:Plan):Bool :=
 let A:=qrp l []
 let ops:=l.toArray
 let eff:=fun i=>qaz ops cl i==2
 Region.noSelect ops&&((List.range l.length).all fun i=>match l[i]? with
  | none=>true
  | some o =>
   (o.after.toList.all fun e=> !Region.binds .any e || decide (e.on<i)) &&
   ((A.getD i []).all fun k=>o.after.toList.any fun e=>Region.binds .any e&&(k==e.on || (A.getD e.on []).contains k)) &&
   ((List.range l.length).all fun j=>i==j || (A.getD i []).contains j || (A.getD j []).contains i || (eff i&&eff j) || qnl ops cl i j)&&decide (qaz ops cl i≤3)) &&
 qts A eff p (List.range l.length)&&qws A eff p (List.range l.length)
end
section
variable {P:Program}{l:List Oper}{Q:Exit→Act→World→Prop}{C:World→Prop}{cl:List Nat}
theorem zai{A:List (List Nat)}{kp:Nat→Bool}(T:Turns l.toArray cl A kp)(key:∀(i:Nat) o,l[i]? = some o→(∀e∈o.after,Region.binds .any e=true→e.on<i)∧(∀k∈A.getD i [],∃e∈o.after,Region.binds .any e=true∧(k=e.on∨k∈A.getD e.on []))) :
  ∀(z:Nat) (f:Array Bool) (p:Plan) (a:Act) (w:World),(∀j∈cl,j∈(List.range l.length).filter (fun i=> !f.getD i false)→C w)→f.size=l.length→(∀i,f.getD i false=true→∀k∈A.getD i [],f.getD k false=true) →
  ((List.range l.length).filter fun i=> !f.getD i false).length≤z→Cov A (fun i=>qaz l.toArray cl i==2) p ((List.range l.length).filter fun i=> !f.getD i false)→qjf A (fun i=>qaz l.toArray cl i==2) p ((List.range l.length).filter fun i=> !f.getD i false) →
  wpP P l.toArray Q C cl kp p a w→wpAny P .any l.toArray Q z f a w:=by
 have X:∀(f:Array Bool),f.size=l.length→Region.ready .any l.toArray f=[]→(List.range l.length).filter (fun i=> !f.getD i false)=[]:=by
  intro f K hr;rw[List.filter_eq_nil_iff];intro i S;have S:=List.mem_range.1 S
  induction i using Nat.strongRecOn with
  | _ i ih =>
   cases hl:f.getD i false with
   | true=>simp
   | false =>
    exfalso;have:i∈Region.ready .any l.toArray f:=by
     rw[mem_ready];have V:l[i]? = some l[i]:=List.getElem?_eq_getElem S;refine⟨?_,l[i],by simp[S],fun e he hb=> ?_⟩
     ·rw[Array.getD_eq_getD_getElem?] at hl ⊢;have:i<f.size:=by omega
      rw[Array.getElem?_eq_getElem this] at hl ⊢;simpa using hl
     ·have h1:=(key i _ V).1 e he hb;have:=ih e.on h1 (List.mem_range.2 (by omega)) (by omega);simpa using this
    rw[hr] at this;cases this
 intro z
 induction z with
 | zero =>
  intro f p a w hC K shut b6 m hf h;have h0:(List.range l.length).filter (fun i=> !f.getD i false)=[]:=List.length_eq_zero_iff.1 (by omega);rw[h0] at m;refine⟨?_,qs8 m h⟩;rw[List.eq_nil_iff_forall_not_mem];intro i S;obtain⟨O,o,V,-⟩:=mem_ready.1 S;have L:i<l.length:=by simpa using (Array.getElem?_eq_some_iff.1 V).1
  rw[List.filter_eq_nil_iff] at h0;have:=h0 i (List.mem_range.2 L);rw[Array.getD_eq_getD_getElem?] at O this;have hs:i<f.size:=by omega
  rw[Array.getElem?_eq_getElem hs] at O this;simp at O this;rw[O] at this;cases this
 | succ z ih =>
  intro f p a w hC K shut b6 m hf h;refine⟨fun hr=> ?_,fun i S=> ?_⟩
  ·rw[X f K hr] at m;exact qs8 m h
  obtain⟨O,o,V,a7⟩:=mem_ready.1 S;have L:i<l.length:=by simpa using (Array.getElem?_eq_some_iff.1 V).1
  have hs:i<f.size:=by omega
  have b7:l[i]? = some o:=by simpa using V
  have b8:f.getD i false=false:=by
   rw[Array.getD_eq_getD_getElem?] at O ⊢;rw[Array.getElem?_eq_getElem hs] at O ⊢;simpa using O
  obtain⟨e1,e2⟩:=key i o b7;have R:∀k∈A.getD i [],f.getD k false=true:=by
   intro k H;obtain⟨e,he,hb,h⟩:=e2 k H;have h1:=a7 e he hb;rcases h with rfl | h
   ·exact h1
   ·exact shut _ h1 k h
  have Z:((List.range l.length).filter (fun i=> !f.getD i false)).Nodup:=List.Pairwise.filter _ List.nodup_range;have F:((List.range l.length).filter (fun i=> !f.getD i false)).erase i=(List.range l.length).filter (fun j=> !(f.setIfInBounds i true).getD j false):=by
   rw[List.Nodup.erase_eq_filter Z,List.filter_filter];refine List.filter_congr fun j M=> ?_
   by_cases e:i=j
   ·subst e;have:(f.setIfInBounds i true).getD i false=true:=by simp[hs]
    rw[this];simp
   ·have:(f.setIfInBounds i true).getD j false=f.getD j false:=getD_set_ne false e;rw[this];have:(j != i)=true:=by simpa using fun h=>e h.symm
    rw[this,Bool.and_comm,Bool.and_true]
  have v:i∈(List.range l.length).filter (fun i=> !f.getD i false):=List.mem_filter.2 ⟨List.mem_range.2 L,by rw[b8];rfl⟩;have b3:∀j∈(List.range l.length).filter (fun i=> !f.getD i false),j<l.toArray.size:=fun j M=>by simpa using List.mem_range.1 (List.mem_filter.1 M).1
  have N:∀k∈(List.range l.length).filter (fun i=> !f.getD i false),k∉A.getD i []:=fun k H W=>by
   have:=(List.mem_filter.1 H).2;rw[R k W] at this;cases this
  have U:((List.range l.length).filter fun j=> !(f.setIfInBounds i true).getD j false).length≤z:=by
   rw[←F,List.length_erase_of_mem v];omega
  have J:∀j,(f.setIfInBounds i true).getD j false=true→∀k∈A.getD j [],(f.setIfInBounds i true).getD k false=true:=by
   intro j M k H;by_cases e:i=j
   ·subst e;exact getD_set_true (R k H)
   ·rw[getD_set_ne false e] at M;exact getD_set_true (shut j M k H)
  generalize (List.range l.length).filter (fun i=> !f.getD i false)=rem at *
  by_cases Y:qaz l.toArray cl i=2
  ·have E:(fun i=>qaz l.toArray cl i==2) i=true:=by simpa using Y
   have a8:i∈p.first (fun i=>qaz l.toArray cl i==2):=by
    rcases hf i v E with h | ⟨k,H,-,W⟩
    ·exact h
    ·exact absurd W (N k H)
   obtain⟨c1,c2⟩:=qnn (eff:=fun i=>qaz l.toArray cl i==2) (i:=i) E Z v a8 m;have hp:=qsv T V Y p rem a w Z b3 v N a8 m h;rw[F] at c1 c2;refine wpOp_mono (fun a' w' H=>ih (f.setIfInBounds i true) _ a' w' (fun j M I=> ?_) (by rw[Array.size_setIfInBounds];exact K) J U c1 c2 H.2.2) (q8l (fun h=>by rw[Y] at h;cases h) hp);refine H.2.1 (by rw[Y];rfl) (T.kept i j M fun b5=> ?_);rw[←F] at I;exact N j (List.mem_of_mem_erase I) b5
  ·have E:(fun i=>qaz l.toArray cl i==2) i=false:=by simpa using Y
   have b4:qer (qaz l.toArray cl i)=true:=qoz (T.two i (by simpa using L)) Y;have c1:=qsw (eff:=fun i=>qaz l.toArray cl i==2) (i:=i) E Z v m;have c2:=qo1 (eff:=fun i=>qaz l.toArray cl i==2) (i:=i) E Z hf;have a6:qaz l.toArray cl i=3→C w:=fun h3=>hC i (qy1 h3) v
   have hp:=qzm T V b4 p rem a w a6 Z b3 v N m h;rw[F] at c1 c2;refine wpOp_mono (fun a' w' H=>ih (f.setIfInBounds i true) _ a' w' (fun j M I=> ?_) (by rw[Array.size_setIfInBounds];exact K) J U c1 c2 H.2.2) (q8l a6 hp);rw[H.1 b4];rw[←F] at I;exact hC j M (List.mem_of_mem_erase I)
theorem qaw{id:Nat}{a:Act}{w:World}(C:World→Prop)(cl:List Nat)(p:Plan)(V:P.follows .mixedOrders=true)(z:zah l cl p=true)(S:C w.drew)(h:wpP P l.toArray Q C cl (qdm l cl) p a w.drew):(Code.region id l.toArray true).wp P Q a w:=by
 refine wp_region_any V ?_;have K:(List.range l.length).filter (fun i=> !(Array.replicate l.length false).getD i false)=List.range l.length:=by
  rw[List.filter_eq_self.2 (fun i _=>by rw[qbt];rfl)]
 unfold zah at z;simp only[Bool.and_eq_true] at z;obtain⟨⟨⟨F,z⟩,m⟩,v⟩:=z;obtain⟨A,N⟩:∃A,A=qrp l []:=⟨_,rfl⟩;have M:∀i j,j∈cl→j∉A.getD i []→qdm l cl i=true:=by
  intro i j E W;unfold qdm;rw[←N];exact List.any_eq_true.2 ⟨j,E,by simpa using W⟩
 rw[←N] at z m v;have key:∀(i:Nat) o,l[i]? = some o→_:=fun i o I=>by
  have f:i<l.length:=(List.getElem?_eq_some_iff.1 I).1;have:=List.all_eq_true.1 z i (List.mem_range.2 f);rw[I] at this;simp only[Bool.and_eq_true] at this;exact this
 have T:Turns l.toArray cl A (qdm l cl):=by
  refine⟨F,fun i j f E L O R=> ?_,fun i f=> ?_,M⟩
  ·have f:i<l.length:=by simpa using f
   have E:j<l.length:=by simpa using E
   obtain⟨⟨-,X⟩,-⟩:=key i _ (List.getElem?_eq_getElem f);have:=List.all_eq_true.1 X j (List.mem_range.2 E);simp only[Bool.or_eq_true,beq_iff_eq,List.contains_iff_mem,Bool.and_eq_true] at this;rcases this with (((h | h) | h) | h) | h
   ·exact absurd h L
   ·exact absurd h O
   ·exact absurd h R
   ·exact .inl h
   ·exact .inr h
  ·have f:i<l.length:=by simpa using f
   obtain⟨-,Y⟩:=key i _ (List.getElem?_eq_getElem f);simpa using Y
 refine zai (cl:=cl) (A:=A) T (fun i o I=> ?_) _ _ p a _ (fun _ _ _=>S) (by simp) (fun i f=>by rw[List.size_toArray,qbt] at f;cases f) ?_ ?_ ?_ h
 ·obtain⟨⟨⟨k1,k2⟩,-⟩,-⟩:=key i o I;refine⟨fun e J H=> ?_,fun k U=> ?_⟩
  ·have:=List.all_eq_true.1 k1 e (by simpa using J);simpa [H] using this
  ·have:=List.all_eq_true.1 k2 k U;obtain⟨e,J,H⟩:=List.any_eq_true.1 this;simp only[Bool.and_eq_true,Bool.or_eq_true,beq_iff_eq,List.contains_iff_mem] at H;exact⟨e,by simpa using J,H⟩
 ·rw[List.size_toArray,K];simp
 ·rw[List.size_toArray,K];exact qm9 m
 ·rw[List.size_toArray,K];exact qqc v
def qdl(P:Program)(ops:Array Oper)(Q:Exit→Act→World→Prop):List Oper→Act→World→Prop
 | [],a,w=>Q .normal a w
 | o::r,a,w=>if qcb o≤1 then ∃v,qcd P ops (fun _=>True) (qcb o) w o v a∧qdl P ops Q r (a.put o.dst v) w
   else if Region.wanted o (yielded ops a.tmps) then o.wp P a w (qdl P ops Q r) noQ else qdl P ops Q r (a.put o.dst undef) w
theorem zal:∀(r:List Oper) (k:Nat),(∀j,r[j]? = l[k+j]?)→∀a w,qdl P l.toArray Q r a w→wpP P l.toArray Q (fun _=>True) [] (qdm l []) (Plan.of (List.range' k r.length)) a w:=by
 intro r
 induction r with
 | nil=>intro k _ a w h;exact h
 | cons o r I =>
  intro k h a w f;have E:l.toArray[k]? = some o:=by simpa using (h 0).symm
  have m:=I (k+1) (fun j=>by have:=h (j+1);simpa [Nat.add_assoc,Nat.add_comm 1 j] using this);have F:qaz l.toArray [] k=qcb o:=by
   unfold qaz;rw[E];simp
  rw[List.length_cons,List.range'_succ,Plan.of,wpP,qb6 E,F];rw[qdl] at f;have z:qer (qcb o)=true↔qcb o≤1:=by
   have J:qcb o≤2:=by
    unfold qcb;split<;>(try split)<;>decide
   constructor
   ·intro h;have:=qvb h;omega
   ·intro h;exact qoz (by omega) (by omega)
  split
  ·rw[if_pos (z.1 ‹_›)] at f;obtain⟨v,y,k⟩:=f;exact⟨v,y,m _ _ k⟩
  ·rw[if_neg (fun h=>absurd (z.2 h) ‹_›)] at f;unfold wpOp;rw[E];simp only[qg9,and_false,or_false];split
   ·rw[if_pos ‹_›] at f;exact Oper.wp_mono (fun a w H=>⟨fun _=>trivial,m _ _ H⟩) f
   ·rw[if_neg ‹_›] at f;exact⟨fun _=>trivial,m _ _ f⟩
theorem zc6{id:Nat}{a:Act}{w:World}(m:P.follows .mixedOrders=true)(f:zah l [] (Plan.of (List.range' 0 l.length))=true)(h:qdl P l.toArray Q l a w.drew):(Code.region id l.toArray true).wp P Q a w :=
 qaw (fun _=>True) [] _ m f trivial (zal l 0 (by simp) a _ h)
section
variable {ops:Array Oper}{o:Oper}{r:List Oper}{a:Act}{w:World}
theorem tn(h:Q .normal a w):qdl P ops Q [] a w:=h
theorem qn2{s:Sem Value}{n:Next}{w w':World}(h:(do pure (Next.value (←s)):Sem Next).run P w = .ok n w'):∃v,n = .value v:=by
 rw[Sem.run_bind] at h;generalize s.run P w=x at h;cases x with
 | ok v w1 =>
  simp only[Result.andThen_ok] at h;injection h with h1 h2;exact⟨v,h1.symm⟩
 | halt x w1=>simp only[Result.andThen_halt] at h;cases h
theorem q0f{ρ:Operand→Value}(E:qcb o≤1){n:Next}{w':World}(h:(execOp ρ o).run P w = .ok n w'):∃v,n = .value v:=by
 obtain⟨dst,I,H,J,F,guard⟩:=o;cases I<;>simp only[qcb] at E<;>simp only[execOp] at h
 case move x=>injection h with h1 h2;exact⟨_,h1.symm⟩
 case assign x=>injection h with h1 h2;exact⟨_,h1.symm⟩
 case pick c a b =>
  rw[Sem.run_bind] at h;generalize (asBool (ρ c)).run P w=x at h;cases x with
  | ok v w1=>injection h with h1 h2;exact⟨_,h1.symm⟩
  | halt x w1=>cases h
 case nilCheck x =>
  split at h
  ·cases h
  ·cases h
  ·cases h
  ·split at h
   ·cases h
   ·rw[Sem.run_bind] at h;generalize Sem.run P (program) w=x at h;cases x with
    | halt x w1=>cases h
    | ok p w1 =>
     simp only[Result.andThen_ok] at h;rw[Sem.run_bind] at h;generalize Sem.run P (nilAhead _ _ _ _) w1=x at h;cases x with
     | halt x w1=>cases h
     | ok p w1 =>
      simp only[Result.andThen_ok] at h;split at h
      ·rw[Sem.run_bind] at h;cases h
      ·injection h with h1 h2;exact⟨_,h1.symm⟩
   ·injection h with h1 h2;exact⟨_,h1.symm⟩
  ·injection h with h1 h2;exact⟨_,h1.symm⟩
 case call c =>
  cases z:c.callee with
  | value f=>rw[z] at E;simp at E
  | invoke r m=>rw[z] at E;simp at E
  | builtin b =>
   rw[z] at E;unfold resolve at h;rw[z] at h;cases b<;>first | (simp at E;done) | exact qn2 h
 all_goals first | exact qn2 h | (simp at E;done)
theorem qpk(H:qcb o≤1){A:Act}(h:∀E,(∀f,f=A→E .normal f w)→wpList P ops E [o] a w):∃v,qdq P ops w o v a∧a.put o.dst v=A:=by
 have h:=h (fun e f w'=>e = .normal∧f=A∧w'=w) (fun _ e=>⟨rfl,e,rfl⟩);unfold wpList at h;split at h
 ·rename_i z;rcases h with h | h
  case inr=>obtain⟨_,_,h,-⟩:=h.2;cases h
  unfold Oper.wp at h;cases m:(execOp a.eval o).run P w with
  | halt x w' =>
   rw[m] at h;cases x<;>simp only[Oper.upon] at h
   obtain⟨h,-⟩:=h;cases h
  | ok n w' =>
   obtain⟨v,rfl⟩:=q0f H m;rw[m] at h;obtain⟨-,F,rfl⟩:=h;exact⟨v,.inl ⟨z,m⟩,F⟩
 ·rename_i z;exact⟨undef,.inr ⟨by simpa using z,rfl⟩,h.2.1⟩
theorem tr{A:Act}(z:(qcb o==1)=true)(h:∀f,(∀m,m=A→f .normal m w)→wpList P ops f [o] a w)(k:qdl P ops Q r A w):qdl P ops Q (o::r) a w:=by
 have H:qcb o=1:=by simpa using z
 rw[qdl,if_pos (by omega)];obtain⟨v,F,E⟩:=qpk (by omega) h;refine⟨v,?_,by rw[E];exact k⟩;unfold qcd;rw[if_neg (by omega),if_neg (by omega)];exact F
def qmi(o:Oper)(a:Act):Bool:=match o.dst with | some d=>decide (d<a.tmps.size) | none=>false
theorem qit{C:World→Prop}(N:qcb o≤1){A:Act}(hd:qmi o a=true)(z:C w)(h:∀w,C w→∀H,(∀I,I=A→H .normal I w)→wpList P ops H [o] a w):∃v,qce P ops C o v a∧a.put o.dst v=A:=by
 have K:∀w,C w→∃v,qdq P ops w o v a∧a.put o.dst v=A:=fun w z=>qpk N (h w z)
 have m:∀v u,a.put o.dst v=a.put o.dst u→v=u:=by
  intro v u e;unfold qmi at hd;cases f:o.dst with
  | none=>rw[f] at hd;cases hd
  | some d =>
   rw[f] at hd e;have F:d<a.tmps.size:=by simpa using hd
   have L:=congrArg (fun x:Act=>x.tmps[d]?) e;simpa [Act.put,F] using L
 obtain⟨v,R,J⟩:=K w z;refine⟨v,fun w' E=> ?_,J⟩;obtain⟨u,O,M⟩:=K w' E;have:v=u:=m v u (J.trans M.symm);rw[this];exact O
theorem tp{A:Act}(F:(qcb o==0)=true)(hd:qmi o a=true)(h:∀w f,(∀m,m=A→f .normal m w)→wpList P ops f [o] a w)(k:qdl P ops Q r A w):qdl P ops Q (o::r) a w:=by
 have z:qcb o=0:=by simpa using F
 rw[qdl,if_pos (by omega)];obtain⟨v,H,E⟩:=qit (C:=fun _=>True) (w:=w) (by omega) hd trivial (fun w _=>h w);refine⟨v,?_,by rw[E];exact k⟩;unfold qcd;rw[if_pos z];exact H
theorem te(F:(qcb o==2)=true)(h:∀z,(∀m w',qdl P ops Q r m w'→z .normal m w')→wpList P ops z [o] a w):qdl P ops Q (o::r) a w:=by
 have H:qcb o=2:=by simpa using F
 rw[qdl,if_neg (by omega)];have:=h (fun e m w'=>match e with | .normal=>qdl P ops Q r m w' | _=>False) (fun _ _ h=>h);unfold wpList at this;split
 case isFalse v=>rw[if_neg v] at this;exact this
 rename_i v;rw[if_pos v] at this;rcases this with f | f
 case inr =>
  obtain⟨_,_,E⟩:=f.2;exact E.elim
 unfold Oper.wp at *
 generalize (execOp a.eval o).run P w=x at *
 cases x with
 | ok n w' =>
  cases n<;>simp only[Oper.upon] at f ⊢<;>exact f
 | halt x w' =>
  cases x<;>simp only[Oper.upon] at f ⊢
section
variable {C:World→Prop}{cl:List Nat}{p q:Plan}{i:Nat}
def qka:List Oper→Nat→Option Oper
 | [],_=>none
 | o::_,0=>some o
 | _::r,n+1=>qka r n
theorem qzh:∀(l:List Oper) (i:Nat),qka l i=l[i]?
 | [],_=>rfl
 | _::_,0=>rfl
 | _::r,n+1=>by rw[qka,qzh r n,List.getElem?_cons_succ]
theorem qjm{i:Nat}{o:Oper}(h:qka l i=some o):l.toArray[i]? = some o:=by rw[List.getElem?_toArray,←qzh];exact h
theorem qn(h:Q .normal a w):wpP P l.toArray Q C cl (qdm l cl) .done a w:=h
theorem qf(f:wpP P l.toArray Q C cl (qdm l cl) p a w)(m:wpP P l.toArray Q C cl (qdm l cl) q a w):wpP P l.toArray Q C cl (qdm l cl) (.fork p q) a w:=⟨f,m⟩
theorem qp{A:Act}(f:qka l i=some o)(I:(qaz l.toArray cl i==0)=true)(hd:qmi o a=true)(h:∀w z,(∀E,E=A→z .normal E w)→wpList P l.toArray z [o] a w)(k:wpP P l.toArray Q C cl (qdm l cl) p A w):wpP P l.toArray Q C cl (qdm l cl) (.step i p) a w:=by
 replace f:=qjm f;have m:qaz l.toArray cl i=0:=by simpa using I
 have F:qcb o≤1:=qr4 (cl:=cl) f (by rw[m];rfl);rw[wpP,qb6 f,if_pos (by rw[m];rfl)];obtain⟨v,J,H⟩:=qit (C:=fun _=>True) (w:=w) F hd trivial (fun w _=>h w);refine⟨v,?_,by rw[H];exact k⟩;unfold qcd;rw[if_pos m];exact J
theorem qc{A:Act}(f:qka l i=some o)(J:(qaz l.toArray cl i==3)=true)(hd:qmi o a=true)(I:C w)(h:∀w,C w→∀z,(∀E,E=A→z .normal E w)→wpList P l.toArray z [o] a w)(k:wpP P l.toArray Q C cl (qdm l cl) p A w):wpP P l.toArray Q C cl (qdm l cl) (.step i p) a w:=by
 replace f:=qjm f;have m:qaz l.toArray cl i=3:=by simpa using J
 have F:qcb o≤1:=qr4 (cl:=cl) f (by rw[m];rfl);rw[wpP,qb6 f,if_pos (by rw[m];rfl)];obtain⟨v,K,H⟩:=qit (w:=w) F hd I h;refine⟨v,?_,by rw[H];exact k⟩;unfold qcd;rw[if_neg (by omega),if_pos m];exact K
theorem qr{A:Act}(f:qka l i=some o)(H:(qaz l.toArray cl i==1)=true)(h:∀m,(∀z,z=A→m .normal z w)→wpList P l.toArray m [o] a w)(k:wpP P l.toArray Q C cl (qdm l cl) p A w):wpP P l.toArray Q C cl (qdm l cl) (.step i p) a w:=by
 replace f:=qjm f;have E:qaz l.toArray cl i=1:=by simpa using H
 have F:qcb o≤1:=qr4 (cl:=cl) f (by rw[E];rfl);rw[wpP,qb6 f,if_pos (by rw[E];rfl)];obtain⟨v,J,I⟩:=qpk F h;refine⟨v,?_,by rw[I];exact k⟩;unfold qcd;rw[if_neg (by omega),if_neg (by omega)];exact J
structure Keeps(a b:Prop):Prop where
 c:a
 k:b
theorem qe'(v:qka l i=some o)(I:(qaz l.toArray cl i==2)=true)(h:∀E,(∀m w',Keeps (qdm l cl i=true→C w') (wpP P l.toArray Q C cl (qdm l cl) p m w')→E .normal m w')→wpList P l.toArray E [o] a w):wpP P l.toArray Q C cl (qdm l cl) (.step i p) a w:=by
 replace v:=qjm v;have F:qaz l.toArray cl i=2:=by simpa using I
 rw[wpP,qb6 v,if_neg (by rw[F];decide)];have:=h (fun e m w'=>match e with | .normal=>(qdm l cl i=true→C w')∧wpP P l.toArray Q C cl (qdm l cl) p m w' | _=>False) (fun _ _ h=>⟨h.c,h.k⟩);unfold wpList at this;unfold wpOp;rw[v];simp only;split
 case isFalse z=>rw[if_neg z] at this;exact this
 rename_i z;rw[if_pos z] at this;rcases this with f | f
 case inr =>
  obtain⟨_,_,H⟩:=f.2;exact H.elim
 refine .inl ?_;unfold Oper.wp at *
 generalize (execOp a.eval o).run P w=x at *
 cases x with
 | ok n w' =>
  cases n<;>simp only[Oper.upon] at f ⊢<;>exact f
 | halt x w' =>
  cases x<;>simp only[Oper.upon] at f ⊢
theorem qe(z:qka l i=some o)(v:(qaz l.toArray cl i==2)=true)(h:∀f,(∀m w',Keeps (C w') (wpP P l.toArray Q C cl (qdm l cl) p m w')→f .normal m w')→wpList P l.toArray f [o] a w):wpP P l.toArray Q C cl (qdm l cl) (.step i p) a w :=
 qe' z v fun f E=>h f fun m w' h=>E m w' ⟨fun _=>h.c,h.k⟩
theorem qd(z:qka l i=some o)(v:(qaz l.toArray cl i==2)=true)(E:qdm l cl i=false)(h:∀f,(∀m w',wpP P l.toArray Q C cl (qdm l cl) p m w'→f .normal m w')→wpList P l.toArray f [o] a w):wpP P l.toArray Q C cl (qdm l cl) (.step i p) a w :=
 qe' z v fun f F=>h f fun m w' h=>F m w' ⟨(fun e=>by rw[E] at e;cases e),h⟩
end
end
end
section
variable {P:Program}{ops:Array Oper}{Q:Exit→Act→World→Prop}{l:List Oper}{o:Oper}{r:List Oper}{a A:Act}{w:World}{C:World→Prop}{cl:List Nat}{p:Plan}{i:Nat}
theorem tw4{id:Nat}(h:qdl P l.toArray Q l a w.drew)(m:P.follows .mixedOrders=true:=by kernel_rfl)(f:zah l [] (Plan.of (List.range' 0 l.length))=true:=by decide +kernel):(Code.region id l.toArray true).wp P Q a w:=zc6 m f h
end
structure Tag(A:Act):Prop where
section
variable {P:Program}{ops:Array Oper}{Q:Exit→Act→World→Prop}{l:List Oper}{o:Oper}{r:List Oper}{a A:Act}{w:World}{C:World→Prop}{cl:List Nat}{p:Plan}{i:Nat}
theorem uw1(_:Tag A)(h:∀w f (_:∀a',a'=A→f .normal a' w),wpList P ops f [o] a w)(k:qdl P ops Q r A w)(m:(qcb o==0)=true:=by with_unfolding_all rfl)(hd:qmi o a=true:=by with_unfolding_all rfl):qdl P ops Q (o::r) a w:=tp m hd h k
theorem uw2(_:Tag A)(h:∀f (_:∀a',a'=A→f .normal a' w),wpList P ops f [o] a w)(k:qdl P ops Q r A w)(m:(qcb o==1)=true:=by with_unfolding_all rfl):qdl P ops Q (o::r) a w:=tr m h k
theorem uw3(h:∀f (_:∀a' w',qdl P ops Q r a' w'→f .normal a' w'),wpList P ops f [o] a w)(m:(qcb o==2)=true:=by with_unfolding_all rfl):qdl P ops Q (o::r) a w:=te m h
theorem uq1(_:Tag A)(h:∀w f (_:∀a',a'=A→f .normal a' w),wpList P l.toArray f [o] a w)(k:wpP P l.toArray Q C cl (qdm l cl) p A w)(v:qka l i=some o:=by with_unfolding_all rfl)(m:(qaz l.toArray cl i==0)=true:=by with_unfolding_all rfl)(hd:qmi o a=true:=by with_unfolding_all rfl):wpP P l.toArray Q C cl (qdm l cl) (.step i p) a w:=qp v m hd h k
theorem uq2(_:Tag A)(h:∀w (_:C w) f (_:∀a',a'=A→f .normal a' w),wpList P l.toArray f [o] a w)(k:wpP P l.toArray Q C cl (qdm l cl) p A w)(z:qka l i=some o:=by with_unfolding_all rfl)(v:(qaz l.toArray cl i==3)=true:=by with_unfolding_all rfl)(hd:qmi o a=true:=by with_unfolding_all rfl)(m:C w:=by with_reducible assumption):wpP P l.toArray Q C cl (qdm l cl) (.step i p) a w:=qc z v hd m h k
theorem uq3(_:Tag A)(h:∀f (_:∀a',a'=A→f .normal a' w),wpList P l.toArray f [o] a w)(k:wpP P l.toArray Q C cl (qdm l cl) p A w)(v:qka l i=some o:=by with_unfolding_all rfl)(m:(qaz l.toArray cl i==1)=true:=by with_unfolding_all rfl):wpP P l.toArray Q C cl (qdm l cl) (.step i p) a w:=qr v m h k
theorem uq4(h:∀f (_:∀a' w',wpP P l.toArray Q C cl (qdm l cl) p a' w'→f .normal a' w'),wpList P l.toArray f [o] a w)(v:qka l i=some o:=by with_unfolding_all rfl)(m:(qaz l.toArray cl i==2)=true:=by with_unfolding_all rfl)(z:qdm l cl i=false:=by decide +kernel):wpP P l.toArray Q C cl (qdm l cl) (.step i p) a w:=qd v m z h
theorem uq5(h:∀f (_:∀a' w',Keeps (C w') (wpP P l.toArray Q C cl (qdm l cl) p a' w')→f .normal a' w'),wpList P l.toArray f [o] a w)(v:qka l i=some o:=by with_unfolding_all rfl)(m:(qaz l.toArray cl i==2)=true:=by with_unfolding_all rfl):wpP P l.toArray Q C cl (qdm l cl) (.step i p) a w:=qe v m h
end
theorem ur{α:Type _}{a b:α}(h:a=b:=by with_reducible rfl):a=b:=h
theorem ut{G H K:Prop}{A:Act}(h:H)(k:K)(z:Tag A→H→K→G:=by with_reducible first | exact fun t h k=>uw1 t h k | exact fun t h k=>uw2 t h k | exact fun t h k=>uq1 t h k | exact fun t h k=>uq2 t h k | exact fun t h k=>uq3 t h k):G:=z ⟨⟩ h k
theorem uu{G H:Prop}(h:H)(z:H→G:=by with_reducible first | exact fun h=>uw3 h | exact fun h=>uq4 h | exact fun h=>uq5 h | exact fun h=>tn h | exact fun h=>qn h | exact fun h=>tw4 h):G:=z h
theorem Upd.ofDrew{S:Nat→Prop}{w w':World}(h:Upd S w.drew w'):Upd S w w':=⟨h.os,h.tape,h.output,h.size,h.block⟩
theorem Q.ofDrew{w w':World}(h:Q w.drew w'):Q w w':=by
 obtain⟨n,rfl⟩:=h;exact⟨1+n,rfl |>.trans (World.drewN_drewN w 1 n)⟩
theorem qhl{x:Int}(f : -9223372036854775808≤x)(m:x≤9223372036854775807):IntKind.i64.wrap x=x:=by rw[IntKind.wrap_i64];omega
theorem qel{x:Int}(f:0≤x)(m:x≤18446744073709551615):IntKind.u64.wrap x=x:=by rw[IntKind.wrap_u64];omega
end Go.Proofs.YtfmkdoachjgjbaaGreatDoor
