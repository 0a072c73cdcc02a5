/-
  A region that draws its order, whose operations with effects stand in a row: it may be walked in its lexical order. Operations that only compute may stand anywhere; loads wait for, or are waited for by, each operation with an effect.
-/
import Derived.Test.YtfmkdoachjgjbaaGreatDoorDag
import Derived.Test.YtfmkdoachjgjbaaGreatDoorMaa
set_option linter.unusedVariables false
set_option linter.unusedSimpArgs false
namespace Go.Proofs.YtfmkdoachjgjbaaGreatDoor
open Go.RowKit

/-- 0: computes alone; 1: reads; 2: has an effect. -/
def clsOf (o : Oper) : Nat :=
  match o.op with
  | .move _ | .assign _ | .pick .. | .extract .. | .fieldAddr .. | .field .. | .makeFunc .. | .nilCheck _ | .binOp .. | .unOp .. | .indexAddr .. | .index .. | .build .. | .slice .. => 0
  | .load .. | .lookup .. | .convert .. => 1
  | .call c => match c.callee with | .builtin .len => 0 | .builtin .cap => 0 | _ => 2
  | _ => 2
def noQ : Exit → Act → World → Prop := fun _ _ _ => False

section
variable {P : Program} {ops : Array Oper} {Q : Exit → Act → World → Prop}

/-- What a value is in one world. -/
def YieldsW (P : Program) (ops : Array Oper) (w : World) (o : Oper) (v : Value) (a : Act) : Prop :=
  (Region.wanted o (yielded ops a.tmps) = true ∧ (execOp a.eval o).run P w = .ok (.value v) w) ∨ (Region.wanted o (yielded ops a.tmps) = false ∧ v = undef)
theorem YieldsW.of_same {o : Oper} {v : Value} {a a' : Act} {w : World} (hy : YieldsW P ops w o v a) (he : execOp a'.eval o = execOp a.eval o)
    (hw : Region.wanted o (yielded ops a'.tmps) = Region.wanted o (yielded ops a.tmps)) : YieldsW P ops w o v a' := by
  unfold YieldsW at *
  rw [he, hw]
  exact hy
theorem YieldsW.wpOp {i : Nat} {o : Oper} {v : Value} {a : Act} {w : World} (hi : ops[i]? = some o) (hy : YieldsW P ops w o v a)
    {K : Act → World → Prop} (h : K (a.put o.dst v) w) : wpOp P ops Q i K a w := by
  unfold Go.wpOp
  simp only [hi]
  rcases hy with ⟨hw, hv⟩ | ⟨hw, rfl⟩
  · simp only [hw, if_true, Oper.wp, hv, Oper.upon]; exact .inl h
  · simp only [hw, Bool.false_eq_true, if_false]; exact h
theorem yieldsW_uniq {o : Oper} {v u : Value} {a : Act} {w : World} (hy : YieldsW P ops w o v a) (hu : YieldsW P ops w o u a) : v = u := by
  rcases hy with ⟨a1, a2⟩ | ⟨a1, a2⟩ <;> rcases hu with ⟨b1, b2⟩ | ⟨b1, b2⟩
  · have := a2.symm.trans b2
    simpa using this
  · rw [a1] at b1; cases b1
  · rw [a1] at b1; cases b1
  · rw [a2, b2]
/-- The same value in all worlds of a class. -/
def YieldsC (P : Program) (ops : Array Oper) (C : World → Prop) (o : Oper) (v : Value) (a : Act) : Prop := ∀ w, C w → YieldsW P ops w o v a
theorem YieldsC.of_same {C : World → Prop} {o : Oper} {v : Value} {a a' : Act} (hy : YieldsC P ops C o v a) (he : execOp a'.eval o = execOp a.eval o)
    (hw : Region.wanted o (yielded ops a'.tmps) = Region.wanted o (yielded ops a.tmps)) : YieldsC P ops C o v a' := fun w hc => (hy w hc).of_same he hw
/-- What a class yields. -/
def YieldC (P : Program) (ops : Array Oper) (C : World → Prop) (c : Nat) (w : World) (o : Oper) (v : Value) (a : Act) : Prop := if c = 0 then YieldsC P ops (fun _ => True) o v a else if c = 3 then YieldsC P ops C o v a else YieldsW P ops w o v a
theorem YieldC.w {C : World → Prop} {c : Nat} {o : Oper} {v : Value} {a : Act} {w : World} (hy : YieldC P ops C c w o v a) (hC : c = 3 → C w) : YieldsW P ops w o v a := by
  unfold YieldC at hy
  split at hy
  · exact hy w trivial
  · split at hy
    · exact hy w (hC ‹_›)
    · exact hy
theorem YieldC.of_same {C : World → Prop} {c : Nat} {o : Oper} {v : Value} {a a' : Act} {w : World} (hy : YieldC P ops C c w o v a) (he : execOp a'.eval o = execOp a.eval o)
    (hw : Region.wanted o (yielded ops a'.tmps) = Region.wanted o (yielded ops a.tmps)) : YieldC P ops C c w o v a' := by
  unfold YieldC at *
  split at hy
  · rw [if_pos ‹_›]; exact hy.of_same he hw
  · rw [if_neg ‹_›]
    split at hy
    · rw [if_pos ‹_›]; exact hy.of_same he hw
    · rw [if_neg ‹_›]; exact hy.of_same he hw

/-- An operation's class, where the loads of 'cl' are the same in all worlds of the class C. -/
def clsN (ops : Array Oper) (cl : List Nat) (i : Nat) : Nat :=
  match ops[i]? with
  | none => 0
  | some o => if clsOf o == 1 && cl.contains i then 3 else clsOf o
/-- No effect. -/
def readB (c : Nat) : Bool := c == 0 || c == 1 || c == 3
theorem clsN_le {cl : List Nat} {i : Nat} {o : Oper} (hi : ops[i]? = some o) (h : readB (clsN ops cl i) = true) : clsOf o ≤ 1 := by
  have e : clsN ops cl i = if (clsOf o == 1 && cl.contains i) = true then 3 else clsOf o := by unfold clsN; rw [hi]
  rw [e] at h
  by_cases hb : (clsOf o == 1 && cl.contains i) = true
  · rw [Bool.and_eq_true, beq_iff_eq] at hb
    omega
  · rw [if_neg hb] at h
    unfold readB at h
    simp only [Bool.or_eq_true, beq_iff_eq] at h
    have : clsOf o ≤ 2 := by
      unfold clsOf
      split <;> (try split) <;> decide
    omega
theorem clsN_cl {cl : List Nat} {i : Nat} (h : clsN ops cl i = 3) : i ∈ cl := by
  unfold clsN at h
  split at h
  · cases h
  · rename_i o ho
    split at h
    · rename_i hc
      simp at hc
      exact hc.2
    · have : clsOf o ≤ 2 := by
        unfold clsOf
        split <;> (try split) <;> decide
      omega

/-- One operation in its turn. -/
def wpI (P : Program) (ops : Array Oper) (C : World → Prop) (cl : List Nat) (kp : Nat → Bool) (i : Nat) (K : Act → World → Prop) (a : Act) (w : World) : Prop :=
  match ops[i]? with
  | none => K a w
  | some o => if readB (clsN ops cl i) = true then ∃ v, YieldC P ops C (clsN ops cl i) w o v a ∧ K (a.put o.dst v) w else wpOp P ops noQ i (fun a' w' => (kp i = true → C w') ∧ K a' w') a w
section
variable {C : World → Prop} {cl : List Nat} {kp : Nat → Bool}
theorem wpI_some {i : Nat} {o : Oper} {K : Act → World → Prop} {a : Act} {w : World} (hi : ops[i]? = some o) : wpI P ops C cl kp i K a w = if readB (clsN ops cl i) = true then ∃ v, YieldC P ops C (clsN ops cl i) w o v a ∧ K (a.put o.dst v) w else wpOp P ops noQ i (fun a' w' => (kp i = true → C w') ∧ K a' w') a w := by
  unfold wpI
  rw [hi]
theorem noQ_lets : ¬ LetsOut noQ := fun ⟨_, _, h⟩ => h
theorem wp_noQ {o : Oper} {a : Act} {w : World} {K : Act → World → Prop} (h : o.wp P a w K noQ) : o.wp P a w K Q := by
  unfold Oper.wp at *
  generalize (execOp a.eval o).run P w = r at *
  cases r with
  | ok n w' =>
    cases n <;> simp only [Oper.upon] at h ⊢ <;> try exact h
    refine Calls.mono h fun e w'' he => ?_
    cases e with
    | returned v => exact he
    | panicked c => exact he.elim
    | outgrown => exact absurd he noQ_lets
  | halt x w' =>
    cases x <;> simp only [Oper.upon] at h ⊢
    exact h.elim
theorem wpOp_noQ {i : Nat} {a : Act} {w : World} {K : Act → World → Prop} (h : wpOp P ops noQ i K a w) : wpOp P ops Q i K a w := by
  unfold wpOp at *
  split
  · rename_i ho; simp only [ho] at h; exact h
  · rename_i o ho
    simp only [ho] at h
    split
    · rename_i hw
      rw [if_pos hw] at h
      rcases h with h | h
      · exact .inl (wp_noQ h)
      · exact absurd h.2 noQ_lets
    · rename_i hw
      rw [if_neg hw] at h
      exact h
theorem wpI_op {i : Nat} {a : Act} {w : World} {K : Act → World → Prop} (hC : clsN ops cl i = 3 → C w) (h : wpI P ops C cl kp i K a w) : wpOp P ops Q i (fun a' w' => (readB (clsN ops cl i) = true → w' = w) ∧ (readB (clsN ops cl i) = false → kp i = true → C w') ∧ K a' w') a w := by
  unfold wpI at h
  cases ho : ops[i]? with
  | none => rw [ho] at h; unfold wpOp; rw [ho]; exact ⟨fun _ => rfl, (fun h => by have : clsN ops cl i = 0 := by unfold clsN; rw [ho]
                                                                                  rw [this] at h; cases h), h⟩
  | some o =>
    rw [ho] at h
    simp only at h
    split at h
    · rename_i hr
      obtain ⟨v, h1, h2⟩ := h
      exact (h1.w hC).wpOp ho ⟨fun _ => rfl, (fun h => by rw [hr] at h; cases h), h2⟩
    · rename_i hr
      refine wpOp_mono (fun a w hk => ⟨fun h => absurd h hr, fun _ => hk.1, hk.2⟩) (wpOp_noQ h)

/-- What is constant ahead of an effect may come behind it. -/
theorem wpOp_push {j : Nat} {oi oj : Oper} {v : Value} (hj : ops[j]? = some oj) (hap : oi.apart ops oj = true) (hsi : ∀ cs b, oi.op ≠ .select cs b) (hsj : ∀ cs b, oj.op ≠ .select cs b)
    {K : Act → World → Prop} {a : Act} {w : World} (hy : YieldsC P ops C oi v a) (h : wpOp P ops noQ j K (a.put oi.dst v) w) :
    wpOp P ops noQ j (fun a' w' => YieldsC P ops C oi v a' ∧ K (a'.put oi.dst v) w') a w := by
  obtain ⟨h1, h2, h3⟩ := Oper.apart_spec hap
  have keep : ∀ (a : Act), YieldsC P ops C oi v a → ∀ u, YieldsC P ops C oi v (a.put oj.dst u) := fun a hy u =>
    hy.of_same (execOp_put oi hsi a oj.dst u h3) (wanted_put oi a oj.dst u h3)
  have keepD : ∀ d, YieldsC P ops C oi v { a with defers := d :: a.defers } := fun d => hy.of_same rfl rfl
  unfold wpOp at *
  simp only [hj] at *
  rw [wanted_put oj a oi.dst v h1] at h
  split
  · rename_i hw
    simp only [hw, if_true] at h
    rcases h with h | h
    case inr => exact absurd h.2 noQ_lets
    refine .inl ?_
    unfold Oper.wp at *
    rw [execOp_put oj hsj a oi.dst v h1] at h
    generalize (execOp a.eval oj).run P w = r at *
    cases r with
    | ok n w' =>
      cases n <;> simp only [Oper.upon] at h ⊢
      case value u => exact ⟨keep a hy u, by rw [← Act.put_comm a v u h2]; exact h⟩
      case skip => exact ⟨keep a hy _, by rw [← Act.put_comm a v undef h2]; exact h⟩
      case defer d =>
        refine ⟨keep _ (keepD d) _, ?_⟩
        rw [← Act.put_comm _ v undef h2, ← Act.put_defers]
        exact h
      case enter f args =>
        refine Calls.mono h fun e w'' he => ?_
        cases e with
        | returned u => exact ⟨keep a hy u, by rw [← Act.put_comm a v u h2]; exact he⟩
        | panicked c => exact he.elim
        | outgrown => exact he
      case row row args => exact Rows.mono h fun u w'' he => ⟨keep a hy u, by rw [← Act.put_comm a v u h2]; exact he⟩
    | halt x w' =>
      cases x <;> simp only [Oper.upon] at h ⊢
      case panic u => exact h.elim
  · rename_i hw
    simp only [hw] at h
    exact ⟨keep a hy _, by rw [← Act.put_comm a v undef h2]; exact h⟩

/-- The converse: what is constant behind an effect may come ahead of it. -/
theorem wpOp_pull {j : Nat} {oi oj : Oper} (hj : ops[j]? = some oj) (hap : oi.apart ops oj = true) (hsi : ∀ cs b, oi.op ≠ .select cs b) (hsj : ∀ cs b, oj.op ≠ .select cs b)
    {K : Act → World → Prop} {a : Act} {w : World} (h : wpOp P ops noQ j (fun a' w' => C w' ∧ ∃ v, YieldsC P ops C oi v a' ∧ K (a'.put oi.dst v) w') a w) :
    ∃ v, YieldsC P ops C oi v a ∧ wpOp P ops noQ j K (a.put oi.dst v) w := by
  obtain ⟨h1, h2, h3⟩ := Oper.apart_spec hap
  have back : ∀ (a : Act) u v, YieldsC P ops C oi v (a.put oj.dst u) → YieldsC P ops C oi v a := fun a u v hy =>
    hy.of_same (execOp_put oi hsi a oj.dst u h3).symm (wanted_put oi a oj.dst u h3).symm
  unfold wpOp at *
  simp only [hj] at *
  split at h
  · rename_i hw
    rcases h with h | h
    case inr => exact absurd h.2 noQ_lets
    unfold Oper.wp at *
    have key : ∀ v, YieldsC P ops C oi v a → Oper.upon P oj (a.put oi.dst v) K noQ ((execOp a.eval oj).run P w) → ∃ v, YieldsC P ops C oi v a ∧ (if Region.wanted oj (yielded ops (a.put oi.dst v).tmps) = true then (Oper.upon P oj (a.put oi.dst v) K noQ ((execOp (a.put oi.dst v).eval oj).run P w) ∨ oj.asks P (a.put oi.dst v) w ∧ LetsOut noQ) else K ((a.put oi.dst v).put oj.dst undef) w) := by
      intro v hy hk
      refine ⟨v, hy, ?_⟩
      rw [wanted_put oj a oi.dst v h1, if_pos hw, execOp_put oj hsj a oi.dst v h1]
      exact .inl hk
    generalize (execOp a.eval oj).run P w = r at h key
    cases r with
    | ok n w' =>
      cases n <;> simp only [Oper.upon] at h key
      case value u =>
        obtain ⟨-, v, hy, hk⟩ := h
        exact key v (back _ _ _ hy) (by rw [Act.put_comm a v u h2]; exact hk)
      case skip =>
        obtain ⟨-, v, hy, hk⟩ := h
        exact key v (back _ _ _ hy) (by rw [Act.put_comm a v undef h2]; exact hk)
      case defer d =>
        obtain ⟨-, v, hy, hk⟩ := h
        refine key v ((back _ _ _ hy).of_same rfl rfl) ?_
        have e := Act.put_comm ({ a with defers := d :: a.defers } : Act) v undef h2
        have e2 := Act.put_defers a oi.dst v d
        rw [e2, e]
        exact hk
      case enter f args =>
        obtain ⟨e, w2, fr, hR, -⟩ := h []
        cases e with
        | panicked c => exact hR.elim
        | outgrown => exact absurd hR noQ_lets
        | returned u =>
          obtain ⟨-, v, hy, -⟩ := hR
          have hya := back _ _ _ hy
          refine key v hya (Calls.mono h fun e w'' he => ?_)
          cases e with
          | panicked c => exact he
          | outgrown => exact he
          | returned u' =>
            obtain ⟨hC, v', hy', hk⟩ := he
            have := yieldsW_uniq (hya _ hC) (back _ _ _ hy' _ hC)
            subst this
            show K _ _
            rw [Act.put_comm a v u' h2]
            exact hk
      case row row args =>
        obtain ⟨u, w2, ⟨-, v, hy, -⟩, -⟩ := h (Frame.ofRow P row args .normal) []
        have hya := back _ _ _ hy
        refine key v hya (Rows.mono h fun u' w'' he => ?_)
        obtain ⟨hC, v', hy', hk⟩ := he
        have := yieldsW_uniq (hya _ hC) (back _ _ _ hy' _ hC)
        subst this
        show K _ _
        rw [Act.put_comm a v u' h2]
        exact hk
    | halt x w' =>
      cases x <;> simp only [Oper.upon] at h
      exact h.elim
  · rename_i hw
    obtain ⟨-, v, hy, hk⟩ := h
    refine ⟨v, back _ _ _ hy, ?_⟩
    rw [wanted_put oj a oi.dst v h1, if_neg hw, Act.put_comm a v undef h2]
    exact hk

/-- Two operations that may change places. -/
def mayTurn (ops : Array Oper) (cl : List Nat) (i j : Nat) : Bool :=
  match ops[i]?, ops[j]? with
  | some x, some y => x.apart ops y && (clsN ops cl i == 0 || clsN ops cl j == 0 || clsN ops cl i == 3 || clsN ops cl j == 3 || (clsN ops cl i == 1 && clsN ops cl j == 1))
  | _, _ => true
theorem apart_symm {x y : Oper} (h : x.apart ops y = true) : y.apart ops x = true := by
  unfold Oper.apart at *
  cases hx : x.dst with
  | none => rw [hx] at h; cases hy : y.dst with
    | none => rfl
    | some e => rw [hy] at h; simpa using h
  | some d => rw [hx] at h; cases hy : y.dst with
    | none => rw [hy] at h; simpa using h
    | some e =>
      rw [hy] at h
      simp only [Bool.and_eq_true, Bool.not_eq_true', bne_iff_ne, ne_eq, Option.some.injEq] at h ⊢
      exact ⟨⟨h.2, fun e1 => h.1.2 e1.symm⟩, h.1.1⟩
theorem swapT {i j : Nat} {oi oj : Oper} (hi : ops[i]? = some oi) (hj : ops[j]? = some oj) (ht : mayTurn ops cl i j = true) (hsi : ∀ cs b, oi.op ≠ .select cs b) (hsj : ∀ cs b, oj.op ≠ .select cs b) (hk1 : clsN ops cl i = 3 → kp j = true)
    {K : Act → World → Prop} {a : Act} {w : World} (h : wpI P ops C cl kp j (fun a w => wpI P ops C cl kp i K a w) a w) : wpI P ops C cl kp i (fun a w => wpI P ops C cl kp j K a w) a w := by
  unfold mayTurn at ht
  rw [hi, hj] at ht
  simp only [Bool.and_eq_true, Bool.or_eq_true, beq_iff_eq] at ht
  obtain ⟨hap, hc⟩ := ht
  obtain ⟨h1, h2, h3⟩ := Oper.apart_spec hap
  rw [wpI_some hj] at h
  rw [wpI_some hi]
  by_cases cj : readB (clsN ops cl j) = true
  · rw [if_pos cj] at h
    obtain ⟨vj, yj, h⟩ := h
    rw [wpI_some hi] at h
    by_cases ci : readB (clsN ops cl i) = true
    · rw [if_pos ci] at h ⊢
      obtain ⟨vi, yi, h⟩ := h
      refine ⟨vi, yi.of_same (execOp_put oi hsi a oj.dst vj h3).symm (wanted_put oi a oj.dst vj h3).symm, ?_⟩
      rw [wpI_some hj, if_pos cj]
      refine ⟨vj, yj.of_same (execOp_put oj hsj a oi.dst vi h1) (wanted_put oj a oi.dst vi h1), ?_⟩
      rw [Act.put_comm a vi vj h2]
      exact h
    · rw [if_neg ci] at h ⊢
      have ci' : clsN ops cl i ≠ 0 ∧ clsN ops cl i ≠ 1 ∧ clsN ops cl i ≠ 3 := by
        unfold readB at ci
        simp only [Bool.or_eq_true, beq_iff_eq, not_or] at ci
        exact ⟨ci.1.1, ci.1.2, ci.2⟩
      have c0 : clsN ops cl j = 0 ∨ clsN ops cl j = 3 := by omega
      unfold YieldC at yj
      rcases c0 with c0 | c0
      · rw [if_pos c0] at yj
        refine wpOp_mono ?_ (wpOp_push hi (apart_symm hap) hsj hsi yj h)
        rintro a' w' ⟨y', hC, hk⟩
        refine ⟨hC, ?_⟩
        rw [wpI_some hj, if_pos cj]
        refine ⟨vj, ?_, hk⟩
        unfold YieldC
        rw [if_pos c0]
        exact y'
      · rw [if_neg (by omega), if_pos c0] at yj
        refine wpOp_mono ?_ (wpOp_push hi (apart_symm hap) hsj hsi yj h)
        rintro a' w' ⟨y', hC, hk⟩
        refine ⟨hC, ?_⟩
        rw [wpI_some hj, if_pos cj]
        refine ⟨vj, ?_, hk⟩
        unfold YieldC
        rw [if_neg (by omega), if_pos c0]
        exact y'
  · rw [if_neg cj] at h
    have cj' : clsN ops cl j ≠ 0 ∧ clsN ops cl j ≠ 1 ∧ clsN ops cl j ≠ 3 := by
      unfold readB at cj
      simp only [Bool.or_eq_true, beq_iff_eq, not_or] at cj
      exact ⟨cj.1.1, cj.1.2, cj.2⟩
    have ci0 : clsN ops cl i = 0 ∨ clsN ops cl i = 3 := by omega
    have ci : readB (clsN ops cl i) = true := by
      unfold readB
      rcases ci0 with e | e <;> rw [e] <;> rfl
    rw [if_pos ci]
    have fin : ∀ v, (∃ v', v' = v ∧ YieldC P ops C (clsN ops cl i) w oi v' a) → wpOp P ops noQ j (fun a w => (kp j = true → C w) ∧ K a w) (a.put oi.dst v) w → ∃ v, YieldC P ops C (clsN ops cl i) w oi v a ∧ wpI P ops C cl kp j K (a.put oi.dst v) w := by
      rintro v ⟨v', rfl, hy⟩ hk
      refine ⟨v', hy, ?_⟩
      rw [wpI_some hj, if_neg cj]
      exact hk
    rcases ci0 with c0 | c0
    · have h' : wpOp P ops noQ j (fun a' w' => (fun _ => True) w' ∧ ∃ v, YieldsC P ops (fun _ => True) oi v a' ∧ (fun a w => (kp j = true → C w) ∧ K a w) (a'.put oi.dst v) w') a w := by
        refine wpOp_mono ?_ h
        rintro a' w' ⟨hC, hh⟩
        rw [wpI_some hi, if_pos ci] at hh
        obtain ⟨v, hy, hk⟩ := hh
        refine ⟨trivial, v, ?_, hC, hk⟩
        simpa only [YieldC, if_pos c0] using hy
      obtain ⟨v, hy, hk⟩ := wpOp_pull (C := fun _ => True) (K := fun a w => (kp j = true → C w) ∧ K a w) hj hap hsi hsj h'
      refine fin v ⟨v, rfl, ?_⟩ hk
      unfold YieldC
      rw [if_pos c0]
      exact hy
    · have h' : wpOp P ops noQ j (fun a' w' => C w' ∧ ∃ v, YieldsC P ops C oi v a' ∧ (fun a w => (kp j = true → C w) ∧ K a w) (a'.put oi.dst v) w') a w := by
        refine wpOp_mono ?_ h
        rintro a' w' ⟨hC, hh⟩
        rw [wpI_some hi, if_pos ci] at hh
        obtain ⟨v, hy, hk⟩ := hh
        refine ⟨hC (hk1 c0), v, ?_, hC, hk⟩
        unfold YieldC at hy
        rw [if_neg (by omega), if_pos c0] at hy
        exact hy
      obtain ⟨v, hy, hk⟩ := wpOp_pull (C := C) (K := fun a w => (kp j = true → C w) ∧ K a w) hj hap hsi hsj h'
      refine fin v ⟨v, rfl, ?_⟩ hk
      unfold YieldC
      rw [if_neg (by omega), if_pos c0]
      exact hy
end

/-- A plan: the operations in an order; where effects may stand in several orders, all of them. -/
inductive Plan where
  | done
  | step (i : Nat) (p : Plan)
  | fork (p q : Plan)
def Plan.first (eff : Nat → Bool) : Plan → List Nat
  | .done => []
  | .step i p => if eff i then [i] else p.first eff
  | .fork p q => p.first eff ++ q.first eff
def Plan.of : List Nat → Plan
  | [] => .done
  | i :: r => .step i (Plan.of r)
/-- Each effect may come first by the plan, or waits for another one. -/
def FirstOk (A : List (List Nat)) (eff : Nat → Bool) (p : Plan) (rem : List Nat) : Prop := ∀ j ∈ rem, eff j = true → j ∈ p.first eff ∨ ∃ k ∈ rem, eff k = true ∧ k ∈ A.getD j []
def Cov (A : List (List Nat)) (eff : Nat → Bool) : Plan → List Nat → Prop
  | .done, rem => rem = []
  | .step i p, rem => i ∈ rem ∧ (∀ k ∈ rem, k ∉ A.getD i []) ∧ Cov A eff p (rem.erase i) ∧ (eff i = true → FirstOk A eff p (rem.erase i))
  | .fork p q, rem => Cov A eff p rem ∧ Cov A eff q rem
def firstB (A : List (List Nat)) (eff : Nat → Bool) (p : Plan) (rem : List Nat) : Bool := rem.all fun j => !eff j || (p.first eff).contains j || rem.any fun k => eff k && (A.getD j []).contains k
def covB (A : List (List Nat)) (eff : Nat → Bool) : Plan → List Nat → Bool
  | .done, rem => rem.isEmpty
  | .step i p, rem => rem.contains i && (rem.all fun k => !(A.getD i []).contains k) && covB A eff p (rem.erase i) && (!eff i || firstB A eff p (rem.erase i))
  | .fork p q, rem => covB A eff p rem && covB A eff q rem
theorem firstB_ok {A : List (List Nat)} {eff : Nat → Bool} {p : Plan} {rem : List Nat} (h : firstB A eff p rem = true) : FirstOk A eff p rem := by
  intro j hj he
  have := List.all_eq_true.1 h j hj
  rw [he] at this
  simp only [Bool.not_true, Bool.false_or, Bool.or_eq_true] at this
  rcases this with h | h
  · exact .inl (List.contains_iff_mem.1 h)
  · obtain ⟨k, hk, hb⟩ := List.any_eq_true.1 h
    rw [Bool.and_eq_true] at hb
    exact .inr ⟨k, hk, hb.1, List.contains_iff_mem.1 hb.2⟩
theorem covB_ok {A : List (List Nat)} {eff : Nat → Bool} : ∀ {p : Plan} {rem : List Nat}, covB A eff p rem = true → Cov A eff p rem
  | .done, rem, h => by simpa [covB, Cov] using h
  | .step i p, rem, h => by
    unfold covB at h
    simp only [Bool.and_eq_true] at h
    obtain ⟨⟨⟨h1, h2⟩, h3⟩, h4⟩ := h
    refine ⟨List.contains_iff_mem.1 h1, fun k hk => ?_, covB_ok h3, fun he => ?_⟩
    · have := List.all_eq_true.1 h2 k hk
      simpa using this
    · rw [he] at h4
      exact firstB_ok (by simpa using h4)
  | .fork p q, rem, h => by
    unfold covB at h
    rw [Bool.and_eq_true] at h
    exact ⟨covB_ok h.1, covB_ok h.2⟩

/-- The walk by a plan. -/
def wpP (P : Program) (ops : Array Oper) (Q : Exit → Act → World → Prop) (C : World → Prop) (cl : List Nat) (kp : Nat → Bool) : Plan → Act → World → Prop
  | .done, a, w => Q .normal a w
  | .step i p, a, w => wpI P ops C cl kp i (wpP P ops Q C cl kp p) a w
  | .fork p q, a, w => wpP P ops Q C cl kp p a w ∧ wpP P ops Q C cl kp q a w
def Plan.rm (i : Nat) : Plan → Plan
  | .done => .done
  | .step j p => if i = j then p else .step j (p.rm i)
  | .fork p q => .fork (p.rm i) (q.rm i)
def Plan.rmE (eff : Nat → Bool) (i : Nat) : Plan → Plan
  | .done => .done
  | .step j p => if i = j then p else .step j (p.rmE eff i)
  | .fork p q => if (p.first eff).contains i then p.rmE eff i else q.rmE eff i
section
variable {A : List (List Nat)} {eff : Nat → Bool}
theorem rm_first {i : Nat} (hi : eff i = false) : ∀ p : Plan, (p.rm i).first eff = p.first eff
  | .done => rfl
  | .step j p => by
    unfold Plan.rm
    split
    · rename_i e
      subst e
      rw [Plan.first, hi]
      rfl
    · rw [Plan.first, Plan.first, rm_first hi p]
  | .fork p q => by rw [Plan.rm, Plan.first, Plan.first, rm_first hi p, rm_first hi q]
theorem rm_firstOk {i : Nat} (hi : eff i = false) {p : Plan} {rem : List Nat} (nd : rem.Nodup) (h : FirstOk A eff p rem) : FirstOk A eff (p.rm i) (rem.erase i) := by
  intro j hj he
  rw [rm_first hi]
  rcases h j (List.mem_of_mem_erase hj) he with h | ⟨k, hk, hke, hka⟩
  · exact .inl h
  · exact .inr ⟨k, (nd.mem_erase_iff).2 ⟨(fun e => by rw [e, hi] at hke; cases hke), hk⟩, hke, hka⟩
theorem rm_cov {i : Nat} (hi : eff i = false) : ∀ {p : Plan} {rem : List Nat}, rem.Nodup → i ∈ rem → Cov A eff p rem → Cov A eff (p.rm i) (rem.erase i)
  | .done, rem, nd, hm, h => by rw [Cov] at h; rw [h] at hm; cases hm
  | .step j p, rem, nd, hm, h => by
    obtain ⟨h1, h2, h3, h4⟩ := h
    unfold Plan.rm
    split
    · rename_i e
      subst e
      exact h3
    · rename_i e
      have hij : i ∈ rem.erase j := (nd.mem_erase_iff).2 ⟨e, hm⟩
      refine ⟨(nd.mem_erase_iff).2 ⟨fun e' => e e'.symm, h1⟩, fun k hk => h2 k (List.mem_of_mem_erase hk), ?_, fun he => ?_⟩
      · rw [List.erase_comm]
        exact rm_cov hi (nd.erase j) hij h3
      · rw [List.erase_comm]
        exact rm_firstOk hi (nd.erase j) (h4 he)
  | .fork p q, rem, nd, hm, h => ⟨rm_cov hi nd hm h.1, rm_cov hi nd hm h.2⟩
theorem rmE_cov {i : Nat} (hi : eff i = true) : ∀ {p : Plan} {rem : List Nat}, rem.Nodup → i ∈ rem → i ∈ p.first eff → Cov A eff p rem → Cov A eff (p.rmE eff i) (rem.erase i) ∧ FirstOk A eff (p.rmE eff i) (rem.erase i)
  | .done, rem, nd, hm, hf, h => by cases hf
  | .step j p, rem, nd, hm, hf, h => by
    obtain ⟨h1, h2, h3, h4⟩ := h
    unfold Plan.rmE
    split
    · rename_i e
      subst e
      exact ⟨h3, h4 hi⟩
    · rename_i e
      have hj : eff j = false := by
        cases hj : eff j with
        | false => rfl
        | true =>
          rw [Plan.first, hj] at hf
          simp at hf
          exact absurd hf e
      have hf' : i ∈ p.first eff := by rw [Plan.first, hj] at hf; exact hf
      have hij : i ∈ rem.erase j := (nd.mem_erase_iff).2 ⟨e, hm⟩
      obtain ⟨g1, g2⟩ := rmE_cov hi (nd.erase j) hij hf' h3
      rw [List.erase_comm] at g1 g2
      refine ⟨⟨(nd.mem_erase_iff).2 ⟨fun e' => e e'.symm, h1⟩, fun k hk => h2 k (List.mem_of_mem_erase hk), g1, fun he => by rw [hj] at he; cases he⟩, ?_⟩
      intro k hk he
      have hkj : k ≠ j := fun e' => by rw [e', hj] at he; cases he
      rw [Plan.first, hj]
      rcases g2 k (((nd.erase i).mem_erase_iff).2 ⟨hkj, hk⟩) he with h | ⟨k', h, h'⟩
      · exact .inl h
      · exact .inr ⟨k', List.mem_of_mem_erase h, h'⟩
  | .fork p q, rem, nd, hm, hf, h => by
    unfold Plan.rmE
    split
    · rename_i hc
      exact rmE_cov hi nd hm (List.contains_iff_mem.1 hc) h.1
    · rename_i hc
      rw [Plan.first, List.mem_append] at hf
      exact rmE_cov hi nd hm (hf.resolve_left fun h => hc (List.contains_iff_mem.2 h)) h.2
end
section
variable {C : World → Prop} {cl : List Nat} {A : List (List Nat)} {kp : Nat → Bool}
/-- What the proof needs of a region. -/
structure Turns (ops : Array Oper) (cl : List Nat) (A : List (List Nat)) (kp : Nat → Bool) : Prop where
  sel : Region.noSelect ops = true
  turn : ∀ i j, i < ops.size → j < ops.size → i ≠ j → j ∉ A.getD i [] → i ∉ A.getD j [] → (clsN ops cl i = 2 ∧ clsN ops cl j = 2) ∨ mayTurn ops cl i j = true
  two : ∀ i, i < ops.size → clsN ops cl i ≤ 3
  kept : ∀ i j, j ∈ cl → j ∉ A.getD i [] → kp i = true
theorem readB_ne {c : Nat} (h : readB c = true) : c ≠ 2 := by
  rintro rfl
  cases h
theorem readB_of {c : Nat} (h : c ≤ 3) (h2 : c ≠ 2) : readB c = true := by
  have : c = 0 ∨ c = 1 ∨ c = 3 := by omega
  rcases this with rfl | rfl | rfl <;> rfl
theorem rm_wp (T : Turns ops cl A kp) {i : Nat} {oi : Oper} (hi : ops[i]? = some oi) (hc : readB (clsN ops cl i) = true) : ∀ (p : Plan) (rem : List Nat) (a : Act) (w : World), (clsN ops cl i = 3 → C w) → rem.Nodup → (∀ j ∈ rem, j < ops.size) → i ∈ rem → (∀ k ∈ rem, k ∉ A.getD i []) → Cov A (fun i => clsN ops cl i == 2) p rem →
    wpP P ops Q C cl kp p a w → wpI P ops C cl kp i (wpP P ops Q C cl kp (p.rm i)) a w
  | .done, rem, a, w, hC, nd, hlt, hm, hr, h, hw => by rw [Cov] at h; rw [h] at hm; cases hm
  | .step j p, rem, a, w, hC, nd, hlt, hm, hr, h, hw => by
    obtain ⟨h1, h2, h3, h4⟩ := h
    unfold Plan.rm
    split
    · rename_i e
      subst e
      exact hw
    · rename_i e
      have hij : i ∈ rem.erase j := (nd.mem_erase_iff).2 ⟨e, hm⟩
      have hjlt := hlt j h1
      have hj : ops[j]? = some (ops[j]'hjlt) := Array.getElem?_eq_getElem hjlt
      have hkp : clsN ops cl i = 3 → kp j = true := fun c3 => T.kept j i (clsN_cl c3) (h2 i hm)
      have hh : wpI P ops C cl kp j (fun a w => wpI P ops C cl kp i (wpP P ops Q C cl kp (p.rm i)) a w) a w := by
        have hw' : wpI P ops C cl kp j (wpP P ops Q C cl kp p) a w := hw
        rw [wpI_some hj] at hw' ⊢
        have ih := fun a w hC => rm_wp T hi hc p (rem.erase j) a w hC (nd.erase j) (fun k hk => hlt k (List.mem_of_mem_erase hk)) hij (fun k hk => hr k (List.mem_of_mem_erase hk)) h3
        split at hw'
        · rw [if_pos ‹_›]
          obtain ⟨v, y, k⟩ := hw'
          exact ⟨v, y, ih _ _ hC k⟩
        · rw [if_neg ‹_›]
          exact wpOp_mono (fun a w hk => ⟨hk.1, ih _ _ (fun c3 => hk.1 (hkp c3)) hk.2⟩) hw'
      refine swapT hi hj ?_ (fun cs b => Region.noSelect_spec T.sel i _ cs b hi) (fun cs b => Region.noSelect_spec T.sel j _ cs b hj) hkp hh
      rcases T.turn i j (hlt i hm) hjlt e (hr j h1) (h2 i hm) with h | h
      · exact absurd h.1 (readB_ne hc)
      · exact h
  | .fork p q, rem, a, w, hC, nd, hlt, hm, hr, h, hw => by
    have ih1 := rm_wp T hi hc p rem a w hC nd hlt hm hr h.1 hw.1
    have ih2 := rm_wp T hi hc q rem a w hC nd hlt hm hr h.2 hw.2
    rw [wpI_some hi, if_pos hc] at ih1 ih2 ⊢
    obtain ⟨v1, y1, k1⟩ := ih1
    obtain ⟨v2, y2, k2⟩ := ih2
    have := yieldsW_uniq (y1.w hC) (y2.w hC)
    subst this
    exact ⟨v1, y1, k1, k2⟩
theorem rmE_wp (T : Turns ops cl A kp) {i : Nat} {oi : Oper} (hi : ops[i]? = some oi) (hc : clsN ops cl i = 2) : ∀ (p : Plan) (rem : List Nat) (a : Act) (w : World), rem.Nodup → (∀ j ∈ rem, j < ops.size) → i ∈ rem → (∀ k ∈ rem, k ∉ A.getD i []) → i ∈ p.first (fun i => clsN ops cl i == 2) → Cov A (fun i => clsN ops cl i == 2) p rem →
    wpP P ops Q C cl kp p a w → wpI P ops C cl kp i (wpP P ops Q C cl kp (p.rmE (fun i => clsN ops cl i == 2) i)) a w
  | .done, rem, a, w, nd, hlt, hm, hr, hf, h, hw => by cases hf
  | .step j p, rem, a, w, nd, hlt, hm, hr, hf, h, hw => by
    obtain ⟨h1, h2, h3, h4⟩ := h
    unfold Plan.rmE
    split
    · rename_i e
      subst e
      exact hw
    · rename_i e
      have hcj2 : clsN ops cl j ≠ 2 := by
        intro h
        have h2 : (clsN ops cl j == 2) = true := by simpa using h
        rw [Plan.first, h2] at hf
        simp at hf
        exact absurd hf e
      have hcj : readB (clsN ops cl j) = true := readB_of (T.two j (hlt j h1)) hcj2
      have hf' : i ∈ p.first (fun i => clsN ops cl i == 2) := by
        have h2 : (clsN ops cl j == 2) = false := by simpa using hcj2
        rw [Plan.first, h2] at hf
        exact hf
      have hij : i ∈ rem.erase j := (nd.mem_erase_iff).2 ⟨e, hm⟩
      have hjlt := hlt j h1
      have hj : ops[j]? = some (ops[j]'hjlt) := Array.getElem?_eq_getElem hjlt
      have hh : wpI P ops C cl kp j (fun a w => wpI P ops C cl kp i (wpP P ops Q C cl kp (p.rmE (fun i => clsN ops cl i == 2) i)) a w) a w := by
        have hw' : wpI P ops C cl kp j (wpP P ops Q C cl kp p) a w := hw
        rw [wpI_some hj, if_pos hcj] at hw' ⊢
        obtain ⟨v, y, k⟩ := hw'
        exact ⟨v, y, rmE_wp T hi hc p (rem.erase j) _ _ (nd.erase j) (fun k hk => hlt k (List.mem_of_mem_erase hk)) hij (fun k hk => hr k (List.mem_of_mem_erase hk)) hf' h3 k⟩
      refine swapT hi hj ?_ (fun cs b => Region.noSelect_spec T.sel i _ cs b hi) (fun cs b => Region.noSelect_spec T.sel j _ cs b hj) (fun h => by rw [hc] at h; cases h) hh
      rcases T.turn i j (hlt i hm) hjlt e (hr j h1) (h2 i hm) with h | h
      · exact absurd h.2 hcj2
      · exact h
  | .fork p q, rem, a, w, nd, hlt, hm, hr, hf, h, hw => by
    unfold Plan.rmE
    split
    · rename_i hc'
      exact rmE_wp T hi hc p rem a w nd hlt hm hr (List.contains_iff_mem.1 hc') h.1 hw.1
    · rename_i hc'
      rw [Plan.first, List.mem_append] at hf
      exact rmE_wp T hi hc q rem a w nd hlt hm hr (hf.resolve_left fun h => hc' (List.contains_iff_mem.2 h)) h.2 hw.2
theorem wpP_nil {eff : Nat → Bool} : ∀ {p : Plan} {a : Act} {w : World}, Cov A eff p [] → wpP P ops Q C cl kp p a w → Q .normal a w
  | .done, _, _, _, hw => hw
  | .step i p, _, _, h, _ => by have := h.1; cases this
  | .fork p q, _, _, h, hw => wpP_nil h.1 hw.1
end
/-- Some load of cl need not come ahead of operation i. -/
def kpOf (l : List Oper) (cl : List Nat) (i : Nat) : Bool := cl.any fun j => !((ancL l []).getD i []).contains j

/-- The region's form is fit for the law. -/
def txtB (l : List Oper) (cl : List Nat) (p : Plan) : Bool :=
  let A := ancL l []
  let ops := l.toArray
  let eff := fun i => clsN ops cl i == 2
  Region.noSelect ops && ((List.range l.length).all fun i => match l[i]? with
    | none => true
    | some o =>
      (o.after.toList.all fun e => !Region.binds .any e || decide (e.on < i)) &&
      ((A.getD i []).all fun k => o.after.toList.any fun e => Region.binds .any e && (k == e.on || (A.getD e.on []).contains k)) &&
      ((List.range l.length).all fun j => i == j || (A.getD i []).contains j || (A.getD j []).contains i || (eff i && eff j) || mayTurn ops cl i j) && decide (clsN ops cl i ≤ 3)) &&
  covB A eff p (List.range l.length) && firstB A eff p (List.range l.length)
end
section
variable {P : Program} {l : List Oper} {Q : Exit → Act → World → Prop} {C : World → Prop} {cl : List Nat}
theorem txt_any {A : List (List Nat)} {kp : Nat → Bool} (T : Turns l.toArray cl A kp) (key : ∀ (i : Nat) o, l[i]? = some o → (∀ e ∈ o.after, Region.binds .any e = true → e.on < i) ∧ (∀ k ∈ A.getD i [], ∃ e ∈ o.after, Region.binds .any e = true ∧ (k = e.on ∨ k ∈ A.getD e.on []))) :
    ∀ (fuel : Nat) (listed : Array Bool) (p : Plan) (a : Act) (w : World), (∀ j ∈ cl, j ∈ (List.range l.length).filter (fun i => !listed.getD i false) → C w) → listed.size = l.length → (∀ i, listed.getD i false = true → ∀ k ∈ A.getD i [], listed.getD k false = true) →
    ((List.range l.length).filter fun i => !listed.getD i false).length ≤ fuel → Cov A (fun i => clsN l.toArray cl i == 2) p ((List.range l.length).filter fun i => !listed.getD i false) → FirstOk A (fun i => clsN l.toArray cl i == 2) p ((List.range l.length).filter fun i => !listed.getD i false) →
    wpP P l.toArray Q C cl kp p a w → wpAny P .any l.toArray Q fuel listed a w := by
  have whole : ∀ (listed : Array Bool), listed.size = l.length → Region.ready .any l.toArray listed = [] → (List.range l.length).filter (fun i => !listed.getD i false) = [] := by
    intro listed hsz hr
    rw [List.filter_eq_nil_iff]
    intro i hi
    have hi := List.mem_range.1 hi
    induction i using Nat.strongRecOn with
    | _ i ih =>
      cases hl : listed.getD i false with
      | true => simp
      | false =>
        exfalso
        have : i ∈ Region.ready .any l.toArray listed := by
          rw [mem_ready]
          have ho : l[i]? = some l[i] := List.getElem?_eq_getElem hi
          refine ⟨?_, l[i], by simp [hi], fun e he hb => ?_⟩
          · rw [Array.getD_eq_getD_getElem?] at hl ⊢
            have : i < listed.size := by omega
            rw [Array.getElem?_eq_getElem this] at hl ⊢
            simpa using hl
          · have h1 := (key i _ ho).1 e he hb
            have := ih e.on h1 (List.mem_range.2 (by omega)) (by omega)
            simpa using this
        rw [hr] at this
        cases this
  intro fuel
  induction fuel with
  | zero =>
    intro listed p a w hC hsz shut hle hcov hf h
    have h0 : (List.range l.length).filter (fun i => !listed.getD i false) = [] := List.length_eq_zero_iff.1 (by omega)
    rw [h0] at hcov
    refine ⟨?_, wpP_nil hcov h⟩
    rw [List.eq_nil_iff_forall_not_mem]
    intro i hi
    obtain ⟨g0, o, ho, -⟩ := mem_ready.1 hi
    have hil : i < l.length := by simpa using (Array.getElem?_eq_some_iff.1 ho).1
    rw [List.filter_eq_nil_iff] at h0
    have := h0 i (List.mem_range.2 hil)
    rw [Array.getD_eq_getD_getElem?] at g0 this
    have hs : i < listed.size := by omega
    rw [Array.getElem?_eq_getElem hs] at g0 this
    simp at g0 this
    rw [g0] at this
    cases this
  | succ fuel ih =>
    intro listed p a w hC hsz shut hle hcov hf h
    refine ⟨fun hr => ?_, fun i hi => ?_⟩
    · rw [whole listed hsz hr] at hcov
      exact wpP_nil hcov h
    obtain ⟨g0, o, ho, hall⟩ := mem_ready.1 hi
    have hil : i < l.length := by simpa using (Array.getElem?_eq_some_iff.1 ho).1
    have hs : i < listed.size := by omega
    have hol : l[i]? = some o := by simpa using ho
    have hun : listed.getD i false = false := by
      rw [Array.getD_eq_getD_getElem?] at g0 ⊢
      rw [Array.getElem?_eq_getElem hs] at g0 ⊢
      simpa using g0
    obtain ⟨e1, e2⟩ := key i o hol
    have hanc : ∀ k ∈ A.getD i [], listed.getD k false = true := by
      intro k hk
      obtain ⟨e, he, hb, h⟩ := e2 k hk
      have h1 := hall e he hb
      rcases h with rfl | h
      · exact h1
      · exact shut _ h1 k h
    have nd : ((List.range l.length).filter (fun i => !listed.getD i false)).Nodup := List.Pairwise.filter _ List.nodup_range
    have hset : ((List.range l.length).filter (fun i => !listed.getD i false)).erase i = (List.range l.length).filter (fun j => !(listed.setIfInBounds i true).getD j false) := by
      rw [List.Nodup.erase_eq_filter nd, List.filter_filter]
      refine List.filter_congr fun j hj => ?_
      by_cases e : i = j
      · subst e
        have : (listed.setIfInBounds i true).getD i false = true := by simp [hs]
        rw [this]
        simp
      · have : (listed.setIfInBounds i true).getD j false = listed.getD j false := getD_set_ne false e
        rw [this]
        have : (j != i) = true := by simpa using fun h => e h.symm
        rw [this, Bool.and_comm, Bool.and_true]
    have hmem : i ∈ (List.range l.length).filter (fun i => !listed.getD i false) := List.mem_filter.2 ⟨List.mem_range.2 hil, by rw [hun]; rfl⟩
    have hlt : ∀ j ∈ (List.range l.length).filter (fun i => !listed.getD i false), j < l.toArray.size := fun j hj => by simpa using List.mem_range.1 (List.mem_filter.1 hj).1
    have hnr : ∀ k ∈ (List.range l.length).filter (fun i => !listed.getD i false), k ∉ A.getD i [] := fun k hk hka => by
      have := (List.mem_filter.1 hk).2
      rw [hanc k hka] at this
      cases this
    have hlen : ((List.range l.length).filter fun j => !(listed.setIfInBounds i true).getD j false).length ≤ fuel := by
      rw [← hset, List.length_erase_of_mem hmem]
      omega
    have hshut : ∀ j, (listed.setIfInBounds i true).getD j false = true → ∀ k ∈ A.getD j [], (listed.setIfInBounds i true).getD k false = true := by
      intro j hj k hk
      by_cases e : i = j
      · subst e
        exact getD_set_true (hanc k hk)
      · rw [getD_set_ne false e] at hj
        exact getD_set_true (shut j hj k hk)
    generalize (List.range l.length).filter (fun i => !listed.getD i false) = rem at *
    by_cases hc : clsN l.toArray cl i = 2
    · have heff : (fun i => clsN l.toArray cl i == 2) i = true := by simpa using hc
      have hfi : i ∈ p.first (fun i => clsN l.toArray cl i == 2) := by
        rcases hf i hmem heff with h | ⟨k, hk, -, hka⟩
        · exact h
        · exact absurd hka (hnr k hk)
      obtain ⟨c1, c2⟩ := rmE_cov (eff := fun i => clsN l.toArray cl i == 2) (i := i) heff nd hmem hfi hcov
      have hp := rmE_wp T ho hc p rem a w nd hlt hmem hnr hfi hcov h
      rw [hset] at c1 c2
      refine wpOp_mono (fun a' w' hk => ih (listed.setIfInBounds i true) _ a' w' (fun j hj hjm => ?_) (by rw [Array.size_setIfInBounds]; exact hsz) hshut hlen c1 c2 hk.2.2) (wpI_op (fun h => by rw [hc] at h; cases h) hp)
      refine hk.2.1 (by rw [hc]; rfl) (T.kept i j hj fun hja => ?_)
      rw [← hset] at hjm
      exact hnr j (List.mem_of_mem_erase hjm) hja
    · have heff : (fun i => clsN l.toArray cl i == 2) i = false := by simpa using hc
      have hrb : readB (clsN l.toArray cl i) = true := readB_of (T.two i (by simpa using hil)) hc
      have c1 := rm_cov (eff := fun i => clsN l.toArray cl i == 2) (i := i) heff nd hmem hcov
      have c2 := rm_firstOk (eff := fun i => clsN l.toArray cl i == 2) (i := i) heff nd hf
      have hC3 : clsN l.toArray cl i = 3 → C w := fun h3 => hC i (clsN_cl h3) hmem
      have hp := rm_wp T ho hrb p rem a w hC3 nd hlt hmem hnr hcov h
      rw [hset] at c1 c2
      refine wpOp_mono (fun a' w' hk => ih (listed.setIfInBounds i true) _ a' w' (fun j hj hjm => ?_) (by rw [Array.size_setIfInBounds]; exact hsz) hshut hlen c1 c2 hk.2.2) (wpI_op hC3 hp)
      rw [hk.1 hrb]
      rw [← hset] at hjm
      exact hC j hj (List.mem_of_mem_erase hjm)

/-- THE LAW, by a plan. -/
theorem wp_plan {id : Nat} {a : Act} {w : World} (C : World → Prop) (cl : List Nat) (p : Plan) (hm : P.follows .mixedOrders = true) (hB : txtB l cl p = true) (hC : C w.drew) (h : wpP P l.toArray Q C cl (kpOf l cl) p a w.drew) : (Code.region id l.toArray true).wp P Q a w := by
  refine wp_region_any hm ?_
  have hf : (List.range l.length).filter (fun i => !(Array.replicate l.length false).getD i false) = List.range l.length := by
    rw [List.filter_eq_self.2 (fun i _ => by rw [none_listed]; rfl)]
  unfold txtB at hB
  simp only [Bool.and_eq_true] at hB
  obtain ⟨⟨⟨hsel, hB⟩, hcov⟩, hfst⟩ := hB
  obtain ⟨A, hA⟩ : ∃ A, A = ancL l [] := ⟨_, rfl⟩
  have hkp : ∀ i j, j ∈ cl → j ∉ A.getD i [] → kpOf l cl i = true := by
    intro i j hj hn
    unfold kpOf
    rw [← hA]
    exact List.any_eq_true.2 ⟨j, hj, by simpa using hn⟩
  rw [← hA] at hB hcov hfst
  have key : ∀ (i : Nat) o, l[i]? = some o → _ := fun i o ho => by
    have hi : i < l.length := (List.getElem?_eq_some_iff.1 ho).1
    have := List.all_eq_true.1 hB i (List.mem_range.2 hi)
    rw [ho] at this
    simp only [Bool.and_eq_true] at this
    exact this
  have T : Turns l.toArray cl A (kpOf l cl) := by
    refine ⟨hsel, fun i j hi hj hij h1 h2 => ?_, fun i hi => ?_, hkp⟩
    · have hi : i < l.length := by simpa using hi
      have hj : j < l.length := by simpa using hj
      obtain ⟨⟨-, k3⟩, -⟩ := key i _ (List.getElem?_eq_getElem hi)
      have := List.all_eq_true.1 k3 j (List.mem_range.2 hj)
      simp only [Bool.or_eq_true, beq_iff_eq, List.contains_iff_mem, Bool.and_eq_true] at this
      rcases this with (((h | h) | h) | h) | h
      · exact absurd h hij
      · exact absurd h h1
      · exact absurd h h2
      · exact .inl h
      · exact .inr h
    · have hi : i < l.length := by simpa using hi
      obtain ⟨-, k4⟩ := key i _ (List.getElem?_eq_getElem hi)
      simpa using k4
  refine txt_any (cl := cl) (A := A) T (fun i o ho => ?_) _ _ p a _ (fun _ _ _ => hC) (by simp) (fun i hi => by rw [List.size_toArray, none_listed] at hi; cases hi) ?_ ?_ ?_ h
  · obtain ⟨⟨⟨k1, k2⟩, -⟩, -⟩ := key i o ho
    refine ⟨fun e he hb => ?_, fun k hk => ?_⟩
    · have := List.all_eq_true.1 k1 e (by simpa using he)
      simpa [hb] using this
    · have := List.all_eq_true.1 k2 k hk
      obtain ⟨e, he, hb⟩ := List.any_eq_true.1 this
      simp only [Bool.and_eq_true, Bool.or_eq_true, beq_iff_eq, List.contains_iff_mem] at hb
      exact ⟨e, by simpa using he, hb⟩
  · rw [List.size_toArray, hf]
    simp
  · rw [List.size_toArray, hf]
    exact covB_ok hcov
  · rw [List.size_toArray, hf]
    exact firstB_ok hfst

/-- THE LEXICAL WALK. -/
def wpTxt (P : Program) (ops : Array Oper) (Q : Exit → Act → World → Prop) : List Oper → Act → World → Prop
  | [], a, w => Q .normal a w
  | o :: r, a, w => if clsOf o ≤ 1 then ∃ v, YieldC P ops (fun _ => True) (clsOf o) w o v a ∧ wpTxt P ops Q r (a.put o.dst v) w
      else if Region.wanted o (yielded ops a.tmps) then o.wp P a w (wpTxt P ops Q r) noQ else wpTxt P ops Q r (a.put o.dst undef) w
theorem wpP_txt : ∀ (r : List Oper) (k : Nat), (∀ j, r[j]? = l[k + j]?) → ∀ a w, wpTxt P l.toArray Q r a w → wpP P l.toArray Q (fun _ => True) [] (kpOf l []) (Plan.of (List.range' k r.length)) a w := by
  intro r
  induction r with
  | nil => intro k _ a w h; exact h
  | cons o r ih =>
    intro k h a w hw
    have h0 : l.toArray[k]? = some o := by simpa using (h 0).symm
    have ih' := ih (k + 1) (fun j => by have := h (j + 1); simpa [Nat.add_assoc, Nat.add_comm 1 j] using this)
    have hc : clsN l.toArray [] k = clsOf o := by
      unfold clsN
      rw [h0]
      simp
    rw [List.length_cons, List.range'_succ, Plan.of, wpP, wpI_some h0, hc]
    rw [wpTxt] at hw
    have hrd : readB (clsOf o) = true ↔ clsOf o ≤ 1 := by
      have h2 : clsOf o ≤ 2 := by
        unfold clsOf
        split <;> (try split) <;> decide
      constructor
      · intro h
        have := readB_ne h
        omega
      · intro h
        exact readB_of (by omega) (by omega)
    split
    · rw [if_pos (hrd.1 ‹_›)] at hw
      obtain ⟨v, y, k⟩ := hw
      exact ⟨v, y, ih' _ _ k⟩
    · rw [if_neg (fun h => absurd (hrd.2 h) ‹_›)] at hw
      unfold wpOp
      rw [h0]
      simp only [noQ_lets, and_false, or_false]
      split
      · rw [if_pos ‹_›] at hw
        exact Oper.wp_mono (fun a w hk => ⟨fun _ => trivial, ih' _ _ hk⟩) hw
      · rw [if_neg ‹_›] at hw
        exact ⟨fun _ => trivial, ih' _ _ hw⟩
theorem wp_txt {id : Nat} {a : Act} {w : World} (hm : P.follows .mixedOrders = true) (hB : txtB l [] (Plan.of (List.range' 0 l.length)) = true) (h : wpTxt P l.toArray Q l a w.drew) : (Code.region id l.toArray true).wp P Q a w :=
  wp_plan (fun _ => True) [] _ hm hB trivial (wpP_txt l 0 (by simp) a _ h)
section
variable {ops : Array Oper} {o : Oper} {r : List Oper} {a : Act} {w : World}
theorem tn (h : Q .normal a w) : wpTxt P ops Q [] a w := h
theorem bind_value {s : Sem Value} {n : Next} {w w' : World} (h : (do pure (Next.value (← s)) : Sem Next).run P w = .ok n w') : ∃ v, n = .value v := by
  rw [Sem.run_bind] at h
  generalize s.run P w = x at h
  cases x with
  | ok v w1 =>
    simp only [Result.andThen_ok] at h
    injection h with h1 h2
    exact ⟨v, h1.symm⟩
  | halt x w1 => simp only [Result.andThen_halt] at h; cases h
theorem cls_value {ρ : Operand → Value} (hc : clsOf o ≤ 1) {n : Next} {w' : World} (h : (execOp ρ o).run P w = .ok n w') : ∃ v, n = .value v := by
  obtain ⟨dst, op, type, pos, after, guard⟩ := o
  cases op <;> simp only [clsOf] at hc <;> simp only [execOp] at h
  case move x => injection h with h1 h2; exact ⟨_, h1.symm⟩
  case assign x => injection h with h1 h2; exact ⟨_, h1.symm⟩
  case pick c a b =>
    rw [Sem.run_bind] at h
    generalize (asBool (ρ c)).run P w = x at h
    cases x with
    | ok v w1 => injection h with h1 h2; exact ⟨_, h1.symm⟩
    | halt x w1 => cases h
  case nilCheck x =>
    split at h
    · cases h
    · cases h
    · cases h
    · split at h
      · cases h
      · rw [Sem.run_bind] at h
        generalize Sem.run P (program) w = x at h
        cases x with
        | halt x w1 => cases h
        | ok p w1 =>
          simp only [Result.andThen_ok] at h
          rw [Sem.run_bind] at h
          generalize Sem.run P (nilAhead _ _ _ _) w1 = x at h
          cases x with
          | halt x w1 => cases h
          | ok p w1 =>
            simp only [Result.andThen_ok] at h
            split at h
            · rw [Sem.run_bind] at h
              cases h
            · injection h with h1 h2
              exact ⟨_, h1.symm⟩
      · injection h with h1 h2; exact ⟨_, h1.symm⟩
    · injection h with h1 h2; exact ⟨_, h1.symm⟩
  case call c =>
    cases hc' : c.callee with
    | value f => rw [hc'] at hc; simp at hc
    | invoke r m => rw [hc'] at hc; simp at hc
    | builtin b =>
      rw [hc'] at hc
      unfold resolve at h
      rw [hc'] at h
      cases b <;> first | (simp at hc; done) | exact bind_value h
  all_goals first | exact bind_value h | (simp at hc; done)
theorem wp_value (hc : clsOf o ≤ 1) {A : Act} (h : ∀ Q', (∀ a', a' = A → Q' .normal a' w) → wpList P ops Q' [o] a w) : ∃ v, YieldsW P ops w o v a ∧ a.put o.dst v = A := by
  have h := h (fun e a' w' => e = .normal ∧ a' = A ∧ w' = w) (fun _ e => ⟨rfl, e, rfl⟩)
  unfold wpList at h
  split at h
  · rename_i hw
    rcases h with h | h
    case inr => obtain ⟨_, _, h, -⟩ := h.2; cases h
    unfold Oper.wp at h
    cases hr : (execOp a.eval o).run P w with
    | halt x w' =>
      rw [hr] at h
      cases x <;> simp only [Oper.upon] at h
      obtain ⟨h, -⟩ := h
      cases h
    | ok n w' =>
      obtain ⟨v, rfl⟩ := cls_value hc hr
      rw [hr] at h
      obtain ⟨-, h1, rfl⟩ := h
      exact ⟨v, .inl ⟨hw, hr⟩, h1⟩
  · rename_i hw
    exact ⟨undef, .inr ⟨by simpa using hw, rfl⟩, h.2.1⟩
/-- What reads. -/
theorem tr {A : Act} (hc : (clsOf o == 1) = true) (h : ∀ Q', (∀ a', a' = A → Q' .normal a' w) → wpList P ops Q' [o] a w) (k : wpTxt P ops Q r A w) : wpTxt P ops Q (o :: r) a w := by
  have c0 : clsOf o = 1 := by simpa using hc
  rw [wpTxt, if_pos (by omega)]
  obtain ⟨v, hy, hv⟩ := wp_value (by omega) h
  refine ⟨v, ?_, by rw [hv]; exact k⟩
  unfold YieldC
  rw [if_neg (by omega), if_neg (by omega)]
  exact hy
def fitsB (o : Oper) (a : Act) : Bool := match o.dst with | some d => decide (d < a.tmps.size) | none => false
theorem const_value {C : World → Prop} (hc : clsOf o ≤ 1) {A : Act} (hd : fitsB o a = true) (hC : C w) (h : ∀ w, C w → ∀ Q', (∀ a', a' = A → Q' .normal a' w) → wpList P ops Q' [o] a w) : ∃ v, YieldsC P ops C o v a ∧ a.put o.dst v = A := by
  have hv : ∀ w, C w → ∃ v, YieldsW P ops w o v a ∧ a.put o.dst v = A := fun w hC => wp_value hc (h w hC)
  have uniq : ∀ v u, a.put o.dst v = a.put o.dst u → v = u := by
    intro v u e
    unfold fitsB at hd
    cases hdst : o.dst with
    | none => rw [hdst] at hd; cases hd
    | some d =>
      rw [hdst] at hd e
      have hlt : d < a.tmps.size := by simpa using hd
      have e1 := congrArg (fun x : Act => x.tmps[d]?) e
      simpa [Act.put, hlt] using e1
  obtain ⟨v, hy, hA⟩ := hv w hC
  refine ⟨v, fun w' hC' => ?_, hA⟩
  obtain ⟨u, hu, hB⟩ := hv w' hC'
  have : v = u := uniq v u (hA.trans hB.symm)
  rw [this]
  exact hu
/-- What only computes. -/
theorem tp {A : Act} (hc : (clsOf o == 0) = true) (hd : fitsB o a = true) (h : ∀ w Q', (∀ a', a' = A → Q' .normal a' w) → wpList P ops Q' [o] a w) (k : wpTxt P ops Q r A w) : wpTxt P ops Q (o :: r) a w := by
  have c0 : clsOf o = 0 := by simpa using hc
  rw [wpTxt, if_pos (by omega)]
  obtain ⟨v, hy, hA⟩ := const_value (C := fun _ => True) (w := w) (by omega) hd trivial (fun w _ => h w)
  refine ⟨v, ?_, by rw [hA]; exact k⟩
  unfold YieldC
  rw [if_pos c0]
  exact hy
/-- What has an effect. -/
theorem te (hc : (clsOf o == 2) = true) (h : ∀ Q', (∀ a' w', wpTxt P ops Q r a' w' → Q' .normal a' w') → wpList P ops Q' [o] a w) : wpTxt P ops Q (o :: r) a w := by
  have c0 : clsOf o = 2 := by simpa using hc
  rw [wpTxt, if_neg (by omega)]
  have := h (fun e a' w' => match e with | .normal => wpTxt P ops Q r a' w' | _ => False) (fun _ _ h => h)
  unfold wpList at this
  split
  case isFalse hw => rw [if_neg hw] at this; exact this
  rename_i hw
  rw [if_pos hw] at this
  rcases this with h1 | h1
  case inr =>
    obtain ⟨_, _, h2⟩ := h1.2
    exact h2.elim
  unfold Oper.wp at *
  generalize (execOp a.eval o).run P w = x at *
  cases x with
  | ok n w' =>
    cases n <;> simp only [Oper.upon] at h1 ⊢ <;> exact h1
  | halt x w' =>
    cases x <;> simp only [Oper.upon] at h1 ⊢
section
variable {C : World → Prop} {cl : List Nat} {p q : Plan} {i : Nat}
def opAt : List Oper → Nat → Option Oper
  | [], _ => none
  | o :: _, 0 => some o
  | _ :: r, n + 1 => opAt r n
theorem opAt_eq : ∀ (l : List Oper) (i : Nat), opAt l i = l[i]?
  | [], _ => rfl
  | _ :: _, 0 => rfl
  | _ :: r, n + 1 => by rw [opAt, opAt_eq r n, List.getElem?_cons_succ]
theorem opAt_some {i : Nat} {o : Oper} (h : opAt l i = some o) : l.toArray[i]? = some o := by rw [List.getElem?_toArray, ← opAt_eq]; exact h
theorem qn (h : Q .normal a w) : wpP P l.toArray Q C cl (kpOf l cl) .done a w := h
theorem qf (h1 : wpP P l.toArray Q C cl (kpOf l cl) p a w) (h2 : wpP P l.toArray Q C cl (kpOf l cl) q a w) : wpP P l.toArray Q C cl (kpOf l cl) (.fork p q) a w := ⟨h1, h2⟩
/-- What only computes. -/
theorem qp {A : Act} (hi : opAt l i = some o) (hc : (clsN l.toArray cl i == 0) = true) (hd : fitsB o a = true) (h : ∀ w Q', (∀ a', a' = A → Q' .normal a' w) → wpList P l.toArray Q' [o] a w) (k : wpP P l.toArray Q C cl (kpOf l cl) p A w) : wpP P l.toArray Q C cl (kpOf l cl) (.step i p) a w := by
  replace hi := opAt_some hi
  have c0 : clsN l.toArray cl i = 0 := by simpa using hc
  have c1 : clsOf o ≤ 1 := clsN_le (cl := cl) hi (by rw [c0]; rfl)
  rw [wpP, wpI_some hi, if_pos (by rw [c0]; rfl)]
  obtain ⟨v, hy, hA⟩ := const_value (C := fun _ => True) (w := w) c1 hd trivial (fun w _ => h w)
  refine ⟨v, ?_, by rw [hA]; exact k⟩
  unfold YieldC
  rw [if_pos c0]
  exact hy
/-- A load that is the same in all worlds of the class. -/
theorem qc {A : Act} (hi : opAt l i = some o) (hc : (clsN l.toArray cl i == 3) = true) (hd : fitsB o a = true) (hC : C w) (h : ∀ w, C w → ∀ Q', (∀ a', a' = A → Q' .normal a' w) → wpList P l.toArray Q' [o] a w) (k : wpP P l.toArray Q C cl (kpOf l cl) p A w) : wpP P l.toArray Q C cl (kpOf l cl) (.step i p) a w := by
  replace hi := opAt_some hi
  have c0 : clsN l.toArray cl i = 3 := by simpa using hc
  have c1 : clsOf o ≤ 1 := clsN_le (cl := cl) hi (by rw [c0]; rfl)
  rw [wpP, wpI_some hi, if_pos (by rw [c0]; rfl)]
  obtain ⟨v, hy, hA⟩ := const_value (w := w) c1 hd hC h
  refine ⟨v, ?_, by rw [hA]; exact k⟩
  unfold YieldC
  rw [if_neg (by omega), if_pos c0]
  exact hy
theorem qr {A : Act} (hi : opAt l i = some o) (hc : (clsN l.toArray cl i == 1) = true) (h : ∀ Q', (∀ a', a' = A → Q' .normal a' w) → wpList P l.toArray Q' [o] a w) (k : wpP P l.toArray Q C cl (kpOf l cl) p A w) : wpP P l.toArray Q C cl (kpOf l cl) (.step i p) a w := by
  replace hi := opAt_some hi
  have c0 : clsN l.toArray cl i = 1 := by simpa using hc
  have c1 : clsOf o ≤ 1 := clsN_le (cl := cl) hi (by rw [c0]; rfl)
  rw [wpP, wpI_some hi, if_pos (by rw [c0]; rfl)]
  obtain ⟨v, hy, hv⟩ := wp_value c1 h
  refine ⟨v, ?_, by rw [hv]; exact k⟩
  unfold YieldC
  rw [if_neg (by omega), if_neg (by omega)]
  exact hy
/-- What is asked behind an effect: the world is of the class; and what follows. -/
structure Keeps (a b : Prop) : Prop where
  c : a
  k : b
theorem qe' (hi : opAt l i = some o) (hc : (clsN l.toArray cl i == 2) = true) (h : ∀ Q', (∀ a' w', Keeps (kpOf l cl i = true → C w') (wpP P l.toArray Q C cl (kpOf l cl) p a' w') → Q' .normal a' w') → wpList P l.toArray Q' [o] a w) : wpP P l.toArray Q C cl (kpOf l cl) (.step i p) a w := by
  replace hi := opAt_some hi
  have c0 : clsN l.toArray cl i = 2 := by simpa using hc
  rw [wpP, wpI_some hi, if_neg (by rw [c0]; decide)]
  have := h (fun e a' w' => match e with | .normal => (kpOf l cl i = true → C w') ∧ wpP P l.toArray Q C cl (kpOf l cl) p a' w' | _ => False) (fun _ _ h => ⟨h.c, h.k⟩)
  unfold wpList at this
  unfold wpOp
  rw [hi]
  simp only
  split
  case isFalse hw => rw [if_neg hw] at this; exact this
  rename_i hw
  rw [if_pos hw] at this
  rcases this with h1 | h1
  case inr =>
    obtain ⟨_, _, h2⟩ := h1.2
    exact h2.elim
  refine .inl ?_
  unfold Oper.wp at *
  generalize (execOp a.eval o).run P w = x at *
  cases x with
  | ok n w' =>
    cases n <;> simp only [Oper.upon] at h1 ⊢ <;> exact h1
  | halt x w' =>
    cases x <;> simp only [Oper.upon] at h1 ⊢
/-- An effect ahead of which not all loads of the class have come. -/
theorem qe (hi : opAt l i = some o) (hc : (clsN l.toArray cl i == 2) = true) (h : ∀ Q', (∀ a' w', Keeps (C w') (wpP P l.toArray Q C cl (kpOf l cl) p a' w') → Q' .normal a' w') → wpList P l.toArray Q' [o] a w) : wpP P l.toArray Q C cl (kpOf l cl) (.step i p) a w :=
  qe' hi hc fun Q' hk => h Q' fun a' w' h => hk a' w' ⟨fun _ => h.c, h.k⟩
/-- An effect that all loads of the class come ahead of. -/
theorem qd (hi : opAt l i = some o) (hc : (clsN l.toArray cl i == 2) = true) (hk : kpOf l cl i = false) (h : ∀ Q', (∀ a' w', wpP P l.toArray Q C cl (kpOf l cl) p a' w' → Q' .normal a' w') → wpList P l.toArray Q' [o] a w) : wpP P l.toArray Q C cl (kpOf l cl) (.step i p) a w :=
  qe' hi hc fun Q' hq => h Q' fun a' w' h => hq a' w' ⟨(fun e => by rw [hk] at e; cases e), h⟩
end
end
end
/- The same rules, with the sides shown by themselves and the names drawn by themselves: by S1, S2 of tools/short_rules.py. -/
section
variable {P : Program} {ops : Array Oper} {Q : Exit → Act → World → Prop} {l : List Oper} {o : Oper} {r : List Oper} {a A : Act} {w : World} {C : World → Prop} {cl : List Nat} {p : Plan} {i : Nat}
theorem ido {x : Prop} (h : x) : x := h
theorem tw1 (h : ∀ {w Q'} {_ : ∀ a', a' = A → Q' .normal a' w}, wpList P ops Q' [o] a w) (k : wpTxt P ops Q r A w) (hc : (clsOf o == 0) = true := by with_unfolding_all rfl) (hd : fitsB o a = true := by with_unfolding_all rfl) : wpTxt P ops Q (o :: r) a w := tp hc hd (fun _ _ k => @h _ _ k) k
theorem tw2 (h : ∀ {Q'} {_ : ∀ a', a' = A → Q' .normal a' w}, wpList P ops Q' [o] a w) (k : wpTxt P ops Q r A w) (hc : (clsOf o == 1) = true := by with_unfolding_all rfl) : wpTxt P ops Q (o :: r) a w := tr hc (fun _ k => @h _ k) k
theorem tw3 (h : ∀ {Q'} {_ : ∀ a' w', wpTxt P ops Q r a' w' → Q' .normal a' w'}, wpList P ops Q' [o] a w) (hc : (clsOf o == 2) = true := by with_unfolding_all rfl) : wpTxt P ops Q (o :: r) a w := te hc fun _ k => @h _ k
theorem tw4 {id : Nat} (h : wpTxt P l.toArray Q l a w.drew) (hm : P.follows .mixedOrders = true := by kernel_rfl) (hB : txtB l [] (Plan.of (List.range' 0 l.length)) = true := by decide +kernel) : (Code.region id l.toArray true).wp P Q a w := wp_txt hm hB h
theorem qw1 (h : ∀ {w Q'} {_ : ∀ a', a' = A → Q' .normal a' w}, wpList P l.toArray Q' [o] a w) (k : wpP P l.toArray Q C cl (kpOf l cl) p A w) (hi : opAt l i = some o := by with_unfolding_all rfl) (hc : (clsN l.toArray cl i == 0) = true := by with_unfolding_all rfl) (hd : fitsB o a = true := by with_unfolding_all rfl) : wpP P l.toArray Q C cl (kpOf l cl) (.step i p) a w := qp hi hc hd (fun _ _ k => @h _ _ k) k
theorem qw2 (h : ∀ {w} {_ : C w} {Q'} {_ : ∀ a', a' = A → Q' .normal a' w}, wpList P l.toArray Q' [o] a w) (k : wpP P l.toArray Q C cl (kpOf l cl) p A w) (hi : opAt l i = some o := by with_unfolding_all rfl) (hc : (clsN l.toArray cl i == 3) = true := by with_unfolding_all rfl) (hd : fitsB o a = true := by with_unfolding_all rfl) (hC : C w := by with_reducible assumption) : wpP P l.toArray Q C cl (kpOf l cl) (.step i p) a w := qc hi hc hd hC (fun _ c _ k => @h _ c _ k) k
theorem qw3 (h : ∀ {Q'} {_ : ∀ a', a' = A → Q' .normal a' w}, wpList P l.toArray Q' [o] a w) (k : wpP P l.toArray Q C cl (kpOf l cl) p A w) (hi : opAt l i = some o := by with_unfolding_all rfl) (hc : (clsN l.toArray cl i == 1) = true := by with_unfolding_all rfl) : wpP P l.toArray Q C cl (kpOf l cl) (.step i p) a w := qr hi hc (fun _ k => @h _ k) k
theorem qw4 (h : ∀ {Q'} {_ : ∀ a' w', wpP P l.toArray Q C cl (kpOf l cl) p a' w' → Q' .normal a' w'}, wpList P l.toArray Q' [o] a w) (hi : opAt l i = some o := by with_unfolding_all rfl) (hc : (clsN l.toArray cl i == 2) = true := by with_unfolding_all rfl) (hk : kpOf l cl i = false := by decide +kernel) : wpP P l.toArray Q C cl (kpOf l cl) (.step i p) a w := qd hi hc hk fun _ k => @h _ k
theorem qw5 (h : ∀ {Q'} {_ : ∀ a' w', Keeps (C w') (wpP P l.toArray Q C cl (kpOf l cl) p a' w') → Q' .normal a' w'}, wpList P l.toArray Q' [o] a w) (hi : opAt l i = some o := by with_unfolding_all rfl) (hc : (clsN l.toArray cl i == 2) = true := by with_unfolding_all rfl) : wpP P l.toArray Q C cl (kpOf l cl) (.step i p) a w := qe hi hc fun _ k => @h _ k
end
theorem Upd.ofDrew {S : Nat → Prop} {w w' : World} (h : Upd S w.drew w') : Upd S w w' := ⟨h.os, h.tape, h.output, h.size, h.block⟩
theorem Q.ofDrew {w w' : World} (h : Q w.drew w') : Q w w' := by
  obtain ⟨n, rfl⟩ := h
  exact ⟨1 + n, rfl |>.trans (World.drewN_drewN w 1 n)⟩
theorem wrapI {x : Int} (h0 : -9223372036854775808 ≤ x) (h1 : x ≤ 9223372036854775807) : IntKind.i64.wrap x = x := by rw [IntKind.wrap_i64]; omega
theorem wrapU {x : Int} (h0 : 0 ≤ x) (h1 : x ≤ 18446744073709551615) : IntKind.u64.wrap x = x := by rw [IntKind.wrap_u64]; omega
end Go.Proofs.YtfmkdoachjgjbaaGreatDoor
