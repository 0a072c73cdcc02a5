/-
  A region that draws its order, whose operations with effects stand in a row: it may be walked in its lexical order. Operations that only compute may stand anywhere; loads wait for, or are waited for by, each operation with an effect.
-/
import Derived.Test.YtjckpgcmfieaoaaGreatDoorDag
import Derived.Test.YtjckpgcmfieaoaaGreatDoorMbi
set_option linter.unusedVariables false
set_option linter.unusedSimpArgs false
namespace Go.Proofs.YtjckpgcmfieaoaaGreatDoor
open Go.RowKit

/-- 0: computes alone; 1: reads; 2: has an effect. -/
def clsOf (o : Oper) : Nat :=
  match o.op with
  | .move _ | .assign _ | .pick .. | .extract .. | .fieldAddr .. | .field .. | .makeFunc .. | .nilCheck _ | .binOp .. | .unOp .. | .indexAddr .. | .index .. | .build .. | .slice .. => 0
  | .load .. | .lookup .. | .convert .. => 1
  | .call c => match c.callee with | .builtin .len => 0 | .builtin .cap => 0 | _ => 2
  | _ => 2
def noQ : Exit → Act → World → Prop := fun _ _ _ => False

section
variable {P : Program} {ops : Array Oper} {Q : Exit → Act → World → Prop}

/-- What a value is in one world. -/
def YieldsW (P : Program) (ops : Array Oper) (w : World) (o : Oper) (v : Value) (a : Act) : Prop :=
  (Region.wanted o (yielded ops a.tmps) = true ∧ (execOp a.eval o).run P w = .ok (.value v) w) ∨ (Region.wanted o (yielded ops a.tmps) = false ∧ v = undef)
theorem YieldsW.wpOp {i : Nat} {o : Oper} {v : Value} {a : Act} {w : World} (hi : ops[i]? = some o) (hy : YieldsW P ops w o v a)
    {K : Act → World → Prop} (h : K (a.put o.dst v) w) : wpOp P ops Q i K a w := by
  unfold Go.wpOp
  simp only [hi]
  rcases hy with ⟨hw, hv⟩ | ⟨hw, rfl⟩
  · simp only [hw, if_true, Oper.wp, hv, Oper.upon]; exact .inl h
  · simp only [hw, Bool.false_eq_true, if_false]; exact h
/-- The same value in all worlds of a class. -/
def YieldsC (P : Program) (ops : Array Oper) (C : World → Prop) (o : Oper) (v : Value) (a : Act) : Prop := ∀ w, C w → YieldsW P ops w o v a
/-- What a class yields. -/
def YieldC (P : Program) (ops : Array Oper) (C : World → Prop) (c : Nat) (w : World) (o : Oper) (v : Value) (a : Act) : Prop := if c = 0 then YieldsC P ops (fun _ => True) o v a else if c = 3 then YieldsC P ops C o v a else YieldsW P ops w o v a
theorem YieldC.w {C : World → Prop} {c : Nat} {o : Oper} {v : Value} {a : Act} {w : World} (hy : YieldC P ops C c w o v a) (hC : c = 3 → C w) : YieldsW P ops w o v a := by
  unfold YieldC at hy
  split at hy
  · exact hy w trivial
  · split at hy
    · exact hy w (hC ‹_›)
    · exact hy

/-- An operation's class, where the loads of 'cl' are the same in all worlds of the class C. -/
def clsN (ops : Array Oper) (cl : List Nat) (i : Nat) : Nat :=
  match ops[i]? with
  | none => 0
  | some o => if clsOf o == 1 && cl.contains i then 3 else clsOf o

section
variable {C : World → Prop} {cl : List Nat} {kp : Nat → Bool}

/-- Two operations that may change places. -/
def mayTurn (ops : Array Oper) (cl : List Nat) (i j : Nat) : Bool :=
  match ops[i]?, ops[j]? with
  | some x, some y => x.apart ops y && (clsN ops cl i == 0 || clsN ops cl j == 0 || clsN ops cl i == 3 || clsN ops cl j == 3 || (clsN ops cl i == 1 && clsN ops cl j == 1))
  | _, _ => true
end

/-- A plan: the operations in an order; where effects may stand in several orders, all of them. -/
inductive Plan where
  | done
  | step (i : Nat) (p : Plan)
  | fork (p q : Plan)
def Plan.first (eff : Nat → Bool) : Plan → List Nat
  | .done => []
  | .step i p => if eff i then [i] else p.first eff
  | .fork p q => p.first eff ++ q.first eff
def Plan.of : List Nat → Plan
  | [] => .done
  | i :: r => .step i (Plan.of r)

section
variable {A : List (List Nat)} {eff : Nat → Bool}
end
section
variable {C : World → Prop} {cl : List Nat} {A : List (List Nat)} {kp : Nat → Bool}
/-- What the proof needs of a region. -/
structure Turns (ops : Array Oper) (cl : List Nat) (A : List (List Nat)) (kp : Nat → Bool) : Prop where
  sel : Region.noSelect ops = true
  turn : ∀ i j, i < ops.size → j < ops.size → i ≠ j → j ∉ A.getD i [] → i ∉ A.getD j [] → (clsN ops cl i = 2 ∧ clsN ops cl j = 2) ∨ mayTurn ops cl i j = true
  two : ∀ i, i < ops.size → clsN ops cl i ≤ 3
  kept : ∀ i j, j ∈ cl → j ∉ A.getD i [] → kp i = true
end

end
section
variable {P : Program} {l : List Oper} {Q : Exit → Act → World → Prop} {C : World → Prop} {cl : List Nat}

/-- THE LEXICAL WALK. -/
def wpTxt (P : Program) (ops : Array Oper) (Q : Exit → Act → World → Prop) : List Oper → Act → World → Prop
  | [], a, w => Q .normal a w
  | o :: r, a, w => if clsOf o ≤ 1 then ∃ v, YieldC P ops (fun _ => True) (clsOf o) w o v a ∧ wpTxt P ops Q r (a.put o.dst v) w
      else if Region.wanted o (yielded ops a.tmps) then o.wp P a w (wpTxt P ops Q r) noQ else wpTxt P ops Q r (a.put o.dst undef) w
section
variable {ops : Array Oper} {o : Oper} {r : List Oper} {a : Act} {w : World}
theorem bind_value {s : Sem Value} {n : Next} {w w' : World} (h : (do pure (Next.value (← s)) : Sem Next).run P w = .ok n w') : ∃ v, n = .value v := by
  rw [Sem.run_bind] at h
  generalize s.run P w = x at h
  cases x with
  | ok v w1 =>
    simp only [Result.andThen_ok] at h
    injection h with h1 h2
    exact ⟨v, h1.symm⟩
  | halt x w1 => simp only [Result.andThen_halt] at h; cases h
theorem cls_value {ρ : Operand → Value} (hc : clsOf o ≤ 1) {n : Next} {w' : World} (h : (execOp ρ o).run P w = .ok n w') : ∃ v, n = .value v := by
  obtain ⟨dst, op, type, pos, after, guard⟩ := o
  cases op <;> simp only [clsOf] at hc <;> simp only [execOp] at h
  case move x => injection h with h1 h2; exact ⟨_, h1.symm⟩
  case assign x => injection h with h1 h2; exact ⟨_, h1.symm⟩
  case pick c a b =>
    rw [Sem.run_bind] at h
    generalize (asBool (ρ c)).run P w = x at h
    cases x with
    | ok v w1 => injection h with h1 h2; exact ⟨_, h1.symm⟩
    | halt x w1 => cases h
  case nilCheck x =>
    split at h
    · cases h
    · cases h
    · cases h
    · split at h
      · cases h
      · rw [Sem.run_bind] at h
        generalize Sem.run P (program) w = x at h
        cases x with
        | halt x w1 => cases h
        | ok p w1 =>
          simp only [Result.andThen_ok] at h
          rw [Sem.run_bind] at h
          generalize Sem.run P (nilAhead _ _ _ _) w1 = x at h
          cases x with
          | halt x w1 => cases h
          | ok p w1 =>
            simp only [Result.andThen_ok] at h
            split at h
            · rw [Sem.run_bind] at h
              cases h
            · injection h with h1 h2
              exact ⟨_, h1.symm⟩
      · injection h with h1 h2; exact ⟨_, h1.symm⟩
    · injection h with h1 h2; exact ⟨_, h1.symm⟩
  case call c =>
    cases hc' : c.callee with
    | value f => rw [hc'] at hc; simp at hc
    | invoke r m => rw [hc'] at hc; simp at hc
    | builtin b =>
      rw [hc'] at hc
      unfold resolve at h
      rw [hc'] at h
      cases b <;> first | (simp at hc; done) | exact bind_value h
  all_goals first | exact bind_value h | (simp at hc; done)
theorem wp_value (hc : clsOf o ≤ 1) {A : Act} (h : ∀ Q', (∀ a', a' = A → Q' .normal a' w) → wpList P ops Q' [o] a w) : ∃ v, YieldsW P ops w o v a ∧ a.put o.dst v = A := by
  have h := h (fun e a' w' => e = .normal ∧ a' = A ∧ w' = w) (fun _ e => ⟨rfl, e, rfl⟩)
  unfold wpList at h
  split at h
  · rename_i hw
    rcases h with h | h
    case inr => obtain ⟨_, _, h, -⟩ := h.2; cases h
    unfold Oper.wp at h
    cases hr : (execOp a.eval o).run P w with
    | halt x w' =>
      rw [hr] at h
      cases x <;> simp only [Oper.upon] at h
      obtain ⟨h, -⟩ := h
      cases h
    | ok n w' =>
      obtain ⟨v, rfl⟩ := cls_value hc hr
      rw [hr] at h
      obtain ⟨-, h1, rfl⟩ := h
      exact ⟨v, .inl ⟨hw, hr⟩, h1⟩
  · rename_i hw
    exact ⟨undef, .inr ⟨by simpa using hw, rfl⟩, h.2.1⟩
def fitsB (o : Oper) (a : Act) : Bool := match o.dst with | some d => decide (d < a.tmps.size) | none => false
theorem const_value {C : World → Prop} (hc : clsOf o ≤ 1) {A : Act} (hd : fitsB o a = true) (hC : C w) (h : ∀ w, C w → ∀ Q', (∀ a', a' = A → Q' .normal a' w) → wpList P ops Q' [o] a w) : ∃ v, YieldsC P ops C o v a ∧ a.put o.dst v = A := by
  have hv : ∀ w, C w → ∃ v, YieldsW P ops w o v a ∧ a.put o.dst v = A := fun w hC => wp_value hc (h w hC)
  have uniq : ∀ v u, a.put o.dst v = a.put o.dst u → v = u := by
    intro v u e
    unfold fitsB at hd
    cases hdst : o.dst with
    | none => rw [hdst] at hd; cases hd
    | some d =>
      rw [hdst] at hd e
      have hlt : d < a.tmps.size := by simpa using hd
      have e1 := congrArg (fun x : Act => x.tmps[d]?) e
      simpa [Act.put, hlt] using e1
  obtain ⟨v, hy, hA⟩ := hv w hC
  refine ⟨v, fun w' hC' => ?_, hA⟩
  obtain ⟨u, hu, hB⟩ := hv w' hC'
  have : v = u := uniq v u (hA.trans hB.symm)
  rw [this]
  exact hu
/-- What only computes. -/
theorem tp {A : Act} (hc : (clsOf o == 0) = true) (hd : fitsB o a = true) (h : ∀ w Q', (∀ a', a' = A → Q' .normal a' w) → wpList P ops Q' [o] a w) (k : wpTxt P ops Q r A w) : wpTxt P ops Q (o :: r) a w := by
  have c0 : clsOf o = 0 := by simpa using hc
  rw [wpTxt, if_pos (by omega)]
  obtain ⟨v, hy, hA⟩ := const_value (C := fun _ => True) (w := w) (by omega) hd trivial (fun w _ => h w)
  refine ⟨v, ?_, by rw [hA]; exact k⟩
  unfold YieldC
  rw [if_pos c0]
  exact hy
/-- What has an effect. -/
theorem te (hc : (clsOf o == 2) = true) (h : ∀ Q', (∀ a' w', wpTxt P ops Q r a' w' → Q' .normal a' w') → wpList P ops Q' [o] a w) : wpTxt P ops Q (o :: r) a w := by
  have c0 : clsOf o = 2 := by simpa using hc
  rw [wpTxt, if_neg (by omega)]
  have := h (fun e a' w' => match e with | .normal => wpTxt P ops Q r a' w' | _ => False) (fun _ _ h => h)
  unfold wpList at this
  split
  case isFalse hw => rw [if_neg hw] at this; exact this
  rename_i hw
  rw [if_pos hw] at this
  rcases this with h1 | h1
  case inr =>
    obtain ⟨_, _, h2⟩ := h1.2
    exact h2.elim
  unfold Oper.wp at *
  generalize (execOp a.eval o).run P w = x at *
  cases x with
  | ok n w' =>
    cases n <;> simp only [Oper.upon] at h1 ⊢ <;> exact h1
  | halt x w' =>
    cases x <;> simp only [Oper.upon] at h1 ⊢
section
variable {C : World → Prop} {cl : List Nat} {p q : Plan} {i : Nat}
end
end
end
/- The same rules, with the sides shown by themselves and the names drawn by themselves: by S1, S2 of tools/short_rules.py. -/
section
variable {P : Program} {ops : Array Oper} {Q : Exit → Act → World → Prop} {l : List Oper} {o : Oper} {r : List Oper} {a A : Act} {w : World} {C : World → Prop} {cl : List Nat} {p : Plan} {i : Nat}
end
end Go.Proofs.YtjckpgcmfieaoaaGreatDoor
