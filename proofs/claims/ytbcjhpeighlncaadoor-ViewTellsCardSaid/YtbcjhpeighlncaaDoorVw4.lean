/-
  A row that the call owns holds items; the sort of nothing; the sums.
-/
import Derived.Test.YtbcjhpeighlncaaDoorSo8
namespace Go.Proofs.YtbcjhpeighlncaaDoor
open Go.RowKit Go.Sort

theorem flat_len (X : List Item) : (X.flatMap itemCells).length = X.length * 36 := by
  induction X with
  | nil => rfl
  | cons x X ih => rw [List.flatMap_cons, List.length_append, ih, item_len, List.length_cons]; omega
theorem flat_get : ∀ (X : List Item) (i j : Nat), i < X.length → j < 36 → (X.flatMap itemCells)[i * 36 + j]? = (itemCells X[i]!)[j]? := by
  intro X
  induction X with
  | nil => intro i j h; simp at h
  | cons x X ih =>
    intro i j hi hj
    rw [List.flatMap_cons]
    cases i with
    | zero => rw [List.getElem?_append_left (by rw [item_len]; omega), Nat.zero_mul, Nat.zero_add]; rfl
    | succ i =>
      rw [List.getElem?_append_right (by rw [item_len]; omega), item_len, show (i + 1) * 36 + j - 36 = i * 36 + j by omega, ih i j (by simpa using hi) hj]
      rfl
theorem held_of_owns {w : World} {base : Nat} {v : Value} {n : Nat} {X : List Item} (h : w.ownsRow base 45 36 v n (X.flatMap itemCells)) :
    n = X.length ∧ ((v = .slice none 0 0 ∧ X = []) ∨ ∃ g cap, v = .slice (some ⟨g, 0, none⟩) X.length cap ∧ base ≤ g ∧ Held w g 0 X) := by
  have hn : n = X.length := by have := h.1; rw [flat_len] at this; omega
  refine ⟨hn, ?_⟩
  subst hn
  rcases h.2 with ⟨e, e0⟩ | ⟨g, cap, cur, e, hb, hg, hc, _, hs, ht⟩
  · exact .inl ⟨e, List.length_eq_zero_iff.1 e0⟩
  · refine .inr ⟨g, cap, e, hb, cur, _, hg, by have := Nat.mul_le_mul_right 36 hc; omega, fun i hi j hj => ?_⟩
    rw [Nat.zero_add, ← flat_get X i j hi hj, ← ht, List.getElem?_take, if_pos (by have := Nat.mul_le_mul_right 36 (show i + 1 ≤ X.length from hi); omega), Array.getElem?_toList]

set_option maxRecDepth 100000 in
theorem insertion_none (w : World) : Calls Tryd.prog 58 #[.slice none 0 0, .int .i64 0, .int .i64 0, fOrd] w (Reads (.tuple #[]) w) := by
  go_enter Tryd.func58, Tryd.ntmps58
  go_wp2_with fail
  go_loopw [8] (fun iv wr => iv = .int .i64 1 ∧ wr = w) (fun _ _ => 0)
  case atStart => exact ⟨rfl, rfl⟩
  case round =>
    obtain ⟨rfl, rfl⟩ := hrel
    go_wp2
    go_end0
    exact ⟨rfl, 0, rfl⟩
set_option maxRecDepth 100000 in
theorem stable_none (w : World) : Calls Tryd.prog 49 #[.slice none 0 0, .int .i64 0, fOrd] w (Reads (.tuple #[]) w) := by
  go_enter Tryd.func49, Tryd.ntmps49
  go_wp2_with fail
  go_loopw [7, 8] (fun av bv wr => av = .int .i64 0 ∧ bv = .int .i64 20 ∧ wr = w) (fun _ _ _ => 0)
  case atStart => exact ⟨rfl, rfl, rfl⟩
  case round =>
    obtain ⟨rfl, rfl, rfl⟩ := hrel
    go_wp2_with fail
    refine (insertion_none _).mono ?_
    rintro e w1 ⟨rfl, q1⟩
    obtain ⟨wo, rfl⟩ : ∃ wo : World, wo = w1 := ⟨_, rfl⟩
    go_wp2_with fail
    go_loopw [6] (fun sv wr => sv = .int .i64 20 ∧ wr = wo) (fun _ _ => 0)
    case atStart => exact ⟨rfl, rfl⟩
    case round =>
      obtain ⟨rfl, rfl⟩ := hrel
      go_wp2
      go_end0
      exact ⟨rfl, q1⟩
theorem sortstable_none (w : World) : Calls Tryd.prog 30 #[.slice none 0 0, fOrd] w (Reads (.tuple #[]) w) := by
  go_enter Tryd.func30, Tryd.ntmps30
  go_wp2_with fail
  refine (stable_none _).mono ?_
  rintro e w1 ⟨rfl, q1⟩
  go_wp2
  go_end0
  exact ⟨rfl, q1⟩

end Go.Proofs.YtbcjhpeighlncaaDoor
