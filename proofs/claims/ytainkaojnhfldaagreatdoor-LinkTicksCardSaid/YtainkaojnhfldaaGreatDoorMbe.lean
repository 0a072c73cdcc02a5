/-
  Lives as flat rows of cells; slices.Clone (all of it stands in XLv now).
-/
import Derived.Test.YtainkaojnhfldaaGreatDoorVw5
import Derived.Test.YtainkaojnhfldaaGreatDoorLv
set_option linter.unusedVariables false
set_option linter.unusedSimpArgs false
namespace Go.Proofs.YtainkaojnhfldaaGreatDoor
end Go.Proofs.YtainkaojnhfldaaGreatDoor
namespace Go.Proofs.YtainkaojnhfldaaGreatDoor
open Go.RowKit Go.Sort

theorem live_set (x : Live) (s : Int) : liveCells { x with state := s } = (liveCells x).set 36 (.int .i64 s) := by
  unfold liveCells
  rw [List.set_append_right _ _ (by rw [htlc_len]; omega), htlc_len]
  rfl
theorem HeldO.setState {w : World} {g off : Nat} {X : List Live} (h : HeldO w g off X) {n : Nat} {x : Live} (hx : X[n]? = some x) (s : Int) :
    HeldO (w.setCell ⟨g, off + n * 38 + 36, none⟩ (.int .i64 s)) g off (X.set n { x with state := s }) := by
  obtain ⟨C, T, hb, hs, hc⟩ := h
  refine ⟨_, T, blk_set hb _ _, by rw [Array.size_setIfInBounds, List.length_set]; exact hs, fun i y hi j hj => ?_⟩
  have hn := (List.getElem?_eq_some_iff.1 hx).1
  have hle : off + n * 38 + 38 ≤ C.size := by have := Nat.mul_le_mul_right 38 (show n + 1 ≤ X.length from hn); omega
  rw [Array.getElem?_setIfInBounds]
  rw [List.getElem?_set] at hi
  by_cases e : n = i
  · subst e
    rw [if_pos rfl, if_pos hn, Option.some.injEq] at hi
    subst hi
    rw [live_set, List.getElem?_set]
    by_cases e2 : 36 = j
    · subst e2
      rw [if_pos rfl, if_pos (by omega), if_pos rfl, if_pos (by rw [live_len]; omega)]
    · rw [if_neg (by omega), if_neg e2]
      exact hc n x hx j hj
  · rw [if_neg e] at hi
    rw [if_neg ?_]
    · exact hc i y hi j hj
    · rcases Nat.lt_or_gt_of_ne e with h | h
      · have := Nat.mul_le_mul_right 38 (show n + 1 ≤ i from h); omega
      · have := Nat.mul_le_mul_right 38 (show i + 1 ≤ n from h); omega

end Go.Proofs.YtainkaojnhfldaaGreatDoor
