/-
  Plain facts on lists: two ranges change places. No program in sight.
-/
import Derived.Test.YtbcjhpeighlncaaDoorSo1
namespace Go.Proofs.YtbcjhpeighlncaaDoor
open Go.RowKit Go.Sort

theorem get!_eq (xs : List Item) (i : Nat) (h : i < xs.length) : xs[i]? = some xs[i]! := by
  rw [List.getElem!_eq_getElem?_getD, List.getElem?_eq_getElem h]; rfl
theorem swapL_get (xs : List Item) (i j k : Nat) (hi : i < xs.length) (hj : j < xs.length) : (swapL xs i j)[k]? = if k = j then xs[i]? else if k = i then xs[j]? else xs[k]? := by
  unfold swapL
  rw [List.getElem?_set]
  by_cases e : j = k
  · subst e
    rw [if_pos rfl, if_pos rfl, if_pos (by rw [List.length_set]; exact hj), get!_eq xs i hi]
  · rw [if_neg e, if_neg (fun h => e h.symm), List.getElem?_set]
    by_cases e2 : i = k
    · subst e2
      rw [if_pos rfl, if_pos rfl, if_pos hi, get!_eq xs j hj]
    · rw [if_neg e2, if_neg (fun h => e2 h.symm)]
theorem swapN_get (xs : List Item) (a b : Nat) : ∀ n, a + n ≤ b → b + n ≤ xs.length → ∀ k, (swapN xs a b n)[k]? = if a ≤ k ∧ k < a + n then xs[k - a + b]? else if b ≤ k ∧ k < b + n then xs[k - b + a]? else xs[k]? := by
  intro n
  induction n with
  | zero => intro _ _ k; rw [if_neg (by omega), if_neg (by omega)]; rfl
  | succ n ih =>
    intro h1 h2 k
    rw [swapN, swapL_get _ _ _ _ (by rw [swapN_len]; omega) (by rw [swapN_len]; omega)]
    have ih' := fun k => ih (by omega) (by omega) k
    by_cases e : k = b + n
    · subst e
      rw [if_pos rfl, ih', if_neg (by omega), if_neg (by omega), if_neg (by omega), if_pos (by omega)]
      congr 1; omega
    · rw [if_neg e]
      by_cases e2 : k = a + n
      · subst e2
        rw [if_pos rfl, ih', if_neg (by omega), if_neg (by omega), if_pos (by omega)]
        congr 1; omega
      · rw [if_neg e2, ih']
        by_cases c1 : a ≤ k ∧ k < a + n
        · rw [if_pos c1, if_pos (by omega)]
        · have c1' : ¬ (a ≤ k ∧ k < a + (n + 1)) := by omega
          by_cases c2 : b ≤ k ∧ k < b + n
          · have c2' : b ≤ k ∧ k < b + (n + 1) := by omega
            rw [if_neg c1, if_pos c2, if_neg c1', if_pos c2']
          · have c2' : ¬ (b ≤ k ∧ k < b + (n + 1)) := by omega
            rw [if_neg c1, if_neg c2, if_neg c1', if_neg c2']
/-- X and Y change places. -/
theorem swapN_split (P X M Y S : List Item) (n : Nat) (hX : X.length = n) (hY : Y.length = n) :
    swapN (P ++ (X ++ (M ++ (Y ++ S)))) P.length (P.length + n + M.length) n = P ++ (Y ++ (M ++ (X ++ S))) := by
  apply List.ext_getElem?
  intro k
  rw [swapN_get _ _ _ n (by omega) (by simp only [List.length_append]; omega)]
  by_cases c0 : k < P.length
  · rw [if_neg (by omega), if_neg (by omega), List.getElem?_append_left c0, List.getElem?_append_left c0]
  · obtain ⟨k, rfl⟩ : ∃ q, k = P.length + q := ⟨k - P.length, by omega⟩
    have e1 : ∀ q (L : List Item), (P ++ L)[P.length + q]? = L[q]? := fun q L => by rw [List.getElem?_append_right (by omega)]; congr 1; omega
    rw [e1, e1]
    by_cases c1 : k < n
    · rw [if_pos (by omega), show P.length + k - P.length + (P.length + n + M.length) = P.length + (n + (M.length + k)) by omega, e1]
      rw [List.getElem?_append_right (l₁ := X) (by omega), List.getElem?_append_right (l₁ := M) (by omega), List.getElem?_append_left (l₁ := Y) (by omega), List.getElem?_append_left (l₁ := Y) (by omega)]
      congr 1; omega
    · rw [if_neg (by omega)]
      obtain ⟨k, rfl⟩ : ∃ q, k = n + q := ⟨k - n, by omega⟩
      have e2 : ∀ (Z : List Item) q (L : List Item), Z.length = n → (Z ++ L)[n + q]? = L[q]? := fun Z q L hz => by rw [List.getElem?_append_right (by omega)]; congr 1; omega
      rw [e2 X _ _ hX, e2 Y _ _ hY]
      by_cases c2 : k < M.length
      · rw [if_neg (by omega), List.getElem?_append_left c2, List.getElem?_append_left c2]
      · obtain ⟨k, rfl⟩ : ∃ q, k = M.length + q := ⟨k - M.length, by omega⟩
        have e3 : ∀ q (L : List Item), (M ++ L)[M.length + q]? = L[q]? := fun q L => by rw [List.getElem?_append_right (by omega)]; congr 1; omega
        rw [e3, e3]
        by_cases c3 : k < n
        · rw [if_pos (by omega), show P.length + (n + (M.length + k)) - (P.length + n + M.length) + P.length = P.length + k by omega, e1]
          rw [List.getElem?_append_left (by omega), List.getElem?_append_left (by omega)]
        · rw [if_neg (by omega)]
          obtain ⟨k, rfl⟩ : ∃ q, k = n + q := ⟨k - n, by omega⟩
          rw [e2 Y _ _ hY, e2 X _ _ hX]

end Go.Proofs.YtbcjhpeighlncaaDoor
