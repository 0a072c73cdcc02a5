/-
  Plain facts on lists: two ranges change places. No program in sight.
-/
import Derived.Test.YtbcjhpeighlncaaDoorMae
namespace Go.Proofs.YtbcjhpeighlncaaDoor
set_option linter.unusedVariables false
set_option linter.unusedSimpArgs false
open Go.RowKit Go.Sort

theorem get!_eq (xs : List Item) (i : Nat) (h : i < xs.length) : xs[i]? = some xs[i]! := by
  rw [List.getElem!_eq_getElem?_getD, List.getElem?_eq_getElem h]; rfl
theorem swapL_get (xs : List Item) (i j k : Nat) (hi : i < xs.length) (hj : j < xs.length) : (swapL xs i j)[k]? = if k = j then xs[i]? else if k = i then xs[j]? else xs[k]? := by
  unfold swapL
  rw [List.getElem?_set]
  by_cases e : j = k
  · subst e
    rw [if_pos rfl, if_pos rfl, if_pos (by rw [List.length_set]; exact hj), get!_eq xs i hi]
  · rw [if_neg e, if_neg (fun h => e h.symm), List.getElem?_set]
    by_cases e2 : i = k
    · subst e2
      rw [if_pos rfl, if_pos rfl, if_pos hi, get!_eq xs j hj]
    · rw [if_neg e2, if_neg (fun h => e2 h.symm)]
theorem swapN_get (xs : List Item) (a b : Nat) : ∀ n, a + n ≤ b → b + n ≤ xs.length → ∀ k, (swapN xs a b n)[k]? = if a ≤ k ∧ k < a + n then xs[k - a + b]? else if b ≤ k ∧ k < b + n then xs[k - b + a]? else xs[k]? := by
  intro n
  induction n with
  | zero => intro _ _ k; rw [if_neg (by omega), if_neg (by omega)]; rfl
  | succ n ih =>
    intro h1 h2 k
    rw [swapN, swapL_get _ _ _ _ (by rw [swapN_len]; omega) (by rw [swapN_len]; omega)]
    have ih' := fun k => ih (by omega) (by omega) k
    by_cases e : k = b + n
    · subst e
      rw [if_pos rfl, ih', if_neg (by omega), if_neg (by omega), if_neg (by omega), if_pos (by omega)]
      congr 1; omega
    · rw [if_neg e]
      by_cases e2 : k = a + n
      · subst e2
        rw [if_pos rfl, ih', if_neg (by omega), if_neg (by omega), if_pos (by omega)]
        congr 1; omega
      · rw [if_neg e2, ih']
        by_cases c1 : a ≤ k ∧ k < a + n
        · rw [if_pos c1, if_pos (by omega)]
        · have c1' : ¬ (a ≤ k ∧ k < a + (n + 1)) := by omega
          by_cases c2 : b ≤ k ∧ k < b + n
          · have c2' : b ≤ k ∧ k < b + (n + 1) := by omega
            rw [if_neg c1, if_pos c2, if_neg c1', if_pos c2']
          · have c2' : ¬ (b ≤ k ∧ k < b + (n + 1)) := by omega
            rw [if_neg c1, if_neg c2, if_neg c1', if_neg c2']
/-- X and Y change places. -/
theorem swapN_split (P X M Y S : List Item) (n : Nat) (hX : X.length = n) (hY : Y.length = n) :
    swapN (P ++ (X ++ (M ++ (Y ++ S)))) P.length (P.length + n + M.length) n = P ++ (Y ++ (M ++ (X ++ S))) := by
  apply List.ext_getElem?
  intro k
  rw [swapN_get _ _ _ n (by omega) (by simp only [List.length_append]; omega)]
  by_cases c0 : k < P.length
  · rw [if_neg (by omega), if_neg (by omega), List.getElem?_append_left c0, List.getElem?_append_left c0]
  · obtain ⟨k, rfl⟩ : ∃ q, k = P.length + q := ⟨k - P.length, by omega⟩
    have e1 : ∀ q (L : List Item), (P ++ L)[P.length + q]? = L[q]? := fun q L => by rw [List.getElem?_append_right (by omega)]; congr 1; omega
    rw [e1, e1]
    by_cases c1 : k < n
    · rw [if_pos (by omega), show P.length + k - P.length + (P.length + n + M.length) = P.length + (n + (M.length + k)) by omega, e1]
      rw [List.getElem?_append_right (l₁ := X) (by omega), List.getElem?_append_right (l₁ := M) (by omega), List.getElem?_append_left (l₁ := Y) (by omega), List.getElem?_append_left (l₁ := Y) (by omega)]
      congr 1; omega
    · rw [if_neg (by omega)]
      obtain ⟨k, rfl⟩ : ∃ q, k = n + q := ⟨k - n, by omega⟩
      have e2 : ∀ (Z : List Item) q (L : List Item), Z.length = n → (Z ++ L)[n + q]? = L[q]? := fun Z q L hz => by rw [List.getElem?_append_right (by omega)]; congr 1; omega
      rw [e2 X _ _ hX, e2 Y _ _ hY]
      by_cases c2 : k < M.length
      · rw [if_neg (by omega), List.getElem?_append_left c2, List.getElem?_append_left c2]
      · obtain ⟨k, rfl⟩ : ∃ q, k = M.length + q := ⟨k - M.length, by omega⟩
        have e3 : ∀ q (L : List Item), (M ++ L)[M.length + q]? = L[q]? := fun q L => by rw [List.getElem?_append_right (by omega)]; congr 1; omega
        rw [e3, e3]
        by_cases c3 : k < n
        · rw [if_pos (by omega), show P.length + (n + (M.length + k)) - (P.length + n + M.length) + P.length = P.length + k by omega, e1]
          rw [List.getElem?_append_left (by omega), List.getElem?_append_left (by omega)]
        · rw [if_neg (by omega)]
          obtain ⟨k, rfl⟩ : ∃ q, k = n + q := ⟨k - n, by omega⟩
          rw [e2 Y _ _ hY, e2 X _ _ hX]

end Go.Proofs.YtbcjhpeighlncaaDoor

/-
  rotate: two neighbouring ranges change places.
-/
namespace Go.Proofs.YtbcjhpeighlncaaDoor
set_option linter.unusedVariables false
set_option linter.unusedSimpArgs false
open Go.RowKit Go.Sort

theorem swaprange_split (g off cap : Nat) (P X M Y S : List Item) (n : Nat) (hX : X.length = n) (hY : Y.length = n) (N : Nat) (hN : (P ++ (X ++ (M ++ (Y ++ S)))).length = N) (hm : N ≤ 4611686018427387904) (a b : Int) (ha : a = P.length) (hb : b = P.length + n + M.length)
    (fv : Value) (w : World) (h : Held w g off (P ++ (X ++ (M ++ (Y ++ S))))) :
    Calls Tryd.prog 73 #[.slice (some ⟨g, off, none⟩) N cap, .int .i64 a, .int .i64 b, .int .i64 n, fv] w fun e w' => e = .returned (.tuple #[]) ∧ Upd (· = g) w w' ∧ Held w' g off (P ++ (Y ++ (M ++ (X ++ S)))) := by
  subst hN; subst ha
  obtain rfl : b = ((P.length + n + M.length : Nat) : Int) := by omega
  have := swaprange_any g off cap P.length (P.length + n + M.length) n _ fv w h (by simp only [List.length_append]; omega) (by simp only [List.length_append]; omega) hm
  rwa [swapN_split P X M Y S n hX hY] at this

set_option maxHeartbeats 3000000 in
theorem rotate_split (g off cap : Nat) (P X Y S : List Item) (hX : 0 < X.length) (hY : 0 < Y.length) (N : Nat) (hN : (P ++ (X ++ (Y ++ S))).length = N) (hm : N ≤ 4611686018427387904) (a m b : Int) (ha : a = P.length) (hmm : m = P.length + X.length) (hb : b = P.length + X.length + Y.length)
    (fv : Value) (w : World) (h : Held w g off (P ++ (X ++ (Y ++ S)))) :
    Calls Tryd.prog 67 #[.slice (some ⟨g, off, none⟩) N cap, .int .i64 a, .int .i64 m, .int .i64 b, fv] w fun e w' => e = .returned (.tuple #[]) ∧ Upd (· = g) w w' ∧ Held w' g off (P ++ (Y ++ (X ++ S))) := by
  have hNl : P.length + (X.length + (Y.length + S.length)) = N := by rw [← hN]; simp only [List.length_append]
  have ei : m - a = (X.length : Int) := by omega
  have ej : b - m = (Y.length : Int) := by omega
  have m0 : 0 ≤ m := by omega
  have m1 : m ≤ 4611686018427387904 := by omega
  have a0 : 0 ≤ a := by omega
  have a1 : a ≤ 4611686018427387904 := by omega
  have b0 : 0 ≤ b := by omega
  have b1 : b ≤ 4611686018427387904 := by omega
  have HA := hide ha
  have HM := hide hmm
  have HB := hide hb
  clear ha hmm hb
  go_enter Tryd.func67, Tryd.ntmps67
  go_wp2_with fail
  go_loopw [10, 11] (fun iv jv wr => ∃ P' X' Y' S' : List Item, iv = .int .i64 X'.length ∧ jv = .int .i64 Y'.length ∧ 0 < X'.length ∧ 0 < Y'.length ∧ Hid (m = P'.length + X'.length) ∧ Hid (P'.length + (X'.length + (Y'.length + S'.length)) = N) ∧ Upd (· = g) w wr ∧ Held wr g off (P' ++ (X' ++ (Y' ++ S'))) ∧ Hid (P' ++ (Y' ++ (X' ++ S')) = P ++ (Y ++ (X ++ S)))) (fun iv jv _ => (intOf iv).toNat + (intOf jv).toNat)
  case atStart => exact ⟨P, X, Y, S, rfl, rfl, hX, hY, HM, hNl, Upd.refl _ _, h, hide rfl⟩
  case round =>
    obtain ⟨P', X', Y', S', rfl, rfl, hx, hy, HM', HN', hu, hh, HE⟩ := hrel
    have hN2 := unhide HN'
    have hM2 := unhide HM'
    rcases (by omega : X'.length = Y'.length ∨ Y'.length < X'.length ∨ X'.length < Y'.length) with e | hlt | hlt
    · have e' : ((X'.length : Int) != (Y'.length : Int)) = false := by rw [bne_eq_false_iff_eq]; omega
      have H := hide (swaprange_split g off cap P' X' [] Y' S' X'.length rfl e.symm N (by simp only [List.length_append, List.nil_append]; omega) hm (m - X'.length) m (by omega) (by simp; omega) fv wr (by simpa using hh))
      have e1 : IntKind.i64.wrap (m - (X'.length : Int)) = m - (X'.length : Int) := IntWalk.i64_in _ (by omega)
      clear hN2 hM2 e ei ej
      go_wp2_with fail
      refine (unhide H).mono ?_
      rintro e w1 ⟨rfl, u1, h1⟩
      go_wp2
      go_end0
      refine ⟨rfl, hu.trans u1, ?_⟩
      rw [← unhide HE]
      simpa using h1
    · have e' : ((X'.length : Int) != (Y'.length : Int)) = true := by rw [bne_iff_ne]; omega
      obtain ⟨X1, X2, hX', h1, h2⟩ : ∃ X1 X2 : List Item, X' = X1 ++ X2 ∧ X1.length = Y'.length ∧ X2.length = X'.length - Y'.length :=
        ⟨X'.take Y'.length, X'.drop Y'.length, (List.take_append_drop _ _).symm, by rw [List.length_take]; omega, List.length_drop⟩
      have H := hide (swaprange_split g off cap P' X1 X2 Y' S' Y'.length h1 rfl N (by simp only [List.length_append]; omega) hm (m - X'.length) m (by omega) (by omega) fv wr (by rw [hX'] at hh; simpa [List.append_assoc] using hh))
      have e1 : IntKind.i64.wrap (m - (X'.length : Int)) = m - (X'.length : Int) := IntWalk.i64_in _ (by omega)
      have e2 : IntKind.i64.wrap ((X'.length : Int) - (Y'.length : Int)) = (X'.length : Int) - (Y'.length : Int) := IntWalk.i64_in _ (by omega)
      have hb3 : (X'.length : Int) ≤ 4611686018427387904 := by omega
      have HM2 : Hid (m = (P' ++ Y').length + X2.length) := hide (by rw [List.length_append]; omega)
      have HN3 : Hid ((P' ++ Y').length + (X2.length + (X1.length + S'.length)) = N) := hide (by rw [List.length_append]; omega)
      have HE3 : Hid ((P' ++ Y') ++ (X1 ++ (X2 ++ S')) = P ++ (Y ++ (X ++ S))) := hide (by rw [← unhide HE, hX']; simp [List.append_assoc])
      have h2' : 0 < X2.length := by omega
      have h1' : 0 < X1.length := by omega
      have H1 := hide h1
      have H2 := hide h2
      clear hN2 hM2 ei ej h1 h2 hX'
      go_wp2_with fail
      refine (unhide H).mono ?_
      rintro e w1 ⟨rfl, u1, hh1⟩
      go_wp2
      go_roundw
      case rel =>
        refine ⟨P' ++ Y', X2, X1, S', ?_, ?_, h2', h1', HM2, HN3, hu.trans u1, by simpa [List.append_assoc] using hh1, HE3⟩
        · have := unhide H2; congr 1; omega
        · rw [unhide H1]
      case measure => simp [intOf]; omega
    · have e' : ((X'.length : Int) != (Y'.length : Int)) = true := by rw [bne_iff_ne]; omega
      obtain ⟨Y1, Y2, hY', h1, h2⟩ : ∃ Y1 Y2 : List Item, Y' = Y1 ++ Y2 ∧ Y1.length = Y'.length - X'.length ∧ Y2.length = X'.length :=
        ⟨Y'.take (Y'.length - X'.length), Y'.drop (Y'.length - X'.length), (List.take_append_drop _ _).symm, by rw [List.length_take]; omega, by rw [List.length_drop]; omega⟩
      have H := hide (swaprange_split g off cap P' X' Y1 Y2 S' X'.length rfl h2 N (by simp only [List.length_append]; omega) hm (m - X'.length) (m + Y'.length - X'.length) (by omega) (by omega) fv wr (by rw [hY'] at hh; simpa [List.append_assoc] using hh))
      have hb3 : (Y'.length : Int) ≤ 4611686018427387904 := by omega
      have e1 : IntKind.i64.wrap (m - (X'.length : Int)) = m - (X'.length : Int) := IntWalk.i64_in _ (by omega)
      have hq1 : m + (Y'.length : Int) ≤ 4611686018427387904 := by omega
      have hq2 : (X'.length : Int) ≤ m := by omega
      have HM2 : Hid (m = P'.length + Y2.length) := hide (by omega)
      have HN3 : Hid (P'.length + (Y2.length + (Y1.length + (X' ++ S').length)) = N) := hide (by rw [List.length_append]; omega)
      have HE3 : Hid (P' ++ (Y1 ++ (Y2 ++ (X' ++ S'))) = P ++ (Y ++ (X ++ S))) := hide (by rw [← unhide HE, hY']; simp [List.append_assoc])
      have h2' : 0 < Y2.length := by omega
      have h1' : 0 < Y1.length := by omega
      have H1 := hide h1
      have H2 := hide h2
      clear hN2 hM2 ei ej h1 h2 hY'
      go_wp2_with fail
      refine (unhide H).mono ?_
      rintro e w1 ⟨rfl, u1, hh1⟩
      go_wp2
      go_roundw
      case rel =>
        refine ⟨P', Y2, Y1, X' ++ S', ?_, ?_, h2', h1', HM2, HN3, hu.trans u1, by simpa [List.append_assoc] using hh1, HE3⟩
        · rw [unhide H2]
        · have := unhide H1; congr 1; omega
      case measure => simp [intOf]; omega

end Go.Proofs.YtbcjhpeighlncaaDoor
