/-
  rotate: two neighbouring ranges change places.
-/
import Derived.Test.YtbcjhpeighlncaaDoorSoPlain
namespace Go.Proofs.YtbcjhpeighlncaaDoor
open Go.RowKit Go.Sort

theorem swaprange_split (g off cap : Nat) (P X M Y S : List Item) (n : Nat) (hX : X.length = n) (hY : Y.length = n) (N : Nat) (hN : (P ++ (X ++ (M ++ (Y ++ S)))).length = N) (hm : N ≤ 4611686018427387904) (a b : Int) (ha : a = P.length) (hb : b = P.length + n + M.length)
    (fv : Value) (w : World) (h : Held w g off (P ++ (X ++ (M ++ (Y ++ S))))) :
    Calls Tryd.prog 73 #[.slice (some ⟨g, off, none⟩) N cap, .int .i64 a, .int .i64 b, .int .i64 n, fv] w fun e w' => e = .returned (.tuple #[]) ∧ Upd (· = g) w w' ∧ Held w' g off (P ++ (Y ++ (M ++ (X ++ S)))) := by
  subst hN; subst ha
  obtain rfl : b = ((P.length + n + M.length : Nat) : Int) := by omega
  have := swaprange_any g off cap P.length (P.length + n + M.length) n _ fv w h (by simp only [List.length_append]; omega) (by simp only [List.length_append]; omega) hm
  rwa [swapN_split P X M Y S n hX hY] at this

set_option maxHeartbeats 3000000 in
theorem rotate_split (g off cap : Nat) (P X Y S : List Item) (hX : 0 < X.length) (hY : 0 < Y.length) (N : Nat) (hN : (P ++ (X ++ (Y ++ S))).length = N) (hm : N ≤ 4611686018427387904) (a m b : Int) (ha : a = P.length) (hmm : m = P.length + X.length) (hb : b = P.length + X.length + Y.length)
    (fv : Value) (w : World) (h : Held w g off (P ++ (X ++ (Y ++ S)))) :
    Calls Tryd.prog 67 #[.slice (some ⟨g, off, none⟩) N cap, .int .i64 a, .int .i64 m, .int .i64 b, fv] w fun e w' => e = .returned (.tuple #[]) ∧ Upd (· = g) w w' ∧ Held w' g off (P ++ (Y ++ (X ++ S))) := by
  have hNl : P.length + (X.length + (Y.length + S.length)) = N := by rw [← hN]; simp only [List.length_append]
  have ei : m - a = (X.length : Int) := by omega
  have ej : b - m = (Y.length : Int) := by omega
  have m0 : 0 ≤ m := by omega
  have m1 : m ≤ 4611686018427387904 := by omega
  have a0 : 0 ≤ a := by omega
  have a1 : a ≤ 4611686018427387904 := by omega
  have b0 : 0 ≤ b := by omega
  have b1 : b ≤ 4611686018427387904 := by omega
  have HA := hide ha
  have HM := hide hmm
  have HB := hide hb
  clear ha hmm hb
  go_enter Tryd.func67, Tryd.ntmps67
  go_wp2_with fail
  go_loopw [10, 11] (fun iv jv wr => ∃ P' X' Y' S' : List Item, iv = .int .i64 X'.length ∧ jv = .int .i64 Y'.length ∧ 0 < X'.length ∧ 0 < Y'.length ∧ Hid (m = P'.length + X'.length) ∧ Hid (P'.length + (X'.length + (Y'.length + S'.length)) = N) ∧ Upd (· = g) w wr ∧ Held wr g off (P' ++ (X' ++ (Y' ++ S'))) ∧ Hid (P' ++ (Y' ++ (X' ++ S')) = P ++ (Y ++ (X ++ S)))) (fun iv jv _ => (intOf iv).toNat + (intOf jv).toNat)
  case atStart => exact ⟨P, X, Y, S, rfl, rfl, hX, hY, HM, hNl, Upd.refl _ _, h, hide rfl⟩
  case round =>
    obtain ⟨P', X', Y', S', rfl, rfl, hx, hy, HM', HN', hu, hh, HE⟩ := hrel
    have hN2 := unhide HN'
    have hM2 := unhide HM'
    rcases (by omega : X'.length = Y'.length ∨ Y'.length < X'.length ∨ X'.length < Y'.length) with e | hlt | hlt
    · have e' : ((X'.length : Int) != (Y'.length : Int)) = false := by rw [bne_eq_false_iff_eq]; omega
      have H := hide (swaprange_split g off cap P' X' [] Y' S' X'.length rfl e.symm N (by simp only [List.length_append, List.nil_append]; omega) hm (m - X'.length) m (by omega) (by simp; omega) fv wr (by simpa using hh))
      have e1 : IntKind.i64.wrap (m - (X'.length : Int)) = m - (X'.length : Int) := IntWalk.i64_in _ (by omega)
      clear hN2 hM2 e ei ej
      go_wp2_with fail
      refine (unhide H).mono ?_
      rintro e w1 ⟨rfl, u1, h1⟩
      go_wp2
      go_end0
      refine ⟨rfl, hu.trans u1, ?_⟩
      rw [← unhide HE]
      simpa using h1
    · have e' : ((X'.length : Int) != (Y'.length : Int)) = true := by rw [bne_iff_ne]; omega
      obtain ⟨X1, X2, hX', h1, h2⟩ : ∃ X1 X2 : List Item, X' = X1 ++ X2 ∧ X1.length = Y'.length ∧ X2.length = X'.length - Y'.length :=
        ⟨X'.take Y'.length, X'.drop Y'.length, (List.take_append_drop _ _).symm, by rw [List.length_take]; omega, List.length_drop⟩
      have H := hide (swaprange_split g off cap P' X1 X2 Y' S' Y'.length h1 rfl N (by simp only [List.length_append]; omega) hm (m - X'.length) m (by omega) (by omega) fv wr (by rw [hX'] at hh; simpa [List.append_assoc] using hh))
      have e1 : IntKind.i64.wrap (m - (X'.length : Int)) = m - (X'.length : Int) := IntWalk.i64_in _ (by omega)
      have e2 : IntKind.i64.wrap ((X'.length : Int) - (Y'.length : Int)) = (X'.length : Int) - (Y'.length : Int) := IntWalk.i64_in _ (by omega)
      have hb3 : (X'.length : Int) ≤ 4611686018427387904 := by omega
      have HM2 : Hid (m = (P' ++ Y').length + X2.length) := hide (by rw [List.length_append]; omega)
      have HN3 : Hid ((P' ++ Y').length + (X2.length + (X1.length + S'.length)) = N) := hide (by rw [List.length_append]; omega)
      have HE3 : Hid ((P' ++ Y') ++ (X1 ++ (X2 ++ S')) = P ++ (Y ++ (X ++ S))) := hide (by rw [← unhide HE, hX']; simp [List.append_assoc])
      have h2' : 0 < X2.length := by omega
      have h1' : 0 < X1.length := by omega
      have H1 := hide h1
      have H2 := hide h2
      clear hN2 hM2 ei ej h1 h2 hX'
      go_wp2_with fail
      refine (unhide H).mono ?_
      rintro e w1 ⟨rfl, u1, hh1⟩
      go_wp2
      go_roundw
      case rel =>
        refine ⟨P' ++ Y', X2, X1, S', ?_, ?_, h2', h1', HM2, HN3, hu.trans u1, by simpa [List.append_assoc] using hh1, HE3⟩
        · have := unhide H2; congr 1; omega
        · rw [unhide H1]
      case measure => simp [intOf]; omega
    · have e' : ((X'.length : Int) != (Y'.length : Int)) = true := by rw [bne_iff_ne]; omega
      obtain ⟨Y1, Y2, hY', h1, h2⟩ : ∃ Y1 Y2 : List Item, Y' = Y1 ++ Y2 ∧ Y1.length = Y'.length - X'.length ∧ Y2.length = X'.length :=
        ⟨Y'.take (Y'.length - X'.length), Y'.drop (Y'.length - X'.length), (List.take_append_drop _ _).symm, by rw [List.length_take]; omega, by rw [List.length_drop]; omega⟩
      have H := hide (swaprange_split g off cap P' X' Y1 Y2 S' X'.length rfl h2 N (by simp only [List.length_append]; omega) hm (m - X'.length) (m + Y'.length - X'.length) (by omega) (by omega) fv wr (by rw [hY'] at hh; simpa [List.append_assoc] using hh))
      have hb3 : (Y'.length : Int) ≤ 4611686018427387904 := by omega
      have e1 : IntKind.i64.wrap (m - (X'.length : Int)) = m - (X'.length : Int) := IntWalk.i64_in _ (by omega)
      have hq1 : m + (Y'.length : Int) ≤ 4611686018427387904 := by omega
      have hq2 : (X'.length : Int) ≤ m := by omega
      have HM2 : Hid (m = P'.length + Y2.length) := hide (by omega)
      have HN3 : Hid (P'.length + (Y2.length + (Y1.length + (X' ++ S').length)) = N) := hide (by rw [List.length_append]; omega)
      have HE3 : Hid (P' ++ (Y1 ++ (Y2 ++ (X' ++ S'))) = P ++ (Y ++ (X ++ S))) := hide (by rw [← unhide HE, hY']; simp [List.append_assoc])
      have h2' : 0 < Y2.length := by omega
      have h1' : 0 < Y1.length := by omega
      have H1 := hide h1
      have H2 := hide h2
      clear hN2 hM2 ei ej h1 h2 hY'
      go_wp2_with fail
      refine (unhide H).mono ?_
      rintro e w1 ⟨rfl, u1, hh1⟩
      go_wp2
      go_roundw
      case rel =>
        refine ⟨P', Y2, Y1, X' ++ S', ?_, ?_, h2', h1', HM2, HN3, hu.trans u1, by simpa [List.append_assoc] using hh1, HE3⟩
        · rw [unhide H2]
        · have := unhide H1; congr 1; omega
      case measure => simp [intOf]; omega

end Go.Proofs.YtbcjhpeighlncaaDoor
