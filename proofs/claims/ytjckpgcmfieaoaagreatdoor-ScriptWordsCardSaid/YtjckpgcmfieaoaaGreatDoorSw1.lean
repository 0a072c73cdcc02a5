/-
  script.Number and the reference's Number: both tell a word's number.
-/
import Derived.Test.YtjckpgcmfieaoaaGreatDoorSw0
namespace Go.Proofs.YtjckpgcmfieaoaaGreatDoor
open Go.RowKit

theorem numTo_lt {s : ByteArray} {i : Nat} {n : Int} (h : numTo s i = some n) (hi : i ≤ 9) : 0 ≤ n ∧ n < 1000000000 := by
  obtain ⟨h0, h1⟩ := numTo_bd s i n h
  refine ⟨h0, Int.lt_of_lt_of_le h1 ?_⟩
  have : (10 : Int) ^ i ≤ 10 ^ 9 := by exact_mod_cast Nat.pow_le_pow_right (by omega) hi
  omega
theorem numW_bad {s : ByteArray} {i : Nat} (h0 : 0 < s.size) (h9 : s.size ≤ 9) (hi : i < s.size) (h : numTo s (i + 1) = none) : numW22 s = (0, false) := by
  unfold numW22
  rw [if_neg (by omega), numTo_none s (i + 1) s.size (by omega) h]
theorem numW_ok {s : ByteArray} {n : Int} (h0 : 0 < s.size) (h9 : s.size ≤ 9) (h : numTo s s.size = some n) : numW22 s = (n, true) := by
  unfold numW22
  rw [if_neg (by omega), h]
theorem num_any (s : ByteArray) (hs : s.size ≤ 1000000000) (w : World) : Calls Tryz.prog 34 #[.string s] w (Reads (.tuple #[.int .i64 (numW22 s).1, .bool (numW22 s).2]) w) := by
  go_enter Tryz.func34, Tryz.ntmps34
  by_cases h0 : s.size = 0
  · obtain rfl : s = ⟨#[]⟩ := by
      obtain ⟨d⟩ := s
      exact congrArg ByteArray.mk (Array.eq_empty_of_size_eq_zero h0)
    go_wp2_with fail
    go_ret2
    exact ⟨rfl, Q.refl _⟩
  have hne := str_ne (Nat.pos_of_ne_zero h0)
  by_cases h9 : 9 < s.size
  · have hn : numW22 s = (0, false) := by unfold numW22; rw [if_pos (.inr h9)]
    have h9' : (9 : Int) < (s.size : Int) := by omega
    go_wp2_with fail
    go_ret2
    exact ⟨by first | (rw [hn]; rfl) | rfl, Q.refl _⟩
  have h9' : ¬ (9 : Int) < (s.size : Int) := by omega
  go_wp2_with fail
  obtain ⟨wo, rfl⟩ : ∃ wo : World, wo = w := ⟨_, rfl⟩
  go_loopw [4, 15] (fun nv iv wr => ∃ (i : Nat) (n : Int), iv = .int .i64 (i : Int) ∧ i ≤ s.size ∧ nv = .int .i64 n ∧ numTo s i = some n ∧ wr = wo) (fun _ iv _ => s.size - (intOf iv).toNat)
  case atStart => exact ⟨0, 0, rfl, Nat.zero_le _, rfl, rfl, rfl⟩
  case round =>
    obtain ⟨i, n, rfl, hi, rfl, hn, rfl⟩ := hrel
    by_cases hlt : i < s.size
    · have hi0 : (i : Int) < (s.size : Int) := by omega
      have hix : ∀ wx, (Instr.index 9 (.string s) (.int .i64 (i : Int))).run Tryz.prog wx = .ok (.int .u8 (bt s i)) wx := fun wx => run_index_at _ s _ _ i Tryz.underlying9 rfl hlt wx
      obtain ⟨b0, b1⟩ := bt_bd s i
      obtain ⟨n0, n1⟩ := numTo_lt hn (by omega)
      have HN := hide hn
      have HH := hide h9
      clear hn
      obtain ⟨c, hc⟩ : ∃ c, bt s i = c := ⟨_, rfl⟩
      rw [hc] at hix b0 b1
      by_cases hl : c < 48
      · have hbad : numW22 s = (0, false) := numW_bad (Nat.pos_of_ne_zero h0) (by omega) hlt (by rw [numTo, unhide HN, hc]; simp [digB]; omega)
        go_wp2_with fail
        go_ret2
        exact ⟨by first | (rw [hbad]; rfl) | rfl, Q.refl _⟩
      by_cases hh : 57 < c
      · have hbad : numW22 s = (0, false) := numW_bad (Nat.pos_of_ne_zero h0) (by omega) hlt (by rw [numTo, unhide HN, hc]; simp [digB]; omega)
        go_wp2_with fail
        go_ret2
        exact ⟨by first | (rw [hbad]; rfl) | rfl, Q.refl _⟩
      have hw1 : IntKind.i64.wrap (10 * n) = 10 * n := wrapI (by omega) (by omega)
      have hw2 : IntKind.u8.wrap (c - 48) = c - 48 := by rw [IntKind.wrap_u8]; omega
      have hw3 : IntKind.i64.wrap (c - 48) = c - 48 := wrapI (by omega) (by omega)
      have hw4 : IntKind.i64.wrap (10 * n + (c - 48)) = 10 * n + (c - 48) := wrapI (by omega) (by omega)
      go_wp2_with fail
      go_roundw
      case rel =>
        refine ⟨i + 1, 10 * n + (c - 48), by go_num, by omega, by first | rfl | (congr 1; omega), ?_, trivial⟩
        rw [numTo, unhide HN, hc]
        simp [digB]
        omega
      case measure => simp [intOf]; omega
    · obtain rfl : i = s.size := by omega
      have hok := numW_ok (Nat.pos_of_ne_zero h0) (by omega) hn
      clear hn
      go_wp2_with fail
      go_ret2
      exact ⟨by first | (rw [hok]; rfl) | rfl, Q.refl _⟩
theorem numR_any (s : ByteArray) (hs : s.size ≤ 1000000000) (w : World) : Calls Tryz.prog 35 #[.string s] w (Reads (.tuple #[.int .i64 (numW22 s).1, .bool (numW22 s).2]) w) := by
  go_enter Tryz.func35, Tryz.ntmps35
  by_cases h0 : s.size = 0
  · obtain rfl : s = ⟨#[]⟩ := by
      obtain ⟨d⟩ := s
      exact congrArg ByteArray.mk (Array.eq_empty_of_size_eq_zero h0)
    go_wp2_with fail
    go_ret2
    exact ⟨rfl, Q.refl _⟩
  have hl1 : ¬ (s.size : Int) < 1 := by omega
  have hne := str_ne (Nat.pos_of_ne_zero h0)
  by_cases h9 : 9 < s.size
  · have hn : numW22 s = (0, false) := by unfold numW22; rw [if_pos (.inr h9)]
    have h9' : (9 : Int) < (s.size : Int) := by omega
    go_wp2_with fail
    go_ret2
    exact ⟨by first | (rw [hn]; rfl) | rfl, Q.refl _⟩
  have h9' : ¬ (9 : Int) < (s.size : Int) := by omega
  go_wp2_with fail
  obtain ⟨wo, rfl⟩ : ∃ wo : World, wo = w := ⟨_, rfl⟩
  go_loopw [4, 5] (fun nv iv wr => ∃ (i : Nat) (n : Int), iv = .int .i64 (i : Int) ∧ i ≤ s.size ∧ nv = .int .i64 n ∧ numTo s i = some n ∧ wr = wo) (fun _ iv _ => s.size - (intOf iv).toNat)
  case atStart => exact ⟨0, 0, rfl, Nat.zero_le _, rfl, rfl, rfl⟩
  case round =>
    obtain ⟨i, n, rfl, hi, rfl, hn, rfl⟩ := hrel
    by_cases hlt : i < s.size
    · have hi0 : (i : Int) < (s.size : Int) := by omega
      have hix : ∀ wx, (Instr.index 9 (.string s) (.int .i64 (i : Int))).run Tryz.prog wx = .ok (.int .u8 (bt s i)) wx := fun wx => run_index_at _ s _ _ i Tryz.underlying9 rfl hlt wx
      obtain ⟨b0, b1⟩ := bt_bd s i
      obtain ⟨n0, n1⟩ := numTo_lt hn (by omega)
      have HN := hide hn
      have HH := hide h9
      clear hn
      obtain ⟨c, hc⟩ : ∃ c, bt s i = c := ⟨_, rfl⟩
      rw [hc] at hix b0 b1
      by_cases hl : c < 48
      · have hbad : numW22 s = (0, false) := numW_bad (Nat.pos_of_ne_zero h0) (by omega) hlt (by rw [numTo, unhide HN, hc]; simp [digB]; omega)
        go_wp2_with fail
        go_ret2
        exact ⟨by first | (rw [hbad]; rfl) | rfl, Q.refl _⟩
      by_cases hh : 57 < c
      · have hbad : numW22 s = (0, false) := numW_bad (Nat.pos_of_ne_zero h0) (by omega) hlt (by rw [numTo, unhide HN, hc]; simp [digB]; omega)
        go_wp2_with fail
        go_ret2
        exact ⟨by first | (rw [hbad]; rfl) | rfl, Q.refl _⟩
      have hw1 : IntKind.i64.wrap (n * 10) = 10 * n := (wrapI (by omega) (by omega)).trans (Int.mul_comm _ _)
      have hw2 : IntKind.u8.wrap (c - 48) = c - 48 := by rw [IntKind.wrap_u8]; omega
      have hw3 : IntKind.i64.wrap (c - 48) = c - 48 := wrapI (by omega) (by omega)
      have hw4 : IntKind.i64.wrap (10 * n + (c - 48)) = 10 * n + (c - 48) := wrapI (by omega) (by omega)
      go_wp2_with fail
      go_roundw
      case rel =>
        refine ⟨i + 1, 10 * n + (c - 48), by go_num, by omega, by first | rfl | (congr 1; omega), ?_, trivial⟩
        rw [numTo, unhide HN, hc]
        simp [digB]
        omega
      case measure => simp [intOf]; omega
    · obtain rfl : i = s.size := by omega
      have hok := numW_ok (Nat.pos_of_ne_zero h0) (by omega) hn
      clear hn
      go_wp2_with fail
      go_ret2
      exact ⟨by first | (rw [hok]; rfl) | rfl, Q.refl _⟩
end Go.Proofs.YtjckpgcmfieaoaaGreatDoor
