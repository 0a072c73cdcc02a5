/-
  The reference's words of thirty-two bits, that lie in wider ones: plain laws; turn, shift.
-/
import Derived.Test.YtbcjhpeighlncaaDoorSha5
import Derived.Laws.BitsAllLaws
namespace Go.Proofs.YtbcjhpeighlncaaDoor
set_option linter.unusedVariables false
set_option linter.unusedSimpArgs false
open Go.RowKit

theorem xor_wide (x y : Int) (h1 : 0 ≤ x) (h2 : x < 4294967296) (h3 : 0 ≤ y) (h4 : y < 4294967296) : bits .xor .u64 x y = bits .xor .u32 x y := by
  rw [u64_xor x y h1 (by omega) h3 (by omega), u32_xor x y h1 h2 h3 h4]
theorem and_wide (x y : Int) (h1 : 0 ≤ x) (h2 : x < 4294967296) (h3 : 0 ≤ y) (h4 : y < 4294967296) : bits .and .u64 x y = bits .and .u32 x y := by
  rw [u64_and x y h1 (by omega) h3 (by omega), u32_and x y h1 h2 h3 h4]
theorem xor_zero32 (x : Int) (h1 : 0 ≤ x) (h2 : x < 4294967296) : bits .xor .u32 0 x = x := by
  rw [u32_xor 0 x (by decide) (by decide) h1 h2]
  simp
  omega
theorem not_32 (e : Int) (h1 : 0 ≤ e) (h2 : e < 4294967296) : bits .xor .u32 4294967295 e = 4294967295 - e := by
  rw [u32_xor 4294967295 e (by decide) (by decide) h1 h2]
  obtain ⟨n, rfl⟩ := Int.eq_ofNat_of_zero_le h1
  have h : (4294967295 ^^^ n : Nat) = 4294967295 - n := by
    have hb : n < 2 ^ 32 := by omega
    have := congrArg BitVec.toNat (BitVec.allOnes_xor (x := BitVec.ofNat 32 n))
    rw [BitVec.toNat_xor, BitVec.toNat_not, BitVec.toNat_allOnes, BitVec.toNat_ofNat, Nat.mod_eq_of_lt hb] at this
    simpa using this
  rw [Int.toNat_natCast, show (4294967295 : Int).toNat = 4294967295 from rfl, h]
  omega

/-- A turn, as a sum. -/
theorem rot_nat (x n : Nat) (hx : x < 4294967296) (hn : n ≤ 32) : rotI x n = ((x / 2 ^ n + x % 2 ^ n * 2 ^ (32 - n) : Nat) : Int) := by
  unfold rotI
  have e1 : (32 - (n : Int)).toNat = 32 - n := by omega
  rw [Int.toNat_natCast, e1]
  have hp : 2 ^ n * 2 ^ (32 - n) = 4294967296 := by rw [← Nat.pow_add, show n + (32 - n) = 32 by omega]
  have hpn : 0 < 2 ^ n := Nat.pow_pos (by decide)
  have hpm : 0 < 2 ^ (32 - n) := Nat.pow_pos (by decide)
  have a1 : (x : Int) / 2 ^ n = ((x / 2 ^ n : Nat) : Int) := by rw [Int.natCast_ediv, Int.natCast_pow]; rfl
  have a2 : (x : Int) * 2 ^ (32 - n) % 4294967296 = ((x % 2 ^ n * 2 ^ (32 - n) : Nat) : Int) := by
    have : x * 2 ^ (32 - n) % 4294967296 = x % 2 ^ n * 2 ^ (32 - n) := by
      rw [← hp, Nat.mul_mod_mul_right]
    rw [← this, Int.natCast_emod, Int.natCast_mul, Int.natCast_pow]; rfl
  rw [a1, a2]
  have b1 : x / 2 ^ n < 2 ^ (32 - n) := by rw [Nat.div_lt_iff_lt_mul hpn, Nat.mul_comm, hp]; exact hx
  have b2 : x % 2 ^ n * 2 ^ (32 - n) < 4294967296 := by
    rw [← hp]
    exact Nat.mul_lt_mul_of_pos_right (Nat.mod_lt _ hpn) hpm
  have b3 : 2 ^ (32 - n) ≤ 4294967296 := by rw [← hp]; exact Nat.le_mul_of_pos_left _ hpn
  rw [u32_or_nat _ _ (by omega) b2, Nat.or_comm, nat_join (32 - n) _ _ (by rw [Nat.mul_mod_left]) b1, Nat.add_comm]
/-- The reference's turn, k times by one. -/
def turnR (x : Int) : Nat → Int
  | 0 => x
  | k + 1 => turnR x k / 2 + turnR x k % 2 * 2147483648
theorem turnR_nat (x k : Nat) (hx : x < 4294967296) (hk : k ≤ 31) : turnR x k = ((x / 2 ^ k + x % 2 ^ k * 2 ^ (32 - k) : Nat) : Int) ∧ x / 2 ^ k + x % 2 ^ k * 2 ^ (32 - k) < 4294967296 := by
  induction k with
  | zero => simp [turnR, Nat.mod_one]; exact hx
  | succ k ih =>
    obtain ⟨ih, hb⟩ := ih (by omega)
    have hp : 2 ^ (32 - k) = 2 * 2 ^ (31 - k) := by rw [← Nat.pow_succ', show (31 - k).succ = 32 - k by omega]
    have hq : 2 ^ (k + 1) = 2 * 2 ^ k := Nat.pow_succ'
    have h31 : 2 ^ k * 2 ^ (31 - k) = 2147483648 := by rw [← Nat.pow_add, show k + (31 - k) = 31 by omega]
    have hpk : 0 < 2 ^ k := Nat.pow_pos (by decide)
    -- x = 2^(k+1) a + 2^k b + c
    have hdm := Nat.div_add_mod x (2 ^ k)
    have hd2 := Nat.div_add_mod (x / 2 ^ k) 2
    have hdd : x / 2 ^ k / 2 = x / 2 ^ (k + 1) := by rw [Nat.div_div_eq_div_mul, Nat.mul_comm (2 ^ k) 2, ← hq]
    have hmm : x % 2 ^ (k + 1) = x % 2 ^ k + 2 ^ k * (x / 2 ^ k % 2) := by rw [hq, Nat.mul_comm 2, Nat.mod_mul]
    have e : (x / 2 ^ k + x % 2 ^ k * 2 ^ (32 - k)) / 2 + (x / 2 ^ k + x % 2 ^ k * 2 ^ (32 - k)) % 2 * 2147483648 = x / 2 ^ (k + 1) + x % 2 ^ (k + 1) * 2 ^ (32 - (k + 1)) := by
      rw [show 32 - (k + 1) = 31 - k by omega, hmm, Nat.add_mul, ← hdd, hp]
      have h1 : x % 2 ^ k * (2 * 2 ^ (31 - k)) = 2 * (x % 2 ^ k * 2 ^ (31 - k)) := by rw [Nat.mul_left_comm]
      have h2 : 2 ^ k * (x / 2 ^ k % 2) * 2 ^ (31 - k) = x / 2 ^ k % 2 * 2147483648 := by rw [← h31, Nat.mul_comm (2 ^ k), Nat.mul_assoc]
      rw [h1, h2]
      generalize x % 2 ^ k * 2 ^ (31 - k) = c
      generalize x / 2 ^ k = y
      omega
    refine ⟨?_, ?_⟩
    · rw [turnR, ih, ← e]
      have hc : ∀ y : Nat, (y : Int) / 2 + (y : Int) % 2 * 2147483648 = ((y / 2 + y % 2 * 2147483648 : Nat) : Int) := fun y => by omega
      exact hc _
    · rw [← e]
      generalize x / 2 ^ k + x % 2 ^ k * 2 ^ (32 - k) = y at hb ⊢
      omega
theorem turnR_rot (x : Int) (k : Nat) (h1 : 0 ≤ x) (h2 : x < 4294967296) (hk : k ≤ 31) : turnR x k = rotI x k := by
  obtain ⟨n, rfl⟩ := Int.eq_ofNat_of_zero_le h1
  rw [(turnR_nat n k (by omega) hk).1, rot_nat n k (by omega) (by omega)]
theorem turnR_bd (x : Int) (k : Nat) (h1 : 0 ≤ x) (h2 : x < 4294967296) (hk : k ≤ 31) : 0 ≤ turnR x k ∧ turnR x k < 4294967296 := by
  obtain ⟨n, rfl⟩ := Int.eq_ofNat_of_zero_le h1
  obtain ⟨e, hb⟩ := turnR_nat n k (by omega) hk
  rw [e]
  generalize n / 2 ^ k + n % 2 ^ k * 2 ^ (32 - k) = y at hb ⊢
  omega
theorem rotI_bd (x : Int) (k : Nat) (h1 : 0 ≤ x) (h2 : x < 4294967296) (hk : k ≤ 31) : 0 ≤ rotI x k ∧ rotI x k < 4294967296 := by
  rw [← turnR_rot x k h1 h2 hk]
  exact turnR_bd x k h1 h2 hk

set_option maxHeartbeats 1000000 in
theorem turn_any (x : Int) (n : Int) (w : World) (h1 : 0 ≤ x) (h2 : x < 4294967296) (h3 : 0 ≤ n) (h4 : n ≤ 31) :
    Calls Tryd.prog 71 #[.int .u64 x, .int .i64 n] w fun e w' => e = .returned (.int .u64 (rotI x n)) ∧ w = w' := by
  obtain ⟨m, rfl⟩ := Int.eq_ofNat_of_zero_le h3
  have hm : m ≤ 31 := by omega
  rw [← turnR_rot x m h1 h2 hm]
  go_enter Tryd.func71, Tryd.ntmps71
  go_wp2_with fail
  go_loop [0, 5] (fun xv iv => ∃ k : Nat, iv = .int .i64 (k : Int) ∧ k ≤ m ∧ xv = .int .u64 (turnR x k)) (fun _ iv => m - (intOf iv).toNat)
  case atStart => exact ⟨0, rfl, Nat.zero_le _, rfl⟩
  case round =>
    obtain ⟨k, rfl, hk, rfl⟩ := hrel
    obtain ⟨b1, b2⟩ := turnR_bd x k h1 h2 (by omega)
    have hs : turnR x (k + 1) = turnR x k / 2 + turnR x k % 2 * 2147483648 := rfl
    have HS := hide hs
    clear hs
    by_cases hlt : k < m
    · have hlt0 : (k : Int) < (m : Int) := by omega
      generalize turnR x k = y at b1 b2 HS ⊢
      go_wp2
      go_round
      case rel => exact ⟨k + 1, by go_num, by omega, by rw [unhide HS]⟩
      case measure => simp [intOf]; omega
    · obtain rfl : k = m := by omega
      clear HS
      go_wp2
      go_ret
      exact ⟨rfl, rfl⟩
/-- The reference's shift. -/
def shR (x : Int) : Nat → Int
  | 0 => x
  | k + 1 => shR x k / 2
theorem shR_eq (x : Int) (k : Nat) : shR x k = x / 2 ^ k := by
  induction k with
  | zero => simp [shR]
  | succ k ih => rw [shR, ih, Int.pow_succ, Int.ediv_ediv_of_nonneg (Int.pow_nonneg (by decide))]
theorem shR_bd (x : Int) (k : Nat) (h1 : 0 ≤ x) (h2 : x < 18446744073709551616) : 0 ≤ shR x k ∧ shR x k < 18446744073709551616 := by
  induction k with
  | zero => exact ⟨h1, h2⟩
  | succ k ih => rw [shR]; omega
set_option maxHeartbeats 1000000 in
theorem shift_any (x : Int) (n : Int) (w : World) (h1 : 0 ≤ x) (h2 : x < 18446744073709551616) (h3 : 0 ≤ n) (h4 : n ≤ 64) :
    Calls Tryd.prog 66 #[.int .u64 x, .int .i64 n] w fun e w' => e = .returned (.int .u64 (x / 2 ^ n.toNat)) ∧ w = w' := by
  obtain ⟨m, rfl⟩ := Int.eq_ofNat_of_zero_le h3
  have hm : m ≤ 64 := by omega
  rw [Int.toNat_natCast, ← shR_eq]
  go_enter Tryd.func66, Tryd.ntmps66
  go_wp2_with fail
  go_loop [0, 5] (fun xv iv => ∃ k : Nat, iv = .int .i64 (k : Int) ∧ k ≤ m ∧ xv = .int .u64 (shR x k)) (fun _ iv => m - (intOf iv).toNat)
  case atStart => exact ⟨0, rfl, Nat.zero_le _, rfl⟩
  case round =>
    obtain ⟨k, rfl, hk, rfl⟩ := hrel
    obtain ⟨b1, b2⟩ := shR_bd x k h1 h2
    have hs : shR x (k + 1) = shR x k / 2 := rfl
    have HS := hide hs
    clear hs
    by_cases hlt : k < m
    · have hlt0 : (k : Int) < (m : Int) := by omega
      generalize shR x k = y at b1 b2 HS ⊢
      go_wp2
      go_round
      case rel => exact ⟨k + 1, by go_num, by omega, by rw [unhide HS]⟩
      case measure => simp [intOf]; omega
    · obtain rfl : k = m := by omega
      clear HS b2
      go_wp2
      go_ret
      exact ⟨rfl, rfl⟩

end Go.Proofs.YtbcjhpeighlncaaDoor
