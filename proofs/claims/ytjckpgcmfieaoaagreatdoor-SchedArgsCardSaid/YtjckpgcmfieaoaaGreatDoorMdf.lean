/-
  The reference's words of thirty-two bits, that lie in wider ones: plain laws; turn, shift.
-/
import Derived.Test.YtjckpgcmfieaoaaGreatDoorMcd
import Derived.Laws.BitsAllLaws
import Derived.Outline
import Derived.Test.YtjckpgcmfieaoaaGreatDoorMcf
set_option linter.unusedVariables false
set_option linter.unusedSimpArgs false
namespace Go.Proofs.YtjckpgcmfieaoaaGreatDoor
open Go.RowKit

theorem xor_wide (x y : Int) (h1 : 0 ≤ x) (h2 : x < 4294967296) (h3 : 0 ≤ y) (h4 : y < 4294967296) : bits .xor .u64 x y = bits .xor .u32 x y := by
  rw [u64_xor x y h1 (by omega) h3 (by omega), u32_xor x y h1 h2 h3 h4]
theorem and_wide (x y : Int) (h1 : 0 ≤ x) (h2 : x < 4294967296) (h3 : 0 ≤ y) (h4 : y < 4294967296) : bits .and .u64 x y = bits .and .u32 x y := by
  rw [u64_and x y h1 (by omega) h3 (by omega), u32_and x y h1 h2 h3 h4]
theorem xor_zero32 (x : Int) (h1 : 0 ≤ x) (h2 : x < 4294967296) : bits .xor .u32 0 x = x := by
  rw [u32_xor 0 x (by decide) (by decide) h1 h2]
  simp
  omega
theorem not_32 (e : Int) (h1 : 0 ≤ e) (h2 : e < 4294967296) : bits .xor .u32 4294967295 e = 4294967295 - e := by
  rw [u32_xor 4294967295 e (by decide) (by decide) h1 h2]
  obtain ⟨n, rfl⟩ := Int.eq_ofNat_of_zero_le h1
  have h : (4294967295 ^^^ n : Nat) = 4294967295 - n := by
    have hb : n < 2 ^ 32 := by omega
    have := congrArg BitVec.toNat (BitVec.allOnes_xor (x := BitVec.ofNat 32 n))
    rw [BitVec.toNat_xor, BitVec.toNat_not, BitVec.toNat_allOnes, BitVec.toNat_ofNat, Nat.mod_eq_of_lt hb] at this
    simpa using this
  rw [Int.toNat_natCast, show (4294967295 : Int).toNat = 4294967295 from rfl, h]
  omega

/-- A turn, as a sum. -/
theorem rot_nat (x n : Nat) (hx : x < 4294967296) (hn : n ≤ 32) : rotI x n = ((x / 2 ^ n + x % 2 ^ n * 2 ^ (32 - n) : Nat) : Int) := by
  unfold rotI
  have e1 : (32 - (n : Int)).toNat = 32 - n := by omega
  rw [Int.toNat_natCast, e1]
  have hp : 2 ^ n * 2 ^ (32 - n) = 4294967296 := by rw [← Nat.pow_add, show n + (32 - n) = 32 by omega]
  have hpn : 0 < 2 ^ n := Nat.pow_pos (by decide)
  have hpm : 0 < 2 ^ (32 - n) := Nat.pow_pos (by decide)
  have a1 : (x : Int) / 2 ^ n = ((x / 2 ^ n : Nat) : Int) := by rw [Int.natCast_ediv, Int.natCast_pow]; rfl
  have a2 : (x : Int) * 2 ^ (32 - n) % 4294967296 = ((x % 2 ^ n * 2 ^ (32 - n) : Nat) : Int) := by
    have : x * 2 ^ (32 - n) % 4294967296 = x % 2 ^ n * 2 ^ (32 - n) := by
      rw [← hp, Nat.mul_mod_mul_right]
    rw [← this, Int.natCast_emod, Int.natCast_mul, Int.natCast_pow]; rfl
  rw [a1, a2]
  have b1 : x / 2 ^ n < 2 ^ (32 - n) := by rw [Nat.div_lt_iff_lt_mul hpn, Nat.mul_comm, hp]; exact hx
  have b2 : x % 2 ^ n * 2 ^ (32 - n) < 4294967296 := by
    rw [← hp]
    exact Nat.mul_lt_mul_of_pos_right (Nat.mod_lt _ hpn) hpm
  have b3 : 2 ^ (32 - n) ≤ 4294967296 := by rw [← hp]; exact Nat.le_mul_of_pos_left _ hpn
  rw [u32_or_nat _ _ (by omega) b2, Nat.or_comm, nat_join (32 - n) _ _ (by rw [Nat.mul_mod_left]) b1, Nat.add_comm]
/-- The reference's turn, k times by one. -/
def turnR (x : Int) : Nat → Int
  | 0 => x
  | k + 1 => turnR x k / 2 + turnR x k % 2 * 2147483648
theorem turnR_nat (x k : Nat) (hx : x < 4294967296) (hk : k ≤ 31) : turnR x k = ((x / 2 ^ k + x % 2 ^ k * 2 ^ (32 - k) : Nat) : Int) ∧ x / 2 ^ k + x % 2 ^ k * 2 ^ (32 - k) < 4294967296 := by
  induction k with
  | zero => simp [turnR, Nat.mod_one]; exact hx
  | succ k ih =>
    obtain ⟨ih, hb⟩ := ih (by omega)
    have hp : 2 ^ (32 - k) = 2 * 2 ^ (31 - k) := by rw [← Nat.pow_succ', show (31 - k).succ = 32 - k by omega]
    have hq : 2 ^ (k + 1) = 2 * 2 ^ k := Nat.pow_succ'
    have h31 : 2 ^ k * 2 ^ (31 - k) = 2147483648 := by rw [← Nat.pow_add, show k + (31 - k) = 31 by omega]
    have hpk : 0 < 2 ^ k := Nat.pow_pos (by decide)
    -- x = 2^(k+1) a + 2^k b + c
    have hdm := Nat.div_add_mod x (2 ^ k)
    have hd2 := Nat.div_add_mod (x / 2 ^ k) 2
    have hdd : x / 2 ^ k / 2 = x / 2 ^ (k + 1) := by rw [Nat.div_div_eq_div_mul, Nat.mul_comm (2 ^ k) 2, ← hq]
    have hmm : x % 2 ^ (k + 1) = x % 2 ^ k + 2 ^ k * (x / 2 ^ k % 2) := by rw [hq, Nat.mul_comm 2, Nat.mod_mul]
    have e : (x / 2 ^ k + x % 2 ^ k * 2 ^ (32 - k)) / 2 + (x / 2 ^ k + x % 2 ^ k * 2 ^ (32 - k)) % 2 * 2147483648 = x / 2 ^ (k + 1) + x % 2 ^ (k + 1) * 2 ^ (32 - (k + 1)) := by
      rw [show 32 - (k + 1) = 31 - k by omega, hmm, Nat.add_mul, ← hdd, hp]
      have h1 : x % 2 ^ k * (2 * 2 ^ (31 - k)) = 2 * (x % 2 ^ k * 2 ^ (31 - k)) := by rw [Nat.mul_left_comm]
      have h2 : 2 ^ k * (x / 2 ^ k % 2) * 2 ^ (31 - k) = x / 2 ^ k % 2 * 2147483648 := by rw [← h31, Nat.mul_comm (2 ^ k), Nat.mul_assoc]
      rw [h1, h2]
      generalize x % 2 ^ k * 2 ^ (31 - k) = c
      generalize x / 2 ^ k = y
      omega
    refine ⟨?_, ?_⟩
    · rw [turnR, ih, ← e]
      have hc : ∀ y : Nat, (y : Int) / 2 + (y : Int) % 2 * 2147483648 = ((y / 2 + y % 2 * 2147483648 : Nat) : Int) := fun y => by omega
      exact hc _
    · rw [← e]
      generalize x / 2 ^ k + x % 2 ^ k * 2 ^ (32 - k) = y at hb ⊢
      omega
theorem turnR_rot (x : Int) (k : Nat) (h1 : 0 ≤ x) (h2 : x < 4294967296) (hk : k ≤ 31) : turnR x k = rotI x k := by
  obtain ⟨n, rfl⟩ := Int.eq_ofNat_of_zero_le h1
  rw [(turnR_nat n k (by omega) hk).1, rot_nat n k (by omega) (by omega)]
theorem turnR_bd (x : Int) (k : Nat) (h1 : 0 ≤ x) (h2 : x < 4294967296) (hk : k ≤ 31) : 0 ≤ turnR x k ∧ turnR x k < 4294967296 := by
  obtain ⟨n, rfl⟩ := Int.eq_ofNat_of_zero_le h1
  obtain ⟨e, hb⟩ := turnR_nat n k (by omega) hk
  rw [e]
  generalize n / 2 ^ k + n % 2 ^ k * 2 ^ (32 - k) = y at hb ⊢
  omega
theorem rotI_bd (x : Int) (k : Nat) (h1 : 0 ≤ x) (h2 : x < 4294967296) (hk : k ≤ 31) : 0 ≤ rotI x k ∧ rotI x k < 4294967296 := by
  rw [← turnR_rot x k h1 h2 hk]
  exact turnR_bd x k h1 h2 hk

set_option maxHeartbeats 1000000 in
theorem turn_any (x : Int) (n : Int) (w : World) (h1 : 0 ≤ x) (h2 : x < 4294967296) (h3 : 0 ≤ n) (h4 : n ≤ 31) :
    Calls Tryz.prog 185 #[.int .u64 x, .int .i64 n] w fun e w' => e = .returned (.int .u64 (rotI x n)) ∧ w = w' := by
  obtain ⟨m, rfl⟩ := Int.eq_ofNat_of_zero_le h3
  have hm : m ≤ 31 := by omega
  rw [← turnR_rot x m h1 h2 hm]
  go_enter Tryz.func185, Tryz.ntmps185
  go_wp2_with fail
  go_loop [0, 5] (fun xv iv => ∃ k : Nat, iv = .int .i64 (k : Int) ∧ k ≤ m ∧ xv = .int .u64 (turnR x k)) (fun _ iv => m - (intOf iv).toNat)
  case atStart => exact ⟨0, rfl, Nat.zero_le _, rfl⟩
  case round =>
    obtain ⟨k, rfl, hk, rfl⟩ := hrel
    obtain ⟨b1, b2⟩ := turnR_bd x k h1 h2 (by omega)
    have hs : turnR x (k + 1) = turnR x k / 2 + turnR x k % 2 * 2147483648 := rfl
    have HS := hide hs
    clear hs
    by_cases hlt : k < m
    · have hlt0 : (k : Int) < (m : Int) := by omega
      generalize turnR x k = y at b1 b2 HS ⊢
      go_wp2
      go_round
      case rel => exact ⟨k + 1, by go_num, by omega, by rw [unhide HS]⟩
      case measure => simp [intOf]; omega
    · obtain rfl : k = m := by omega
      clear HS
      go_wp2
      go_ret
      exact ⟨rfl, rfl⟩
/-- The reference's shift. -/
def shR (x : Int) : Nat → Int
  | 0 => x
  | k + 1 => shR x k / 2
theorem shR_eq (x : Int) (k : Nat) : shR x k = x / 2 ^ k := by
  induction k with
  | zero => simp [shR]
  | succ k ih => rw [shR, ih, Int.pow_succ, Int.ediv_ediv_of_nonneg (Int.pow_nonneg (by decide))]
theorem shR_bd (x : Int) (k : Nat) (h1 : 0 ≤ x) (h2 : x < 18446744073709551616) : 0 ≤ shR x k ∧ shR x k < 18446744073709551616 := by
  induction k with
  | zero => exact ⟨h1, h2⟩
  | succ k ih => rw [shR]; omega
set_option maxHeartbeats 1000000 in
theorem shift_any (x : Int) (n : Int) (w : World) (h1 : 0 ≤ x) (h2 : x < 18446744073709551616) (h3 : 0 ≤ n) (h4 : n ≤ 64) :
    Calls Tryz.prog 132 #[.int .u64 x, .int .i64 n] w fun e w' => e = .returned (.int .u64 (x / 2 ^ n.toNat)) ∧ w = w' := by
  obtain ⟨m, rfl⟩ := Int.eq_ofNat_of_zero_le h3
  have hm : m ≤ 64 := by omega
  rw [Int.toNat_natCast, ← shR_eq]
  go_enter Tryz.func132, Tryz.ntmps132
  go_wp2_with fail
  go_loop [0, 5] (fun xv iv => ∃ k : Nat, iv = .int .i64 (k : Int) ∧ k ≤ m ∧ xv = .int .u64 (shR x k)) (fun _ iv => m - (intOf iv).toNat)
  case atStart => exact ⟨0, rfl, Nat.zero_le _, rfl⟩
  case round =>
    obtain ⟨k, rfl, hk, rfl⟩ := hrel
    obtain ⟨b1, b2⟩ := shR_bd x k h1 h2
    have hs : shR x (k + 1) = shR x k / 2 := rfl
    have HS := hide hs
    clear hs
    by_cases hlt : k < m
    · have hlt0 : (k : Int) < (m : Int) := by omega
      generalize shR x k = y at b1 b2 HS ⊢
      go_wp2
      go_round
      case rel => exact ⟨k + 1, by go_num, by omega, by rw [unhide HS]⟩
      case measure => simp [intOf]; omega
    · obtain rfl : k = m := by omega
      clear HS b2
      go_wp2
      go_ret
      exact ⟨rfl, rfl⟩

theorem or_256 (x y : Int) (h1 : 0 ≤ x) (h2 : x < 16777216) (h3 : 0 ≤ y) (h4 : y ≤ 255) : bits .or .u32 (x * 256 % 4294967296) y = x * 256 + y := by
  rw [show x * 256 % 4294967296 = x * 256 by omega, u32_or _ _ (by omega) (by omega) h3 (by omega), nat_join 8 _ _ (by omega) (by omega)]
  omega
theorem wd_set_same (ws : List Int) (i : Nat) (x : Int) (h : i < ws.length) : wd (ws.set i x) i = x := by
  unfold wd
  rw [List.getD_eq_getElem?_getD, List.getElem?_set_self h]
  rfl
theorem wd_set_other (ws : List Int) (i j : Nat) (x : Int) (h : i ≠ j) : wd (ws.set i x) j = wd ws j := by
  unfold wd
  rw [List.getD_eq_getElem?_getD, List.getElem?_set_ne h, ← List.getD_eq_getElem?_getD]
/-- A word before its last byte is small. -/
theorem ldWords_low (s : ByteArray) (i : Nat) (hi : i < 64) (j : Nat) : j ≤ 4 * i + 4 → 0 ≤ wd (ldWords s j) i ∧ wd (ldWords s j) i < 256 ^ (j - 4 * i) := by
  induction j with
  | zero =>
    intro _
    have h0 : wd (ldWords s 0) i = 0 := by
      show (List.replicate 64 (0 : Int)).getD i 0 = 0
      rw [List.getD_eq_getElem?_getD, List.getElem?_replicate]
      split <;> rfl
    rw [h0, show 0 - 4 * i = 0 by omega]
    decide
  | succ j ih =>
    intro hj
    obtain ⟨ih0, ih1⟩ := ih (by omega)
    rw [ldWords_succ, ldStep]
    by_cases h : j / 4 = i
    · subst h
      rw [wd_set_same _ _ _ (by rw [ldWords_len]; exact hi)]
      obtain ⟨b0, b1⟩ := bt_bd s j
      have hd : j - 4 * (j / 4) ≤ 3 := by omega
      have hx : wd (ldWords s j) (j / 4) < 16777216 := by
        refine Int.lt_of_lt_of_le ih1 ?_
        generalize j - 4 * (j / 4) = d at hd
        match d, hd with
        | 0, _ => decide
        | 1, _ => decide
        | 2, _ => decide
        | 3, _ => decide
      rw [or_256 _ _ ih0 hx b0 b1, show j + 1 - 4 * (j / 4) = j - 4 * (j / 4) + 1 by omega, Int.pow_succ]
      generalize (256 : Int) ^ (j - 4 * (j / 4)) = p at ih1
      omega
    · rw [wd_set_other _ _ _ _ h]
      rcases Nat.lt_or_ge j (4 * i) with h1 | h1
      · rw [show j + 1 - 4 * i = 0 by omega]
        rw [show j - 4 * i = 0 by omega] at ih1
        exact ⟨ih0, ih1⟩
      · exfalso; omega
theorem ldWords_ref (s : ByteArray) (i k : Nat) (hi : i < 16) (hk : k < 4) :
    (0 ≤ wd (ldWords s (4 * i + k)) i ∧ wd (ldWords s (4 * i + k)) i < 16777216) ∧ ldWords s (4 * i + (k + 1)) = (ldWords s (4 * i + k)).set i (wd (ldWords s (4 * i + k)) i * 256 + bt s (4 * i + k)) := by
  obtain ⟨h0, h1⟩ := ldWords_low s i (by omega) (4 * i + k) (by omega)
  have hx : wd (ldWords s (4 * i + k)) i < 16777216 := by
    refine Int.lt_of_lt_of_le h1 ?_
    rw [show 4 * i + k - 4 * i = k by omega]
    match k, hk with
    | 0, _ => decide
    | 1, _ => decide
    | 2, _ => decide
    | 3, _ => decide
  refine ⟨⟨h0, hx⟩, ?_⟩
  obtain ⟨b0, b1⟩ := bt_bd s (4 * i + k)
  rw [show 4 * i + (k + 1) = 4 * i + k + 1 by omega, ldWords_succ, ldStep, show (4 * i + k) / 4 = i by omega, or_256 _ _ h0 hx b0 b1]

theorem Tryz.infoR64 : (Tryz.prog.info? 292).map (·.size) = some 64 := by kernel_rfl
theorem Tryz.infoR8 : (Tryz.prog.info? 235).map (·.size) = some 8 := by kernel_rfl
def ldR64 (x : Value) : Sem Value := Instr.loadAt 292 x
theorem ld_r64_fold (x : Value) : Instr.loadAt 292 x = ldR64 x := rfl
theorem ld_r64 (b o : Nat) (w : World) : (ldR64 (.pointer (some ⟨b, o, none⟩))).run Tryz.prog w = match rowN w b o 64 with | some A => .ok (.agg A) w | none => slowLd Tryz.prog 292 w b o :=
  run_loadAt_rowN 292 64 _ Tryz.underlying292 rfl Tryz.infoR64 b o w
def ldR8 (x : Value) : Sem Value := Instr.loadAt 235 x
theorem ld_r8_fold (x : Value) : Instr.loadAt 235 x = ldR8 x := rfl
theorem ld_r8 (b o : Nat) (w : World) : (ldR8 (.pointer (some ⟨b, o, none⟩))).run Tryz.prog w = match rowN w b o 8 with | some A => .ok (.agg A) w | none => slowLd Tryz.prog 235 w b o :=
  run_loadAt_rowN 235 8 _ Tryz.underlying235 rfl Tryz.infoR8 b o w
def stR64 (x v : Value) : Sem Unit := Instr.storeAt 292 x v
theorem st_r64_fold (x v : Value) : Instr.storeAt 292 x v = stR64 x v := rfl
theorem st_r64 (b o : Nat) (A : Array Value) (w : World) : (stR64 (.pointer (some ⟨b, o, none⟩)) (.agg A)).run Tryz.prog w = if stOk w b o 64 A = true then .ok () (w.setCells b o A.toList) else slowSt Tryz.prog 292 w b o A :=
  run_storeAt_row 292 64 Tryz.infoR64 b o A w
def stR8 (x v : Value) : Sem Unit := Instr.storeAt 235 x v
theorem st_r8_fold (x v : Value) : Instr.storeAt 235 x v = stR8 x v := rfl
theorem st_r8 (b o : Nat) (A : Array Value) (w : World) : (stR8 (.pointer (some ⟨b, o, none⟩)) (.agg A)).run Tryz.prog w = if stOk w b o 8 A = true then .ok () (w.setCells b o A.toList) else slowSt Tryz.prog 235 w b o A :=
  run_storeAt_row 235 8 Tryz.infoR8 b o A w

theorem sig0_ref (x : Int) (h1 : 0 ≤ x) (h2 : x < 4294967296) : bits .xor .u64 (bits .xor .u64 (rotI x 7) (rotI x 18)) (x / 8) = sig0 x := by
  have a : 0 ≤ rotI x 7 ∧ rotI x 7 < 4294967296 := rotI_bd x 7 h1 h2 (by decide)
  have b : 0 ≤ rotI x 18 ∧ rotI x 18 < 4294967296 := rotI_bd x 18 h1 h2 (by decide)
  have c := bits_u32 .xor (rotI x 7) (rotI x 18)
  have e : turnsI x [7, 18] = bits .xor .u32 (bits .xor .u32 0 (rotI x 7)) (rotI x 18) := rfl
  unfold sig0
  rw [e, xor_zero32 _ a.1 a.2]
  rw [xor_wide _ _ a.1 a.2 b.1 b.2, xor_wide _ _ c.1 c.2 (by omega) (by omega)]
theorem sig1_ref (x : Int) (h1 : 0 ≤ x) (h2 : x < 4294967296) : bits .xor .u64 (bits .xor .u64 (rotI x 17) (rotI x 19)) (x / 1024) = sig1 x := by
  have a : 0 ≤ rotI x 17 ∧ rotI x 17 < 4294967296 := rotI_bd x 17 h1 h2 (by decide)
  have b : 0 ≤ rotI x 19 ∧ rotI x 19 < 4294967296 := rotI_bd x 19 h1 h2 (by decide)
  have c := bits_u32 .xor (rotI x 17) (rotI x 19)
  have e : turnsI x [17, 19] = bits .xor .u32 (bits .xor .u32 0 (rotI x 17)) (rotI x 19) := rfl
  unfold sig1
  rw [e, xor_zero32 _ a.1 a.2]
  rw [xor_wide _ _ a.1 a.2 b.1 b.2, xor_wide _ _ c.1 c.2 (by omega) (by omega)]
theorem three_ref (x : Int) (n1 n2 n3 : Nat) (m1 m2 m3 : Int) (e1 : m1 = n1) (e2 : m2 = n2) (e3 : m3 = n3) (h1 : 0 ≤ x) (h2 : x < 4294967296) (k1 : n1 ≤ 31) (k2 : n2 ≤ 31) (k3 : n3 ≤ 31) : bits .xor .u64 (bits .xor .u64 (rotI x m1) (rotI x m2)) (rotI x m3) = turnsI x [m1, m2, m3] := by
  subst e1 e2 e3
  have a := rotI_bd x n1 h1 h2 k1
  have b := rotI_bd x n2 h1 h2 k2
  have d := rotI_bd x n3 h1 h2 k3
  have c := bits_u32 .xor (rotI x n1) (rotI x n2)
  have e : turnsI x [(n1 : Int), n2, n3] = bits .xor .u32 (bits .xor .u32 (bits .xor .u32 0 (rotI x n1)) (rotI x n2)) (rotI x n3) := rfl
  rw [e, xor_zero32 _ a.1 a.2]
  rw [xor_wide _ _ a.1 a.2 b.1 b.2, xor_wide _ _ c.1 c.2 d.1 d.2]
theorem ch_ref (e f g : Int) (h1 : 0 ≤ e) (h2 : e < 4294967296) (h3 : 0 ≤ f) (h4 : f < 4294967296) (h5 : 0 ≤ g) (h6 : g < 4294967296) : bits .xor .u64 (bits .and .u64 e f) (bits .and .u64 (4294967295 - e) g) = chI e f g := by
  have a := bits_u32 .and e f
  have b := bits_u32 .and (4294967295 - e) g
  unfold chI
  rw [not_32 e h1 h2, and_wide _ _ h1 h2 h3 h4, and_wide _ _ (by omega) (by omega) h5 h6, xor_wide _ _ a.1 a.2 b.1 b.2]
theorem maj_ref (a b c : Int) (h1 : 0 ≤ a) (h2 : a < 4294967296) (h3 : 0 ≤ b) (h4 : b < 4294967296) (h5 : 0 ≤ c) (h6 : c < 4294967296) : bits .xor .u64 (bits .xor .u64 (bits .and .u64 a b) (bits .and .u64 a c)) (bits .and .u64 b c) = majI a b c := by
  have x := bits_u32 .and a b
  have y := bits_u32 .and a c
  have z := bits_u32 .and b c
  have v := bits_u32 .xor (bits .and .u32 a b) (bits .and .u32 a c)
  unfold majI
  rw [and_wide _ _ h1 h2 h3 h4, and_wide _ _ h1 h2 h5 h6, and_wide _ _ h3 h4 h5 h6, xor_wide _ _ x.1 x.2 y.1 y.2, xor_wide _ _ v.1 v.2 z.1 z.2]
theorem shift_3 (x : Int) (w : World) (h1 : 0 ≤ x) (h2 : x < 4294967296) : Calls Tryz.prog 132 #[.int .u64 x, .int .i64 3] w fun e w' => e = .returned (.int .u64 (x / 8)) ∧ w = w' := shift_any x 3 w h1 (by omega) (by decide) (by decide)
theorem shift_10 (x : Int) (w : World) (h1 : 0 ≤ x) (h2 : x < 4294967296) : Calls Tryz.prog 132 #[.int .u64 x, .int .i64 10] w fun e w' => e = .returned (.int .u64 (x / 1024)) ∧ w = w' := shift_any x 10 w h1 (by omega) (by decide) (by decide)
def kVal : Array Value := (kTab.map (Value.int .u64)).toArray
def z64 : Array Value := ((List.replicate 64 (0 : Int)).map (Value.int .u64)).toArray
set_option maxRecDepth 100000 in
set_option maxHeartbeats 1000000 in
/-- The table K, as the reference makes it. -/
theorem k_any (w : World) : Calls Tryz.prog 186 #[] w fun e w' => e = .returned (.agg kVal) ∧ New w w' := by
  go_enter Tryz.func186, Tryz.ntmps186
  go_upto_region 0 with fail
  refine wp_region_lit ?_
  refine wpList_val rfl (v := .pointer (some ⟨w.heap.size, 0, none⟩)) (w' := w.alloc (.cells z64 292)) (by kernel_rfl) ?_
  have hb : (w.alloc (.cells z64 292)).heap[w.heap.size]? = some (.cells z64 292 (0, 0)) := blk_alloc _ _
  have n0 : New w (w.alloc (.cells z64 292)) := (Upd.refl _ _).alloc _
  generalize w.alloc (.cells z64 292) = w1 at hb n0 ⊢
  go_upto_region 1 with fail
  refine wp_region_lit ?_
  refine wpList_val rfl (v := .agg kVal) (w' := w1) (by kernel_rfl) ?_
  refine wpList_store_row rfl _ _ _ rfl w.heap.size kVal rfl rfl 292 _ hb (by kernel_rfl) (by kernel_rfl) (by kernel_rfl) ?_
  have hF := setRow_heap w1 w.heap.size _ kVal 292 (0, 0) hb
  have nF : New w (w1.setRow w.heap.size kVal) := n0.setRow (fun h => by omega) _
  generalize w1.setRow w.heap.size kVal = wF at hF nF ⊢
  go_wp2_with fail
  refine bodyPost_ret (results_cell_row rfl _ _ w.heap.size 292 _ (0, 0) _ rfl hF Tryz.underlying292 rfl (by exact Tryz.infoR64)) rfl ?_
  exact ⟨rfl, nF⟩

end Go.Proofs.YtjckpgcmfieaoaaGreatDoor
