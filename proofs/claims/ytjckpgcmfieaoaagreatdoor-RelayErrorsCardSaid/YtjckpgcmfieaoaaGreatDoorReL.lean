/-
  RelayErrors, evaluated; its law.
-/
import Derived.Test.YtjckpgcmfieaoaaGreatDoorRsJ
import Derived.Test.YtjckpgcmfieaoaaGreatDoorMdh
set_option linter.unusedVariables false
set_option linter.unusedSimpArgs false
namespace Go.Proofs.YtjckpgcmfieaoaaGreatDoor
open Go.RowKit

set_option maxRecDepth 100000 in
theorem err_ev0 : tellsTrue (eCall Tryz.prog intE 100 5 [.sint .u8 (.term 1 (.var 0 0 255) (.cst 0)), EV.int .i64 0, .sint .u64 (.term 1 (.var 1 0 18446744073709551615) (.cst 0))] (.mk (eTabH evTab5) 2048)) = true := by decide +kernel
set_option maxRecDepth 100000 in
theorem err_ev1 : tellsTrue (eCall Tryz.prog intE 100 5 [.sint .u8 (.term 1 (.var 0 0 255) (.cst 0)), EV.int .i64 1, .sint .u64 (.term 1 (.var 1 0 18446744073709551615) (.cst 0))] (.mk (eTabH evTab5) 2048)) = true := by decide +kernel
set_option maxRecDepth 100000 in
theorem err_ev2 : tellsTrue (eCall Tryz.prog intE 100 5 [.sint .u8 (.term 1 (.var 0 0 255) (.cst 0)), EV.sint .i64 (.term 1 (.var 2 2 9223372036854775807) (.cst 0)), .sint .u64 (.term 1 (.var 1 0 18446744073709551615) (.cst 0))] (.mk (eTabH evTab5) 2048)) = true := by decide +kernel
set_option maxRecDepth 100000 in
theorem err_ev3 : tellsTrue (eCall Tryz.prog intE 100 5 [.sint .u8 (.term 1 (.var 0 0 255) (.cst 0)), EV.sint .i64 (.term (-1) (.var 2 0 9223372036854775807) (.cst (-1))), .sint .u64 (.term 1 (.var 1 0 18446744073709551615) (.cst 0))] (.mk (eTabH evTab5) 2048)) = true := by decide +kernel
set_option maxRecDepth 100000 in
theorem err_card (p peer n : Int) (W : World) (hp : (Lit.int .u8 p).wf = true) (hpe : (Lit.int .i64 peer).wf = true) (hn : (Lit.int .u64 n).wf = true) (ht : TabsAt W evTab5) : Calls Tryz.prog 5 #[.int .u8 p, .int .i64 peer, .int .u64 n] W (Makes (.bool true) W) := by
  have bp : 0 ≤ p ∧ p < 256 := by
    simp [Lit.wf, IntKind.min, IntKind.max, IntKind.signed, IntKind.bits] at hp
    omega
  have bn : 0 ≤ n ∧ n < 18446744073709551616 := by
    simp [Lit.wf, IntKind.min, IntKind.max, IntKind.signed, IntKind.bits] at hn
    omega
  have be : -9223372036854775808 ≤ peer ∧ peer < 9223372036854775808 := by
    simp [Lit.wf, IntKind.min, IntKind.max, IntKind.signed, IntKind.bits] at hpe
    omega
  obtain ⟨a, rfl⟩ := Int.eq_ofNat_of_zero_le bp.1
  obtain ⟨c, rfl⟩ := Int.eq_ofNat_of_zero_le bn.1
  have he := enters_of Tryz.func5 (by kernel_rfl) rfl #[.int .u8 (a : Int), .int .i64 peer, .int .u64 (c : Int)] W
  have go : ∀ (x : EV) (b : Nat), VR (bet1 W fun i => if i = 0 then some a else if i = 1 then some c else some b) x (.int .i64 peer) → tellsTrue (eCall Tryz.prog intE 100 5 [.sint .u8 (.term 1 (.var 0 0 255) (.cst 0)), x, .sint .u64 (.term 1 (.var 1 0 18446744073709551615) (.cst 0))] (.mk (eTabH evTab5) 2048)) = true → Calls Tryz.prog 5 #[.int .u8 (a : Int), .int .i64 peer, .int .u64 (c : Int)] W (Makes (.bool true) W) := fun x b hx h =>
    told_true1 (by kernel_rfl) intE_ok h W ht _ (.cons (.sint (SN.one0 (sym_at (k := .u8) (by decide) rfl (Nat.zero_le _) (by omega))) (by simp [IntKind.wrap, IntKind.bits, IntKind.signed]; omega)) (.cons hx (.cons (.sint (SN.one0 (sym_at (k := .u64) (by decide) rfl (Nat.zero_le _) (by omega))) (by simp [IntKind.wrap, IntKind.bits, IntKind.signed]; omega)) .nil))) he
  rcases (by omega : peer = 0 ∨ peer = 1 ∨ 2 ≤ peer ∨ peer < 0) with rfl | rfl | h | h
  · exact go _ 0 (.int _ _) err_ev0
  · exact go _ 0 (.int _ _) err_ev1
  · obtain ⟨q, rfl⟩ := Int.eq_ofNat_of_zero_le (show 0 ≤ peer by omega)
    have hx : SN (symOf (bet1 W fun i => if i = 0 then some a else if i = 1 then some c else some q)) (.term 1 (.var 2 2 9223372036854775807) (.cst 0)) (q : Int) := SN.one0 (sym_at (k := .i64) (by decide) rfl (by omega) (by omega))
    exact go _ q (.sint hx (by simp [IntKind.wrap, IntKind.bits, IntKind.signed]; omega)) err_ev2
  · obtain ⟨q, hq⟩ := Int.eq_ofNat_of_zero_le (show 0 ≤ -1 - peer by omega)
    have e : peer = -1 * (q : Int) + -1 := by omega
    have hx : SN (symOf (bet1 W fun i => if i = 0 then some a else if i = 1 then some c else some q)) (.term (-1) (.var 2 0 9223372036854775807) (.cst (-1))) peer := by
      have h0 : SN (symOf (bet1 W fun i => if i = 0 then some a else if i = 1 then some c else some q)) (.var 2 0 9223372036854775807) (q : Int) := sym_at (k := .i64) (by decide) rfl (Nat.zero_le _) (by omega)
      rw [e]
      exact SN.term h0 (.cst (-1))
    exact go _ q (.sint hx (by simp [IntKind.wrap, IntKind.bits, IntKind.signed]; omega)) err_ev3
end Go.Proofs.YtjckpgcmfieaoaaGreatDoor
