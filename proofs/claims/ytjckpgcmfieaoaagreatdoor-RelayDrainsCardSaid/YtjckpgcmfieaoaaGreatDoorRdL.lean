/-
  RelayDrains: its law.
-/
import Derived.Test.YtjckpgcmfieaoaaGreatDoorRdC
import Derived.Test.YtjckpgcmfieaoaaGreatDoorRdG
set_option linter.unusedVariables false
set_option linter.unusedSimpArgs false
namespace Go.Proofs.YtjckpgcmfieaoaaGreatDoor
open Go.RowKit

theorem drains_card (n p : Int) (late : Bool) (W : World) (hn : (Lit.int .u16 n).wf = true) (hp : (Lit.int .u8 p).wf = true) (ht : TabsAt W evTab5) : Calls Tryz.prog 4 #[.int .u16 n, .int .u8 p, .bool late] W (Makes (.bool true) W) := by
  have bn : 0 ≤ n ∧ n < 65536 := by
    simp [Lit.wf, IntKind.min, IntKind.max, IntKind.signed, IntKind.bits] at hn
    omega
  have bp : 0 ≤ p ∧ p < 256 := by
    simp [Lit.wf, IntKind.min, IntKind.max, IntKind.signed, IntKind.bits] at hp
    omega
  obtain ⟨a, rfl⟩ := Int.eq_ofNat_of_zero_le bn.1
  obtain ⟨c, rfl⟩ := Int.eq_ofNat_of_zero_le bp.1
  have he := enters_of Tryz.func4 (by kernel_rfl) rfl #[.int .u16 (a : Int), .int .u8 (c : Int), .bool late] W
  have go : ∀ {I : FuncId → Option (ECall → List EV → ESt → EO)}, IOk Tryz.prog I → tellsTrue (eCall Tryz.prog I 100 4 [.sint .u16 (.term 1 (.var 0 0 65535) (.cst 0)), .sint .u8 (.term 1 (.var 1 0 255) (.cst 0)), .bool late] (.mk (eTabH evTab5) 2048)) = true → Calls Tryz.prog 4 #[.int .u16 (a : Int), .int .u8 (c : Int), .bool late] W (Makes (.bool true) W) := fun hI h =>
    told_true1 (by kernel_rfl) hI h W ht (fun i => if i = 0 then some a else some c) (.cons (.sint (SN.one0 (sym_at (k := .u16) (by decide) rfl (Nat.zero_le _) (by omega))) (by simp [IntKind.wrap, IntKind.bits, IntKind.signed]; omega)) (.cons (.sint (SN.one0 (sym_at (k := .u8) (by decide) rfl (Nat.zero_le _) (by omega))) (by simp [IntKind.wrap, IntKind.bits, IntKind.signed]; omega)) (.cons (.bool _) .nil))) he
  cases late with
  | false => exact go (intD_ok drfR_ok) drf_ev
  | true => exact go (intK_ok drtR_ok) drt_ev
end Go.Proofs.YtjckpgcmfieaoaaGreatDoor
