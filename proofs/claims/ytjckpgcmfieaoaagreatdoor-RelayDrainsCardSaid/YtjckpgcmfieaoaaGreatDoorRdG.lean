/-
  RelayDrains, late: evaluated.
-/
import Derived.Test.YtjckpgcmfieaoaaGreatDoorRdD
import Derived.Test.YtjckpgcmfieaoaaGreatDoorRdE
import Derived.Test.YtjckpgcmfieaoaaGreatDoorRdF
import Derived.Test.YtjckpgcmfieaoaaGreatDoorMeh
set_option linter.unusedVariables false
set_option linter.unusedSimpArgs false
namespace Go.Proofs.YtjckpgcmfieaoaaGreatDoor
open Go.RowKit

noncomputable def drtR : ECall → List EV → ESt → EO := iRestL 2049 tL0_0 (gFin 2049 157 1 tL0_15)
theorem drtR_ok : ∀ k, KS Tryz.prog k → ∀ args s x s', drtR k args s = .v x s' → KOk Tryz.prog 15 args s x s' := fun k _ args s x s' ha =>
  iRestL_ok (intS_KS 90) (n := 15) (q := 7) (r := 1) (by decide) (by decide) (by decide) (by decide) (by decide) (Tr.stage (n0 := 4216) drt_st1 (Tr.stage drt_st2 (Tr.stage drt_st3 (.nil _)))) drt_idle rfl ha
/-- Blocks that the rounds ahead of Drain make, and that stay. -/
def drtKeep : List Nat := [2411, 2435, 2475, 2613, 2637, 2987, 3017, 3192, 3216, 3266, 3404, 3428, 3764, 3794, 3964, 3988, 4072, 4076, 4100]
set_option maxRecDepth 100000 in
theorem drt_ev : tellsTrue (eCall Tryz.prog (intK drtKeep drtR) 100 4 [.sint .u16 (.term 1 (.var 0 0 65535) (.cst 0)), .sint .u8 (.term 1 (.var 1 0 255) (.cst 0)), .bool true] (.mk (eTabH evTab5) 2048)) = true := by decide +kernel
end Go.Proofs.YtjckpgcmfieaoaaGreatDoor
