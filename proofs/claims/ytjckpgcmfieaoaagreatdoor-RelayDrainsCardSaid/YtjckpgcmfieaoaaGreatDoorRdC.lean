/-
  RelayDrains, not late: evaluated.
-/
import Derived.Test.YtjckpgcmfieaoaaGreatDoorRdA
import Derived.Test.YtjckpgcmfieaoaaGreatDoorRdB
set_option linter.unusedVariables false
set_option linter.unusedSimpArgs false
namespace Go.Proofs.YtjckpgcmfieaoaaGreatDoor
open Go.RowKit

noncomputable def drfR : ECall → List EV → ESt → EO := iRestL 2049 fL0_0 (gFin 2049 150 0 fL0_15)
theorem drfR_ok : ∀ k, KS Tryz.prog k → ∀ args s x s', drfR k args s = .v x s' → KOk Tryz.prog 15 args s x s' := fun k _ args s x s' ha =>
  iRestL_ok (intS_KS 90) (n := 15) (q := 5) (r := 0) (by decide) (by decide) (by decide) (by decide) (by decide) (Tr.stage (n0 := 2302) drf_st1 (Tr.stage drf_st2 (.nil _))) drf_idle rfl ha
set_option maxRecDepth 100000 in
theorem drf_ev : tellsTrue (eCall Tryz.prog (intD drfR) 100 4 [.sint .u16 (.term 1 (.var 0 0 65535) (.cst 0)), .sint .u8 (.term 1 (.var 1 0 255) (.cst 0)), .bool false] (.mk (eTabH evTab5) 2048)) = true := by decide +kernel
end Go.Proofs.YtjckpgcmfieaoaaGreatDoor
