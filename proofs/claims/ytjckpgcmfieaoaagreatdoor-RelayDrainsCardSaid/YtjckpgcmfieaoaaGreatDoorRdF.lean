/-
  RelayDrains, late: the last rounds of its rests.
-/
import Derived.Test.YtjckpgcmfieaoaaGreatDoorRlT
import Derived.Test.YtjckpgcmfieaoaaGreatDoorMdj
set_option linter.unusedVariables false
set_option linter.unusedSimpArgs false
namespace Go.Proofs.YtjckpgcmfieaoaaGreatDoor
set_option maxRecDepth 100000 in
theorem drt_st3 : gStage (eCall Tryz.prog intS 90) [.ptr (some (2049, 0))] 4216 7 tL0_8 tL0_15 = true := by decide +kernel
set_option maxRecDepth 100000 in
theorem drt_idle : gAtRest (eCall Tryz.prog intS 90) 2049 7 1 tL0_15 = true := by decide +kernel
end Go.Proofs.YtjckpgcmfieaoaaGreatDoor
