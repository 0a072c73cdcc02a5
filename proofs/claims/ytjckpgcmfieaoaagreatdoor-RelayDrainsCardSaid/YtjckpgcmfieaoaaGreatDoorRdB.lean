/-
  RelayDrains, not late: the other rounds of its rests.
-/
import Derived.Test.YtjckpgcmfieaoaaGreatDoorRlF
import Derived.Test.YtjckpgcmfieaoaaGreatDoorMdj
set_option linter.unusedVariables false
set_option linter.unusedSimpArgs false
namespace Go.Proofs.YtjckpgcmfieaoaaGreatDoor
set_option maxRecDepth 100000 in
theorem drf_st2 : gStage (eCall Tryz.prog intS 90) [.ptr (some (2049, 0))] 2302 9 fL0_6 fL0_15 = true := by decide +kernel
set_option maxRecDepth 100000 in
theorem drf_idle : gAtRest (eCall Tryz.prog intS 90) 2049 5 0 fL0_15 = true := by decide +kernel
end Go.Proofs.YtjckpgcmfieaoaaGreatDoor
