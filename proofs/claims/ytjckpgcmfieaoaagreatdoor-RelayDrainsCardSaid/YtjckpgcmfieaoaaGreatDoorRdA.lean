/-
  RelayDrains, not late: the first rounds of its rests.
-/
import Derived.Test.YtjckpgcmfieaoaaGreatDoorRlF
import Derived.Test.YtjckpgcmfieaoaaGreatDoorMdj
set_option linter.unusedVariables false
set_option linter.unusedSimpArgs false
namespace Go.Proofs.YtjckpgcmfieaoaaGreatDoor
set_option maxRecDepth 100000 in
theorem drf_st1 : gStage (eCall Tryz.prog intS 90) [.ptr (some (2049, 0))] 2302 6 fL0_0 fL0_6 = true := by decide +kernel
end Go.Proofs.YtjckpgcmfieaoaaGreatDoor
