/-
  RelayDrains, late: the first rounds of its rests.
-/
import Derived.Test.YtjckpgcmfieaoaaGreatDoorRlT
import Derived.Test.YtjckpgcmfieaoaaGreatDoorMdj
set_option linter.unusedVariables false
set_option linter.unusedSimpArgs false
namespace Go.Proofs.YtjckpgcmfieaoaaGreatDoor
set_option maxRecDepth 100000 in
theorem drt_st1 : gStage (eCall Tryz.prog intS 90) [.ptr (some (2049, 0))] 4216 4 tL0_0 tL0_4 = true := by decide +kernel
end Go.Proofs.YtjckpgcmfieaoaaGreatDoor
