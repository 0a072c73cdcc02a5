/-
  RelayLearns: rounds of its second rests.
-/
import Derived.Test.YtjckpgcmfieaoaaGreatDoorRlN
import Derived.Test.YtjckpgcmfieaoaaGreatDoorMeb
set_option linter.unusedVariables false
set_option linter.unusedSimpArgs false
namespace Go.Proofs.YtjckpgcmfieaoaaGreatDoor
set_option maxRecDepth 100000 in
theorem lrb_st4 : gStage (eCall Tryz.prog intS 90) [.ptr (some (2049, 0))] 9237 3 lL1_12 lL1_15 = true := by decide +kernel
set_option maxRecDepth 100000 in
theorem lrb_idle : gAtRest (eCall Tryz.prog intS 90) 2049 55 0 lL1_15 = true := by decide +kernel
end Go.Proofs.YtjckpgcmfieaoaaGreatDoor
