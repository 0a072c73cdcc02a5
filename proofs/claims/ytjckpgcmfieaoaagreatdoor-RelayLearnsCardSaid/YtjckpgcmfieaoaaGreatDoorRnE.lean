/-
  RelayLearns: rounds of its second rests.
-/
import Derived.Test.YtjckpgcmfieaoaaGreatDoorRlN
import Derived.Test.YtjckpgcmfieaoaaGreatDoorMeb
set_option linter.unusedVariables false
set_option linter.unusedSimpArgs false
namespace Go.Proofs.YtjckpgcmfieaoaaGreatDoor
set_option maxRecDepth 100000 in
theorem lrb_st1 : gStage (eCall Tryz.prog intS 90) [.ptr (some (2049, 0))] 9237 6 lL1_0 lL1_6 = true := by decide +kernel
end Go.Proofs.YtjckpgcmfieaoaaGreatDoor
