/-
  RelayLearns: rounds of its first rests.
-/
import Derived.Test.YtjckpgcmfieaoaaGreatDoorRlN
import Derived.Test.YtjckpgcmfieaoaaGreatDoorMeb
set_option linter.unusedVariables false
set_option linter.unusedSimpArgs false
namespace Go.Proofs.YtjckpgcmfieaoaaGreatDoor
set_option maxRecDepth 100000 in
theorem lra_st1 : gStage (eCall Tryz.prog intS 90) [.ptr (some (2049, 0))] 2302 8 lL0_0 lL0_8 = true := by decide +kernel
end Go.Proofs.YtjckpgcmfieaoaaGreatDoor
