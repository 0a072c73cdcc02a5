/-
  Law 21's shown: the other rounds.
-/
import Derived.Test.YtjckpgcmfieaoaaGreatDoorSrA
set_option linter.unusedVariables false
set_option linter.unusedSimpArgs false
namespace Go.Proofs.YtjckpgcmfieaoaaGreatDoor
open Go.RowKit
set_option maxRecDepth 100000 in
theorem sh21_st2 : gStageS (eCall Tryz.prog intT 90) 2049 6 2307 31 gL0_9 gL0_40 = true := by decide +kernel
end Go.Proofs.YtjckpgcmfieaoaaGreatDoor
