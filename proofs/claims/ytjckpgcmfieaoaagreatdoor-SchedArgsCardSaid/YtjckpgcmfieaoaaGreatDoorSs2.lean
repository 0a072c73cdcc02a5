/-
  SchedArgs of 2 nodes, evaluated.
-/
import Derived.Test.YtjckpgcmfieaoaaGreatDoorMeb
set_option linter.unusedVariables false
set_option linter.unusedSimpArgs false
namespace Go.Proofs.YtjckpgcmfieaoaaGreatDoor
open Go.RowKit

set_option maxRecDepth 100000 in
theorem sa_ev20 : aAll 2 [[0, 0, 0, 1, 1], [0, 1, 0, 1, 1]] aCap0 [aNeg 1, aIn 1 0 1, aIn 1 2 5, aFrom 1 6] [aNeg 2, aFrom 2 1, aNat 0] [aNeg 3, aFrom 3 2, aNat 0, aNat 1] = true := by decide +kernel
set_option maxRecDepth 100000 in
theorem sa_ev21 : aAll 2 [[0, 0, 0, 1, 1], [0, 1, 0, 1, 1]] aCap1 [aNeg 1, aIn 1 0 1, aIn 1 2 5, aFrom 1 6] [aNeg 2, aFrom 2 1, aNat 0] [aNeg 3, aFrom 3 2, aNat 0, aNat 1] = true := by decide +kernel
end Go.Proofs.YtjckpgcmfieaoaaGreatDoor
