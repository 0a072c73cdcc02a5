/-
  SchedArgs of 6 nodes, evaluated: odd capacities.
-/
import Derived.Test.YtjckpgcmfieaoaaGreatDoorMeb
set_option linter.unusedVariables false
set_option linter.unusedSimpArgs false
namespace Go.Proofs.YtjckpgcmfieaoaaGreatDoor
open Go.RowKit

set_option maxRecDepth 100000 in
theorem sa_ev61 : aAll 6 [[0, 0, 0, 1, 1], [0, 1, 0, 1, 1], [0, 1, 0, 1, 3], [0, 2, 0, 1, 1], [0, 2, 0, 1, 3], [0, 3, 0, 1, 1], [0, 3, 0, 1, 3], [0, 4, 0, 1, 1], [0, 4, 0, 1, 3], [0, 5, 0, 1, 1]] aCap1 [aNeg 1, aIn 1 0 9, aIn 1 10 25, aFrom 1 26] [aNeg 2, aFrom 2 5, aNat 0, aNat 1, aNat 2, aNat 3, aNat 4] [aNeg 3, aFrom 3 6, aNat 0, aNat 5, aIn 3 1 4] = true := by decide +kernel
end Go.Proofs.YtjckpgcmfieaoaaGreatDoor
