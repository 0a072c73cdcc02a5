/-
  SchedArgs of 4 nodes, evaluated: even capacities.
-/
import Derived.Test.YtjckpgcmfieaoaaGreatDoorMeb
set_option linter.unusedVariables false
set_option linter.unusedSimpArgs false
namespace Go.Proofs.YtjckpgcmfieaoaaGreatDoor
open Go.RowKit

set_option maxRecDepth 100000 in
theorem sa_ev40 : aAll 4 [[0, 0, 0, 1, 1], [0, 1, 0, 1, 1], [0, 1, 0, 1, 3], [0, 2, 0, 1, 1], [0, 2, 0, 1, 3], [0, 3, 0, 1, 1]] aCap0 [aNeg 1, aIn 1 0 5, aIn 1 6 15, aFrom 1 16] [aNeg 2, aFrom 2 3, aNat 0, aNat 1, aNat 2] [aNeg 3, aFrom 3 4, aNat 0, aNat 3, aIn 3 1 2] = true := by decide +kernel
end Go.Proofs.YtjckpgcmfieaoaaGreatDoor
