/-
  SchedArgs of 5 nodes, evaluated: odd capacities.
-/
import Derived.Test.YtjckpgcmfieaoaaGreatDoorMeb
set_option linter.unusedVariables false
set_option linter.unusedSimpArgs false
namespace Go.Proofs.YtjckpgcmfieaoaaGreatDoor
open Go.RowKit

set_option maxRecDepth 100000 in
theorem sa_ev51 : aAll 5 [[0, 0, 0, 1, 1], [0, 1, 0, 1, 1], [0, 1, 0, 1, 3], [0, 2, 0, 1, 1], [0, 2, 0, 1, 3], [0, 3, 0, 1, 1], [0, 3, 0, 1, 3], [0, 4, 0, 1, 1]] aCap1 [aNeg 1, aIn 1 0 7, aIn 1 8 20, aFrom 1 21] [aNeg 2, aFrom 2 4, aNat 0, aNat 1, aNat 2, aNat 3] [aNeg 3, aFrom 3 5, aNat 0, aNat 4, aIn 3 1 3] = true := by decide +kernel
end Go.Proofs.YtjckpgcmfieaoaaGreatDoor
