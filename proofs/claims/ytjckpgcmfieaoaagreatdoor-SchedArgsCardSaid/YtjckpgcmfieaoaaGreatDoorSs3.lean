/-
  SchedArgs of 3 nodes, evaluated.
-/
import Derived.Test.YtjckpgcmfieaoaaGreatDoorMeb
set_option linter.unusedVariables false
set_option linter.unusedSimpArgs false
namespace Go.Proofs.YtjckpgcmfieaoaaGreatDoor
open Go.RowKit

set_option maxRecDepth 100000 in
theorem sa_ev30 : aAll 3 [[0, 0, 0, 1, 1], [0, 1, 0, 1, 1], [0, 1, 0, 1, 3], [0, 2, 0, 1, 1]] aCap0 [aNeg 1, aIn 1 0 3, aIn 1 4 10, aFrom 1 11] [aNeg 2, aFrom 2 2, aNat 0, aNat 1] [aNeg 3, aFrom 3 3, aNat 0, aNat 2, aIn 3 1 1] = true := by decide +kernel
set_option maxRecDepth 100000 in
theorem sa_ev31 : aAll 3 [[0, 0, 0, 1, 1], [0, 1, 0, 1, 1], [0, 1, 0, 1, 3], [0, 2, 0, 1, 1]] aCap1 [aNeg 1, aIn 1 0 3, aIn 1 4 10, aFrom 1 11] [aNeg 2, aFrom 2 2, aNat 0, aNat 1] [aNeg 3, aFrom 3 3, aNat 0, aNat 2, aIn 3 1 1] = true := by decide +kernel
end Go.Proofs.YtjckpgcmfieaoaaGreatDoor
