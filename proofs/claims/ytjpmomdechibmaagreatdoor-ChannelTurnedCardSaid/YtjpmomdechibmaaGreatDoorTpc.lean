/-
  The revocation with a bit turned: its hash is another (printed by tools/mk_tn.py).
-/
import Derived.Test.YtjpmomdechibmaaGreatDoorTn0
namespace Go.Proofs.YtjpmomdechibmaaGreatDoor
set_option linter.unusedVariables false
set_option linter.unusedSimpArgs false
open Go.RowKit

theorem turned_0 : ([0, 1, 2, 3] : List Nat).all turnedB = true := by decide +kernel
theorem turned_4 : ([4, 5, 6, 7] : List Nat).all turnedB = true := by decide +kernel
theorem turned_8 : ([8, 9, 10, 11] : List Nat).all turnedB = true := by decide +kernel
theorem turned_12 : ([12, 13, 14, 15] : List Nat).all turnedB = true := by decide +kernel
theorem turned_16 : ([16, 17, 18, 19] : List Nat).all turnedB = true := by decide +kernel
theorem turned_20 : ([20, 21, 22, 23] : List Nat).all turnedB = true := by decide +kernel
theorem turned_24 : ([24, 25, 26, 27] : List Nat).all turnedB = true := by decide +kernel
theorem turned_28 : ([28, 29, 30, 31] : List Nat).all turnedB = true := by decide +kernel
theorem turned_32 : ([32, 33, 34, 35] : List Nat).all turnedB = true := by decide +kernel
theorem turned_36 : ([36, 37, 38, 39] : List Nat).all turnedB = true := by decide +kernel
theorem turned_40 : ([40, 41, 42, 43] : List Nat).all turnedB = true := by decide +kernel
theorem turned_44 : ([44, 45, 46, 47] : List Nat).all turnedB = true := by decide +kernel
theorem turned_48 : ([48, 49, 50, 51] : List Nat).all turnedB = true := by decide +kernel
theorem turned_52 : ([52, 53, 54, 55] : List Nat).all turnedB = true := by decide +kernel
theorem turned_56 : ([56, 57, 58, 59] : List Nat).all turnedB = true := by decide +kernel
theorem turned_60 : ([60, 61, 62, 63] : List Nat).all turnedB = true := by decide +kernel
end Go.Proofs.YtjpmomdechibmaaGreatDoor

/-
  The revocation with a bit turned: its hash is another (printed by tools/mk_tn.py).
-/
namespace Go.Proofs.YtjpmomdechibmaaGreatDoor
set_option linter.unusedVariables false
set_option linter.unusedSimpArgs false
open Go.RowKit

theorem turned_64 : ([64, 65, 66, 67] : List Nat).all turnedB = true := by decide +kernel
theorem turned_68 : ([68, 69, 70, 71] : List Nat).all turnedB = true := by decide +kernel
theorem turned_72 : ([72, 73, 74, 75] : List Nat).all turnedB = true := by decide +kernel
theorem turned_76 : ([76, 77, 78, 79] : List Nat).all turnedB = true := by decide +kernel
theorem turned_80 : ([80, 81, 82, 83] : List Nat).all turnedB = true := by decide +kernel
theorem turned_84 : ([84, 85, 86, 87] : List Nat).all turnedB = true := by decide +kernel
theorem turned_88 : ([88, 89, 90, 91] : List Nat).all turnedB = true := by decide +kernel
theorem turned_92 : ([92, 93, 94, 95] : List Nat).all turnedB = true := by decide +kernel
theorem turned_96 : ([96, 97, 98, 99] : List Nat).all turnedB = true := by decide +kernel
theorem turned_100 : ([100, 101, 102, 103] : List Nat).all turnedB = true := by decide +kernel
theorem turned_104 : ([104, 105, 106, 107] : List Nat).all turnedB = true := by decide +kernel
theorem turned_108 : ([108, 109, 110, 111] : List Nat).all turnedB = true := by decide +kernel
theorem turned_112 : ([112, 113, 114, 115] : List Nat).all turnedB = true := by decide +kernel
theorem turned_116 : ([116, 117, 118, 119] : List Nat).all turnedB = true := by decide +kernel
theorem turned_120 : ([120, 121, 122, 123] : List Nat).all turnedB = true := by decide +kernel
theorem turned_124 : ([124, 125, 126, 127] : List Nat).all turnedB = true := by decide +kernel
end Go.Proofs.YtjpmomdechibmaaGreatDoor
