/-
  The revocation with a bit turned: its hash is another (printed by tools/mk_tn.py).
-/
import Derived.Test.YtjpmomdechibmaaGreatDoorTn0
namespace Go.Proofs.YtjpmomdechibmaaGreatDoor
set_option linter.unusedVariables false
set_option linter.unusedSimpArgs false
open Go.RowKit

theorem turned_128 : ([128, 129, 130, 131] : List Nat).all turnedB = true := by decide +kernel
theorem turned_132 : ([132, 133, 134, 135] : List Nat).all turnedB = true := by decide +kernel
theorem turned_136 : ([136, 137, 138, 139] : List Nat).all turnedB = true := by decide +kernel
theorem turned_140 : ([140, 141, 142, 143] : List Nat).all turnedB = true := by decide +kernel
theorem turned_144 : ([144, 145, 146, 147] : List Nat).all turnedB = true := by decide +kernel
theorem turned_148 : ([148, 149, 150, 151] : List Nat).all turnedB = true := by decide +kernel
theorem turned_152 : ([152, 153, 154, 155] : List Nat).all turnedB = true := by decide +kernel
theorem turned_156 : ([156, 157, 158, 159] : List Nat).all turnedB = true := by decide +kernel
theorem turned_160 : ([160, 161, 162, 163] : List Nat).all turnedB = true := by decide +kernel
theorem turned_164 : ([164, 165, 166, 167] : List Nat).all turnedB = true := by decide +kernel
theorem turned_168 : ([168, 169, 170, 171] : List Nat).all turnedB = true := by decide +kernel
theorem turned_172 : ([172, 173, 174, 175] : List Nat).all turnedB = true := by decide +kernel
theorem turned_176 : ([176, 177, 178, 179] : List Nat).all turnedB = true := by decide +kernel
theorem turned_180 : ([180, 181, 182, 183] : List Nat).all turnedB = true := by decide +kernel
theorem turned_184 : ([184, 185, 186, 187] : List Nat).all turnedB = true := by decide +kernel
theorem turned_188 : ([188, 189, 190, 191] : List Nat).all turnedB = true := by decide +kernel
end Go.Proofs.YtjpmomdechibmaaGreatDoor

/-
  The revocation with a bit turned: its hash is another (printed by tools/mk_tn.py).
-/
namespace Go.Proofs.YtjpmomdechibmaaGreatDoor
set_option linter.unusedVariables false
set_option linter.unusedSimpArgs false
open Go.RowKit

theorem turned_192 : ([192, 193, 194, 195] : List Nat).all turnedB = true := by decide +kernel
theorem turned_196 : ([196, 197, 198, 199] : List Nat).all turnedB = true := by decide +kernel
theorem turned_200 : ([200, 201, 202, 203] : List Nat).all turnedB = true := by decide +kernel
theorem turned_204 : ([204, 205, 206, 207] : List Nat).all turnedB = true := by decide +kernel
theorem turned_208 : ([208, 209, 210, 211] : List Nat).all turnedB = true := by decide +kernel
theorem turned_212 : ([212, 213, 214, 215] : List Nat).all turnedB = true := by decide +kernel
theorem turned_216 : ([216, 217, 218, 219] : List Nat).all turnedB = true := by decide +kernel
theorem turned_220 : ([220, 221, 222, 223] : List Nat).all turnedB = true := by decide +kernel
theorem turned_224 : ([224, 225, 226, 227] : List Nat).all turnedB = true := by decide +kernel
theorem turned_228 : ([228, 229, 230, 231] : List Nat).all turnedB = true := by decide +kernel
theorem turned_232 : ([232, 233, 234, 235] : List Nat).all turnedB = true := by decide +kernel
theorem turned_236 : ([236, 237, 238, 239] : List Nat).all turnedB = true := by decide +kernel
theorem turned_240 : ([240, 241, 242, 243] : List Nat).all turnedB = true := by decide +kernel
theorem turned_244 : ([244, 245, 246, 247] : List Nat).all turnedB = true := by decide +kernel
theorem turned_248 : ([248, 249, 250, 251] : List Nat).all turnedB = true := by decide +kernel
theorem turned_252 : ([252, 253, 254, 255] : List Nat).all turnedB = true := by decide +kernel
end Go.Proofs.YtjpmomdechibmaaGreatDoor
