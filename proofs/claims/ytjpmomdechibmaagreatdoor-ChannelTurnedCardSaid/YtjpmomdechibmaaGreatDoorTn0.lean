/-
  The first two secrets of the seed 2 (printed by tools/mk_tn.py).
-/
import Derived.Test.YtjpmomdechibmaaGreatDoorMci
import Derived.Test.YtjpmomdechibmaaGreatDoorMeg
namespace Go.Proofs.YtjpmomdechibmaaGreatDoor
set_option linter.unusedVariables false
set_option linter.unusedSimpArgs false
open Go.RowKit

def sec0L : List Int := [158, 87, 98, 41, 235, 100, 9, 224, 157, 18, 55, 72, 62, 94, 255, 136, 151, 151, 141, 124, 114, 244, 5, 93, 240, 81, 133, 140, 200, 84, 189, 9]
def sec1L : List Int := [79, 17, 226, 7, 216, 114, 89, 223, 38, 48, 11, 93, 14, 131, 86, 192, 34, 96, 215, 188, 142, 73, 250, 72, 103, 220, 222, 37, 114, 254, 123, 50]
theorem sec1_eq : chainI (seedI 2) 65534 16 = sec1L := by decide +kernel
theorem sec0_eq : chainI (seedI 2) 65535 16 = sec0L := by decide +kernel
def turnedB (k : Nat) : Bool := chStep (flipB sec1L k) 0 != sec0L
end Go.Proofs.YtjpmomdechibmaaGreatDoor
