/-
  Package seal: Tag; the reference's mixed and Tag.
-/
import Derived.Test.YtfmkdoachjgjbaaGreatDoorMaf
import Derived.Lib.BufferWrite
set_option linter.unusedVariables false
set_option linter.unusedSimpArgs false
namespace Go.Proofs.YtfmkdoachjgjbaaGreatDoor
open Go.RowKit

/-- A key, mixed with a byte. -/
def mixI (key : ByteArray) (x : Int) : List Int := (List.range 64).map fun i => bits .xor .u8 (bt key i) x

/-- The key that is mixed. -/
def keyS (key : ByteArray) : ByteArray := if 64 < key.size then strOfNums (sumI key) else key
/-- A tag, as bytes. -/
def tagI (key s : ByteArray) : List Int := sumI (strOfNums (mixI (keyS key) 92) ++ strOfNums (sumI (strOfNums (mixI (keyS key) 54) ++ s)))

attribute [local go_sem ↓ high] ld_h32_fold st_h32_fold
attribute [local go_sem] ld_h32 st_h32

end Go.Proofs.YtfmkdoachjgjbaaGreatDoor
