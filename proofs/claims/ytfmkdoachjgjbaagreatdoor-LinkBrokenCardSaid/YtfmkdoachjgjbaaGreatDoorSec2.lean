/-
  Package secret: chain.
-/
import Derived.Test.YtfmkdoachjgjbaaGreatDoorMbi
import Derived.Test.YtfmkdoachjgjbaaGreatDoorMaf
import Derived.Test.YtfmkdoachjgjbaaGreatDoorMba
set_option linter.unusedVariables false
set_option linter.unusedSimpArgs false
namespace Go.Proofs.YtfmkdoachjgjbaaGreatDoor
open Go.RowKit Go.Shelf
attribute [local go_sem] Oper.semAt_some

attribute [local go_sem ↓ high] ld_hsh_fold st_hsh_fold
attribute [local go_sem] ld_hsh st_hsh rowN_drew

/-- A bit of a hash flipped; a step of the chain; the chain. -/
def flipB (h : List Int) (b : Nat) : List Int := h.set (b / 8) (bits .xor .u8 (h.getD (b / 8) 0) (2 ^ (b % 8)))
def chStep (h : List Int) (b : Nat) : List Int := sumI (strOfNums (flipB h b))
def chainI (h : List Int) (i d : Nat) : List Int := (hiB i d 0).foldl chStep h

end Go.Proofs.YtfmkdoachjgjbaaGreatDoor
