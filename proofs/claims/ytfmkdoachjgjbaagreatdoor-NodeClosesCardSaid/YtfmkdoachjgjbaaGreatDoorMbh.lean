/-
  Lives as flat rows of cells; slices.Clone (all of it stands in XLv now).
-/
import Derived.Test.YtfmkdoachjgjbaaGreatDoorVw5
import Derived.Test.YtfmkdoachjgjbaaGreatDoorMai
import Derived.Test.YtfmkdoachjgjbaaGreatDoorCh4
import Derived.Test.YtfmkdoachjgjbaaGreatDoorMbd
set_option linter.unusedVariables false
set_option linter.unusedSimpArgs false
namespace Go.Proofs.YtfmkdoachjgjbaaGreatDoor
end Go.Proofs.YtfmkdoachjgjbaaGreatDoor
namespace Go.Proofs.YtfmkdoachjgjbaaGreatDoor
open Go.RowKit Go.Sort

attribute [local go_sem ↓ high] ld_live_fold st_live_fold
attribute [local go_sem] ld_live st_live

def aft (ev : Int) (x : Live) : Live := { x with state := nextSt x.state x.own ev }
def afterL (ev : Int) (xs : List Live) : List Live := xs.map (aft ev)

end Go.Proofs.YtfmkdoachjgjbaaGreatDoor
namespace Go.Proofs.YtfmkdoachjgjbaaGreatDoor
open Go.RowKit

attribute [local go_sem ↓ high] ld_live_fold st_live_fold al_live_fold bs_liv_fold
attribute [local go_sem] ld_live st_live al_live bs_liv rowN_drew

def gstep (c : Ch) (x : Live) : Ch := if x.state = 9 then c.give (x.own != x.paid) x.h.amount else c
def keptL (xs : List Live) : List Live := xs.filter fun x => !(x.state == 9)
/-- All that is live goes on by an event. -/
def Ch.goOn (c : Ch) (ev : Int) : Ch := { (afterL ev c.xs).foldl gstep c with xs := keptL (afterL ev c.xs) }

end Go.Proofs.YtfmkdoachjgjbaaGreatDoor
