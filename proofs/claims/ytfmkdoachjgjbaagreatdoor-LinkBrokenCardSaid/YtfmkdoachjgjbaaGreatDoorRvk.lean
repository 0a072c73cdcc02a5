/-
  hearRevoke.
-/
import Derived.Test.YtfmkdoachjgjbaaGreatDoorMcb
set_option linter.unusedVariables false
set_option linter.unusedSimpArgs false
namespace Go.Proofs.YtfmkdoachjgjbaaGreatDoor
open Go.RowKit

attribute [local go_sem ↓ high] ld_hsh_fold st_hsh_fold al_hsh_fold bd_hsh_fold ld_msg_fold st_msg_fold al_msg_fold bd_msg_fold
attribute [local go_sem] ld_hsh st_hsh al_hsh bd_hsh rowN_drew ld_msg st_msg al_msg

def revErr (c : Ch) (m : MsgV) : Int :=
  if c.k.awaits = false then 5 else if m.number ≠ c.k.signed - 1 then 134 else if insErr m.hash (65535 - m.number) c.shelf ≠ 0 then 134 else 0
def Ch.shelved (c : Ch) (m : MsgV) : Ch := { c with shelf := insL m.hash (65535 - m.number) c.shelf }
def Ch.unawait (c : Ch) : Ch := { c with k := { c.k with awaits := false } }
/-- What hearRevoke does. -/
def Ch.hearRevoke (c : Ch) (m : MsgV) : Ch × Int := if revErr c m = 0 then (((c.shelved m).goOn 2).unawait, 0) else (c, revErr c m)

end Go.Proofs.YtfmkdoachjgjbaaGreatDoor
