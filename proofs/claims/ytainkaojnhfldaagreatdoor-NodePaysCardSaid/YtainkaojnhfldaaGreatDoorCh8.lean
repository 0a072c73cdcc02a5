/-
  goOn: all that is live goes on by an event; what is gone goes into the base.
-/
import Derived.Test.YtainkaojnhfldaaGreatDoorCh4
import Derived.Test.YtainkaojnhfldaaGreatDoorMbj
import Derived.Test.YtainkaojnhfldaaGreatDoorMcb
set_option linter.unusedVariables false
set_option linter.unusedSimpArgs false
namespace Go.Proofs.YtainkaojnhfldaaGreatDoor
open Go.RowKit

attribute [local go_sem ↓ high] ld_live_fold st_live_fold al_live_fold bs_liv_fold
attribute [local go_sem] ld_live st_live al_live bs_liv rowN_drew

end Go.Proofs.YtainkaojnhfldaaGreatDoor
