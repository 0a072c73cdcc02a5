/-
  view.After.
-/
import Derived.Test.YtainkaojnhfldaaGreatDoorMbj
set_option linter.unusedVariables false
set_option linter.unusedSimpArgs false
namespace Go.Proofs.YtainkaojnhfldaaGreatDoor
open Go.RowKit Go.Sort

attribute [local go_sem ↓ high] ld_live_fold st_live_fold
attribute [local go_sem] ld_live st_live

end Go.Proofs.YtainkaojnhfldaaGreatDoor
