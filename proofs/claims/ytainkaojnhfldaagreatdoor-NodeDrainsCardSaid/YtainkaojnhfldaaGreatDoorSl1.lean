/-
  Package seal: Tag; the reference's mixed and Tag.
-/
import Derived.Test.YtainkaojnhfldaaGreatDoorMaf
import Derived.Test.YtainkaojnhfldaaGreatDoorOc1
import Derived.Lib.BufferWrite
set_option linter.unusedVariables false
set_option linter.unusedSimpArgs false
namespace Go.Proofs.YtainkaojnhfldaaGreatDoor
open Go.RowKit

attribute [local go_sem ↓ high] ld_h32_fold st_h32_fold
attribute [local go_sem] ld_h32 st_h32

end Go.Proofs.YtainkaojnhfldaaGreatDoor
