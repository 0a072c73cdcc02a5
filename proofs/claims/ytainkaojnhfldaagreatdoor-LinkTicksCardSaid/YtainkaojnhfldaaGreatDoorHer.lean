/-
  hearers: who hears which kind.
-/
import Derived.Test.YtainkaojnhfldaaGreatDoorMay
import Derived.Maps.OwnSet
set_option linter.unusedVariables false
set_option linter.unusedSimpArgs false
namespace Go.Proofs.YtainkaojnhfldaaGreatDoor
open Go.RowKit

end Go.Proofs.YtainkaojnhfldaaGreatDoor
