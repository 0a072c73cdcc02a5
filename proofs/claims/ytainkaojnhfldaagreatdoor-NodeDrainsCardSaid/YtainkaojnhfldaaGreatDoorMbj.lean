/-
  Lives as flat rows of cells; slices.Clone (all of it stands in XLv now).
-/
import Derived.Test.YtainkaojnhfldaaGreatDoorVw5
import Derived.Test.YtainkaojnhfldaaGreatDoorLv
set_option linter.unusedVariables false
set_option linter.unusedSimpArgs false
namespace Go.Proofs.YtainkaojnhfldaaGreatDoor
end Go.Proofs.YtainkaojnhfldaaGreatDoor
namespace Go.Proofs.YtainkaojnhfldaaGreatDoor
open Go.RowKit Go.Sort

end Go.Proofs.YtainkaojnhfldaaGreatDoor
