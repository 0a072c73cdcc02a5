/-
  A link: Offer.
-/
import Derived.Test.YtfmkdoachjgjbaaGreatDoorMcf
import Derived.Test.YtfmkdoachjgjbaaGreatDoorMcd
set_option linter.unusedVariables false
set_option linter.unusedSimpArgs false
namespace Go.Proofs.YtfmkdoachjgjbaaGreatDoor
open Go.RowKit
attribute [local go_sem ↓ high] qz zb zc zf qah zq
attribute [local go_sem] qaw qax qa1 qw zt qcl qbi
end Go.Proofs.YtfmkdoachjgjbaaGreatDoor
