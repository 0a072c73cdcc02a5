/-
  Law 13: does, walked: Offer, Fulfill, Fail (printed by tools/mk_dow.py).
-/
import Derived.Test.YthnohmjbbeahmaaGreatDoorMdj
set_option linter.unusedVariables false
set_option linter.unusedSimpArgs false
namespace Go.Proofs.YthnohmjbbeahmaaGreatDoor
open Go.RowKit
attribute [local go_sem ↓ high] zy qak qaq qat zr zu zw zx
attribute [local go_sem] qcl qdb qdn zb qb3 qb9 qcf qbg
section
variable {w0 w:World}{p:Nat}{g:Nat→Nat}{P:Pr}
end
end Go.Proofs.YthnohmjbbeahmaaGreatDoor
