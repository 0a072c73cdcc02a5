/-
  The law DuetCut, at arguments as they are read.
-/
import Derived.Test.YthnohmjbbeahmaaGreatDoorDl4
import Derived.Test.YthnohmjbbeahmaaGreatDoorMeh
import Derived.Test.YthnohmjbbeahmaaGreatDoorDm2n
set_option linter.unusedVariables false
set_option linter.unusedSimpArgs false
namespace Go.Proofs.YthnohmjbbeahmaaGreatDoor
open Go.RowKit
theorem q2u(o c:Int)(v:Value)(xs:List ActD)(l0 l1:Int)(W:World)(l:(Lit.int .u64 o).wf=true)(m:(Lit.int .u64 c).wf=true)(t:∀x∈xs,x.Ok)(hv:qg6 W v xs)(g : -9223372036854775808≤l0∧l0≤9223372036854775807)(i : -9223372036854775808≤l1∧l1≤9223372036854775807)(q:Tb W):Calls Tryz.prog 5 #[.int .u64 o,.int .u64 c,v,.agg #[.int .i64 l0,.int .i64 l1]] W (qbf (.bool true) W) :=
 q7a o c v xs l0 l1 g i W (qm1 l) (qm1 m) hv t q
end Go.Proofs.YthnohmjbbeahmaaGreatDoor
