/-
  The law DuetRests, at arguments as they are read.
-/
import Derived.Test.YthnohmjbbeahmaaGreatDoorDl1
import Derived.Test.YthnohmjbbeahmaaGreatDoorMeh
set_option linter.unusedVariables false
set_option linter.unusedSimpArgs false
namespace Go.Proofs.YthnohmjbbeahmaaGreatDoor
open Go.RowKit
theorem qyd(o c:Int)(v:Value)(xs:List ActD)(W:World)(g:(Lit.int .u64 o).wf=true)(i:(Lit.int .u64 c).wf=true)(m:∀x∈xs,x.Ok)(hv:qg6 W v xs)(l:Tb W):Calls Tryz.prog 6 #[.int .u64 o,.int .u64 c,v] W (qbf (.bool true) W) :=
 q1f o c v xs W (qm1 g) (qm1 i) hv m l
end Go.Proofs.YthnohmjbbeahmaaGreatDoor
