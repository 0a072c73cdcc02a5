/-
  The law ChannelRests, at arguments as they are read.
-/
import Derived.Test.YtjpmomdechibmaaGreatDoorRsL
import Derived.Test.YtjpmomdechibmaaGreatDoorMfb
set_option linter.unusedVariables false
set_option linter.unusedSimpArgs false
namespace Go.Proofs.YtjpmomdechibmaaGreatDoor
open Go.RowKit
theorem q1e(o c:Int)(v:Value)(xs:List ActV)(W:World)(f:(Lit.int .u64 o).wf=true)(g:(Lit.int .u64 c).wf=true)(m:∀x∈xs,x.Ok)(l:qo1 W v xs)(i:Tb W):Calls Tryz.prog 9 #[.int .u64 o,.int .u64 c,v] W (qa7 (.bool true) W) :=
 q5p o c v xs W (qsk f) (qsk g) l m i
end Go.Proofs.YtjpmomdechibmaaGreatDoor
