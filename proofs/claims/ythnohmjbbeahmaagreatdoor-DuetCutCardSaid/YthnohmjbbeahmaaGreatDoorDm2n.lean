/-
  Law 14: an argument that is two numbers.
-/
import Derived.Test.YthnohmjbbeahmaaGreatDoorMeh
set_option linter.unusedVariables false
set_option linter.unusedSimpArgs false
namespace Go.Proofs.YthnohmjbbeahmaaGreatDoor
open Go.RowKit Go.Sort Go.ChangeShapes Go.WideShapes Go.ChangeAt Go.Deep
theorem okWide_arr2{P:Program}{w:World}{r:Reach}{b0 n:Nat}{k e:TypeId}{v:Value}(i:P.underlying k=some (.array n e))(h:Value.okWide P w r b0 k v):∃cs,v = .agg cs:=by
 simp only[Value.okWide,i] at h;obtain⟨cs,g,_⟩:=h;exact⟨cs,g⟩
section
variable {H:Type}{enc:TypeId × Value→H}{W:World}{base:Nat}{v:Value}{d:DataW H}{p:List MemPlace}
set_option maxRecDepth 100000 in
theorem q02(hv:Value.okWide Tryz.prog W .any base 23 v)(h:DataW.Trod enc Tryz.prog W 0 (fun _=>true) true 23 v d p) :
  ∃l r:Int,v = .agg #[.int .i64 l,.int .i64 r]∧(-9223372036854775808≤l∧l≤9223372036854775807)∧(-9223372036854775808≤r∧r≤9223372036854775807):=by
 obtain⟨cs,rfl⟩:=okWide_arr2 Tryz.underlying23 hv
 obtain⟨g,o⟩:=h
 have:=qme 3 23 [.int .i64,.int .i64] _ _ _ (by kernel_rfl) o
 obtain⟨_,_,e,⟨i,rfl,q⟩,_,_,rfl,⟨a,rfl,m⟩,rfl⟩:=this
 refine⟨i,a,?_,qkf q,qkf m⟩
 congr 1
 apply Array.ext'
 simpa [Value.cells] using e
end
end Go.Proofs.YthnohmjbbeahmaaGreatDoor
