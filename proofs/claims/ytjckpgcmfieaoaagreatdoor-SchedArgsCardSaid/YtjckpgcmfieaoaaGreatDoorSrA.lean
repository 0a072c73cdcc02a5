/-
  Law 21's shown: the first rounds.
-/
import Derived.Test.YtjckpgcmfieaoaaGreatDoorSrL
import Derived.Test.YtjckpgcmfieaoaaGreatDoorMbi
import Derived.Test.YtjckpgcmfieaoaaGreatDoorMdi
set_option linter.unusedVariables false
set_option linter.unusedSimpArgs false
namespace Go.Proofs.YtjckpgcmfieaoaaGreatDoor
open Go.RowKit

noncomputable def intT (f : FuncId) : Option (ECall → List EV → ESt → EO) := match f with
  | 162 => some iJoinS
  | 73 => some iSumR
  | f => intW f
theorem intT_ok : IOk Tryz.prog intT := fun f g hi k hk args s x s' ha => by
  unfold intT at hi
  split at hi
  · obtain rfl := Option.some.inj hi
    exact iJoinS_ok ha
  · obtain rfl := Option.some.inj hi
    exact iSumR_ok ha
  · exact intW_ok f g hi k hk args s x s' ha
theorem intT_KS (d : Nat) : KS Tryz.prog (eCall Tryz.prog intT d) := call_ok (by kernel_rfl) intT_ok d
set_option maxRecDepth 100000 in
theorem sh21_st1 : gStageS (eCall Tryz.prog intT 90) 2049 6 2307 9 gL0_0 gL0_9 = true := by decide +kernel
end Go.Proofs.YtjckpgcmfieaoaaGreatDoor
