/-
  Law 19's shown, by evaluation.
-/
import Derived.Test.YtjckpgcmfieaoaaGreatDoorMdj
set_option linter.unusedVariables false
set_option linter.unusedSimpArgs false
namespace Go.Proofs.YtjckpgcmfieaoaaGreatDoor
set_option maxRecDepth 100000 in
theorem shown19_ev : tellsTrue (eCall Tryz.prog intR 100 10 [] (.mk (eTabH evTab5) 2048)) = true := by decide +kernel
end Go.Proofs.YtjckpgcmfieaoaaGreatDoor
