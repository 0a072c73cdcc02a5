/-
  ScriptWrong, evaluated: numbers of 1 digits.
-/
import Derived.Test.YtjckpgcmfieaoaaGreatDoorMdh
set_option linter.unusedVariables false
set_option linter.unusedSimpArgs false
namespace Go.Proofs.YtjckpgcmfieaoaaGreatDoor
set_option maxRecDepth 100000 in
theorem wrong_ev0 : tellsTrue (eCall Tryz.prog intW 100 8 [.sint .u16 (.term 1 (.var 0 0 9) (.cst 0))] (.mk (eTabH evTabs) 2048)) = true := by decide +kernel
end Go.Proofs.YtjckpgcmfieaoaaGreatDoor
