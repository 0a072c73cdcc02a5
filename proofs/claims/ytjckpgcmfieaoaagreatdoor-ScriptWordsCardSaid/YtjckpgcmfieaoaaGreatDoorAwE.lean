/-
  Law 22's shown, by evaluation.
-/
import Derived.Test.YtjckpgcmfieaoaaGreatDoorAwD
namespace Go.Proofs.YtjckpgcmfieaoaaGreatDoor
open Go.RowKit

noncomputable def int22 (f : FuncId) : Option (ECall → List EV → ESt → EO) := match f with
  | 241 => some iCountStr
  | 336 => some iIndexStr
  | 162 => some iJoin
  | _ => none
set_option maxRecDepth 100000 in
theorem shown22_ev : tellsTrue (eCall Tryz.prog int22 100 33 [] (.mk .e 1024)) = true := by decide +kernel
end Go.Proofs.YtjckpgcmfieaoaaGreatDoor
