/-
  Law 22's shown: whatever world it begins in.
-/
import Derived.Test.YtjckpgcmfieaoaaGreatDoorAwE
namespace Go.Proofs.YtjckpgcmfieaoaaGreatDoor
open Go.RowKit

theorem int22_ok : IOk Tryz.prog int22 := fun f g hi k hk args s x s' ha => by
  unfold int22 at hi
  split at hi
  · obtain rfl := Option.some.inj hi
    exact iCountStr_ok (fn := Tryz.f241) Tryz.func241 (by decide +kernel) rfl rfl rfl ha
  · obtain rfl := Option.some.inj hi
    exact iIndexStr_ok (fn := Tryz.f336) Tryz.func336 (by decide +kernel) rfl rfl rfl ha
  · obtain rfl := Option.some.inj hi
    exact iJoin_ok ha
  · cases hi
theorem shown22_run (W : World) : Calls Tryz.prog 33 #[] W fun e w' => e = .returned (.bool true) ∧ Upd (fun _ => False) W w' :=
  told_true (by kernel_rfl) int22_ok shown22_ev W (enters_of Tryz.func33 (by kernel_rfl) rfl _ _)
end Go.Proofs.YtjckpgcmfieaoaaGreatDoor
