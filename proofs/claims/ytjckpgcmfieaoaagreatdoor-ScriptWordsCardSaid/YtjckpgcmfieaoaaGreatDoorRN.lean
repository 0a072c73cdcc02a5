/-
  Structs and arrays by value, out of and into the middle of a block: 'rowN'; rules for the walk that take such a load, or store, whole.
-/
import Derived.Test.YtjckpgcmfieaoaaGreatDoorBase
import Derived.Deep.MidRow
namespace Go.Proofs.YtjckpgcmfieaoaaGreatDoor
open Go.RowKit

/-! ### Stores -/
theorem Upd.setCells {w w' : World} {b : Nat} (h : Upd (· = b) w w') (o : Nat) (vs : List Value) : Upd (· = b) w (w'.setCells b o vs) := by
  induction vs generalizing w' o with
  | nil => exact h
  | cons v r ih => exact ih (h.set1 o v) (o + 1)

end Go.Proofs.YtjckpgcmfieaoaaGreatDoor
