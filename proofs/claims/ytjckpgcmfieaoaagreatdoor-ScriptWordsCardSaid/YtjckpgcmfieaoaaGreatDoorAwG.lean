/-
  ScriptWords: the walk, and its shown by evaluation.
-/
import Derived.Test.YtjckpgcmfieaoaaGreatDoorAwF
import Derived.Test.YtjckpgcmfieaoaaGreatDoorSwL
namespace Go.Proofs.YtjckpgcmfieaoaaGreatDoor
open Go.RowKit

theorem words_card (s : ByteArray) (W : World) (hs : s.size ≤ maxLen) : Calls Tryz.prog 7 #[.string s] W (Makes (.bool true) W) :=
  words_law s (Nat.lt_of_le_of_lt hs (by decide)) W fun W1 _ => (shown22_run W1).mono fun e w' h => h
end Go.Proofs.YtjckpgcmfieaoaaGreatDoor
