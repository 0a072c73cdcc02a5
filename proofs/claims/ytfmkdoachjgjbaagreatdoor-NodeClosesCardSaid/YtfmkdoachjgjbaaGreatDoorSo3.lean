/-
  insertionSort: a range of items, sorted.
-/
import Derived.Test.YtfmkdoachjgjbaaGreatDoorMbd
set_option linter.unusedVariables false
set_option linter.unusedSimpArgs false
namespace Go.Proofs.YtfmkdoachjgjbaaGreatDoor
open Go.RowKit Go.Sort

attribute [local go_sem ↓ high] ld_item_fold st_item_fold
attribute [local go_sem] ld_item st_item

theorem Held.g {w w' : World} {b off : Nat} {xs : List Item} (h : Held w b off xs) (k : G w w') : Held w' b off xs := h.upd k.new (fun h => h)
abbrev its (L : List (Item × Nat)) : List Item := L.map Prod.fst

end Go.Proofs.YtfmkdoachjgjbaaGreatDoor
