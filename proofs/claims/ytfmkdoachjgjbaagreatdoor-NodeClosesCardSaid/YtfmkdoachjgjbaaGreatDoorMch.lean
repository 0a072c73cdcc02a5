/-
  view.Tag.
-/
import Derived.Test.YtfmkdoachjgjbaaGreatDoorMcf
import Derived.Test.YtfmkdoachjgjbaaGreatDoorSl1
import Derived.Test.YtfmkdoachjgjbaaGreatDoorMbh
import Derived.Test.YtfmkdoachjgjbaaGreatDoorVw5
import Derived.Test.YtfmkdoachjgjbaaGreatDoorMbb
set_option linter.unusedVariables false
set_option linter.unusedSimpArgs false
namespace Go.Proofs.YtfmkdoachjgjbaaGreatDoor
open Go.RowKit Go.Sort

attribute [local go_sem ↓ high] ld_live_fold st_live_fold
attribute [local go_sem] ld_live st_live

def chg (ev : Int) (x : Live) : Bool := nextSt x.state x.own ev != x.state
def changesB (ev : Int) (xs : List Live) : Bool := xs.any (chg ev)

end Go.Proofs.YtfmkdoachjgjbaaGreatDoor
namespace Go.Proofs.YtfmkdoachjgjbaaGreatDoor
open Go.RowKit Go.Sort

/-- The items I, in the order of a view. -/
def IsView (I X : List Item) : Prop := ∃ M : List (Item × Nat), M.Perm I.zipIdx ∧ Srt M ∧ X = its M
open Classical in
noncomputable def viewL (I : List Item) : List Item := if h : ∃ X, IsView I X then h.choose else []

/-- The two sums of a view: its owner's, the other one's. -/
def viewA (ours : Bool) (l r : Int) (xs : List Live) : Int := if ours then (sumsOf ours l r xs).1 else (sumsOf ours l r xs).2
def viewB (ours : Bool) (l r : Int) (xs : List Live) : Int := if ours then (sumsOf ours l r xs).2 else (sumsOf ours l r xs).1
/-- The tag of a view. -/
noncomputable def viewTag (ours : Bool) (key : ByteArray) (ch n l r : Int) (xs : List Live) : List Int := tagI key (textS ch n (viewA ours l r xs) (viewB ours l r xs) (viewL (itemsOf ours xs)))
/-- What view.Of tells, as a value: its sums, and a row of its items. -/
structure ViewO (ours : Bool) (l r : Int) (xs : List Live) (w : World) (v : Value) : Prop where
  u : ∃ u, v = .agg #[.int .u64 (viewA ours l r xs), .int .u64 (viewB ours l r xs), u] ∧ ItemsR w u (viewL (itemsOf ours xs))
  is : IsView (itemsOf ours xs) (viewL (itemsOf ours xs))
theorem ViewO.new {ours : Bool} {l r : Int} {xs : List Live} {w w' : World} {v : Value} (h : ViewO ours l r xs w v) (n : New w w') : ViewO ours l r xs w' v := by
  obtain ⟨⟨u, e, hu⟩, h2⟩ := h
  exact ⟨⟨u, e, hu.new n⟩, h2⟩

end Go.Proofs.YtfmkdoachjgjbaaGreatDoor
