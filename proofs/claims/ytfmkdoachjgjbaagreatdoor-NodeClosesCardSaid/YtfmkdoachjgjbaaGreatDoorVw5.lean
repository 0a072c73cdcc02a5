/-
  view.Of: its sums (the closure), its loop.
-/
import Derived.Test.YtfmkdoachjgjbaaGreatDoorMbf
import Derived.Deep.CutRange
set_option linter.unusedVariables false
set_option linter.unusedSimpArgs false
namespace Go.Proofs.YtfmkdoachjgjbaaGreatDoor
open Go.RowKit Go.Sort

attribute [local go_sem ↓ high] ld_live_fold ld_htlc_fold st_live_fold bd_item_fold bs_item_fold
attribute [local go_sem] ld_live ld_htlc st_live bd_item bs_item

/-- What a slice of items holds. -/
def Items (w : World) (v : Value) (X : List Item) : Prop := (∃ a c, v = .slice a 0 c ∧ X = []) ∨ ∃ g cap, v = .slice (some ⟨g, 0, none⟩) X.length cap ∧ Held w g 0 X
theorem Items.new {w w' : World} {v : Value} {X : List Item} (h : Items w v X) (u : New w w') : Items w' v X := by
  rcases h with h | ⟨g, cap, e, h⟩
  · exact .inl h
  · exact .inr ⟨g, cap, e, h.upd u (fun h => h)⟩

/-- The items of a view, unsorted, and its two sums. -/
def itemsOf (ours : Bool) (xs : List Live) : List Item := (xs.filter fun x => hasB ours x.own x.state).map fun x => ⟨x.own == ours, x.h⟩
def giveI (us : Bool) (n : Int) (p : Int × Int) : Int × Int := if us then (IntKind.u64.wrap (p.1 + n), p.2) else (p.1, IntKind.u64.wrap (p.2 + n))
def stepI (ours : Bool) (p : Int × Int) (x : Live) : Int × Int :=
  if hasB ours x.own x.state then p else if goneB ours x.own x.state && x.paid then giveI (!x.own) x.h.amount p else giveI x.own x.h.amount p
def sumsOf (ours : Bool) (l r : Int) (xs : List Live) : Int × Int := xs.foldl (stepI ours) (l, r)

theorem Tryz.infoView : (Tryz.prog.info? 201).map (·.size) = some 3 := by kernel_rfl

end Go.Proofs.YtfmkdoachjgjbaaGreatDoor
