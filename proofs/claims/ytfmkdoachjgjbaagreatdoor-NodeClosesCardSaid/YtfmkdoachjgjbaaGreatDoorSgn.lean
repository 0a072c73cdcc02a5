/-
  Sign.
-/
import Derived.Test.YtfmkdoachjgjbaaGreatDoorMcc
import Derived.Test.YtfmkdoachjgjbaaGreatDoorMch
set_option linter.unusedVariables false
set_option linter.unusedSimpArgs false
namespace Go.Proofs.YtfmkdoachjgjbaaGreatDoor
open Go.RowKit

def Plan.pre : List Nat → Plan → Plan
  | [], p => p
  | i :: l, p => .step i (Plan.pre l p)

attribute [local go_sem ↓ high] ld_hsh_fold st_hsh_fold al_hsh_fold bd_hsh_fold ld_msg_fold st_msg_fold al_msg_fold bd_msg_fold ld_bas_fold
attribute [local go_sem] ld_hsh st_hsh al_hsh bd_hsh rowN_drew ld_msg st_msg al_msg bd_msg_zero ld_bas

def Ch.turned (c : Ch) : Ch := { c with last := c.news, news := [] }

/-- What is said is what was said last; nothing is new. -/
theorem ChP.turn {w : World} {g : Nat} {S : Nat → Prop} {c : Ch} {lv nv av : Value} (h : ChP w g S c lv nv av) : ChP ((w.setCell ⟨g, 627, none⟩ nv).setCell ⟨g, 626, none⟩ nilV) g S c.turned lv nilV nv := by
  have u : Upd (· = g) w ((w.setCell ⟨g, 627, none⟩ nv).setCell ⟨g, 626, none⟩ nilV) := ((Upd.refl _ _).set1 627 _).set1 626 _
  have ty : ∀ {T : TypeId} {v : Value} {n : Nat} {xs : List Value}, T ≠ 126 → w.ownsRow 0 T 38 v n xs → ∀ k, v.ownBlock = some k → ¬ k = g := by
    intro T v n xs hT hr k hk e
    obtain ⟨cur, hc⟩ := own_blk' hr k hk
    exact apart_ty' hc h.at_ hT e
  have hat := blk_set h.at_ 627 nv
  rw [set_last c lv nv av h.ok.s.seed h.ok.shelf c.news nv] at hat
  have hat2 := blk_set hat 626 nilV
  rw [set_news ({ c with last := c.news } : Ch) lv nv nv h.ok.s.seed h.ok.shelf [] nilV] at hat2
  refine ⟨hat2, ⟨h.ok.s, h.ok.signed, h.ok.heard, h.ok.nextOwn, h.ok.nextTheirs, h.ok.loc, h.ok.rem, h.ok.xs, h.ok.few, h.ok.shelf, ?_, h.ok.news, ?_⟩, ?_, ?_, ?_, h.inG, h.inL, ?_, h.inN, ?_, fun k hk => Nat.lt_of_lt_of_le (h.lt k hk) u.size⟩
  · intro m hm; cases hm
  · exact ⟨Nat.zero_le _, h.ok.many.1⟩
  · exact row_upd' h.live u (ty (by decide) h.live)
  · exact World.ownsRow_nil _ _ _ _
  · exact row_upd' h.news u (ty (by decide) h.news)
  · intro k hk; simp [nilV, Value.ownBlock] at hk
  · intro k hk; simp [nilV, Value.ownBlock] at hk

end Go.Proofs.YtfmkdoachjgjbaaGreatDoor
