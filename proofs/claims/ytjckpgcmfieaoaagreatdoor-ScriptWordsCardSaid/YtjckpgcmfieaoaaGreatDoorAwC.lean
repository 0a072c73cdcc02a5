/-
  Where an evaluation begins.
-/
import Derived.Test.YtjckpgcmfieaoaaGreatDoorAwB
namespace Go.Proofs.YtjckpgcmfieaoaaGreatDoor
open Go.RowKit

/-- The package's variables alone. -/
def bet0 : EMp := fun g => if g < 1024 then some ⟨g, 0, 0⟩ else none
theorem bet0_GB : GB bet0 := fun g hg => ⟨0, if_pos hg⟩
theorem HR.start (W : World) : HR W bet0 (.mk .e 1024) W := by
  have he : ∀ b, (ESt.mk .e 1024).heap.get b = none := fun b => ETr.get_e b
  refine ⟨Upd.refl _ _, fun b l h => ?_, fun b l k _ h => ?_, fun b b' l l' k k' _ _ h => ?_⟩
  · unfold bet0 at h
    by_cases hb : b < 1024
    · exact hb
    · rw [if_neg hb] at h; cases h
  · rw [he] at h; cases h
  · rw [he] at h; cases h
/-- What tells true. -/
noncomputable def tellsTrue (r : EO) : Bool := match r with
  | .v (.bool b) _ => b
  | _ => false
theorem told_true {P : Program} (hm : P.follows .mixedOrders = true) {I : FuncId → Option (ECall → List EV → ESt → EO)} (hI : IOk P I) {d : Nat} {f : FuncId} (h : tellsTrue (eCall P I d f [] (.mk .e 1024)) = true) (W : World)
    (he : (callFunc f #[]).run P W = .ok (.enter f #[]) W) : Calls P f #[] W fun e w' => e = .returned (.bool true) ∧ Upd (fun _ => False) W w' := by
  unfold tellsTrue at h
  split at h <;> first | (cases h; done) | skip
  rename_i b s' hc
  subst h
  rcases call_ok hm hI d f [] (.mk .e 1024) (.bool true) s' hc W bet0 W #[] bet0_GB (HR.start W) .nil with ⟨v, w', e, hr⟩ | ⟨e, hcl⟩
  · rw [he] at e; cases e
  · refine hcl.mono fun e w' hv => ?_
    obtain ⟨v, rfl, β', h1, h2, -⟩ := hv
    rw [vr_bool h1]
    exact ⟨rfl, h2.up⟩
end Go.Proofs.YtjckpgcmfieaoaaGreatDoor
