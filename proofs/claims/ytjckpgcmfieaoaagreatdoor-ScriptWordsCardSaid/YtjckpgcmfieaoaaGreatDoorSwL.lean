/-
  ScriptWords: any word is the document's number, or none; given what shown answers.
-/
import Derived.Test.YtjckpgcmfieaoaaGreatDoorSw1
namespace Go.Proofs.YtjckpgcmfieaoaaGreatDoor
open Go.RowKit

/-- What shown comes to, from this world on. -/
def ShownW (w : World) : Prop := ∀ W, New w W → Calls Tryz.prog 33 #[] W (Makes (.bool true) W)
theorem words_law (s : ByteArray) (hs : s.size < 9223372036854775808) (w : World) (h : ShownW w) : Calls Tryz.prog 7 #[.string s] w (Makes (.bool true) w) := by
  go_enter Tryz.func7, Tryz.ntmps7
  by_cases hl : 200 < s.size
  · have hl2 : (200 : Int) < (s.size : Int) := by omega
    go_wp2_with fail
    refine (h w (Upd.refl _ _)).mono ?_
    rintro e w1 ⟨rfl, n1⟩
    go_wp2_with fail
    go_ret
    exact ⟨rfl, n1⟩
  · have hl2 : ¬ (200 : Int) < (s.size : Int) := by omega
    go_wp2_with fail
    refine (h w (Upd.refl _ _)).mono ?_
    rintro e w1 ⟨rfl, n1⟩
    have c1 := num_any s (by omega)
    have c2 := numR_any s (by omega)
    obtain ⟨p, hp⟩ : ∃ p, numW22 s = p := ⟨_, rfl⟩
    rw [hp] at c1 c2
    obtain ⟨n, b⟩ := p
    clear hp h
    go_wp2_with fail
    refine (c1 w1).mono ?_
    rintro e w2 ⟨rfl, q2⟩
    go_wp2_with fail
    refine (c2 w2).mono ?_
    rintro e w3 ⟨rfl, q3⟩
    have n3 : New w w3 := n1.trans ((q2.trans q3).upd _)
    clear q2 q3 c1 c2 n1
    go_wp2_with fail
    go_ret
    cases b <;> exact ⟨by simp, n3⟩
end Go.Proofs.YtjckpgcmfieaoaaGreatDoor
