/-
  amount.Sub, node.Open.
-/
import Derived.Test.YtainkaojnhfldaaGreatDoorNd5
set_option linter.unusedVariables false
set_option linter.unusedSimpArgs false
namespace Go.Proofs.YtainkaojnhfldaaGreatDoor
open Go.RowKit

set_option maxHeartbeats 1000000 in
theorem sub_any (a b : Int) (ha : 0 ≤ a ∧ a < 18446744073709551616) (hb : 0 ≤ b ∧ b < 18446744073709551616) (w : World) : Calls Tryz.prog 29 #[.int .u64 a, .int .u64 b] w (Reads (.tuple (if a < b then #[.int .u64 0, .int .i64 61] else #[.int .u64 (a - b), .int .i64 0])) w) := by
  go_enter Tryz.func29, Tryz.ntmps29
  obtain ⟨a0, a1⟩ := ha
  obtain ⟨b0, b1⟩ := hb
  by_cases h : a < b
  · rw [if_pos h]
    go_wp2_with fail
    go_ret2
    exact ⟨rfl, Q.refl _⟩
  · have hw : IntKind.u64.wrap (a - b) = a - b := by rw [IntKind.wrap_u64]; omega
    rw [if_neg h]
    go_wp2_with fail
    go_ret2
    exact ⟨rfl, Q.refl _⟩

/-- What Add of a relay tells. -/
noncomputable def addErr (R : RelV) (ps : List PeerV) (s : SetupV) : Int :=
  open Classical in if R.drains = true then 200 else if 8 ≤ ps.length then 2 else if ∃ p ∈ ps, p.ch = s.ch then 4 else if s.may then 0 else 1
noncomputable def addRes (R : RelV) (ps : List PeerV) (s : SetupV) : Int := if addErr R ps s = 0 then ps.length else 0
/-- What Add leaves. -/
def Added (w w' : World) (r : Nat) (R : RelV) (ps : List PeerV) (s : SetupV) : Prop :=
  (addErr R ps s ≠ 0 → New w w') ∧ (addErr R ps s = 0 → ∃ v g l, NewL w' w.heap.size g s l ∧ RelI w' r { R with peers := v } (ps ++ [⟨s.ch, g, l, .new s⟩]) ∧ Upd (fun k => k = r ∨ R.peers.ownBlock = some k) w w')
theorem add_fn (r : Nat) (R : RelV) (ps : List PeerV) (s : SetupV) (hs : s.Ok) (w : World) (h : RelI w r R ps) (hl : ps.length ≤ 1048576) :
    Calls Tryz.prog 30 #[.pointer (some ⟨r, 0, none⟩), .agg s.cells.toArray] w fun e w' => e = .returned (.tuple #[.int .i64 (addRes R ps s), .int .i64 (addErr R ps s)]) ∧ Added w w' r R ps s := by
  refine (add_any r R ps s hs w h hl).mono ?_
  unfold Added addRes
  rintro e w' (⟨h1, rfl, n⟩ | ⟨h1, h2, rfl, n⟩ | ⟨h1, h2, h3, rfl, n⟩ | ⟨h1, h2, h3, h4, rfl, n⟩ | ⟨h1, h2, h3, h4, rfl, n⟩)
  · have e : addErr R ps s = 200 := by unfold addErr; rw [if_pos h1]
    rw [e]; exact ⟨rfl, fun _ => n, fun h => absurd h (by decide)⟩
  · have e : addErr R ps s = 2 := by unfold addErr; rw [if_neg (by simp [h1]), if_pos h2]
    rw [e]; exact ⟨rfl, fun _ => n, fun h => absurd h (by decide)⟩
  · have e : addErr R ps s = 4 := by unfold addErr; rw [if_neg (by simp [h1]), if_neg (by omega), if_pos h3]
    rw [e]; exact ⟨rfl, fun _ => n, fun h => absurd h (by decide)⟩
  · have e : addErr R ps s = 1 := by unfold addErr; rw [if_neg (by simp [h1]), if_neg (by omega), if_neg (by rintro ⟨p, hp, he⟩; exact h3 p hp he), if_neg h4]
    rw [e]; exact ⟨rfl, fun _ => n, fun h => absurd h (by decide)⟩
  · have e : addErr R ps s = 0 := by unfold addErr; rw [if_neg (by simp [h1]), if_neg (by omega), if_neg (by rintro ⟨p, hp, he⟩; exact h3 p hp he), if_pos h4]
    rw [e]; exact ⟨rfl, fun h => absurd rfl h, fun _ => n⟩

end Go.Proofs.YtainkaojnhfldaaGreatDoor
