/-
  SchedArgs: its law.
-/
import Derived.Test.YtjckpgcmfieaoaaGreatDoorMeb
import Derived.Test.YtjckpgcmfieaoaaGreatDoorSs2
import Derived.Test.YtjckpgcmfieaoaaGreatDoorSs3
import Derived.Test.YtjckpgcmfieaoaaGreatDoorSs4a
import Derived.Test.YtjckpgcmfieaoaaGreatDoorSs4b
import Derived.Test.YtjckpgcmfieaoaaGreatDoorSs5a
import Derived.Test.YtjckpgcmfieaoaaGreatDoorSs5b
import Derived.Test.YtjckpgcmfieaoaaGreatDoorSs6a
import Derived.Test.YtjckpgcmfieaoaaGreatDoorSs6b
set_option linter.unusedVariables false
set_option linter.unusedSimpArgs false
namespace Go.Proofs.YtjckpgcmfieaoaaGreatDoor
open Go.RowKit

theorem gFor_mem {p : EV → Bool} : ∀ {l : List EV}, gFor l p = true → ∀ x ∈ l, p x = true
  | y :: l, h, x, hx => by
    have h : (match p y with | true => gFor l p | false => false) = true := h
    split at h
    · rename_i hp
      cases hx with
      | head => exact hp
      | tail _ hx => exact gFor_mem h x hx
    · cases h
/-- Some form of the list stands for this number. -/
def CovF (W : World) (i : Nat) (l : List EV) (p : Int) : Prop := ∃ x ∈ l, ∃ v : Nat, ∀ ρ : Nat → Option Nat, ρ i = some v → VR (bet1 W ρ) x (.int .i64 p)
theorem neg_VR {W : World} {i : Nat} {p : Int} (hi : i < 1024) (h0 : -9223372036854775808 ≤ p) (h : p < 0) : ∃ v : Nat, ∀ ρ : Nat → Option Nat, ρ i = some v → VR (bet1 W ρ) (aNeg i) (.int .i64 p) := by
  obtain ⟨q, hq⟩ := Int.eq_ofNat_of_zero_le (show 0 ≤ -1 - p by omega)
  refine ⟨q, fun ρ hρ => ?_⟩
  have e : p = -1 * (q : Int) + -1 := by omega
  have h0 : SN (symOf (bet1 W ρ)) (.var i 0 9223372036854775807) (q : Int) := sym_at (k := .i64) hi hρ (Nat.zero_le _) (by omega)
  refine .sint (e := .term (-1) (.var i 0 9223372036854775807) (.cst (-1))) ?_ (by simp [IntKind.wrap, IntKind.bits, IntKind.signed]; omega)
  rw [e]
  exact SN.term h0 (.cst (-1))
theorem in_VR {W : World} {i lo hi : Nat} {p : Int} (hi0 : i < 1024) (h0 : (lo : Int) ≤ p) (h : p ≤ (hi : Int)) (hb : hi ≤ 9223372036854775807) : ∃ v : Nat, ∀ ρ : Nat → Option Nat, ρ i = some v → VR (bet1 W ρ) (aIn i lo hi) (.int .i64 p) := by
  obtain ⟨q, rfl⟩ := Int.eq_ofNat_of_zero_le (show 0 ≤ p by omega)
  refine ⟨q, fun ρ hρ => ?_⟩
  exact .sint (SN.one0 (sym_at (k := .i64) hi0 hρ (by omega) (by omega))) (by simp [IntKind.wrap, IntKind.bits, IntKind.signed]; omega)
theorem nat_VR {W : World} {i : Nat} (c : Nat) : ∃ v : Nat, ∀ ρ : Nat → Option Nat, ρ i = some v → VR (bet1 W ρ) (aNat c) (.int .i64 (c : Int)) := ⟨0, fun _ _ => .int _ _⟩
theorem sa_of {n : Nat} {ps : List (List Nat)} {cap : EV} {picks chs ats : List EV} (hall : aAll n ps cap picks chs ats = true) {W : World} (ht : TabsAt W evTab5) {c p h a : Int} (h1 : CovF W 1 picks p) (h2 : CovF W 2 chs h) (h3 : CovF W 3 ats a) {u : Nat} (hc : ∀ ρ : Nat → Option Nat, ρ 0 = some u → VR (bet1 W ρ) cap (.int .u64 c)) :
    Calls Tryz.prog 6 #[.int .i64 (n : Int), .int .u64 c, .int .i64 p, .int .i64 h, .int .i64 a] W (Makes (.bool true) W) := by
  obtain ⟨x1, m1, v1, f1⟩ := h1
  obtain ⟨x2, m2, v2, f2⟩ := h2
  obtain ⟨x3, m3, v3, f3⟩ := h3
  have ht1 := gFor_mem (gFor_mem (gFor_mem hall x1 m1) x2 m2) x3 m3
  exact told_true1 (by kernel_rfl) intA_ok ht1 W ht (fun i => if i = 0 then some u else if i = 1 then some v1 else if i = 2 then some v2 else some v3) (.cons (.int _ _) (.cons (hc _ rfl) (.cons (f1 _ rfl) (.cons (f2 _ rfl) (.cons (f3 _ rfl) .nil))))) (enters_of Tryz.func6 (by kernel_rfl) rfl _ _)
theorem cap_even {W : World} {c : Int} (h : 1 ≤ c ∧ c ≤ 1099511627776) (hb : c % 2 = 0) : ∃ u : Nat, ∀ ρ : Nat → Option Nat, ρ 0 = some u → VR (bet1 W ρ) aCap0 (.int .u64 c) := by
  obtain ⟨q, hq⟩ := Int.eq_ofNat_of_zero_le (show 0 ≤ c / 2 by omega)
  refine ⟨q, fun ρ hρ => ?_⟩
  have e : c = 2 * (q : Int) + 0 := by omega
  have h0 : SN (symOf (bet1 W ρ)) (.var 0 1 549755813888) (q : Int) := sym_at (k := .u64) (by decide) hρ (by omega) (by omega)
  refine .sint (e := .term 2 (.var 0 1 549755813888) (.cst 0)) ?_ (by simp [IntKind.wrap, IntKind.bits, IntKind.signed]; omega)
  rw [e]
  exact SN.term h0 (.cst 0)
theorem cap_odd {W : World} {c : Int} (h : 1 ≤ c ∧ c ≤ 1099511627776) (hb : c % 2 = 1) : ∃ u : Nat, ∀ ρ : Nat → Option Nat, ρ 0 = some u → VR (bet1 W ρ) aCap1 (.int .u64 c) := by
  obtain ⟨q, hq⟩ := Int.eq_ofNat_of_zero_le (show 0 ≤ c / 2 by omega)
  refine ⟨q, fun ρ hρ => ?_⟩
  have e : c = 2 * (q : Int) + 1 := by omega
  have h0 : SN (symOf (bet1 W ρ)) (.var 0 0 549755813887) (q : Int) := sym_at (k := .u64) (by decide) hρ (by omega) (by omega)
  refine .sint (e := .term 2 (.var 0 0 549755813887) (.cst 1)) ?_ (by simp [IntKind.wrap, IntKind.bits, IntKind.signed]; omega)
  rw [e]
  exact SN.term h0 (.cst 1)
theorem cov_p2 (W : World) (p : Int) (h0 : -9223372036854775808 ≤ p ∧ p < 9223372036854775808) : CovF W 1 [aNeg 1, aIn 1 0 1, aIn 1 2 5, aFrom 1 6] p := by
  rcases (by omega : p < 0 ∨ (0 ≤ p ∧ p ≤ 1) ∨ (2 ≤ p ∧ p ≤ 5) ∨ 6 ≤ p) with h | h | h | h
  · exact ⟨_, .head _, neg_VR (by decide) h0.1 h⟩
  · exact ⟨_, .tail _ (.head _), in_VR (by decide) (by omega) (by omega) (by omega)⟩
  · exact ⟨_, .tail _ (.tail _ (.head _)), in_VR (by decide) (by omega) (by omega) (by omega)⟩
  · exact ⟨_, .tail _ (.tail _ (.tail _ (.head _))), in_VR (by decide) (by omega) (by omega) (by omega)⟩
theorem cov_c2 (W : World) (p : Int) (h0 : -9223372036854775808 ≤ p ∧ p < 9223372036854775808) : CovF W 2 [aNeg 2, aFrom 2 1, aNat 0] p := by
  rcases (by omega : p < 0 ∨ 1 ≤ p ∨ p = 0) with h | h | rfl
  · exact ⟨_, .head _, neg_VR (by decide) h0.1 h⟩
  · exact ⟨_, .tail _ (.head _), in_VR (by decide) (by omega) (by omega) (by omega)⟩
  · exact ⟨_, .tail _ (.tail _ (.head _)), nat_VR 0⟩
theorem cov_a2 (W : World) (p : Int) (h0 : -9223372036854775808 ≤ p ∧ p < 9223372036854775808) : CovF W 3 [aNeg 3, aFrom 3 2, aNat 0, aNat 1] p := by
  rcases (by omega : p < 0 ∨ 2 ≤ p ∨ p = 0 ∨ p = 1) with h | h | rfl | rfl
  · exact ⟨_, .head _, neg_VR (by decide) h0.1 h⟩
  · exact ⟨_, .tail _ (.head _), in_VR (by decide) (by omega) (by omega) (by omega)⟩
  · exact ⟨_, .tail _ (.tail _ (.head _)), nat_VR 0⟩
  · exact ⟨_, .tail _ (.tail _ (.tail _ (.head _))), nat_VR 1⟩
theorem cov_p3 (W : World) (p : Int) (h0 : -9223372036854775808 ≤ p ∧ p < 9223372036854775808) : CovF W 1 [aNeg 1, aIn 1 0 3, aIn 1 4 10, aFrom 1 11] p := by
  rcases (by omega : p < 0 ∨ (0 ≤ p ∧ p ≤ 3) ∨ (4 ≤ p ∧ p ≤ 10) ∨ 11 ≤ p) with h | h | h | h
  · exact ⟨_, .head _, neg_VR (by decide) h0.1 h⟩
  · exact ⟨_, .tail _ (.head _), in_VR (by decide) (by omega) (by omega) (by omega)⟩
  · exact ⟨_, .tail _ (.tail _ (.head _)), in_VR (by decide) (by omega) (by omega) (by omega)⟩
  · exact ⟨_, .tail _ (.tail _ (.tail _ (.head _))), in_VR (by decide) (by omega) (by omega) (by omega)⟩
theorem cov_c3 (W : World) (p : Int) (h0 : -9223372036854775808 ≤ p ∧ p < 9223372036854775808) : CovF W 2 [aNeg 2, aFrom 2 2, aNat 0, aNat 1] p := by
  rcases (by omega : p < 0 ∨ 2 ≤ p ∨ p = 0 ∨ p = 1) with h | h | rfl | rfl
  · exact ⟨_, .head _, neg_VR (by decide) h0.1 h⟩
  · exact ⟨_, .tail _ (.head _), in_VR (by decide) (by omega) (by omega) (by omega)⟩
  · exact ⟨_, .tail _ (.tail _ (.head _)), nat_VR 0⟩
  · exact ⟨_, .tail _ (.tail _ (.tail _ (.head _))), nat_VR 1⟩
theorem cov_a3 (W : World) (p : Int) (h0 : -9223372036854775808 ≤ p ∧ p < 9223372036854775808) : CovF W 3 [aNeg 3, aFrom 3 3, aNat 0, aNat 2, aIn 3 1 1] p := by
  rcases (by omega : p < 0 ∨ 3 ≤ p ∨ p = 0 ∨ p = 2 ∨ (1 ≤ p ∧ p ≤ 1)) with h | h | rfl | rfl | h
  · exact ⟨_, .head _, neg_VR (by decide) h0.1 h⟩
  · exact ⟨_, .tail _ (.head _), in_VR (by decide) (by omega) (by omega) (by omega)⟩
  · exact ⟨_, .tail _ (.tail _ (.head _)), nat_VR 0⟩
  · exact ⟨_, .tail _ (.tail _ (.tail _ (.head _))), nat_VR 2⟩
  · exact ⟨_, .tail _ (.tail _ (.tail _ (.tail _ (.head _)))), in_VR (by decide) (by omega) (by omega) (by omega)⟩
theorem cov_p4 (W : World) (p : Int) (h0 : -9223372036854775808 ≤ p ∧ p < 9223372036854775808) : CovF W 1 [aNeg 1, aIn 1 0 5, aIn 1 6 15, aFrom 1 16] p := by
  rcases (by omega : p < 0 ∨ (0 ≤ p ∧ p ≤ 5) ∨ (6 ≤ p ∧ p ≤ 15) ∨ 16 ≤ p) with h | h | h | h
  · exact ⟨_, .head _, neg_VR (by decide) h0.1 h⟩
  · exact ⟨_, .tail _ (.head _), in_VR (by decide) (by omega) (by omega) (by omega)⟩
  · exact ⟨_, .tail _ (.tail _ (.head _)), in_VR (by decide) (by omega) (by omega) (by omega)⟩
  · exact ⟨_, .tail _ (.tail _ (.tail _ (.head _))), in_VR (by decide) (by omega) (by omega) (by omega)⟩
theorem cov_c4 (W : World) (p : Int) (h0 : -9223372036854775808 ≤ p ∧ p < 9223372036854775808) : CovF W 2 [aNeg 2, aFrom 2 3, aNat 0, aNat 1, aNat 2] p := by
  rcases (by omega : p < 0 ∨ 3 ≤ p ∨ p = 0 ∨ p = 1 ∨ p = 2) with h | h | rfl | rfl | rfl
  · exact ⟨_, .head _, neg_VR (by decide) h0.1 h⟩
  · exact ⟨_, .tail _ (.head _), in_VR (by decide) (by omega) (by omega) (by omega)⟩
  · exact ⟨_, .tail _ (.tail _ (.head _)), nat_VR 0⟩
  · exact ⟨_, .tail _ (.tail _ (.tail _ (.head _))), nat_VR 1⟩
  · exact ⟨_, .tail _ (.tail _ (.tail _ (.tail _ (.head _)))), nat_VR 2⟩
theorem cov_a4 (W : World) (p : Int) (h0 : -9223372036854775808 ≤ p ∧ p < 9223372036854775808) : CovF W 3 [aNeg 3, aFrom 3 4, aNat 0, aNat 3, aIn 3 1 2] p := by
  rcases (by omega : p < 0 ∨ 4 ≤ p ∨ p = 0 ∨ p = 3 ∨ (1 ≤ p ∧ p ≤ 2)) with h | h | rfl | rfl | h
  · exact ⟨_, .head _, neg_VR (by decide) h0.1 h⟩
  · exact ⟨_, .tail _ (.head _), in_VR (by decide) (by omega) (by omega) (by omega)⟩
  · exact ⟨_, .tail _ (.tail _ (.head _)), nat_VR 0⟩
  · exact ⟨_, .tail _ (.tail _ (.tail _ (.head _))), nat_VR 3⟩
  · exact ⟨_, .tail _ (.tail _ (.tail _ (.tail _ (.head _)))), in_VR (by decide) (by omega) (by omega) (by omega)⟩
theorem cov_p5 (W : World) (p : Int) (h0 : -9223372036854775808 ≤ p ∧ p < 9223372036854775808) : CovF W 1 [aNeg 1, aIn 1 0 7, aIn 1 8 20, aFrom 1 21] p := by
  rcases (by omega : p < 0 ∨ (0 ≤ p ∧ p ≤ 7) ∨ (8 ≤ p ∧ p ≤ 20) ∨ 21 ≤ p) with h | h | h | h
  · exact ⟨_, .head _, neg_VR (by decide) h0.1 h⟩
  · exact ⟨_, .tail _ (.head _), in_VR (by decide) (by omega) (by omega) (by omega)⟩
  · exact ⟨_, .tail _ (.tail _ (.head _)), in_VR (by decide) (by omega) (by omega) (by omega)⟩
  · exact ⟨_, .tail _ (.tail _ (.tail _ (.head _))), in_VR (by decide) (by omega) (by omega) (by omega)⟩
theorem cov_c5 (W : World) (p : Int) (h0 : -9223372036854775808 ≤ p ∧ p < 9223372036854775808) : CovF W 2 [aNeg 2, aFrom 2 4, aNat 0, aNat 1, aNat 2, aNat 3] p := by
  rcases (by omega : p < 0 ∨ 4 ≤ p ∨ p = 0 ∨ p = 1 ∨ p = 2 ∨ p = 3) with h | h | rfl | rfl | rfl | rfl
  · exact ⟨_, .head _, neg_VR (by decide) h0.1 h⟩
  · exact ⟨_, .tail _ (.head _), in_VR (by decide) (by omega) (by omega) (by omega)⟩
  · exact ⟨_, .tail _ (.tail _ (.head _)), nat_VR 0⟩
  · exact ⟨_, .tail _ (.tail _ (.tail _ (.head _))), nat_VR 1⟩
  · exact ⟨_, .tail _ (.tail _ (.tail _ (.tail _ (.head _)))), nat_VR 2⟩
  · exact ⟨_, .tail _ (.tail _ (.tail _ (.tail _ (.tail _ (.head _))))), nat_VR 3⟩
theorem cov_a5 (W : World) (p : Int) (h0 : -9223372036854775808 ≤ p ∧ p < 9223372036854775808) : CovF W 3 [aNeg 3, aFrom 3 5, aNat 0, aNat 4, aIn 3 1 3] p := by
  rcases (by omega : p < 0 ∨ 5 ≤ p ∨ p = 0 ∨ p = 4 ∨ (1 ≤ p ∧ p ≤ 3)) with h | h | rfl | rfl | h
  · exact ⟨_, .head _, neg_VR (by decide) h0.1 h⟩
  · exact ⟨_, .tail _ (.head _), in_VR (by decide) (by omega) (by omega) (by omega)⟩
  · exact ⟨_, .tail _ (.tail _ (.head _)), nat_VR 0⟩
  · exact ⟨_, .tail _ (.tail _ (.tail _ (.head _))), nat_VR 4⟩
  · exact ⟨_, .tail _ (.tail _ (.tail _ (.tail _ (.head _)))), in_VR (by decide) (by omega) (by omega) (by omega)⟩
theorem cov_p6 (W : World) (p : Int) (h0 : -9223372036854775808 ≤ p ∧ p < 9223372036854775808) : CovF W 1 [aNeg 1, aIn 1 0 9, aIn 1 10 25, aFrom 1 26] p := by
  rcases (by omega : p < 0 ∨ (0 ≤ p ∧ p ≤ 9) ∨ (10 ≤ p ∧ p ≤ 25) ∨ 26 ≤ p) with h | h | h | h
  · exact ⟨_, .head _, neg_VR (by decide) h0.1 h⟩
  · exact ⟨_, .tail _ (.head _), in_VR (by decide) (by omega) (by omega) (by omega)⟩
  · exact ⟨_, .tail _ (.tail _ (.head _)), in_VR (by decide) (by omega) (by omega) (by omega)⟩
  · exact ⟨_, .tail _ (.tail _ (.tail _ (.head _))), in_VR (by decide) (by omega) (by omega) (by omega)⟩
theorem cov_c6 (W : World) (p : Int) (h0 : -9223372036854775808 ≤ p ∧ p < 9223372036854775808) : CovF W 2 [aNeg 2, aFrom 2 5, aNat 0, aNat 1, aNat 2, aNat 3, aNat 4] p := by
  rcases (by omega : p < 0 ∨ 5 ≤ p ∨ p = 0 ∨ p = 1 ∨ p = 2 ∨ p = 3 ∨ p = 4) with h | h | rfl | rfl | rfl | rfl | rfl
  · exact ⟨_, .head _, neg_VR (by decide) h0.1 h⟩
  · exact ⟨_, .tail _ (.head _), in_VR (by decide) (by omega) (by omega) (by omega)⟩
  · exact ⟨_, .tail _ (.tail _ (.head _)), nat_VR 0⟩
  · exact ⟨_, .tail _ (.tail _ (.tail _ (.head _))), nat_VR 1⟩
  · exact ⟨_, .tail _ (.tail _ (.tail _ (.tail _ (.head _)))), nat_VR 2⟩
  · exact ⟨_, .tail _ (.tail _ (.tail _ (.tail _ (.tail _ (.head _))))), nat_VR 3⟩
  · exact ⟨_, .tail _ (.tail _ (.tail _ (.tail _ (.tail _ (.tail _ (.head _)))))), nat_VR 4⟩
theorem cov_a6 (W : World) (p : Int) (h0 : -9223372036854775808 ≤ p ∧ p < 9223372036854775808) : CovF W 3 [aNeg 3, aFrom 3 6, aNat 0, aNat 5, aIn 3 1 4] p := by
  rcases (by omega : p < 0 ∨ 6 ≤ p ∨ p = 0 ∨ p = 5 ∨ (1 ≤ p ∧ p ≤ 4)) with h | h | rfl | rfl | h
  · exact ⟨_, .head _, neg_VR (by decide) h0.1 h⟩
  · exact ⟨_, .tail _ (.head _), in_VR (by decide) (by omega) (by omega) (by omega)⟩
  · exact ⟨_, .tail _ (.tail _ (.head _)), nat_VR 0⟩
  · exact ⟨_, .tail _ (.tail _ (.tail _ (.head _))), nat_VR 5⟩
  · exact ⟨_, .tail _ (.tail _ (.tail _ (.tail _ (.head _)))), in_VR (by decide) (by omega) (by omega) (by omega)⟩
set_option maxRecDepth 100000 in
theorem args21_card (n c p h a : Int) (W : World) (hn : (Lit.int .i64 n).wf = true) (hc : (Lit.int .u64 c).wf = true) (hp : (Lit.int .i64 p).wf = true) (hh : (Lit.int .i64 h).wf = true) (ha : (Lit.int .i64 a).wf = true) (ht : TabsAt W evTab5) : Calls Tryz.prog 6 #[.int .i64 n, .int .u64 c, .int .i64 p, .int .i64 h, .int .i64 a] W (Makes (.bool true) W) := by
  have bd : ∀ z : Int, (Lit.int .i64 z).wf = true → -9223372036854775808 ≤ z ∧ z < 9223372036854775808 := fun z hz => by
    simp [Lit.wf, IntKind.min, IntKind.max, IntKind.signed, IntKind.bits] at hz
    omega
  have bc : 0 ≤ c ∧ c < 18446744073709551616 := by
    simp [Lit.wf, IntKind.min, IntKind.max, IntKind.signed, IntKind.bits] at hc
    omega
  have bn := bd n hn
  have bp := bd p hp
  have bh := bd h hh
  have ba := bd a ha
  have he := enters_of Tryz.func6 (by kernel_rfl) rfl #[.int .i64 n, .int .u64 c, .int .i64 p, .int .i64 h, .int .i64 a] W
  obtain ⟨cq, hcq⟩ := Int.eq_ofNat_of_zero_le bc.1
  have bad : ∀ (x y : EV) (u : Nat), VR (bet1 W fun i => if i = 0 then some u else some cq) x (.int .i64 n) → VR (bet1 W fun i => if i = 0 then some u else some cq) y (.int .u64 c) → tellsTrue (eCall Tryz.prog intN 100 6 [x, y, .bot, .bot, .bot] (.mk (eTabH evTab5) 2048)) = true → Calls Tryz.prog 6 #[.int .i64 n, .int .u64 c, .int .i64 p, .int .i64 h, .int .i64 a] W (Makes (.bool true) W) := fun x y u hx hy ht1 =>
    told_true1 (by kernel_rfl) intN_ok ht1 W ht _ (.cons hx (.cons hy (.cons (.bot _) (.cons (.bot _) (.cons (.bot _) .nil))))) he
  have capv : ∀ (ρ : Nat → Option Nat) (lo : Nat), lo ≤ cq → ρ 1 = some cq → VR (bet1 W ρ) (.sint .u64 (.term 1 (.var 1 lo 18446744073709551615) (.cst 0))) (.int .u64 c) := fun ρ lo hlo hρ => by
    rw [hcq]
    exact .sint (SN.one0 (sym_at (k := .u64) (by decide) hρ hlo (by omega))) (by simp [IntKind.wrap, IntKind.bits, IntKind.signed]; omega)
  by_cases h1 : n < 2
  · obtain ⟨q, hq⟩ := Int.eq_ofNat_of_zero_le (show 0 ≤ 1 - n by omega)
    refine bad (aVar (-1) 0 0 9223372036854775809 1) _ q ?_ (capv _ 0 (Nat.zero_le _) rfl) sa_few
    have e : n = -1 * (q : Int) + 1 := by omega
    have h0 : SN (symOf (bet1 W fun i => if i = 0 then some q else some cq)) (.var 0 0 9223372036854775809) (q : Int) := sym_at (k := .i64) (by decide) rfl (Nat.zero_le _) (by omega)
    refine .sint (e := .term (-1) (.var 0 0 9223372036854775809) (.cst 1)) ?_ (by simp [IntKind.wrap, IntKind.bits, IntKind.signed]; omega)
    rw [e]
    exact SN.term h0 (.cst 1)
  · by_cases h2 : 6 < n
    · obtain ⟨u, hu⟩ := in_VR (W := W) (i := 0) (lo := 7) (hi := 9223372036854775807) (p := n) (by decide) (by omega) (by omega) (by omega)
      exact bad _ _ u (hu _ rfl) (capv _ 0 (Nat.zero_le _) rfl) sa_many
    · obtain ⟨u, hu⟩ := in_VR (W := W) (i := 0) (lo := 2) (hi := 6) (p := n) (by decide) (by omega) (by omega) (by omega)
      by_cases h3 : c < 1
      · obtain rfl : c = 0 := by omega
        exact bad _ _ u (hu _ rfl) (.int _ _) sa_none
      · by_cases h4 : 1099511627776 < c
        · exact bad _ _ u (hu _ rfl) (capv _ 1099511627777 (by omega) rfl) sa_big
        · have hr : 1 ≤ c ∧ c ≤ 1099511627776 := by omega
          rcases (by omega : c % 2 = 0 ∨ c % 2 = 1) with hb | hb
          · obtain ⟨v, hv⟩ := cap_even (W := W) hr hb
            rcases (by omega : n = 2 ∨ n = 3 ∨ n = 4 ∨ n = 5 ∨ n = 6) with rfl | rfl | rfl | rfl | rfl
            · exact sa_of (n := 2) sa_ev20 ht (cov_p2 W p bp) (cov_c2 W h bh) (cov_a2 W a ba) hv
            · exact sa_of (n := 3) sa_ev30 ht (cov_p3 W p bp) (cov_c3 W h bh) (cov_a3 W a ba) hv
            · exact sa_of (n := 4) sa_ev40 ht (cov_p4 W p bp) (cov_c4 W h bh) (cov_a4 W a ba) hv
            · exact sa_of (n := 5) sa_ev50 ht (cov_p5 W p bp) (cov_c5 W h bh) (cov_a5 W a ba) hv
            · exact sa_of (n := 6) sa_ev60 ht (cov_p6 W p bp) (cov_c6 W h bh) (cov_a6 W a ba) hv
          · obtain ⟨v, hv⟩ := cap_odd (W := W) hr hb
            rcases (by omega : n = 2 ∨ n = 3 ∨ n = 4 ∨ n = 5 ∨ n = 6) with rfl | rfl | rfl | rfl | rfl
            · exact sa_of (n := 2) sa_ev21 ht (cov_p2 W p bp) (cov_c2 W h bh) (cov_a2 W a ba) hv
            · exact sa_of (n := 3) sa_ev31 ht (cov_p3 W p bp) (cov_c3 W h bh) (cov_a3 W a ba) hv
            · exact sa_of (n := 4) sa_ev41 ht (cov_p4 W p bp) (cov_c4 W h bh) (cov_a4 W a ba) hv
            · exact sa_of (n := 5) sa_ev51 ht (cov_p5 W p bp) (cov_c5 W h bh) (cov_a5 W a ba) hv
            · exact sa_of (n := 6) sa_ev61 ht (cov_p6 W p bp) (cov_c6 W h bh) (cov_a6 W a ba) hv
end Go.Proofs.YtjckpgcmfieaoaaGreatDoor
