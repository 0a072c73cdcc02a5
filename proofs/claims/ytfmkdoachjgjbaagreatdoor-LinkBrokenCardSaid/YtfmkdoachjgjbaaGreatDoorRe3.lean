/-
  The reference's May.
-/
import Derived.Test.YtfmkdoachjgjbaaGreatDoorMeg
set_option linter.unusedVariables false
set_option linter.unusedSimpArgs false
namespace Go.Proofs.YtfmkdoachjgjbaaGreatDoor
open Go.RowKit

def refMay (m : MsgV) : Bool :=
  (inL (lettersOf m.kind) 105 || m.id == 0) && (inL (lettersOf m.kind) 97 || m.amount == 0) && (inL (lettersOf m.kind) 104 || m.hash == z32i) && (inL (lettersOf m.kind) 101 || m.expiry == 0) && (inL (lettersOf m.kind) 110 || m.number == 0)
theorem may_ref (m : MsgV) : mayMsg m = if m.kind < 1 ∨ 9 < m.kind ∨ m.expiry < 0 ∨ 1073741824 < m.expiry ∨ m.number < 0 ∨ 65535 < m.number ∨ 1125899906842624 < m.amount then false else refMay m := by
  by_cases hk : m.kind < 1 ∨ 9 < m.kind
  · have hf : fieldsOf m.kind = none := by
      unfold fieldsOf
      repeat rw [if_neg (by omega)]
    rw [may_none hf, if_pos (by omega)]
  · obtain ⟨k, ch, id, am, h, ex, nu⟩ := m
    have hk : ¬ (k < 1 ∨ 9 < k) := hk
    have key : ∀ xs, fieldsOf k = some xs → decide (zeros xs ⟨k, ch, id, am, h, ex, nu⟩ = kindMsg k) = refMay ⟨k, ch, id, am, h, ex, nu⟩ → mayMsg ⟨k, ch, id, am, h, ex, nu⟩ = if k < 1 ∨ 9 < k ∨ ex < 0 ∨ 1073741824 < ex ∨ nu < 0 ∨ 65535 < nu ∨ 1125899906842624 < am then false else refMay ⟨k, ch, id, am, h, ex, nu⟩ := by
      intro xs hx he
      rw [may_some (m := ⟨k, ch, id, am, h, ex, nu⟩) hx]
      by_cases hb : ex < 0 ∨ 1073741824 < ex ∨ nu < 0 ∨ 65535 < nu ∨ 1125899906842624 < am
      · rw [if_pos hb, if_pos (by omega)]
      · rw [if_neg hb, if_neg (by omega)]
        exact he
    rcases (by omega : k = 1 ∨ k = 2 ∨ k = 3 ∨ k = 4 ∨ k = 5 ∨ k = 6 ∨ k = 7 ∨ k = 8 ∨ k = 9) with rfl | rfl | rfl | rfl | rfl | rfl | rfl | rfl | rfl
    all_goals
      refine key _ rfl ?_
      rw [Bool.eq_iff_iff]
      simp [zeros, Fld.zero, kindMsg, refMay, lettersOf, inL, Fld.ltr, and_assoc]
structure MsR (w : World) (b : Nat) (m : MsgV) : Prop where
  at_ : w.heap[b]? = some (.cells m.cells.toArray 55 (0, 0))
  len : m.hash.length = 32
theorem MsR.upd {T : Nat → Prop} {w w' : World} {b : Nat} {m : MsgV} (h : MsR w b m) (u : Upd T w w') (hT : ¬ T b) : MsR w' b m := ⟨u.old h.at_ hT, h.len⟩
theorem MsR.new {w w' : World} {b : Nat} {m : MsgV} (h : MsR w b m) (u : New w w') : MsR w' b m := h.upd u (fun h => h)
theorem MsR.cells {w : World} {b : Nat} {m : MsgV} (a : MsR w b m) : w.cell? ⟨b, 0, none⟩ = some (.int .i64 m.kind) ∧ w.cell? ⟨b, 1, none⟩ = some (.int .u32 m.ch) ∧ w.cell? ⟨b, 2, none⟩ = some (.int .u64 m.id) ∧ w.cell? ⟨b, 3, none⟩ = some (.int .u64 m.amount) ∧ w.cell? ⟨b, 36, none⟩ = some (.int .i64 m.expiry) ∧ w.cell? ⟨b, 37, none⟩ = some (.int .i64 m.number) ∧ rowN w b 4 32 = some (hshV m.hash).toArray := msg_at m a.at_ a.len
theorem lettersOf_len (k : Int) : (lettersOf k).length ≤ 100 := by
  unfold lettersOf
  (repeat' split) <;> decide
theorem orCase (b z : Bool) : b = true ∨ (b = false ∧ z = true) ∨ (b = false ∧ z = false) := by cases b <;> cases z <;> simp
attribute [local go_sem ↓ high] ld_hsh_fold st_hsh_fold al_hsh_fold bd_hsh_fold eq_hsh_fold
attribute [local go_sem] ld_hsh st_hsh al_hsh bd_hsh rowN_drew
set_option maxRecDepth 100000 in
set_option maxHeartbeats 4000000 in
theorem refMay_any (m : MsgV) (hm : MsgOk m) (w : World) : Calls Tryz.prog 61 #[.agg m.cells.toArray] w (Makes (.bool (mayMsg m)) w) := by
  have hmr := may_ref m
  have hF := fun W => refFields_any m.kind W
  have hI := fun c W => refIn_any (lettersOf m.kind) (lettersOf_len _) c W
  have hz3e := fun W => eq_hsh (a := m.hash) (b := z32i) hm.len z32i_len hm.hash z32i_bytes W
  have hRM : refMay m = (((inL (lettersOf m.kind) 105 || m.id == 0) && (inL (lettersOf m.kind) 97 || m.amount == 0) && (inL (lettersOf m.kind) 104 || m.hash == z32i) && (inL (lettersOf m.kind) 101 || m.expiry == 0) && (inL (lettersOf m.kind) 110 || m.number == 0))) := rfl
  go_enter Tryz.func61, Tryz.ntmps61
  go_upto_region 1 with fail
  have hA : MsR (w.alloc (.cells m.cells.toArray 55)) w.heap.size m := ⟨blk_alloc _ _, hm.len⟩
  have n1 : New w (w.alloc (.cells m.cells.toArray 55)) := (Upd.refl _ _).alloc _
  generalize w.alloc (.cells m.cells.toArray 55) = w1 at hA n1 ⊢
  generalize w.heap.size = B at hA ⊢
  obtain ⟨k0, -, k2, k3, k36, k37, kH⟩ := hA.cells
  have HA := hide hA
  have N1 := hide n1
  clear hA n1 hm
  generalize hL : lettersOf m.kind = L at *
  clear hL
  go_wp2_with fail
  refine (hF w1).mono ?_
  rintro e w2 ⟨rfl, q2⟩
  have hA2 := (unhide HA).new (q2.upd _)
  have N2 := hide ((unhide N1).trans (q2.upd _))
  obtain ⟨k0, -, k2, k3, k36, k37, kH⟩ := hA2.cells
  have HA := hide hA2
  clear q2 N1 hA2 hF
  have HM := hide hmr
  clear hmr
  by_cases e0 : m.kind < 1
  · rw [if_pos (.inl e0)] at HM
    clear hRM hI hz3e
    go_wp2_with fail
    go_ret
    exact ⟨by rw [unhide HM]; rfl, unhide N2⟩
  by_cases e1 : 9 < m.kind
  · rw [if_pos (.inr (.inl e1))] at HM
    clear hRM hI hz3e
    go_wp2_with fail
    go_ret
    exact ⟨by rw [unhide HM]; rfl, unhide N2⟩
  by_cases e2 : m.expiry < 0
  · rw [if_pos (.inr (.inr (.inl e2)))] at HM
    clear hRM hI hz3e
    go_wp2_with fail
    go_ret
    exact ⟨by rw [unhide HM]; rfl, unhide N2⟩
  by_cases e3 : 1073741824 < m.expiry
  · rw [if_pos (.inr (.inr (.inr (.inl e3))))] at HM
    clear hRM hI hz3e
    go_wp2_with fail
    go_ret
    exact ⟨by rw [unhide HM]; rfl, unhide N2⟩
  by_cases e4 : m.number < 0
  · rw [if_pos (.inr (.inr (.inr (.inr (.inl e4)))))] at HM
    clear hRM hI hz3e
    go_wp2_with fail
    go_ret
    exact ⟨by rw [unhide HM]; rfl, unhide N2⟩
  by_cases e5 : 65535 < m.number
  · rw [if_pos (.inr (.inr (.inr (.inr (.inr (.inl e5))))))] at HM
    clear hRM hI hz3e
    go_wp2_with fail
    go_ret
    exact ⟨by rw [unhide HM]; rfl, unhide N2⟩
  by_cases e6 : 1125899906842624 < m.amount
  · rw [if_pos (.inr (.inr (.inr (.inr (.inr (.inr e6))))))] at HM
    clear hRM hI hz3e
    go_wp2_with fail
    go_ret
    exact ⟨by rw [unhide HM]; rfl, unhide N2⟩
  rw [if_neg (by omega), hRM] at HM
  clear hRM
  obtain ⟨z1, hz1⟩ : ∃ z, (m.id == 0) = z := ⟨_, rfl⟩
  obtain ⟨z2, hz2⟩ : ∃ z, (m.amount == 0) = z := ⟨_, rfl⟩
  obtain ⟨z3, hz3⟩ : ∃ z, (m.hash == z32i) = z := ⟨_, rfl⟩
  obtain ⟨z4, hz4⟩ : ∃ z, (m.expiry == 0) = z := ⟨_, rfl⟩
  obtain ⟨z5, hz5⟩ : ∃ z, (m.number == 0) = z := ⟨_, rfl⟩
  rw [hz1, hz2, hz3, hz4, hz5] at HM
  simp only [hz3] at hz3e
  have h1 := fun W => hI 105 W
  have h2 := fun W => hI 97 W
  have h3 := fun W => hI 104 W
  have h4 := fun W => hI 101 W
  have h5 := fun W => hI 110 W
  generalize inL L 105 = b1 at *
  generalize inL L 97 = b2 at *
  generalize inL L 104 = b3 at *
  generalize inL L 101 = b4 at *
  generalize inL L 110 = b5 at *
  clear hI hz3
  go_wp2_with fail
  all_goals
    refine (h1 _).mono ?_
    rintro e wq ⟨rfl, qq⟩
    have hAq := (unhide HA).new (qq.upd _)
    have Nq := (unhide N2).trans (qq.upd (fun _ => False))
    obtain ⟨k0, -, k2, k3, k36, k37, kH⟩ := hAq.cells
    clear HA N2 qq h1
    have HA := hide hAq
    have N2 := hide Nq
    clear hAq Nq
    rcases orCase b1 z1 with rfl | ⟨rfl, rfl⟩ | ⟨rfl, rfl⟩
    rotate_left 2
    · go_wp2_with fail
      go_ret
      exact ⟨by rw [unhide HM]; simp, unhide N2⟩
    all_goals go_wp2_with fail
  all_goals
    refine (h2 _).mono ?_
    rintro e wq ⟨rfl, qq⟩
    have hAq := (unhide HA).new (qq.upd _)
    have Nq := (unhide N2).trans (qq.upd (fun _ => False))
    obtain ⟨k0, -, k2, k3, k36, k37, kH⟩ := hAq.cells
    clear HA N2 qq h2
    have HA := hide hAq
    have N2 := hide Nq
    clear hAq Nq
    rcases orCase b2 z2 with rfl | ⟨rfl, rfl⟩ | ⟨rfl, rfl⟩
    rotate_left 2
    · go_wp2_with fail
      go_ret
      exact ⟨by rw [unhide HM]; simp, unhide N2⟩
    all_goals go_wp2_with fail
  all_goals
    refine (h3 _).mono ?_
    rintro e wq ⟨rfl, qq⟩
    have hAq := (unhide HA).new (qq.upd _)
    have Nq := (unhide N2).trans (qq.upd (fun _ => False))
    obtain ⟨k0, -, k2, k3, k36, k37, kH⟩ := hAq.cells
    clear HA N2 qq h3
    have HA := hide hAq
    have N2 := hide Nq
    clear hAq Nq
    rcases orCase b3 z3 with rfl | ⟨rfl, rfl⟩ | ⟨rfl, rfl⟩
    rotate_left 2
    · go_wp2_with fail
      go_ret
      exact ⟨by rw [unhide HM]; simp, unhide N2⟩
    all_goals go_wp2_with fail
  all_goals
    refine (h4 _).mono ?_
    rintro e wq ⟨rfl, qq⟩
    have hAq := (unhide HA).new (qq.upd _)
    have Nq := (unhide N2).trans (qq.upd (fun _ => False))
    obtain ⟨k0, -, k2, k3, k36, k37, kH⟩ := hAq.cells
    clear HA N2 qq h4
    have HA := hide hAq
    have N2 := hide Nq
    clear hAq Nq
    rcases orCase b4 z4 with rfl | ⟨rfl, rfl⟩ | ⟨rfl, rfl⟩
    rotate_left 2
    · go_wp2_with fail
      go_ret
      exact ⟨by rw [unhide HM]; simp, unhide N2⟩
    all_goals go_wp2_with fail
  all_goals
    refine (h5 _).mono ?_
    rintro e wq ⟨rfl, qq⟩
    have hAq := (unhide HA).new (qq.upd _)
    have Nq := (unhide N2).trans (qq.upd (fun _ => False))
    obtain ⟨k0, -, k2, k3, k36, k37, kH⟩ := hAq.cells
    clear HA N2 qq h5
    have HA := hide hAq
    have N2 := hide Nq
    clear hAq Nq
    rcases orCase b5 z5 with rfl | ⟨rfl, rfl⟩ | ⟨rfl, rfl⟩
    · go_wp2_with fail
      go_ret
      exact ⟨by rw [unhide HM]; simp, unhide N2⟩
    · go_wp2_with fail
      go_ret
      exact ⟨by rw [unhide HM]; simp, unhide N2⟩
    · go_wp2_with fail
      go_ret
      exact ⟨by rw [unhide HM]; simp, unhide N2⟩
end Go.Proofs.YtfmkdoachjgjbaaGreatDoor
