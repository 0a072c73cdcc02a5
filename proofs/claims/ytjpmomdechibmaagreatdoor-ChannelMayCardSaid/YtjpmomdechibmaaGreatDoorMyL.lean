/-
  The law ChannelMay.
-/
import Derived.Test.YtjpmomdechibmaaGreatDoorShw
namespace Go.Proofs.YtjpmomdechibmaaGreatDoor
set_option linter.unusedVariables false
set_option linter.unusedSimpArgs false
open Go.RowKit

attribute [local go_sem ↓ high] ld_hsh_fold st_hsh_fold al_hsh_fold bd_hsh_fold ld_msg_fold st_msg_fold al_msg_fold bd_msg_fold ld_setup_fold eq_msg_fold
attribute [local go_sem] ld_hsh st_hsh al_hsh bd_hsh rowN_drew ld_msg st_msg al_msg ld_setup fld_base0 fld_base1

theorem bd_again (c n : Int) (w : World) : (bdMsg #[(0, .int .i64 9), (1, .int .u32 c), (6, .int .i64 n)]).run Tryz.prog w = .ok (.agg (MsgV.cells ⟨9, c, 0, 0, z32i, 0, n⟩).toArray) w := run_build w _ _ _ (by kernel_rfl)
set_option maxRecDepth 100000 in
set_option maxHeartbeats 2000000 in
theorem may_law (s : SetupV) (w : World) (hs : s.Ok) (hT : Tb w) : Calls Tryz.prog 5 #[.agg s.cells.toArray] w (Makes (.bool true) w) := by
  have c35 := s.c35 hs.seed
  have c36 := s.c36 hs.seed
  go_enter Tryz.func5, Tryz.ntmps5
  go_upto_region 1 with fail
  have hb : SetR (w.alloc (.cells s.cells.toArray 57)) w.heap.size s := blk_alloc _ _
  have n1 : New w (w.alloc (.cells s.cells.toArray 57)) := (Upd.refl _ _).alloc _
  generalize w.alloc (.cells s.cells.toArray 57) = w1 at hb n1 ⊢
  generalize w.heap.size = T at hb ⊢
  have d35 : w1.cell? ⟨T, 35, none⟩ = some (.string s.key) := (hb.cell 35).trans c35
  have d36 : w1.cell? ⟨T, 36, none⟩ = some (.string s.peer) := (hb.cell 36).trans c36
  have HB := hide hb
  have N1 := hide n1
  have hsh := fun W (n : New w1 W) => shown_any W ((hT.new n1).new n)
  clear hb n1
  by_cases k1 : 300 < s.key.size
  · have k1' : (300 : Int) < (s.key.size : Int) := by omega
    go_wp2_with fail
    refine (hsh w1 (Upd.refl _ _)).mono ?_
    rintro e w2 ⟨rfl, n2⟩
    go_wp2_with fail
    go_ret
    exact ⟨rfl, (unhide N1).trans n2⟩
  have k1' : ¬ (300 : Int) < (s.key.size : Int) := by omega
  by_cases k2 : 300 < s.peer.size
  · have k2' : (300 : Int) < (s.peer.size : Int) := by omega
    go_wp2_with fail
    refine (hsh w1 (Upd.refl _ _)).mono ?_
    rintro e w2 ⟨rfl, n2⟩
    go_wp2_with fail
    go_ret
    exact ⟨rfl, (unhide N1).trans n2⟩
  have k2' : ¬ (300 : Int) < (s.peer.size : Int) := by omega
  go_wp2_with fail
  refine (hsh w1 (Upd.refl _ _)).mono ?_
  rintro e w2 ⟨rfl, n2⟩
  have hb2 := (unhide HB).new n2
  have r2 := hb2.row hs.seed
  have N2 := hide ((unhide N1).trans n2)
  have HB2 := hide hb2
  clear d35 d36 hsh hb2 n2
  go_wp2_with fail
  refine (newC_any s hs w2).mono ?_
  rintro e w3 hw3
  clear r2
  have e0 : ∀ {w3 : World}, New w2 w3 → w3.cell? ⟨T, 1, none⟩ = some (.int .u64 s.cap) ∧ w3.cell? ⟨T, 2, none⟩ = some (.int .u64 s.ours) ∧ w3.cell? ⟨T, 35, none⟩ = some (.string s.key) ∧ w3.cell? ⟨T, 36, none⟩ = some (.string s.peer) ∧ w3.cell? ⟨T, 0, none⟩ = some (.int .u32 s.ch) := fun n3 =>
    have hb3 := (unhide HB2).new n3
    ⟨hb3.cell 1, hb3.cell 2, (hb3.cell 35).trans c35, (hb3.cell 36).trans c36, hb3.cell 0⟩
  rcases hw3 with ⟨hm, g, rfl, hg, hR, n3⟩ | ⟨hm, rfl, n3⟩
  · obtain ⟨d1, d2, d35, d36, d0⟩ := e0 n3
    obtain ⟨m1, m2, m3, m4, m5⟩ := hm
    have a1 : ¬ s.cap < 1 := by omega
    have a2 : ¬ 1125899906842624 < s.cap := by omega
    have a3 : ¬ s.cap < s.ours := by omega
    have a4 : ¬ (64 : Int) < (s.key.size : Int) := by omega
    have a5 : ¬ (64 : Int) < (s.peer.size : Int) := by omega
    have hC := chS_new hR hs ⟨m1, m2, m3, m4, m5⟩
    have N3 := hide ((unhide N2).trans n3)
    have HC := hide hC
    have HR := hide hR
    have H0 := hide (fun W (n : New w3 W) => e0 (n3.trans n))
    clear hC hR n3 e0
    go_upto_region 6 with fail
    have hC0 : w3.drew.cell? ⟨T, 1, none⟩ = some (.int .u64 s.cap) ∧ w3.drew.cell? ⟨T, 2, none⟩ = some (.int .u64 s.ours) ∧ w3.drew.cell? ⟨T, 0, none⟩ = some (.int .u32 s.ch) := ⟨d1, d2, d0⟩
    have hkeep : ∀ W, New w3 W → W.cell? ⟨T, 1, none⟩ = some (.int .u64 s.cap) ∧ W.cell? ⟨T, 2, none⟩ = some (.int .u64 s.ours) ∧ W.cell? ⟨T, 0, none⟩ = some (.int .u32 s.ch) := fun W n => ⟨((unhide H0) W n).1, ((unhide H0) W n).2.1, ((unhide H0) W n).2.2.2.2⟩
    have HK := hide hkeep
    have hsub : IntKind.u64.wrap (s.cap - s.ours) = s.cap - s.ours := wrapU (by have := hs.ours; omega) (by have := hs.cap; have := hs.ours; omega)
    have hbd := fun W => bd_again s.ch 1 W
    have hag : MsgOk (⟨9, s.ch, 0, 0, z32i, 0, 1⟩ : MsgV) := msg_ok ⟨by decide, by decide⟩ hs.ch ⟨by decide, by decide⟩ ⟨by decide, by decide⟩ z32i_len z32i_bytes ⟨by decide, by decide⟩ ⟨by decide, by decide⟩
    have heq := fun W => eq_msg hag hag W
    rw [decide_eq_true rfl] at heq
    clear d1 d2 d35 d36 d0 a1 a2 a3 a4 a5 hkeep
    refine wp_plan (fun w' => w'.cell? ⟨T, 1, none⟩ = some (.int .u64 s.cap) ∧ w'.cell? ⟨T, 2, none⟩ = some (.int .u64 s.ours) ∧ w'.cell? ⟨T, 0, none⟩ = some (.int .u32 s.ch)) [6, 8, 10, 25] (.of [0, 1, 2, 3, 4, 5, 6, 7, 8, 9, 10, 11, 12, 13, 14, 15, 16, 17, 18, 19, 20, 21, 22, 23, 24, 25, 26, 27, 28, 29]) (by kernel_rfl) (by kernel_rfl) hC0 ?_
    simp only [Plan.of]
    go_wp2_with (first | ((with_reducible apply qp); rfl; rfl; rfl; intro _ _ _) | ((with_reducible apply qc); rfl; rfl; rfl; with_reducible assumption; intro _ hC _ _) | ((with_reducible apply qr); rfl; rfl; intro _ _) | ((with_reducible apply qd); rfl; rfl; decide +kernel; intro _ _) | ((with_reducible apply qe); rfl; rfl; intro _ _) | (with_reducible rfl) | (with_reducible apply qn))
    have nd3 : New w3 w3.drew := (Upd.refl _ _).drew
    refine (baseS_any g _ (Ch.new s) w3.drew ((unhide HC).new nd3)).mono ?_
    rintro e w4 ⟨rfl, n4⟩
    have n34 := nd3.trans n4
    go_wp2_with (first | ((with_reducible apply qp); rfl; rfl; rfl; intro _ _ _) | ((with_reducible apply qc); rfl; rfl; rfl; with_reducible assumption; intro _ hC _ _) | ((with_reducible apply qr); rfl; rfl; intro _ _) | ((with_reducible apply qd); rfl; rfl; decide +kernel; intro _ _) | ((with_reducible apply qe); rfl; rfl; intro _ _) | (with_reducible rfl) | (with_reducible apply qn))
    have k4 := unhide HK _ n34
    refine ⟨k4, ?_⟩
    go_wp2_with (first | ((with_reducible apply qp); rfl; rfl; rfl; intro _ _ _) | ((with_reducible apply qc); rfl; rfl; rfl; with_reducible assumption; intro _ hC _ _) | ((with_reducible apply qr); rfl; rfl; intro _ _) | ((with_reducible apply qd); rfl; rfl; decide +kernel; intro _ _) | ((with_reducible apply qe); rfl; rfl; intro _ _) | (with_reducible rfl) | (with_reducible apply qn))
    have N34 := hide n34
    clear n34 n4
    refine (liveS_any g _ (Ch.new s) w4 ((unhide HC).new (unhide N34))).mono ?_
    rintro e w5 ⟨u, rfl, n5, hu⟩
    obtain ⟨ua, uk, rfl⟩ : ∃ a k, u = .slice a 0 k := by
      rcases hu with ⟨a, k, rfl, _⟩ | ⟨g6, cap6, rfl, _, _⟩
      · exact ⟨a, k, rfl⟩
      · exact ⟨_, cap6, rfl⟩
    have n35 := (unhide N34).trans n5
    have k5 := unhide HK _ n35
    have N35 := hide n35
    clear k4 hu n5 n35
    go_wp2_with (first | ((with_reducible apply qp); rfl; rfl; rfl; intro _ _ _) | ((with_reducible apply qc); rfl; rfl; rfl; with_reducible assumption; intro _ hC _ _) | ((with_reducible apply qr); rfl; rfl; intro _ _) | ((with_reducible apply qd); rfl; rfl; decide +kernel; intro _ _) | ((with_reducible apply qe); rfl; rfl; intro _ _) | (with_reducible rfl) | (with_reducible apply qn))
    refine ⟨k5, ?_⟩
    go_wp2_with (first | ((with_reducible apply qp); rfl; rfl; rfl; intro _ _ _) | ((with_reducible apply qc); rfl; rfl; rfl; with_reducible assumption; intro _ hC _ _) | ((with_reducible apply qr); rfl; rfl; intro _ _) | ((with_reducible apply qd); rfl; rfl; decide +kernel; intro _ _) | ((with_reducible apply qe); rfl; rfl; intro _ _) | (with_reducible rfl) | (with_reducible apply qn))
    have hag2 : Calls Tryz.prog 23 #[.pointer (some ⟨g, 0, none⟩)] w5 (Makes (.agg (MsgV.cells ⟨9, s.ch, 0, 0, z32i, 0, 1⟩).toArray) w5) :=
      again_any g _ w5 ((unhide HR).new (unhide N35)) ⟨Int.le_refl _, show (0 : Int) < 4294967296 by decide⟩ ⟨Int.le_refl _, show (0 : Int) < 4294967296 by decide⟩
    refine hag2.mono ?_
    rintro e w6 ⟨rfl, n6⟩
    have n36 := (unhide N35).trans n6
    have k6 := unhide HK _ n36
    have hfin := (unhide N3).trans n36
    clear k5 hag2 n6 n36
    go_wp2_with (first | ((with_reducible apply qp); rfl; rfl; rfl; intro _ _ _) | ((with_reducible apply qc); rfl; rfl; rfl; with_reducible assumption; intro _ hC _ _) | ((with_reducible apply qr); rfl; rfl; intro _ _) | ((with_reducible apply qd); rfl; rfl; decide +kernel; intro _ _) | ((with_reducible apply qe); rfl; rfl; intro _ _) | (with_reducible rfl) | (with_reducible apply qn))
    refine ⟨k6, ?_⟩
    go_wp2_with (first | ((with_reducible apply qp); rfl; rfl; rfl; intro _ _ _) | ((with_reducible apply qc); rfl; rfl; rfl; with_reducible assumption; intro _ hC _ _) | ((with_reducible apply qr); rfl; rfl; intro _ _) | ((with_reducible apply qd); rfl; rfl; decide +kernel; intro _ _) | ((with_reducible apply qe); rfl; rfl; intro _ _) | (with_reducible rfl) | (with_reducible apply qn))
    go_ret
    exact ⟨rfl, hfin⟩
  · obtain ⟨d1, d2, d35, d36, d0⟩ := e0 n3
    have N3 := hide ((unhide N2).trans n3)
    clear e0 n3
    have hso := hs.ours
    have hsc := hs.cap
    by_cases a1 : s.cap < 1
    · go_wp2_with fail
      go_ret
      exact ⟨rfl, unhide N3⟩
    by_cases a2 : 1125899906842624 < s.cap
    · go_wp2_with fail
      go_ret
      exact ⟨rfl, unhide N3⟩
    by_cases a3 : s.cap < s.ours
    · go_wp2_with fail
      go_ret
      exact ⟨rfl, unhide N3⟩
    by_cases a4 : (64 : Int) < (s.key.size : Int)
    · go_wp2_with fail
      go_ret
      exact ⟨rfl, unhide N3⟩
    by_cases a5 : (64 : Int) < (s.peer.size : Int)
    · go_wp2_with fail
      go_ret
      exact ⟨rfl, unhide N3⟩
    exact absurd ⟨by omega, by omega, by omega, by omega, by omega⟩ hm

end Go.Proofs.YtjpmomdechibmaaGreatDoor
