/-
  The law ChannelPays.
-/
import Derived.Test.YtjpmomdechibmaaGreatDoorQd
import Derived.Test.YtjpmomdechibmaaGreatDoorQa
namespace Go.Proofs.YtjpmomdechibmaaGreatDoor
set_option linter.unusedVariables false
set_option linter.unusedSimpArgs false
open Go.RowKit

attribute [local go_sem ↓ high] ld_hsh_fold st_hsh_fold al_hsh_fold bd_hsh_fold ld_msg_fold st_msg_fold al_msg_fold bd_msg_fold
attribute [local go_sem] ld_hsh st_hsh al_hsh bd_hsh rowN_drew ld_msg st_msg al_msg bd_msg_zero fld_base0 fld_base1

set_option maxRecDepth 100000 in
set_option maxHeartbeats 4000000 in
theorem pays_law (o c n q : Int) (fa : Bool) (w : World) (ho : 0 ≤ o ∧ o < 18446744073709551616) (hc : 0 ≤ c ∧ c < 18446744073709551616) (hn : 0 ≤ n ∧ n < 18446744073709551616) (hq : 0 ≤ q ∧ q ≤ 255) (hT : Tb w) : Calls Tryz.prog 7 #[.int .u64 o, .int .u64 c, .int .u64 n, .int .u8 q, .bool fa] w (Makes (.bool true) w) := by
  go_enter Tryz.func7, Tryz.ntmps7
  go_wp2_with fail
  refine (begin_any o c ho hc w).mono ?_
  rintro e w1 (⟨p, gA0, gB0, rfl, hm, hP⟩ | ⟨rfl, hno, n1⟩)
  case inr =>
    have hsh := shown_any w1 (hT.new n1)
    have HN := hide n1
    clear n1
    go_wp2_with fail
    refine hsh.mono ?_
    rintro e w2 ⟨rfl, n2⟩
    have hN := (unhide HN).trans n2
    by_cases c0 : c = 0
    · subst c0
      go_wp2_with fail
      go_ret
      exact ⟨rfl, hN⟩
    by_cases c1 : 1125899906842624 < c
    · go_wp2_with fail
      go_ret
      exact ⟨rfl, hN⟩
    by_cases c2 : c < o
    · go_wp2_with fail
      go_ret
      exact ⟨rfl, hN⟩
    exact absurd ⟨by omega, by omega, by omega⟩ hno
  have HL : Hid (PrL w w1 p ⟨Ch.new (setA o c), Ch.new (setB o c), [], [], false⟩ []) := hide (PrL.start hP.toS)
  have hsh := shown_any w1 (hT.new hP.two.n)
  clear hP
  go_wp2_with fail
  refine hsh.mono ?_
  rintro e w2 ⟨rfl, n2⟩
  have HL2 := hide ((unhide HL).new n2)
  clear HL hsh n2
  obtain ⟨A1, M, E, hoe⟩ : ∃ A1 M E, (Ch.new (setA o c)).offer n (hO q) 5 = (A1, M, E) := ⟨_, _, _, rfl⟩
  have hMo : MsgOk M := by
    by_cases h0 : n = 0
    · subst h0
      have e := (offA_zero (c := Ch.new (setA o c)) (h := hO q) rfl).symm.trans hoe
      injection e with _ e
      injection e with e _
      rw [← e]
      exact zeroM_ok
    · by_cases h1 : o < n
      · have e := (offA_many (c := Ch.new (setA o c)) (h := hO q) rfl h0 rfl h1).symm.trans hoe
        injection e with _ e
        injection e with e _
        rw [← e]
        exact zeroM_ok
      · obtain ⟨A1', M', P2', W⟩ := pay_way (o := o) (c := c) (n := n) q ⟨by omega, by omega⟩ (by omega) ⟨by omega, by omega⟩
        have e := W.off.symm.trans hoe
        injection e with _ e
        injection e with e _
        rw [← e]
        exact W.ok
  have hMl := hMo.len
  have HO := hide hoe
  have HMO := hide hMo
  clear hoe hMo
  obtain ⟨gA, gB, cA, -, -⟩ := (unhide HL2).cells
  go_upto_region 4 with fail
  have hpr := fun W => preimage_any q hq W
  have hof := fun W => refOf_any (preI q) (preI_len q) W
  have cAd : w2.drew.cell? ⟨p, 0, none⟩ = some (.pointer (some ⟨gA, 0, none⟩)) := cA
  go_cut [12, 13] from 12 to 53 (fun kv ev wx => ∃ K, kv = .pointer (some ⟨K, 0, none⟩) ∧ ev = .int .i64 E ∧ PrL w wx p ⟨A1, Ch.new (setB o c), [], [], false⟩ [(K, M)])
  case first =>
    refine wp_plan (fun w' => w'.cell? ⟨p, 0, none⟩ = some (.pointer (some ⟨gA, 0, none⟩))) [4] (.fork (.of [13, 0, 1, 2, 3, 4, 5, 6, 7, 8, 9, 10, 11, 12, 14, 15]) (Plan.pre [0, 1, 2, 3, 4, 5, 6, 7] (.fork (.of [13, 8, 9, 10, 11, 12, 14, 15]) (Plan.pre [8] (.fork (.of [13, 9, 10, 11, 12, 14, 15]) (.of [9, 10, 11, 12, 13, 14, 15])))))) (by kernel_rfl) (by kernel_rfl) cAd ?_
    simp only [Plan.of, Plan.pre]
    refine qf ?_ ?_
    · go_wp2_with (first | ((with_reducible apply qp); rfl; rfl; rfl; intro _ _ _) | ((with_reducible apply qc); rfl; rfl; rfl; with_reducible assumption; intro _ hC _ _) | ((with_reducible apply qr); rfl; rfl; intro _ _) | ((with_reducible apply qd); rfl; rfl; decide +kernel; intro _ _) | ((with_reducible apply qe); rfl; rfl; intro _ _) | (with_reducible rfl) | (with_reducible apply qn))
      have c1 : ((w2.alloc (.cells MsgV.zero.cells.toArray 30)).drew).cell? ⟨p, 0, none⟩ = some (.pointer (some ⟨gA, 0, none⟩)) := (((Upd.refl (fun _ => False) w2).alloc _).drew.cell cA (fun h => h))
      have H1 := (unhide HL2).alloc.new ((Upd.refl (fun _ => False) (w2.alloc (.cells MsgV.zero.cells.toArray 30))).drew)
      first | refine ⟨c1, ?_⟩ | skip
      generalize (w2.alloc (.cells MsgV.zero.cells.toArray 30)).drew = wa1 at c1 H1 ⊢
      generalize w2.heap.size = K1 at H1 ⊢
      have H1 := hide H1
      try go_wp2_with (first | ((with_reducible apply qp); rfl; rfl; rfl; intro _ _ _) | ((with_reducible apply qc); rfl; rfl; rfl; with_reducible assumption; intro _ hC _ _) | ((with_reducible apply qr); rfl; rfl; intro _ _) | ((with_reducible apply qd); rfl; rfl; decide +kernel; intro _ _) | ((with_reducible apply qe); rfl; rfl; intro _ _) | (with_reducible rfl) | (with_reducible apply qn))
      refine (hpr wa1).mono ?_
      rintro e w2 ⟨rfl, n2⟩
      have n2 := n2
      have c2 := n2.cell c1 (fun h => h)
      have H2 := hide ((unhide H1).new n2)
      go_wp2_with (first | (first | ((with_reducible apply qp); rfl; rfl; rfl; intro _ _ _) | ((with_reducible apply qc); rfl; rfl; rfl; with_reducible assumption; intro _ hC _ _) | ((with_reducible apply qr); rfl; rfl; intro _ _) | ((with_reducible apply qd); rfl; rfl; decide +kernel; intro _ _) | ((with_reducible apply qe); rfl; rfl; intro _ _) | (with_reducible rfl) | (with_reducible apply qn)) | refine ⟨c2, ?_⟩)
      refine (hof w2).mono ?_
      rintro e w3 ⟨rfl, n3⟩
      have n3 := n3
      have c3 := n3.cell c2 (fun h => h)
      have H3 := hide ((unhide H2).new n3)
      go_wp2_with (first | (first | ((with_reducible apply qp); rfl; rfl; rfl; intro _ _ _) | ((with_reducible apply qc); rfl; rfl; rfl; with_reducible assumption; intro _ hC _ _) | ((with_reducible apply qr); rfl; rfl; intro _ _) | ((with_reducible apply qd); rfl; rfl; decide +kernel; intro _ _) | ((with_reducible apply qe); rfl; rfl; intro _ _) | (with_reducible rfl) | (with_reducible apply qn)) | refine ⟨c3, ?_⟩)
      have hcall := offer0L hT (unhide H3) c3 n (ofI (preI q)) 5 (ofI_len _) (ofI_bytes _) hn ⟨by decide, by decide⟩ ⟨show (0 : Nat) < 1000000 by decide, show (0 : Nat) < 1000000 by decide⟩
      rw [show (Ch.new (setA o c)).offer n (hvec (ofI (preI q))) 5 = (A1, M, E) from unhide HO] at hcall
      refine hcall.mono ?_
      rintro e w4 ⟨rfl, H4, kp4⟩
      have c4 := kp4 _ _ c3
      have H4 := hide H4
      clear hcall kp4
      have hst := ((unhide H4).msb (List.mem_cons_self ..)).stOk hMl
      have H5 := hide ((unhide H4).put hMl)
      go_wp2_with (first | (first | ((with_reducible apply qp); rfl; rfl; rfl; intro _ _ _) | ((with_reducible apply qc); rfl; rfl; rfl; with_reducible assumption; intro _ hC _ _) | ((with_reducible apply qr); rfl; rfl; intro _ _) | ((with_reducible apply qd); rfl; rfl; decide +kernel; intro _ _) | ((with_reducible apply qe); rfl; rfl; intro _ _) | (with_reducible rfl) | (with_reducible apply qn)) | refine ⟨c4, ?_⟩)
      go_meet
      case rel => exact ⟨K1, rfl, rfl, unhide H5⟩
    · go_wp2_with (first | ((with_reducible apply qp); rfl; rfl; rfl; intro _ _ _) | ((with_reducible apply qc); rfl; rfl; rfl; with_reducible assumption; intro _ hC _ _) | ((with_reducible apply qr); rfl; rfl; intro _ _) | ((with_reducible apply qd); rfl; rfl; decide +kernel; intro _ _) | ((with_reducible apply qe); rfl; rfl; intro _ _) | (with_reducible rfl) | (with_reducible apply qn))
      refine (hpr w2.drew).mono ?_
      rintro e w1 ⟨rfl, n1⟩
      have n1 := n1.ofDrew
      have c1 := n1.cell cA (fun h => h)
      have H1 := hide ((unhide HL2).new n1)
      go_wp2_with (first | (first | ((with_reducible apply qp); rfl; rfl; rfl; intro _ _ _) | ((with_reducible apply qc); rfl; rfl; rfl; with_reducible assumption; intro _ hC _ _) | ((with_reducible apply qr); rfl; rfl; intro _ _) | ((with_reducible apply qd); rfl; rfl; decide +kernel; intro _ _) | ((with_reducible apply qe); rfl; rfl; intro _ _) | (with_reducible rfl) | (with_reducible apply qn)) | refine ⟨c1, ?_⟩)
      refine qf ?_ ?_
      · go_wp2_with (first | ((with_reducible apply qp); rfl; rfl; rfl; intro _ _ _) | ((with_reducible apply qc); rfl; rfl; rfl; with_reducible assumption; intro _ hC _ _) | ((with_reducible apply qr); rfl; rfl; intro _ _) | ((with_reducible apply qd); rfl; rfl; decide +kernel; intro _ _) | ((with_reducible apply qe); rfl; rfl; intro _ _) | (with_reducible rfl) | (with_reducible apply qn))
        have c2 : ((w1.alloc (.cells MsgV.zero.cells.toArray 30))).cell? ⟨p, 0, none⟩ = some (.pointer (some ⟨gA, 0, none⟩)) := (((Upd.refl (fun _ => False) w1).alloc _).cell c1 (fun h => h))
        have H2 := (unhide H1).alloc
        first | refine ⟨c2, ?_⟩ | skip
        generalize (w1.alloc (.cells MsgV.zero.cells.toArray 30)) = wa2 at c2 H2 ⊢
        generalize w1.heap.size = K2 at H2 ⊢
        have H2 := hide H2
        try go_wp2_with (first | ((with_reducible apply qp); rfl; rfl; rfl; intro _ _ _) | ((with_reducible apply qc); rfl; rfl; rfl; with_reducible assumption; intro _ hC _ _) | ((with_reducible apply qr); rfl; rfl; intro _ _) | ((with_reducible apply qd); rfl; rfl; decide +kernel; intro _ _) | ((with_reducible apply qe); rfl; rfl; intro _ _) | (with_reducible rfl) | (with_reducible apply qn))
        refine (hof wa2).mono ?_
        rintro e w3 ⟨rfl, n3⟩
        have n3 := n3
        have c3 := n3.cell c2 (fun h => h)
        have H3 := hide ((unhide H2).new n3)
        go_wp2_with (first | (first | ((with_reducible apply qp); rfl; rfl; rfl; intro _ _ _) | ((with_reducible apply qc); rfl; rfl; rfl; with_reducible assumption; intro _ hC _ _) | ((with_reducible apply qr); rfl; rfl; intro _ _) | ((with_reducible apply qd); rfl; rfl; decide +kernel; intro _ _) | ((with_reducible apply qe); rfl; rfl; intro _ _) | (with_reducible rfl) | (with_reducible apply qn)) | refine ⟨c3, ?_⟩)
        have hcall := offer0L hT (unhide H3) c3 n (ofI (preI q)) 5 (ofI_len _) (ofI_bytes _) hn ⟨by decide, by decide⟩ ⟨show (0 : Nat) < 1000000 by decide, show (0 : Nat) < 1000000 by decide⟩
        rw [show (Ch.new (setA o c)).offer n (hvec (ofI (preI q))) 5 = (A1, M, E) from unhide HO] at hcall
        refine hcall.mono ?_
        rintro e w4 ⟨rfl, H4, kp4⟩
        have c4 := kp4 _ _ c3
        have H4 := hide H4
        clear hcall kp4
        have hst := ((unhide H4).msb (List.mem_cons_self ..)).stOk hMl
        have H5 := hide ((unhide H4).put hMl)
        go_wp2_with (first | (first | ((with_reducible apply qp); rfl; rfl; rfl; intro _ _ _) | ((with_reducible apply qc); rfl; rfl; rfl; with_reducible assumption; intro _ hC _ _) | ((with_reducible apply qr); rfl; rfl; intro _ _) | ((with_reducible apply qd); rfl; rfl; decide +kernel; intro _ _) | ((with_reducible apply qe); rfl; rfl; intro _ _) | (with_reducible rfl) | (with_reducible apply qn)) | refine ⟨c4, ?_⟩)
        go_meet
        case rel => exact ⟨K2, rfl, rfl, unhide H5⟩
      · go_wp2_with (first | ((with_reducible apply qp); rfl; rfl; rfl; intro _ _ _) | ((with_reducible apply qc); rfl; rfl; rfl; with_reducible assumption; intro _ hC _ _) | ((with_reducible apply qr); rfl; rfl; intro _ _) | ((with_reducible apply qd); rfl; rfl; decide +kernel; intro _ _) | ((with_reducible apply qe); rfl; rfl; intro _ _) | (with_reducible rfl) | (with_reducible apply qn))
        refine (hof w1).mono ?_
        rintro e w2 ⟨rfl, n2⟩
        have n2 := n2
        have c2 := n2.cell c1 (fun h => h)
        have H2 := hide ((unhide H1).new n2)
        go_wp2_with (first | (first | ((with_reducible apply qp); rfl; rfl; rfl; intro _ _ _) | ((with_reducible apply qc); rfl; rfl; rfl; with_reducible assumption; intro _ hC _ _) | ((with_reducible apply qr); rfl; rfl; intro _ _) | ((with_reducible apply qd); rfl; rfl; decide +kernel; intro _ _) | ((with_reducible apply qe); rfl; rfl; intro _ _) | (with_reducible rfl) | (with_reducible apply qn)) | refine ⟨c2, ?_⟩)
        refine qf ?_ ?_
        · go_wp2_with (first | ((with_reducible apply qp); rfl; rfl; rfl; intro _ _ _) | ((with_reducible apply qc); rfl; rfl; rfl; with_reducible assumption; intro _ hC _ _) | ((with_reducible apply qr); rfl; rfl; intro _ _) | ((with_reducible apply qd); rfl; rfl; decide +kernel; intro _ _) | ((with_reducible apply qe); rfl; rfl; intro _ _) | (with_reducible rfl) | (with_reducible apply qn))
          have c3 : ((w2.alloc (.cells MsgV.zero.cells.toArray 30))).cell? ⟨p, 0, none⟩ = some (.pointer (some ⟨gA, 0, none⟩)) := (((Upd.refl (fun _ => False) w2).alloc _).cell c2 (fun h => h))
          have H3 := (unhide H2).alloc
          first | refine ⟨c3, ?_⟩ | skip
          generalize (w2.alloc (.cells MsgV.zero.cells.toArray 30)) = wa3 at c3 H3 ⊢
          generalize w2.heap.size = K3 at H3 ⊢
          have H3 := hide H3
          try go_wp2_with (first | ((with_reducible apply qp); rfl; rfl; rfl; intro _ _ _) | ((with_reducible apply qc); rfl; rfl; rfl; with_reducible assumption; intro _ hC _ _) | ((with_reducible apply qr); rfl; rfl; intro _ _) | ((with_reducible apply qd); rfl; rfl; decide +kernel; intro _ _) | ((with_reducible apply qe); rfl; rfl; intro _ _) | (with_reducible rfl) | (with_reducible apply qn))
          have hcall := offer0L hT (unhide H3) c3 n (ofI (preI q)) 5 (ofI_len _) (ofI_bytes _) hn ⟨by decide, by decide⟩ ⟨show (0 : Nat) < 1000000 by decide, show (0 : Nat) < 1000000 by decide⟩
          rw [show (Ch.new (setA o c)).offer n (hvec (ofI (preI q))) 5 = (A1, M, E) from unhide HO] at hcall
          refine hcall.mono ?_
          rintro e w4 ⟨rfl, H4, kp4⟩
          have c4 := kp4 _ _ c3
          have H4 := hide H4
          clear hcall kp4
          have hst := ((unhide H4).msb (List.mem_cons_self ..)).stOk hMl
          have H5 := hide ((unhide H4).put hMl)
          go_wp2_with (first | (first | ((with_reducible apply qp); rfl; rfl; rfl; intro _ _ _) | ((with_reducible apply qc); rfl; rfl; rfl; with_reducible assumption; intro _ hC _ _) | ((with_reducible apply qr); rfl; rfl; intro _ _) | ((with_reducible apply qd); rfl; rfl; decide +kernel; intro _ _) | ((with_reducible apply qe); rfl; rfl; intro _ _) | (with_reducible rfl) | (with_reducible apply qn)) | refine ⟨c4, ?_⟩)
          go_meet
          case rel => exact ⟨K3, rfl, rfl, unhide H5⟩
        · go_wp2_with (first | ((with_reducible apply qp); rfl; rfl; rfl; intro _ _ _) | ((with_reducible apply qc); rfl; rfl; rfl; with_reducible assumption; intro _ hC _ _) | ((with_reducible apply qr); rfl; rfl; intro _ _) | ((with_reducible apply qd); rfl; rfl; decide +kernel; intro _ _) | ((with_reducible apply qe); rfl; rfl; intro _ _) | (with_reducible rfl) | (with_reducible apply qn))
          have hcall := offer0L hT (unhide H2) c2 n (ofI (preI q)) 5 (ofI_len _) (ofI_bytes _) hn ⟨by decide, by decide⟩ ⟨show (0 : Nat) < 1000000 by decide, show (0 : Nat) < 1000000 by decide⟩
          rw [show (Ch.new (setA o c)).offer n (hvec (ofI (preI q))) 5 = (A1, M, E) from unhide HO] at hcall
          refine hcall.mono ?_
          rintro e w3 ⟨rfl, H3, kp3⟩
          have c3 := kp3 _ _ c2
          have H3 := hide H3
          clear hcall kp3
          go_wp2_with (first | (first | ((with_reducible apply qp); rfl; rfl; rfl; intro _ _ _) | ((with_reducible apply qc); rfl; rfl; rfl; with_reducible assumption; intro _ hC _ _) | ((with_reducible apply qr); rfl; rfl; intro _ _) | ((with_reducible apply qd); rfl; rfl; decide +kernel; intro _ _) | ((with_reducible apply qe); rfl; rfl; intro _ _) | (with_reducible rfl) | (with_reducible apply qn)) | refine ⟨c3, ?_⟩)
          have c4 : ((w3.alloc (.cells MsgV.zero.cells.toArray 30))).cell? ⟨p, 0, none⟩ = some (.pointer (some ⟨gA, 0, none⟩)) := (((Upd.refl (fun _ => False) w3).alloc _).cell c3 (fun h => h))
          have H4 := (unhide H3).alloc
          first | refine ⟨c4, ?_⟩ | skip
          generalize (w3.alloc (.cells MsgV.zero.cells.toArray 30)) = wa4 at c4 H4 ⊢
          generalize w3.heap.size = K4 at H4 ⊢
          have H4 := hide H4
          have hst := ((unhide H4).msb (List.mem_cons_self ..)).stOk hMl
          have H5 := hide ((unhide H4).put hMl)
          try go_wp2_with (first | ((with_reducible apply qp); rfl; rfl; rfl; intro _ _ _) | ((with_reducible apply qc); rfl; rfl; rfl; with_reducible assumption; intro _ hC _ _) | ((with_reducible apply qr); rfl; rfl; intro _ _) | ((with_reducible apply qd); rfl; rfl; decide +kernel; intro _ _) | ((with_reducible apply qe); rfl; rfl; intro _ _) | (with_reducible rfl) | (with_reducible apply qn))
          go_meet
          case rel => exact ⟨K4, rfl, rfl, unhide H5⟩
  case rest =>
    obtain ⟨K, rfl, rfl, hX⟩ := hcut
    obtain ⟨w3, rfl⟩ : ∃ w3 : World, w3 = wc := ⟨_, rfl⟩
    have rK := (hX.msb (List.mem_cons_self ..)).row
    have hsay := says0L hX M E (unhide HMO) (show 0 < 1000000 by decide)
    clear hX hpr hof cA cAd HL2
    go_wp2_with (first | ((with_reducible apply tp); rfl; rfl; intro _ _ _) | ((with_reducible apply tr); rfl; intro _ _) | ((with_reducible apply te); rfl; intro _ _) | (with_reducible rfl) | (with_reducible apply tn) | ((with_reducible apply wp_txt); kernel_rfl; decide +kernel))
    refine hsay.mono ?_
    rintro e w4 ⟨rfl, h4⟩
    have H4 := hide h4
    clear hsay rK h4
    by_cases h0 : n = 0
    · subst h0
      have e := (offA_zero (c := Ch.new (setA o c)) (h := hO q) rfl).symm.trans (unhide HO)
      injection e with _ e
      injection e with _ e
      subst e
      clear HO
      go_wp2_with (first | ((with_reducible apply tp); rfl; rfl; intro _ _ _) | ((with_reducible apply tr); rfl; intro _ _) | ((with_reducible apply te); rfl; intro _ _) | (with_reducible rfl) | (with_reducible apply tn) | ((with_reducible apply wp_txt); kernel_rfl; decide +kernel))
      go_ret
      exact ⟨rfl, (unhide H4).n⟩
    by_cases h1 : o < n
    · have e := (offA_many (c := Ch.new (setA o c)) (h := hO q) rfl h0 rfl h1).symm.trans (unhide HO)
      injection e with _ e
      injection e with _ e
      subst e
      clear HO
      go_wp2_with (first | ((with_reducible apply tp); rfl; rfl; intro _ _ _) | ((with_reducible apply tr); rfl; intro _ _) | ((with_reducible apply te); rfl; intro _ _) | (with_reducible rfl) | (with_reducible apply tn) | ((with_reducible apply wp_txt); kernel_rfl; decide +kernel))
      go_ret
      exact ⟨rfl, (unhide H4).n⟩
    obtain ⟨A1', M', P2, W⟩ := pay_way (o := o) (c := c) (n := n) q ⟨by omega, by omega⟩ (by omega) ⟨by omega, by omega⟩
    have e := W.off.symm.trans (unhide HO)
    injection e with e1 e
    injection e with e2 e
    subst e1
    subst e2
    subst e
    have h4 : PrL w w4 p ⟨A1', Ch.new (setB o c), [], [M'], false⟩ [(K, M')] := unhide H4
    have hre := restsL hT h4 W.go
    have HW := hide W
    clear h4 H4 HO W
    have d0 : (n == 0) = false := beq_eq_false_iff_ne.2 h0
    have d1 : decide (o < n) = false := decide_eq_false h1
    go_wp2_with (first | ((with_reducible apply tp); rfl; rfl; intro _ _ _) | ((with_reducible apply tr); rfl; intro _ _) | ((with_reducible apply te); rfl; intro _ _) | (with_reducible rfl) | (with_reducible apply tn) | ((with_reducible apply wp_txt); kernel_rfl; decide +kernel))
    refine hre.mono ?_
    rintro e w5 ⟨rfl, h5⟩
    obtain ⟨gA5, gB5, -, cB, -⟩ := h5.cells
    have cBd : w5.drew.cell? ⟨p, 1, none⟩ = some (.pointer (some ⟨gB5, 0, none⟩)) := cB
    have hqb : 0 ≤ IntKind.u8.wrap (q + 1) ∧ IntKind.u8.wrap (q + 1) ≤ 255 := by
      have : IntKind.u8.wrap (q + 1) = (q + 1) % 256 := rfl
      omega
    have hpr := fun W => preimage_any (IntKind.u8.wrap (q + 1)) hqb W
    have HBD := hide (opens_next hq)
    have HL5 := hide h5
    clear hre h5
    go_upto_region 9 with (first | ((with_reducible apply tp); rfl; rfl; intro _ _ _) | ((with_reducible apply tr); rfl; intro _ _) | ((with_reducible apply te); rfl; intro _ _) | (with_reducible rfl) | (with_reducible apply tn) | ((with_reducible apply wp_txt); kernel_rfl; decide +kernel))
    go_cut [15] from 14 to 93 (fun ev wx => ev = .int .i64 132 ∧ PrL w wx p P2 [(K, M')])
    case first =>
      refine wp_plan (fun w' => w'.cell? ⟨p, 1, none⟩ = some (.pointer (some ⟨gB5, 0, none⟩))) [4] (.fork (.of [12, 0, 1, 2, 3, 4, 5, 6, 7, 8, 9, 10, 11, 13, 14]) (Plan.pre [0, 1, 2, 3, 4, 5, 6, 7] (.fork (.of [12, 8, 9, 10, 11, 13, 14]) (.of [8, 9, 10, 11, 12, 13, 14])))) (by kernel_rfl) (by kernel_rfl) cBd ?_
      simp only [Plan.of, Plan.pre]
      refine qf ?_ ?_
      · go_wp2_with (first | ((with_reducible apply qp); rfl; rfl; rfl; intro _ _ _) | ((with_reducible apply qc); rfl; rfl; rfl; with_reducible assumption; intro _ hC _ _) | ((with_reducible apply qr); rfl; rfl; intro _ _) | ((with_reducible apply qd); rfl; rfl; decide +kernel; intro _ _) | ((with_reducible apply qe); rfl; rfl; intro _ _) | (with_reducible rfl) | (with_reducible apply qn))
        have c6 : ((w5.alloc (.cells MsgV.zero.cells.toArray 30)).drew).cell? ⟨p, 1, none⟩ = some (.pointer (some ⟨gB5, 0, none⟩)) := (((Upd.refl (fun _ => False) w5).alloc _).drew.cell cB (fun h => h))
        have H6 := (unhide HL5).alloc.new ((Upd.refl (fun _ => False) (w5.alloc (.cells MsgV.zero.cells.toArray 30))).drew)
        first | refine ⟨c6, ?_⟩ | skip
        generalize (w5.alloc (.cells MsgV.zero.cells.toArray 30)).drew = wa6 at c6 H6 ⊢
        generalize w5.heap.size = K6 at H6 ⊢
        have H6 := hide H6
        try go_wp2_with (first | ((with_reducible apply qp); rfl; rfl; rfl; intro _ _ _) | ((with_reducible apply qc); rfl; rfl; rfl; with_reducible assumption; intro _ hC _ _) | ((with_reducible apply qr); rfl; rfl; intro _ _) | ((with_reducible apply qd); rfl; rfl; decide +kernel; intro _ _) | ((with_reducible apply qe); rfl; rfl; intro _ _) | (with_reducible rfl) | (with_reducible apply qn))
        refine (hpr wa6).mono ?_
        rintro e w7 ⟨rfl, n7⟩
        have n7 := n7
        have c7 := n7.cell c6 (fun h => h)
        have H7 := hide ((unhide H6).new n7)
        go_wp2_with (first | (first | ((with_reducible apply qp); rfl; rfl; rfl; intro _ _ _) | ((with_reducible apply qc); rfl; rfl; rfl; with_reducible assumption; intro _ hC _ _) | ((with_reducible apply qr); rfl; rfl; intro _ _) | ((with_reducible apply qd); rfl; rfl; decide +kernel; intro _ _) | ((with_reducible apply qe); rfl; rfl; intro _ _) | (with_reducible rfl) | (with_reducible apply qn)) | refine ⟨c7, ?_⟩)
        have hcall := fulfill1L hT (unhide H7) c7 0 (preI (IntKind.u8.wrap (q + 1))) (preI_len _) (show P2.b.news.length < 1000000 by rw [(unhide HW).none.2.2.2]; decide)
        rw [(unhide HW).bad _ (unhide HBD)] at hcall
        refine hcall.mono ?_
        rintro e w8 ⟨rfl, H8, kp8⟩
        have c8 := kp8 _ _ c7
        have H8 := hide H8
        clear hcall kp8
        have hst := ((unhide H8).msb (List.mem_cons_self ..)).stOk (show MsgV.zero.hash.length = 32 from z32i_len)
        have H9 := hide ((unhide H8).put (show MsgV.zero.hash.length = 32 from z32i_len))
        go_wp2_with (first | (first | ((with_reducible apply qp); rfl; rfl; rfl; intro _ _ _) | ((with_reducible apply qc); rfl; rfl; rfl; with_reducible assumption; intro _ hC _ _) | ((with_reducible apply qr); rfl; rfl; intro _ _) | ((with_reducible apply qd); rfl; rfl; decide +kernel; intro _ _) | ((with_reducible apply qe); rfl; rfl; intro _ _) | (with_reducible rfl) | (with_reducible apply qn)) | refine ⟨c8, ?_⟩)
        go_meet
        case rel => exact ⟨rfl, (unhide H9).drop⟩
      · go_wp2_with (first | ((with_reducible apply qp); rfl; rfl; rfl; intro _ _ _) | ((with_reducible apply qc); rfl; rfl; rfl; with_reducible assumption; intro _ hC _ _) | ((with_reducible apply qr); rfl; rfl; intro _ _) | ((with_reducible apply qd); rfl; rfl; decide +kernel; intro _ _) | ((with_reducible apply qe); rfl; rfl; intro _ _) | (with_reducible rfl) | (with_reducible apply qn))
        refine (hpr w5.drew).mono ?_
        rintro e w6 ⟨rfl, n6⟩
        have n6 := n6.ofDrew
        have c6 := n6.cell cB (fun h => h)
        have H6 := hide ((unhide HL5).new n6)
        go_wp2_with (first | (first | ((with_reducible apply qp); rfl; rfl; rfl; intro _ _ _) | ((with_reducible apply qc); rfl; rfl; rfl; with_reducible assumption; intro _ hC _ _) | ((with_reducible apply qr); rfl; rfl; intro _ _) | ((with_reducible apply qd); rfl; rfl; decide +kernel; intro _ _) | ((with_reducible apply qe); rfl; rfl; intro _ _) | (with_reducible rfl) | (with_reducible apply qn)) | refine ⟨c6, ?_⟩)
        refine qf ?_ ?_
        · go_wp2_with (first | ((with_reducible apply qp); rfl; rfl; rfl; intro _ _ _) | ((with_reducible apply qc); rfl; rfl; rfl; with_reducible assumption; intro _ hC _ _) | ((with_reducible apply qr); rfl; rfl; intro _ _) | ((with_reducible apply qd); rfl; rfl; decide +kernel; intro _ _) | ((with_reducible apply qe); rfl; rfl; intro _ _) | (with_reducible rfl) | (with_reducible apply qn))
          have c7 : ((w6.alloc (.cells MsgV.zero.cells.toArray 30))).cell? ⟨p, 1, none⟩ = some (.pointer (some ⟨gB5, 0, none⟩)) := (((Upd.refl (fun _ => False) w6).alloc _).cell c6 (fun h => h))
          have H7 := (unhide H6).alloc
          first | refine ⟨c7, ?_⟩ | skip
          generalize (w6.alloc (.cells MsgV.zero.cells.toArray 30)) = wa7 at c7 H7 ⊢
          generalize w6.heap.size = K7 at H7 ⊢
          have H7 := hide H7
          try go_wp2_with (first | ((with_reducible apply qp); rfl; rfl; rfl; intro _ _ _) | ((with_reducible apply qc); rfl; rfl; rfl; with_reducible assumption; intro _ hC _ _) | ((with_reducible apply qr); rfl; rfl; intro _ _) | ((with_reducible apply qd); rfl; rfl; decide +kernel; intro _ _) | ((with_reducible apply qe); rfl; rfl; intro _ _) | (with_reducible rfl) | (with_reducible apply qn))
          have hcall := fulfill1L hT (unhide H7) c7 0 (preI (IntKind.u8.wrap (q + 1))) (preI_len _) (show P2.b.news.length < 1000000 by rw [(unhide HW).none.2.2.2]; decide)
          rw [(unhide HW).bad _ (unhide HBD)] at hcall
          refine hcall.mono ?_
          rintro e w8 ⟨rfl, H8, kp8⟩
          have c8 := kp8 _ _ c7
          have H8 := hide H8
          clear hcall kp8
          have hst := ((unhide H8).msb (List.mem_cons_self ..)).stOk (show MsgV.zero.hash.length = 32 from z32i_len)
          have H9 := hide ((unhide H8).put (show MsgV.zero.hash.length = 32 from z32i_len))
          go_wp2_with (first | (first | ((with_reducible apply qp); rfl; rfl; rfl; intro _ _ _) | ((with_reducible apply qc); rfl; rfl; rfl; with_reducible assumption; intro _ hC _ _) | ((with_reducible apply qr); rfl; rfl; intro _ _) | ((with_reducible apply qd); rfl; rfl; decide +kernel; intro _ _) | ((with_reducible apply qe); rfl; rfl; intro _ _) | (with_reducible rfl) | (with_reducible apply qn)) | refine ⟨c8, ?_⟩)
          go_meet
          case rel => exact ⟨rfl, (unhide H9).drop⟩
        · go_wp2_with (first | ((with_reducible apply qp); rfl; rfl; rfl; intro _ _ _) | ((with_reducible apply qc); rfl; rfl; rfl; with_reducible assumption; intro _ hC _ _) | ((with_reducible apply qr); rfl; rfl; intro _ _) | ((with_reducible apply qd); rfl; rfl; decide +kernel; intro _ _) | ((with_reducible apply qe); rfl; rfl; intro _ _) | (with_reducible rfl) | (with_reducible apply qn))
          have hcall := fulfill1L hT (unhide H6) c6 0 (preI (IntKind.u8.wrap (q + 1))) (preI_len _) (show P2.b.news.length < 1000000 by rw [(unhide HW).none.2.2.2]; decide)
          rw [(unhide HW).bad _ (unhide HBD)] at hcall
          refine hcall.mono ?_
          rintro e w7 ⟨rfl, H7, kp7⟩
          have c7 := kp7 _ _ c6
          have H7 := hide H7
          clear hcall kp7
          go_wp2_with (first | (first | ((with_reducible apply qp); rfl; rfl; rfl; intro _ _ _) | ((with_reducible apply qc); rfl; rfl; rfl; with_reducible assumption; intro _ hC _ _) | ((with_reducible apply qr); rfl; rfl; intro _ _) | ((with_reducible apply qd); rfl; rfl; decide +kernel; intro _ _) | ((with_reducible apply qe); rfl; rfl; intro _ _) | (with_reducible rfl) | (with_reducible apply qn)) | refine ⟨c7, ?_⟩)
          have c8 : ((w7.alloc (.cells MsgV.zero.cells.toArray 30))).cell? ⟨p, 1, none⟩ = some (.pointer (some ⟨gB5, 0, none⟩)) := (((Upd.refl (fun _ => False) w7).alloc _).cell c7 (fun h => h))
          have H8 := (unhide H7).alloc
          first | refine ⟨c8, ?_⟩ | skip
          generalize (w7.alloc (.cells MsgV.zero.cells.toArray 30)) = wa8 at c8 H8 ⊢
          generalize w7.heap.size = K8 at H8 ⊢
          have H8 := hide H8
          have hst := ((unhide H8).msb (List.mem_cons_self ..)).stOk (show MsgV.zero.hash.length = 32 from z32i_len)
          have H9 := hide ((unhide H8).put (show MsgV.zero.hash.length = 32 from z32i_len))
          try go_wp2_with (first | ((with_reducible apply qp); rfl; rfl; rfl; intro _ _ _) | ((with_reducible apply qc); rfl; rfl; rfl; with_reducible assumption; intro _ hC _ _) | ((with_reducible apply qr); rfl; rfl; intro _ _) | ((with_reducible apply qd); rfl; rfl; decide +kernel; intro _ _) | ((with_reducible apply qe); rfl; rfl; intro _ _) | (with_reducible rfl) | (with_reducible apply qn))
          go_meet
          case rel => exact ⟨rfl, (unhide H9).drop⟩
    case rest =>
      obtain ⟨rfl, hX⟩ := hcut
      obtain ⟨w6, rfl⟩ : ∃ w6 : World, w6 = wc := ⟨_, rfl⟩
      have hwl : IntKind.u64.wrap (o - n) = o - n := wrapU (by omega) (by omega)
      obtain ⟨gA6, gB6, -, cB, -⟩ := hX.cells
      have HX := hide hX
      clear hX HL5 cBd hpr HBD hqb
      cases fa
      · obtain ⟨B, F, P3, hf, hFo, hr, hS⟩ := (unhide HW).pays
        have hFl := hFo.len
        have HFE := hide hf
        have HFO := hide hFo
        have HR := hide hr
        have HS := hide hS
        have cBd : w6.drew.cell? ⟨p, 1, none⟩ = some (.pointer (some ⟨gB6, 0, none⟩)) := cB
        have hpr := fun W => preimage_any q hq W
        clear hf hFo hr hS
        go_upto_region 16 with (first | ((with_reducible apply tp); rfl; rfl; intro _ _ _) | ((with_reducible apply tr); rfl; intro _ _) | ((with_reducible apply te); rfl; intro _ _) | (with_reducible rfl) | (with_reducible apply tn) | ((with_reducible apply wp_txt); kernel_rfl; decide +kernel))
        refine wp_plan (fun w' => w'.cell? ⟨p, 1, none⟩ = some (.pointer (some ⟨gB6, 0, none⟩))) [4] (.of [0, 1, 2, 3, 4, 5, 6, 7, 8, 9, 10, 11, 12]) (by kernel_rfl) (by kernel_rfl) cBd ?_
        simp only [Plan.of]
        go_wp2_with (first | ((with_reducible apply qp); rfl; rfl; rfl; intro _ _ _) | ((with_reducible apply qc); rfl; rfl; rfl; with_reducible assumption; intro _ hC _ _) | ((with_reducible apply qr); rfl; rfl; intro _ _) | ((with_reducible apply qd); rfl; rfl; decide +kernel; intro _ _) | ((with_reducible apply qe); rfl; rfl; intro _ _) | (with_reducible rfl) | (with_reducible apply qn))
        refine (hpr _).mono ?_
        rintro e w7 ⟨rfl, n7⟩
        have n7 := n7.ofDrew
        have c7 := n7.cell cB (fun h => h)
        have hfu := fulfill1L hT ((unhide HX).new n7) c7 0 (preI q) (preI_len _) (show P2.b.news.length < 1000000 by rw [(unhide HW).none.2.2.2]; decide)
        rw [unhide HFE] at hfu
        clear hpr n7
        go_wp2_with (first | ((with_reducible apply qp); rfl; rfl; rfl; intro _ _ _) | ((with_reducible apply qc); rfl; rfl; rfl; with_reducible assumption; intro _ hC _ _) | ((with_reducible apply qr); rfl; rfl; intro _ _) | ((with_reducible apply qd); rfl; rfl; decide +kernel; intro _ _) | ((with_reducible apply qe); rfl; rfl; intro _ _) | (with_reducible rfl) | (with_reducible apply qn))
        refine ⟨c7, ?_⟩
        go_wp2_with (first | ((with_reducible apply qp); rfl; rfl; rfl; intro _ _ _) | ((with_reducible apply qc); rfl; rfl; rfl; with_reducible assumption; intro _ hC _ _) | ((with_reducible apply qr); rfl; rfl; intro _ _) | ((with_reducible apply qd); rfl; rfl; decide +kernel; intro _ _) | ((with_reducible apply qe); rfl; rfl; intro _ _) | (with_reducible rfl) | (with_reducible apply qn))
        refine hfu.mono ?_
        rintro e w7b ⟨rfl, h7, kp⟩
        have c8 := kp _ _ c7
        have hst := (h7.msb (List.mem_cons_self ..)).stOk hFl
        have H8 := hide (h7.put hFl)
        clear hfu h7 HX cB kp c7 cBd HFE
        go_upto_region 17 with (first | ((with_reducible apply qp); rfl; rfl; rfl; intro _ _ _) | ((with_reducible apply qc); rfl; rfl; rfl; with_reducible assumption; intro _ hC _ _) | ((with_reducible apply qr); rfl; rfl; intro _ _) | ((with_reducible apply qd); rfl; rfl; decide +kernel; intro _ _) | ((with_reducible apply qe); rfl; rfl; intro _ _) | (with_reducible rfl) | (with_reducible apply qn))
        first | (refine ⟨c8, ?_⟩; go_upto_region 17 with (first | ((with_reducible apply qp); rfl; rfl; rfl; intro _ _ _) | ((with_reducible apply qc); rfl; rfl; rfl; with_reducible assumption; intro _ hC _ _) | ((with_reducible apply qr); rfl; rfl; intro _ _) | ((with_reducible apply qd); rfl; rfl; decide +kernel; intro _ _) | ((with_reducible apply qe); rfl; rfl; intro _ _) | (with_reducible rfl) | (with_reducible apply qn))) | (refine ⟨trivial, ?_⟩; go_upto_region 17 with (first | ((with_reducible apply qp); rfl; rfl; rfl; intro _ _ _) | ((with_reducible apply qc); rfl; rfl; rfl; with_reducible assumption; intro _ hC _ _) | ((with_reducible apply qr); rfl; rfl; intro _ _) | ((with_reducible apply qd); rfl; rfl; decide +kernel; intro _ _) | ((with_reducible apply qe); rfl; rfl; intro _ _) | (with_reducible rfl) | (with_reducible apply qn))) | skip
        first | (refine ⟨c8, ?_⟩; go_upto_region 17 with (first | ((with_reducible apply qp); rfl; rfl; rfl; intro _ _ _) | ((with_reducible apply qc); rfl; rfl; rfl; with_reducible assumption; intro _ hC _ _) | ((with_reducible apply qr); rfl; rfl; intro _ _) | ((with_reducible apply qd); rfl; rfl; decide +kernel; intro _ _) | ((with_reducible apply qe); rfl; rfl; intro _ _) | (with_reducible rfl) | (with_reducible apply qn))) | (refine ⟨trivial, ?_⟩; go_upto_region 17 with (first | ((with_reducible apply qp); rfl; rfl; rfl; intro _ _ _) | ((with_reducible apply qc); rfl; rfl; rfl; with_reducible assumption; intro _ hC _ _) | ((with_reducible apply qr); rfl; rfl; intro _ _) | ((with_reducible apply qd); rfl; rfl; decide +kernel; intro _ _) | ((with_reducible apply qe); rfl; rfl; intro _ _) | (with_reducible rfl) | (with_reducible apply qn))) | skip
        generalize w7b.setCells K 0 F.cells = w8 at H8 ⊢
        clear hst
        have rK := ((unhide H8).msb (List.mem_cons_self ..)).row
        have hsay := says1L (unhide H8) F 0 (unhide HFO) (show P2.wa.length < 1000000 by rw [(unhide HW).none.1]; decide)
        go_wp2_with (first | ((with_reducible apply tp); rfl; rfl; intro _ _ _) | ((with_reducible apply tr); rfl; intro _ _) | ((with_reducible apply te); rfl; intro _ _) | (with_reducible rfl) | (with_reducible apply tn) | ((with_reducible apply wp_txt); kernel_rfl; decide +kernel))
        refine hsay.mono ?_
        rintro e w9 ⟨rfl, h9⟩
        have h9' : PrL w w9 p ⟨P2.a, B, [F], [], false⟩ [(K, F)] := by
          obtain ⟨e1, e2, e3, -⟩ := (unhide HW).none
          have := h9
          simp only [eq_self, if_true, e1, e2, e3, List.nil_append] at this
          exact this
        have hre := restsL hT h9' (unhide HR)
        clear hsay rK h9 h9' H8
        go_wp2_with (first | ((with_reducible apply tp); rfl; rfl; intro _ _ _) | ((with_reducible apply tr); rfl; intro _ _) | ((with_reducible apply te); rfl; intro _ _) | (with_reducible rfl) | (with_reducible apply tn) | ((with_reducible apply wp_txt); kernel_rfl; decide +kernel))
        refine hre.mono ?_
        rintro e w10 ⟨rfl, h10⟩
        obtain ⟨gA7, gB7, cA, cB, cD⟩ := h10.cells
        rw [(unhide HS).bad] at cD
        have hwc : IntKind.u64.wrap (c - (o - n)) = c - (o - n) := wrapU (by omega) (by omega)
        have hbs := base0L hT h10 cA
        rw [(unhide HS).loc, (unhide HS).rem] at hbs
        have H10 := hide h10
        clear hre h10
        go_wp2_with (first | ((with_reducible apply tp); rfl; rfl; intro _ _ _) | ((with_reducible apply tr); rfl; intro _ _) | ((with_reducible apply te); rfl; intro _ _) | (with_reducible rfl) | (with_reducible apply tn) | ((with_reducible apply wp_txt); kernel_rfl; decide +kernel))
        refine hbs.mono ?_
        rintro e w11 ⟨rfl, n11⟩
        have h11 := (unhide H10).new n11
        have cA := n11.cell cA (fun h => h)
        have cB := n11.cell cB (fun h => h)
        have hlv := live0L_none hT h11 cA (unhide HS).xa
        have H11 := hide h11
        clear hbs h11 n11 H10
        go_wp2_with (first | ((with_reducible apply tp); rfl; rfl; intro _ _ _) | ((with_reducible apply tr); rfl; intro _ _) | ((with_reducible apply te); rfl; intro _ _) | (with_reducible rfl) | (with_reducible apply tn) | ((with_reducible apply wp_txt); kernel_rfl; decide +kernel))
        refine hlv.mono ?_
        rintro e w12 ⟨⟨ua, uk, rfl⟩, n12⟩
        have h12 := (unhide H11).new n12
        have cB := n12.cell cB (fun h => h)
        have hlv2 := live1L_none hT h12 cB (unhide HS).xb
        have H12 := hide h12
        clear hlv h12 n12 H11
        go_wp2_with (first | ((with_reducible apply tp); rfl; rfl; intro _ _ _) | ((with_reducible apply tr); rfl; intro _ _) | ((with_reducible apply te); rfl; intro _ _) | (with_reducible rfl) | (with_reducible apply tn) | ((with_reducible apply wp_txt); kernel_rfl; decide +kernel))
        refine hlv2.mono ?_
        rintro e w13 ⟨⟨ub, uk2, rfl⟩, n13⟩
        have h13 := (unhide H12).new n13
        clear hlv2
        go_wp2_with (first | ((with_reducible apply tp); rfl; rfl; intro _ _ _) | ((with_reducible apply tr); rfl; intro _ _) | ((with_reducible apply te); rfl; intro _ _) | (with_reducible rfl) | (with_reducible apply tn) | ((with_reducible apply wp_txt); kernel_rfl; decide +kernel))
        go_ret
        exact ⟨rfl, h13.n⟩
      · obtain ⟨B, F, P3, hf, hFo, hr, hS⟩ := (unhide HW).fails
        have hfa := fail1L hT (unhide HX) cB 0 3 (show P2.b.news.length < 1000000 by rw [(unhide HW).none.2.2.2]; decide)
        rw [hf] at hfa
        have hFl := hFo.len
        have HFO := hide hFo
        have HR := hide hr
        have HS := hide hS
        clear hf hFo hr hS
        go_wp2_with (first | ((with_reducible apply tp); rfl; rfl; intro _ _ _) | ((with_reducible apply tr); rfl; intro _ _) | ((with_reducible apply te); rfl; intro _ _) | (with_reducible rfl) | (with_reducible apply tn) | ((with_reducible apply wp_txt); kernel_rfl; decide +kernel))
        refine hfa.mono ?_
        rintro e w7 ⟨rfl, h7, -⟩
        have hst := (h7.msb (List.mem_cons_self ..)).stOk hFl
        have H8 := hide (h7.put hFl)
        clear hfa h7 HX cB
        go_upto_region 15 with (first | ((with_reducible apply tp); rfl; rfl; intro _ _ _) | ((with_reducible apply tr); rfl; intro _ _) | ((with_reducible apply te); rfl; intro _ _) | (with_reducible rfl) | (with_reducible apply tn) | ((with_reducible apply wp_txt); kernel_rfl; decide +kernel))
        generalize w7.setCells K 0 F.cells = w8 at H8 ⊢
        clear hst w7
        have rK := ((unhide H8).msb (List.mem_cons_self ..)).row
        have hsay := says1L (unhide H8) F 0 (unhide HFO) (show P2.wa.length < 1000000 by rw [(unhide HW).none.1]; decide)
        go_wp2_with (first | ((with_reducible apply tp); rfl; rfl; intro _ _ _) | ((with_reducible apply tr); rfl; intro _ _) | ((with_reducible apply te); rfl; intro _ _) | (with_reducible rfl) | (with_reducible apply tn) | ((with_reducible apply wp_txt); kernel_rfl; decide +kernel))
        refine hsay.mono ?_
        rintro e w9 ⟨rfl, h9⟩
        have h9' : PrL w w9 p ⟨P2.a, B, [F], [], false⟩ [(K, F)] := by
          obtain ⟨e1, e2, e3, -⟩ := (unhide HW).none
          have := h9
          simp only [eq_self, if_true, e1, e2, e3, List.nil_append] at this
          exact this
        have hre := restsL hT h9' (unhide HR)
        clear hsay rK h9 h9' H8
        go_wp2_with (first | ((with_reducible apply tp); rfl; rfl; intro _ _ _) | ((with_reducible apply tr); rfl; intro _ _) | ((with_reducible apply te); rfl; intro _ _) | (with_reducible rfl) | (with_reducible apply tn) | ((with_reducible apply wp_txt); kernel_rfl; decide +kernel))
        refine hre.mono ?_
        rintro e w10 ⟨rfl, h10⟩
        obtain ⟨gA7, gB7, cA, cB, cD⟩ := h10.cells
        rw [(unhide HS).bad] at cD
        have hwc : IntKind.u64.wrap (c - (o)) = c - (o) := wrapU (by omega) (by omega)
        have hbs := base0L hT h10 cA
        rw [(unhide HS).loc, (unhide HS).rem] at hbs
        have H10 := hide h10
        clear hre h10
        go_wp2_with (first | ((with_reducible apply tp); rfl; rfl; intro _ _ _) | ((with_reducible apply tr); rfl; intro _ _) | ((with_reducible apply te); rfl; intro _ _) | (with_reducible rfl) | (with_reducible apply tn) | ((with_reducible apply wp_txt); kernel_rfl; decide +kernel))
        refine hbs.mono ?_
        rintro e w11 ⟨rfl, n11⟩
        have h11 := (unhide H10).new n11
        have cA := n11.cell cA (fun h => h)
        have cB := n11.cell cB (fun h => h)
        have hlv := live0L_none hT h11 cA (unhide HS).xa
        have H11 := hide h11
        clear hbs h11 n11 H10
        go_wp2_with (first | ((with_reducible apply tp); rfl; rfl; intro _ _ _) | ((with_reducible apply tr); rfl; intro _ _) | ((with_reducible apply te); rfl; intro _ _) | (with_reducible rfl) | (with_reducible apply tn) | ((with_reducible apply wp_txt); kernel_rfl; decide +kernel))
        refine hlv.mono ?_
        rintro e w12 ⟨⟨ua, uk, rfl⟩, n12⟩
        have h12 := (unhide H11).new n12
        have cB := n12.cell cB (fun h => h)
        have hlv2 := live1L_none hT h12 cB (unhide HS).xb
        have H12 := hide h12
        clear hlv h12 n12 H11
        go_wp2_with (first | ((with_reducible apply tp); rfl; rfl; intro _ _ _) | ((with_reducible apply tr); rfl; intro _ _) | ((with_reducible apply te); rfl; intro _ _) | (with_reducible rfl) | (with_reducible apply tn) | ((with_reducible apply wp_txt); kernel_rfl; decide +kernel))
        refine hlv2.mono ?_
        rintro e w13 ⟨⟨ub, uk2, rfl⟩, n13⟩
        have h13 := (unhide H12).new n13
        clear hlv2
        go_wp2_with (first | ((with_reducible apply tp); rfl; rfl; intro _ _ _) | ((with_reducible apply tr); rfl; intro _ _) | ((with_reducible apply te); rfl; intro _ _) | (with_reducible rfl) | (with_reducible apply tn) | ((with_reducible apply wp_txt); kernel_rfl; decide +kernel))
        go_ret
        exact ⟨rfl, h13.n⟩

end Go.Proofs.YtjpmomdechibmaaGreatDoor
