/-
  The reference's Decode, walked.
-/
import Derived.Test.YtfmkdoachjgjbaaGreatDoorRe4
set_option linter.unusedVariables false
set_option linter.unusedSimpArgs false
namespace Go.Proofs.YtfmkdoachjgjbaaGreatDoor
open Go.RowKit

attribute [local go_sem ↓ high] ld_msr_fold st_msr_fold al_msr_fold bd_msr_fold ld_hsh_fold st_hsh_fold al_hsh_fold bd_hsh_fold
attribute [local go_sem] ld_msr st_msr al_msr rowN_drew bd_msr_zero bd_msr_two ld_hsh st_hsh al_hsh bd_hsh
set_option maxRecDepth 100000 in
set_option maxHeartbeats 2000000 in
/-- The error that the reference tells. -/
theorem refDec_any (s : ByteArray) (hs : s.size ≤ 100000) (w : World) : Calls Tryz.prog 22 #[.string s] w fun e w' => New w w' ∧ ∃ m : MsgV, m.hash.length = 32 ∧ e = .returned (.tuple #[.agg m.cells.toArray, .int .i64 (decL s).2]) := by
  have hF := fun W => refFields_any (bt s 0) W
  have hW := fun x hx W => refWidth_any x hx W
  have hx := lettersOf_ch (bt s 0)
  have hl := lettersOf_len (bt s 0)
  have hzl := letS_size (lettersOf (bt s 0))
  have hb := bt_bd s 0
  have e0 : s.size = 0 → (decL s).2 = 10 := fun h => by rw [dec_empty h]
  have e1 := @ref_kind s
  have e2 := @ref_short s
  have e3 := @ref_more s
  have e4 := @ref_end s
  generalize (decL s).2 = D at *
  go_enter Tryz.func22, Tryz.ntmps22
  go_upto_region 1 with fail
  have hR0 : MsR (w.alloc (.cells MsgV.zero.cells.toArray 55)) w.heap.size MsgV.zero := ⟨blk_alloc _ _, z32i_len⟩
  have n1 : New w (w.alloc (.cells MsgV.zero.cells.toArray 55)) := (Upd.refl _ _).alloc _
  generalize w.alloc (.cells MsgV.zero.cells.toArray 55) = w1 at hR0 n1 ⊢
  generalize hRe : w.heap.size = R at hR0 ⊢
  have HR := hide hR0
  have N1 := hide n1
  have HRe := hide hRe
  clear hR0 n1 hRe
  by_cases hs0 : s.size = 0
  · have hD := e0 hs0
    have hsi : (s.size : Int) = 0 := by omega
    clear e1 e2 e3 e4 hF hW hx
    have hml : MsgV.zero.hash.length = 32 := z32i_len
    have st := (unhide HR).stOk hml
    have hZ8 := (unhide HR).put hml
    have u8 : Upd (· = R) w1 (w1.setCells R 0 MsgV.zero.cells) := upd_sets _
    have HX := hide (And.intro hZ8 ((unhide N1).then u8 (fun k hk e => by have := unhide HRe; omega)))
    clear hZ8 u8
    go_wp2_with fail
    obtain ⟨hZ8, N8⟩ := unhide HX
    refine bodyPost_ret (results_row_tmp' rfl _ _ R _ _ _ _ rfl hZ8.at_ Tryz.underlying55 rfl (by rw [List.size_toArray, MsgV.len _ hml]; exact Tryz.infoMsR)) rfl ?_
    exact ⟨N8, _, hml, by rw [hD]; rfl⟩
  have h0x : ∀ w, (Instr.index 9 (.string s) (.int .i64 0)).run Tryz.prog w = .ok (.int .u8 (bt s 0)) w := fun w => run_index_at 9 s .i64 0 0 Tryz.underlying9 rfl (by omega) w
  have hsi : 1 ≤ (s.size : Int) := by omega
  have H1 := hide e1
  have H2 := hide e2
  have H3 := hide e3
  have H4 := hide e4
  clear e1 e2 e3 e4
  generalize hk : bt s 0 = k at *
  by_cases hkb : k < 1 ∨ 9 < k
  · have hD := unhide H1 hs0 hkb
    clear H1 H2 H3 H4 hF hW hx
    rcases (by omega : k < 1 ∨ (1 ≤ k ∧ 9 < k)) with hk1 | ⟨hk1, hk9⟩
    · have hml : MsgV.zero.hash.length = 32 := z32i_len
      have st := (unhide HR).stOk hml
      have hZ8 := (unhide HR).put hml
      have u8 : Upd (· = R) w1 (w1.setCells R 0 MsgV.zero.cells) := upd_sets _
      have HX := hide (And.intro hZ8 ((unhide N1).then u8 (fun k hk e => by have := unhide HRe; omega)))
      clear hZ8 u8
      go_wp2_with fail
      obtain ⟨hZ8, N8⟩ := unhide HX
      refine bodyPost_ret (results_row_tmp' rfl _ _ R _ _ _ _ rfl hZ8.at_ Tryz.underlying55 rfl (by rw [List.size_toArray, MsgV.len _ hml]; exact Tryz.infoMsR)) rfl ?_
      exact ⟨N8, _, hml, by rw [hD]; rfl⟩
    · have hml : MsgV.zero.hash.length = 32 := z32i_len
      have st := (unhide HR).stOk hml
      have hZ8 := (unhide HR).put hml
      have u8 : Upd (· = R) w1 (w1.setCells R 0 MsgV.zero.cells) := upd_sets _
      have HX := hide (And.intro hZ8 ((unhide N1).then u8 (fun k hk e => by have := unhide HRe; omega)))
      clear hZ8 u8
      go_wp2_with fail
      obtain ⟨hZ8, N8⟩ := unhide HX
      refine bodyPost_ret (results_row_tmp' rfl _ _ R _ _ _ _ rfl hZ8.at_ Tryz.underlying55 rfl (by rw [List.size_toArray, MsgV.len _ hml]; exact Tryz.infoMsR)) rfl ?_
      exact ⟨N8, _, hml, by rw [hD]; rfl⟩
  have hk1 : 1 ≤ k := by omega
  have hk9 : k ≤ 9 := by omega
  clear hkb hk
  go_wp2_with fail
  refine (hF w1).mono ?_
  rintro e w2 ⟨rfl, q2⟩
  have HR2 := hide ((unhide HR).new (q2.upd _))
  have N2 := hide ((unhide N1).trans (q2.upd _))
  clear HR N1 q2 hF H1
  have HI := hide (fun i x (h : (lettersOf k)[i]? = some x) => letS_bt h)
  generalize hLe : lettersOf k = L at *
  generalize hSe : letS L = t at *
  have HSe := hide hSe
  have HLe := hide hLe
  clear hSe hLe
  have hix : ∀ (i : Nat) (x : Fld), L[i]? = some x → ∀ w, (Instr.index 9 (.string t) (.int .i64 (i : Int))).run Tryz.prog w = .ok (.int .u8 (x.ltr : Int)) w := fun i x hx w => by
    rw [← unhide HI i x hx]
    have hlt : i < L.length := (List.getElem?_eq_some_iff.1 hx).1
    exact run_index_at 9 t .i64 i i Tryz.underlying9 rfl (by omega) w
  have HIX := hide hix
  have HX := hide hx
  clear hix hx HI
  have hzi : (t.size : Int) = (L.length : Int) := by omega
  clear hzl
  go_wp2_with fail
  go_loopw [6, 7] (fun nv iv wr => ∃ i : Nat, iv = .int .i64 (i : Int) ∧ nv = .int .i64 (5 + (widS (L.take i) : Int)) ∧ i ≤ L.length ∧ Q w2 wr) (fun _ iv _ => L.length - (intOf iv).toNat)
  case atStart => exact ⟨0, rfl, rfl, Nat.zero_le _, Q.refl _⟩
  case round =>
    obtain ⟨i, rfl, rfl, hi, qi⟩ := hrel
    obtain ⟨wq, rfl⟩ : ∃ wq : World, wq = wr := ⟨_, rfl⟩
    have HQ := hide qi
    clear qi
    by_cases hlt : i < L.length
    · obtain ⟨x, hx⟩ : ∃ x, L[i]? = some x := ⟨_, List.getElem?_eq_getElem hlt⟩
      have hix := unhide HIX i x hx
      have hw := hW x (unhide HX x (List.mem_of_getElem? hx))
      have ht := widS_take hx
      have hb1 : x.wid ≤ 32 := by cases x <;> decide
      have hb2 : widS (L.take i) ≤ 32 * i := widS_le L i
      clear hW hx
      generalize (x.ltr : Int) = l at *
      go_wp2_with fail
      refine (hw wq).mono ?_
      rintro e w3 ⟨rfl, q3⟩
      have HQ3 := hide ((unhide HQ).trans q3)
      clear q3 hw
      go_wp2_with fail
      go_roundw
      case rel => exact ⟨i + 1, by go_num, by rw [ht]; go_num, by omega, unhide HQ3⟩
      case measure => simp [intOf]; omega
    · obtain rfl : i = L.length := by omega
      rw [List.take_length]
      have hw0 := widS_le L L.length
      rw [List.take_length] at hw0
      have HR3 := hide ((unhide HR2).new ((unhide HQ).upd _))
      have N3 := hide ((unhide N2).trans ((unhide HQ).upd _))
      clear HQ HR2 N2
      generalize hnn : widS L = n at *
      by_cases hA : s.size < 5 + n
      · have hD := unhide H2 hs0 hk1 hk9 hA
        have hA' : (s.size : Int) < 5 + n := by omega
        clear H2 H3 H4 hW h0x HIX
        have hml : MsgV.zero.hash.length = 32 := z32i_len
        have st := (unhide HR3).stOk hml
        have hZ8 := (unhide HR3).put hml
        have u8 : Upd (· = R) wq (wq.setCells R 0 MsgV.zero.cells) := upd_sets _
        have HZ := hide (And.intro hZ8 ((unhide N3).then u8 (fun k hk e => by have := unhide HRe; omega)))
        clear hZ8 u8
        go_wp2_with fail
        obtain ⟨hZ8, N8⟩ := unhide HZ
        refine bodyPost_ret (results_row_tmp' rfl _ _ R _ _ _ _ rfl hZ8.at_ Tryz.underlying55 rfl (by rw [List.size_toArray, MsgV.len _ hml]; exact Tryz.infoMsR)) rfl ?_
        exact ⟨N8, _, hml, by rw [hD]; rfl⟩
      by_cases hB : 5 + n < s.size
      · have hD := unhide H3 hs0 hk1 hk9 hB
        have hB' : (5 + n : Int) < s.size := by omega
        clear H2 H3 H4 hW h0x HIX
        have hml : MsgV.zero.hash.length = 32 := z32i_len
        have st := (unhide HR3).stOk hml
        have hZ8 := (unhide HR3).put hml
        have u8 : Upd (· = R) wq (wq.setCells R 0 MsgV.zero.cells) := upd_sets _
        have HZ := hide (And.intro hZ8 ((unhide N3).then u8 (fun k hk e => by have := unhide HRe; omega)))
        clear hZ8 u8
        go_wp2_with fail
        obtain ⟨hZ8, N8⟩ := unhide HZ
        refine bodyPost_ret (results_row_tmp' rfl _ _ R _ _ _ _ rfl hZ8.at_ Tryz.underlying55 rfl (by rw [List.size_toArray, MsgV.len _ hml]; exact Tryz.infoMsR)) rfl ?_
        exact ⟨N8, _, hml, by rw [hD]; rfl⟩
      have hsn : (s.size : Int) = 5 + n := by omega
      clear H2 H3 h0x hA hB
      go_wp2_with fail
      have hz1 : (s.extract 1 s.size).size = 4 + n := by rw [ByteArray.size_extract]; omega
      generalize s.extract 1 s.size = s1 at *
      have hG0 : RdR (wq.alloc (.cells #[.string s1] 131)) wq.heap.size s1 := blk_alloc _ _
      have nG : New wq (wq.alloc (.cells #[.string s1] 131)) := (Upd.refl _ _).alloc _
      generalize wq.alloc (.cells #[.string s1] 131) = w3 at hG0 nG ⊢
      generalize hGe : wq.heap.size = G at hG0 ⊢
      have hRG : R ≠ G := by have := (unhide HR3).lt; omega
      have hGw : w.heap.size ≤ G := by have := (unhide HR3).lt; have := unhide HRe; omega
      have hn4 := refNum_ok G 4 s1 w3 hG0 (by decide) (by decide) (by omega)
      refine hn4.mono ?_
      rintro e w4 ⟨rfl, u4, hG4⟩
      have HR4 := hide (((unhide HR3).new nG).upd u4 hRG)
      have N4 := hide (((unhide N3).trans nG).then u4 (fun k hk e => by have := unhide HRe; have := (unhide N3).size; omega))
      have hbd := rdN_bd s1 4
      have hwr : IntKind.u32.wrap (rdN s1 4) = rdN s1 4 := by
        obtain ⟨h1, h2⟩ : 0 ≤ rdN s1 4 ∧ rdN s1 4 < 4294967296 := hbd
        rw [IntKind.wrap_u32]; omega
      obtain ⟨hst, hB4, nB⟩ := mr_fresh w4 ⟨k, rdN s1 4, 0, 0, z32i, 0, 0⟩ z32i_len
      have HG := hide (hG4.new nB)
      have hRl := (unhide HR4).lt
      have hGl := hG4.lt
      have HR5 := hide ((unhide HR4).new nB)
      have N5 := hide ((unhide N4).trans nB)
      have hg0 : getL (.ch :: L) s1 (kindMsg k) = getL L (s1.extract 4 s1.size) ⟨k, rdN s1 4, 0, 0, z32i, 0, 0⟩ := by
        rw [getL, if_neg (by show ¬ s1.size < 4; omega)]
        rfl
      rw [hg0] at H4
      have HMO := hide (fun m r h => (getL_ok (.ch :: L) s1 (kindMsg k) (kindMsg_ok ⟨by omega, by omega⟩) (hg0.trans h : getL (.ch :: L) s1 (kindMsg k) = some (m, r))).1)
      have hz4 : (s1.extract 4 s1.size).size = n := by rw [ByteArray.size_extract]; omega
      generalize s1.extract 4 s1.size = s4 at *
      generalize rdN s1 4 = c at *
      clear hn4 HR4 N4 nG hG0 u4 hG4 HR3 N3 hGe hbd hz1 hg0
      go_upto_region 19 with fail
      change Code.wp _ _ _ _ (mrNew w4 ⟨k, c, 0, 0, z32i, 0, 0⟩)
      generalize mrNew w4 ⟨k, c, 0, 0, z32i, 0, 0⟩ = w5 at hB4 nB HG HR5 N5 ⊢
      generalize hBe : w4.heap.size = B at hB4 hst hRl hGl ⊢
      have HB := hide hB4
      have hRB : R ≠ B := by omega
      have hBG : B ≠ G := by omega
      have hBw : w.heap.size ≤ B := by have := unhide HRe; omega
      clear hst hB4 nB hBe hRl hGl
      go_wp2_with fail
      go_loopw [12] (fun iv wr => ∃ (i : Nat) (m : MsgV) (r : ByteArray), iv = .int .i64 (i : Int) ∧ i ≤ L.length ∧ Hid (getL (L.take i) s4 ⟨k, c, 0, 0, z32i, 0, 0⟩ = some (m, r)) ∧ r.size = n - widS (L.take i) ∧ Hid (MsR wr B m) ∧ Hid (RdR wr G r) ∧ Upd (fun k => k = G ∨ k = B) w5 wr) (fun iv _ => L.length - (intOf iv).toNat)
      case atStart => exact ⟨0, _, _, rfl, Nat.zero_le _, hide rfl, by rw [hz4]; show n = n - 0; omega, HB, HG, Upd.refl _ _⟩
      case round =>
        obtain ⟨i, m, r, rfl, hi, hg, hrz, hMr, hRd, hU⟩ := hrel
        have HU := hide hU
        clear hU
        by_cases hlt : i < L.length
        · obtain ⟨x, hx⟩ : ∃ x, L[i]? = some x := ⟨_, List.getElem?_eq_getElem hlt⟩
          have ht := widS_take hx
          have hp := widS_part L (i + 1)
          have hle : x.wid ≤ r.size := by omega
          have hgt := getL_take hx (unhide hg)
          rw [if_neg (by omega)] at hgt
          have hsz : (r.extract x.wid r.size).size = n - widS (L.take (i + 1)) := by rw [ByteArray.size_extract]; omega
          have hMr := unhide hMr
          have hRd := unhide hRd
          have HSZ := hide hsz
          have hnc := unhide HX x (List.mem_of_getElem? hx)
          clear hg hrz ht hp hsz
          cases x
          · exact absurd rfl hnc
          · have hix : ∀ w, (Instr.index 9 (.string t) (.int .i64 (i : Int))).run Tryz.prog w = .ok (.int .u8 105) w := unhide HIX i .id hx
            have hnn' := fun W h => refNum_ok G 8 r W h (by decide) (by decide) hle
            have hx2 : Hid (getL (L.take (i + 1)) s4 ⟨k, c, 0, 0, z32i, 0, 0⟩ = some (Fld.get .id r m, r.extract 8 r.size)) := hide hgt
            have hw : ∀ W, Calls Tryz.prog 58 #[.int .u8 105] W (Reads (.int .i64 8) W) := hW .id (fun h => by cases h)
            skip
            have HMR := hide hMr
            have HRD := hide hRd
            clear hx hgt hMr hRd hW HIX
            go_wp2_with fail
            refine (hw wr).mono ?_
            rintro e wa ⟨rfl, qa⟩
            have hRa := (unhide HRD).new (qa.upd _)
            have Ma := hide ((unhide HMR).new (qa.upd _))
            have Ua := hide ((unhide HU).trans (qa.upd (fun k => k = G ∨ k = B)))
            clear HRD HMR HU qa
            go_wp2_with fail
            refine (hnn' wa hRa).mono ?_
            rintro e wb ⟨rfl, ub, hRb⟩
            have hMb := (unhide Ma).upd ub hBG
            have Ub := (unhide Ua).trans (ub.mono (fun k _ e => (Or.inl e : k = G ∨ k = B)))
            have fb := blk_free hMb.at_ 2
            have u6 : Upd (· = B) wb (wb.setCell ⟨B, 2, none⟩ (.int .u64 (rdN r 8))) := (Upd.refl _ _).set1 _ _
            have hM6 : MsR (wb.setCell ⟨B, 2, none⟩ (.int .u64 (rdN r 8))) B (Fld.get .id r m) := ⟨by rw [blk_set hMb.at_ 2 _, set_id m _]; rfl, hMb.len⟩
            have hl6 := hMb.cells.2.2.1
            have H6 := hide (And.intro hM6 (And.intro (hRb.upd u6 (fun e => hBG e.symm)) (Ub.trans (u6.mono (fun k _ e => (Or.inr e : k = G ∨ k = B))))))
            clear hw hnn' hRa Ma Ua ub hRb hMb Ub u6 hM6
            generalize rdN r 8 = v at *
            go_wp2_with fail
            go_roundw
            case rel => exact ⟨i + 1, _, _, by go_num, by omega, hx2, unhide HSZ, hide (unhide H6).1, hide (unhide H6).2.1, (unhide H6).2.2⟩
            case measure => simp [intOf]; omega
          · have hix : ∀ w, (Instr.index 9 (.string t) (.int .i64 (i : Int))).run Tryz.prog w = .ok (.int .u8 97) w := unhide HIX i .amount hx
            have hnn' := fun W h => refNum_ok G 8 r W h (by decide) (by decide) hle
            have hx2 : Hid (getL (L.take (i + 1)) s4 ⟨k, c, 0, 0, z32i, 0, 0⟩ = some (Fld.get .amount r m, r.extract 8 r.size)) := hide hgt
            have hw : ∀ W, Calls Tryz.prog 58 #[.int .u8 97] W (Reads (.int .i64 8) W) := hW .amount (fun h => by cases h)
            skip
            have HMR := hide hMr
            have HRD := hide hRd
            clear hx hgt hMr hRd hW HIX
            go_wp2_with fail
            refine (hw wr).mono ?_
            rintro e wa ⟨rfl, qa⟩
            have hRa := (unhide HRD).new (qa.upd _)
            have Ma := hide ((unhide HMR).new (qa.upd _))
            have Ua := hide ((unhide HU).trans (qa.upd (fun k => k = G ∨ k = B)))
            clear HRD HMR HU qa
            go_wp2_with fail
            refine (hnn' wa hRa).mono ?_
            rintro e wb ⟨rfl, ub, hRb⟩
            have hMb := (unhide Ma).upd ub hBG
            have Ub := (unhide Ua).trans (ub.mono (fun k _ e => (Or.inl e : k = G ∨ k = B)))
            have fb := blk_free hMb.at_ 3
            have u6 : Upd (· = B) wb (wb.setCell ⟨B, 3, none⟩ (.int .u64 (rdN r 8))) := (Upd.refl _ _).set1 _ _
            have hM6 : MsR (wb.setCell ⟨B, 3, none⟩ (.int .u64 (rdN r 8))) B (Fld.get .amount r m) := ⟨by rw [blk_set hMb.at_ 3 _, set_amount m _]; rfl, hMb.len⟩
            have hl6 := hMb.cells.2.2.2.1
            have H6 := hide (And.intro hM6 (And.intro (hRb.upd u6 (fun e => hBG e.symm)) (Ub.trans (u6.mono (fun k _ e => (Or.inr e : k = G ∨ k = B))))))
            clear hw hnn' hRa Ma Ua ub hRb hMb Ub u6 hM6
            generalize rdN r 8 = v at *
            go_wp2_with fail
            go_roundw
            case rel => exact ⟨i + 1, _, _, by go_num, by omega, hx2, unhide HSZ, hide (unhide H6).1, hide (unhide H6).2.1, (unhide H6).2.2⟩
            case measure => simp [intOf]; omega
          · have hix : ∀ w, (Instr.index 9 (.string t) (.int .i64 (i : Int))).run Tryz.prog w = .ok (.int .u8 104) w := unhide HIX i .hash hx
            have hnn' := fun W h => refHash_ok G r W h hle
            have hx2 : Hid (getL (L.take (i + 1)) s4 ⟨k, c, 0, 0, z32i, 0, 0⟩ = some (Fld.get .hash r m, r.extract 32 r.size)) := hide hgt
            have HMR := hide hMr
            have HRD := hide hRd
            clear hx hgt hMr hRd hW HIX
            go_wp2_with fail
            refine (hnn' wr (unhide HRD)).mono ?_
            rintro e wb ⟨rfl, ub, hRb⟩
            have hMb := (unhide HMR).upd ub hBG
            have Ub := (unhide HU).trans (ub.mono (fun k _ e => (Or.inl e : k = G ∨ k = B)))
            have hst : stOk wb B 4 32 (hshV (rdH r)).toArray = true := stOk_blk hMb.at_ (by rw [List.size_toArray, m.len hMb.len]; omega) (by rw [List.size_toArray, hshV_len]; exact rdH_len r) (by rw [Array.all_eq_true_iff_forall_mem]; intro v hv; exact hshV_one _ v (by simpa using hv))
            have hM6 : MsR (wb.setCells B 4 (hshV (rdH r))) B (Fld.get .hash r m) := ⟨by rw [blk_setCells hMb.at_ 4 _, set_hash m hMb.len _ (rdH_len r)]; rfl, rdH_len r⟩
            have u6 : Upd (· = B) wb (wb.setCells B 4 (hshV (rdH r))) := (Upd.refl _ _).setCells 4 _
            have H6 := hide (And.intro hM6 (And.intro (hRb.upd u6 (fun e => hBG e.symm)) (Ub.trans (u6.mono (fun k _ e => (Or.inr e : k = G ∨ k = B))))))
            clear hnn' ub hRb hMb Ub u6 hM6 HMR HRD HU
            go_wp2_with fail
            go_roundw
            case rel => exact ⟨i + 1, _, _, by go_num, by omega, hx2, unhide HSZ, hide (unhide H6).1, hide (unhide H6).2.1, (unhide H6).2.2⟩
            case measure => simp [intOf]; omega
          · have hix : ∀ w, (Instr.index 9 (.string t) (.int .i64 (i : Int))).run Tryz.prog w = .ok (.int .u8 101) w := unhide HIX i .expiry hx
            have hnn' := fun W h => refNum_ok G 4 r W h (by decide) (by decide) hle
            have hx2 : Hid (getL (L.take (i + 1)) s4 ⟨k, c, 0, 0, z32i, 0, 0⟩ = some (Fld.get .expiry r m, r.extract 4 r.size)) := hide hgt
            have hw : ∀ W, Calls Tryz.prog 58 #[.int .u8 101] W (Reads (.int .i64 4) W) := hW .expiry (fun h => by cases h)
            have hwi : IntKind.i64.wrap (rdN r 4) = rdN r 4 := by
              obtain ⟨h1, h2⟩ : 0 ≤ rdN r 4 ∧ rdN r 4 < 4294967296 := rdN_bd r 4
              rw [IntKind.wrap_i64]; omega
            have HMR := hide hMr
            have HRD := hide hRd
            clear hx hgt hMr hRd hW HIX
            go_wp2_with fail
            refine (hw wr).mono ?_
            rintro e wa ⟨rfl, qa⟩
            have hRa := (unhide HRD).new (qa.upd _)
            have Ma := hide ((unhide HMR).new (qa.upd _))
            have Ua := hide ((unhide HU).trans (qa.upd (fun k => k = G ∨ k = B)))
            clear HRD HMR HU qa
            go_wp2_with fail
            refine (hnn' wa hRa).mono ?_
            rintro e wb ⟨rfl, ub, hRb⟩
            have hMb := (unhide Ma).upd ub hBG
            have Ub := (unhide Ua).trans (ub.mono (fun k _ e => (Or.inl e : k = G ∨ k = B)))
            have fb := blk_free hMb.at_ 36
            have u6 : Upd (· = B) wb (wb.setCell ⟨B, 36, none⟩ (.int .i64 (rdN r 4))) := (Upd.refl _ _).set1 _ _
            have hM6 : MsR (wb.setCell ⟨B, 36, none⟩ (.int .i64 (rdN r 4))) B (Fld.get .expiry r m) := ⟨by rw [blk_set hMb.at_ 36 _, set_expiry m hMb.len _]; rfl, hMb.len⟩
            have hl6 := hMb.cells.2.2.2.2.1
            have H6 := hide (And.intro hM6 (And.intro (hRb.upd u6 (fun e => hBG e.symm)) (Ub.trans (u6.mono (fun k _ e => (Or.inr e : k = G ∨ k = B))))))
            clear hw hnn' hRa Ma Ua ub hRb hMb Ub u6 hM6
            generalize rdN r 4 = v at *
            go_wp2_with fail
            go_roundw
            case rel => exact ⟨i + 1, _, _, by go_num, by omega, hx2, unhide HSZ, hide (unhide H6).1, hide (unhide H6).2.1, (unhide H6).2.2⟩
            case measure => simp [intOf]; omega
          · have hix : ∀ w, (Instr.index 9 (.string t) (.int .i64 (i : Int))).run Tryz.prog w = .ok (.int .u8 110) w := unhide HIX i .number hx
            have hnn' := fun W h => refNum_ok G 2 r W h (by decide) (by decide) hle
            have hx2 : Hid (getL (L.take (i + 1)) s4 ⟨k, c, 0, 0, z32i, 0, 0⟩ = some (Fld.get .number r m, r.extract 2 r.size)) := hide hgt
            have hw : ∀ W, Calls Tryz.prog 58 #[.int .u8 110] W (Reads (.int .i64 2) W) := hW .number (fun h => by cases h)
            have hwi : IntKind.i64.wrap (rdN r 2) = rdN r 2 := by
              obtain ⟨h1, h2⟩ : 0 ≤ rdN r 2 ∧ rdN r 2 < 65536 := rdN_bd r 2
              rw [IntKind.wrap_i64]; omega
            have HMR := hide hMr
            have HRD := hide hRd
            clear hx hgt hMr hRd hW HIX
            go_wp2_with fail
            refine (hw wr).mono ?_
            rintro e wa ⟨rfl, qa⟩
            have hRa := (unhide HRD).new (qa.upd _)
            have Ma := hide ((unhide HMR).new (qa.upd _))
            have Ua := hide ((unhide HU).trans (qa.upd (fun k => k = G ∨ k = B)))
            clear HRD HMR HU qa
            go_wp2_with fail
            refine (hnn' wa hRa).mono ?_
            rintro e wb ⟨rfl, ub, hRb⟩
            have hMb := (unhide Ma).upd ub hBG
            have Ub := (unhide Ua).trans (ub.mono (fun k _ e => (Or.inl e : k = G ∨ k = B)))
            have fb := blk_free hMb.at_ 37
            have u6 : Upd (· = B) wb (wb.setCell ⟨B, 37, none⟩ (.int .i64 (rdN r 2))) := (Upd.refl _ _).set1 _ _
            have hM6 : MsR (wb.setCell ⟨B, 37, none⟩ (.int .i64 (rdN r 2))) B (Fld.get .number r m) := ⟨by rw [blk_set hMb.at_ 37 _, set_number m hMb.len _]; rfl, hMb.len⟩
            have hl6 := hMb.cells.2.2.2.2.2.1
            have H6 := hide (And.intro hM6 (And.intro (hRb.upd u6 (fun e => hBG e.symm)) (Ub.trans (u6.mono (fun k _ e => (Or.inr e : k = G ∨ k = B))))))
            clear hw hnn' hRa Ma Ua ub hRb hMb Ub u6 hM6
            generalize rdN r 2 = v at *
            go_wp2_with fail
            go_roundw
            case rel => exact ⟨i + 1, _, _, by go_num, by omega, hx2, unhide HSZ, hide (unhide H6).1, hide (unhide H6).2.1, (unhide H6).2.2⟩
            case measure => simp [intOf]; omega
        · obtain rfl : i = L.length := by omega
          have hg := unhide hg
          rw [List.take_length] at hg hrz
          have hr0 : r.size = 0 := by omega
          have hD := unhide H4 hs0 hk1 hk9 hg hr0
          have hok := unhide HMO m r hg
          have hM := unhide hMr
          have HRw := hide ((unhide HR5).upd (unhide HU) (fun e => e.elim hRG hRB))
          have Nw := hide ((unhide N5).then (unhide HU) (fun k hk e => by have := hBw; have := hGw; omega))
          have hrow := hM.row
          have hmay := refMay_any m hok wr
          have HML := hide hM.len
          have HM := hide hM
          clear hg hrz hr0 hok hMr hRd HU hW HIX HX H4 HMO hM
          go_wp2_with fail
          refine hmay.mono ?_
          rintro e wf ⟨rfl, nf⟩
          have HRf := hide ((unhide HRw).new nf)
          have Nf := hide ((unhide Nw).trans nf)
          have hrowf := ((unhide HM).new nf).row
          clear HRw Nw nf hmay hrow
          by_cases hmm : mayMsg m = true
          · rw [if_pos hmm] at hD
            generalize mayMsg m = z at *
            subst hmm
            have hml : m.hash.length = 32 := unhide HML
            have st := (unhide HRf).stOk hml
            have hZ8 := (unhide HRf).put hml
            have u8 : Upd (· = R) wf (wf.setCells R 0 m.cells) := upd_sets _
            have HZ := hide (And.intro hZ8 ((unhide Nf).then u8 (fun k hk e => by have := unhide HRe; omega)))
            clear hZ8 u8
            go_wp2_with fail
            obtain ⟨hZ8, N8⟩ := unhide HZ
            refine bodyPost_ret (results_row_tmp' rfl _ _ R _ _ _ _ rfl hZ8.at_ Tryz.underlying55 rfl (by rw [List.size_toArray, MsgV.len _ hml]; exact Tryz.infoMsR)) rfl ?_
            exact ⟨N8, _, hml, by rw [hD]; rfl⟩
          · rw [if_neg hmm] at hD
            have hmm : mayMsg m = false := by simpa using hmm
            generalize mayMsg m = z at *
            subst hmm
            have hml : MsgV.zero.hash.length = 32 := z32i_len
            have st := (unhide HRf).stOk hml
            have hZ8 := (unhide HRf).put hml
            have u8 : Upd (· = R) wf (wf.setCells R 0 MsgV.zero.cells) := upd_sets _
            have HZ := hide (And.intro hZ8 ((unhide Nf).then u8 (fun k hk e => by have := unhide HRe; omega)))
            clear hZ8 u8
            go_wp2_with fail
            obtain ⟨hZ8, N8⟩ := unhide HZ
            refine bodyPost_ret (results_row_tmp' rfl _ _ R _ _ _ _ rfl hZ8.at_ Tryz.underlying55 rfl (by rw [List.size_toArray, MsgV.len _ hml]; exact Tryz.infoMsR)) rfl ?_
            exact ⟨N8, _, hml, by rw [hD]; rfl⟩
end Go.Proofs.YtfmkdoachjgjbaaGreatDoor
