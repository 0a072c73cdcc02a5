/-
  FrameParts: the walk, by whether there are cuts.
-/
import Derived.Test.YtdmipaeolmcdgaaFrL5
namespace Go.Proofs.Ytdmipaeolmcdgaa
open Go.RowKit

set_option maxRecDepth 100000 in
set_option maxHeartbeats 8000000 in
theorem parts_empty (b off cap : Nat) (ss : List ByteArray) (a2 : Option Addr) (cap2 : Nat) (w : World)
    (hl : ss.length ≤ cap) (hm : cap ≤ maxLen) (hcell : ∀ i, i < ss.length → w.cell? ⟨b, off + i, none⟩ = some (.string (ss.getD i ByteArray.empty))) (hss : ∀ s ∈ ss, s.size ≤ maxLen) :
    Calls Try.prog 5 #[.slice (some ⟨b, off, none⟩) ss.length cap, .slice a2 0 cap2] w (Makes (.bool true) w) := by
  unfold maxLen at hm
  obtain ⟨i9, hi, hz0, hz1, hz2'⟩ := info_parts Try.info9
  by_cases h20 : 20 < ss.length
  · go_enter Try.func5, Try.ntmps5
    go_wp2_with fail
    refine (shown_any _).mono ?_
    rintro e w1 ⟨rfl, m1⟩
    go_wp2
    go_ret
    exact ⟨rfl, m1⟩
  go_enter Try.func5, Try.ntmps5
  go_wp2_with fail
  refine (shown_any _).mono ?_
  rintro e w1 ⟨rfl, m1⟩
  have hB := m1.size
  go_wp2_with fail
  go_loopw [5, 6, 7] (fun sv wv i wr => ∃ (k : Nat) (ws : List ByteArray), k ≤ ss.length ∧ i = .int .i64 k ∧ sv = .string (F ws) ∧ Good ws ∧ ws.length ≤ k ∧ Owns wr w.heap.size wv ws ∧ New w wr) (fun _ _ i _ => ss.length - (intOf i).toNat)
  case atStart => exact ⟨0, [], Nat.zero_le _, rfl, rfl, (fun t ht => by simp at ht), Nat.le_refl _, Owns.of (World.ownsRow_made (base := w.heap.size) w1 #[] 0 hB (by decide) rfl) rfl rfl, m1.alloc _⟩
  case round =>
    obtain ⟨k, ws, hk, rfl, rfl, hgood, hwl, hown', hn⟩ := hrel
    obtain ⟨aw, cw, rfl, hown⟩ := id hown'
    have hk20 : k ≤ 20 := by omega
    have hfs := F_size hgood
    by_cases hlt : k < ss.length
    · have hc := hn.cell (hcell k hlt) (fun h => h)
      have hbl : b < w.heap.size := by have := World.block_lt_of_cell? w _ (hcell k hlt); simpa using this
      have hsz := hss _ (getD_mem hlt)
      generalize ss.getD k ByteArray.empty = s at hc hsz
      unfold maxLen at hsz
      obtain ⟨M, hM, hM1, hM2, hM3⟩ : ∃ M : Nat, (if (300 : Int) < (s.size : Int) then (300 : Int) else (s.size : Int)) = (M : Int) ∧ M ≤ s.size ∧ M ≤ 300 ∧ (s.size = 0 ↔ M = 0) := by
        by_cases h : 300 < s.size
        · exact ⟨300, by rw [if_pos (by omega)]; rfl, by omega, by omega, by omega⟩
        · exact ⟨s.size, by rw [if_neg (by omega)], by omega, by omega, by omega⟩
      have hts : (s.extract 0 M).size = M := by simp; omega
      have hmx : (s.extract 0 M).size ≤ maxLen := by unfold maxLen; omega
      by_cases h0 : M = 0
      · have hP := hide (put_empty (s.extract 0 M) · (by omega))
        have hMi : (M : Int) ≤ (s.size : Int) := by omega
        have hMj : (0 : Int) ≤ (M : Int) := by omega
        clear hmx hts h0 hM1 hM2 hM3
        go_wp2_with fail
        go_region_held3 (fun w' => w'.cell? ⟨b, off + k, none⟩ = some (.string s) ∧ New wr w') (first | exact ⟨hc, (Upd.refl _ _).drew⟩ | exact ⟨m2.cell hc (fun h => h), (Upd.drew (Upd.refl _ _)).trans m2⟩) ((go_at_call 13; refine (unhide hP _).mono ?_; rintro e w2 ⟨rfl, m2⟩))
        go_wp2
        go_roundw
        case rel => exact ⟨k + 1, ws, by omega, by go_num, rfl, hgood, by omega, hown'.upd ((Upd.drew (Upd.refl _ wr)).trans m2) (fun _ _ _ h => h), hn.drew.trans m2⟩
        case measure => simp [intOf]; omega
      · have hP := hide (put_good (s.extract 0 M) · (by omega) (by omega))
        have hT : (F ws).size + (framed (s.extract 0 M)).size ≤ 9223372036854775807 := by rw [framed_size]; omega
        have hMi : (M : Int) ≤ (s.size : Int) := by omega
        have hMj : (0 : Int) ≤ (M : Int) := by omega
        have hg2 : Good (ws ++ [s.extract 0 M]) := by
          intro t ht
          rcases List.mem_append.1 ht with ht | ht
          · exact hgood t ht
          · simp only [List.mem_singleton] at ht
            subst ht
            omega
        have hF2 := F_snoc ws (s.extract 0 M)
        have Hf := hide hF2
        have Hg := hide hg2
        clear hmx h0 hM1 hM2 hM3 hF2 hg2 hts hfs
        go_wp2_with fail
        go_region_held3 (fun w' => w'.cell? ⟨b, off + k, none⟩ = some (.string s) ∧ New wr w') (first | exact ⟨hc, (Upd.refl _ _).drew⟩ | exact ⟨m2.cell hc (fun h => h), (Upd.drew (Upd.refl _ _)).trans m2⟩) ((go_at_call 13; refine (unhide hP _).mono ?_; rintro e w2 ⟨rfl, m2⟩))
        have hc2 := m2.cell hc (fun h => h)
        have hn2 := hn.drew.trans m2
        have hown2 := (hown'.upd ((Upd.drew (Upd.refl _ wr)).trans m2) (fun _ _ _ h => h)).row.2
        have hz2 := hn2.size
        have ag : (Value.slice aw ws.length cw).ownBlock ≠ some b := by intro h; have := hown2.lt b h; omega
        clear hown hown' hn hc m2
        go_wp2_with fail
        go_region_held3 (fun w' => w'.cell? ⟨b, off + k, none⟩ = some (.string s)) (first | go_keep | (rw [hgrow.cell_far _ (by simp; omega) (Ne.symm ag)]; assumption))
          ((refine step_append_lies _ (by rfl) _ _ _ (by rfl) w.heap.size 9 i9 _ 1 16 Try.underlying22 hi hz0 hz1 hz2' rfl (by omega) (.slice aw ws.length cw) ws.length (ws.map Value.string) (by rfl) ((hown2.alloc _).drew)
                ⟨w2.heap.size, 0, none⟩ 1 1 [.string (s.extract 0 M)] (by rfl) (by rfl) (World.news_of_block (cs := #[.string (s.extract 0 M)]) (t := 9) (fr := (0, 0)) (heap_alloc_new w2 _)) (by simp [Value.oneCell'])
                (by omega) (by unfold maxLen; omega) (by omega) (by simp; omega) (w2.heap.size + 1) (by simp) ?_; intro gg cap w3 hown1 hgrow hat hlt))
        go_wp2
        go_roundw
        case rel => exact ⟨k + 1, ws ++ [s.extract 0 M], by omega, by go_num, by rw [unhide Hf], unhide Hg, by simp; omega, Owns.of hown1 (by simp) (by simp), (((hn2.alloc _).drew).grown hgrow (by intro i hi h; have := hown2.lt i hi; omega))⟩
        case measure => simp [intOf]; omega
    · obtain ⟨wo, rfl⟩ : ∃ wo : World, wo = wr := ⟨_, rfl⟩
      have hkk : k = ss.length := by omega
      clear hkk hcell hss hl hm hfs
      have hwlt : ∀ i, (Value.slice aw ws.length cw).ownBlock = some i → i < wo.heap.size := fun i h => (hown.lt i h).2
      have hbz := hn.size
      have hF0 := F_size hgood
      go_wp2_with fail
      go_loopw [5, 11, 12] (fun sv gv iv wq => ∃ (j : Nat) (r s' : ByteArray) (gs rest : List ByteArray), iv = .int .i64 j ∧ sv = .string s' ∧ (j ≤ 0 ∨ s'.size = 0) ∧ j ≤ 0 + 1 ∧ Hid (ws = gs ++ rest) ∧ Hid (F rest = r ++ s') ∧ Hid (ready r = false) ∧ Spl wq wo.heap.size r ∧ Owns wq (wo.heap.size + 1) gv gs ∧ Owns wq w.heap.size (.slice aw ws.length cw) ws ∧ New w wq ∧ wo.heap.size < wq.heap.size ∧ s'.size ≤ (F ws).size) (fun sv _ iv _ => (0 + 1 - (intOf iv).toNat) + strLen sv)
      case atStart =>
        refine ⟨0, ⟨#[]⟩, F ws, [], ws, rfl, rfl, .inl (Nat.zero_le _), Nat.zero_le _, hide rfl, hide (nil_append _).symm, hide (ready_short (by decide)), ?_, ?_, ?_, (hn.alloc _).alloc _, by simp; omega, Nat.le_refl _⟩
        · exact blk_alloc_old (blk_alloc _ _) _
        · refine Owns.of (n := 0) (xs := []) ?_ rfl rfl
          have h := World.ownsRow_made (base := wo.heap.size + 1) (e := 9) (size := 1) (wo.alloc (.cells #[.string ⟨#[]⟩] 28)) #[] 0 (by simp) (by decide) rfl
          rwa [World.size_alloc] at h
        · exact hown'.upd (((Upd.refl (fun _ => False) wo).alloc _).alloc _) (fun _ _ _ h => h)
      case round =>
        obtain ⟨j, r, s', gs, rest, rfl, rfl, hj, hj2, HE, HF, HR, hb, hO, hwant, hq, hqz, hs'⟩ := hrel
        clear hown hown'
        have hgr : Good rest := fun t ht => hgood t (by rw [unhide HE]; exact List.mem_append_right _ ht)
        have hgl : gs.length ≤ 20 := by have := congrArg List.length (unhide HE); rw [List.length_append] at this; omega
        by_cases hs0 : s'.size = 0
        · obtain rfl := empty_of hs0
          obtain ⟨hr1, hr2⟩ := F_done hgr (unhide HF) (unhide HR)
          subst hr1; subst hr2
          obtain rfl : gs = ws := by have := unhide HE; simpa using this.symm
          have hL := left_any (r := ⟨#[]⟩)
          rw [show ((⟨#[]⟩ : ByteArray).size : Int) = 0 from rfl] at hL
          have hBd := bad_false (r := ⟨#[]⟩) (h := badB_short (by decide))
          have HL := hide hL
          have HB := hide hBd
          clear hL hBd HE HF HR hj hj2 hs0 hgr hF0 hgood hs'
          by_cases hz : gs.length = 0
          · obtain ⟨ag, cg, rfl⟩ := hO.shape
            clear hO hwant
            have hz0' : ((gs.length : Int) != (gs.length : Int)) = false := by simp
            have hz1' : decide ((0 : Int) < (gs.length : Int)) = false := decide_eq_false (by omega)
            go_wp2_with fail
            refine (unhide HL _ _ hb.cell).mono ?_
            rintro e w' ⟨rfl, rfl⟩
            go_wp2_with fail
            refine (unhide HB _ _ hb.cell).mono ?_
            rintro e w5 ⟨rfl, q5⟩
            have HNEW : New w w5 := hq.then (q5.upd _) (fun _ _ h => h)
            go_wp2_with fail
            go_loopw [16] (fun iv wq => iv = .int .i64 0 ∧ New w wq) (fun _ _ => 0)
            case atStart => exact ⟨rfl, HNEW⟩
            case round =>
              obtain ⟨rfl, hN⟩ := hrel
              go_wp2
              go_ret
              exact ⟨rfl, hN⟩
          · obtain ⟨g1, c1, rfl, _, hc1⟩ := hO.cells (by omega)
            obtain ⟨g2, c2, hv2, _, hc2⟩ := hwant.cells (by omega)
            injection hv2 with hv3 hv4 hv5
            subst hv3
            clear hO hwant hwlt hv4 hv5 hz
            have hz0' : ((gs.length : Int) != (gs.length : Int)) = false := by simp
            go_wp2_with fail
            refine (unhide HL _ _ hb.cell).mono ?_
            rintro e w' ⟨rfl, rfl⟩
            go_wp2_with fail
            refine (unhide HB _ _ hb.cell).mono ?_
            rintro e w5 ⟨rfl, q5⟩
            have HNEW : New w w5 := hq.then (q5.upd _) (fun _ _ h => h)
            go_wp2_with fail
            go_loopw [16] (fun iv wq => ∃ k : Nat, k ≤ gs.length ∧ iv = .int .i64 k ∧ Q w5 wq) (fun iv _ => gs.length - (intOf iv).toNat)
            case atStart => exact ⟨0, Nat.zero_le _, rfl, Q.refl _⟩
            case round =>
              obtain ⟨k, hk, rfl, q9⟩ := hrel
              by_cases hk2 : k < gs.length
              · have hx1 := q9.cell (q5.cell (hc1 k hk2))
                have hx2 := q9.cell (q5.cell (hc2 k hk2))
                clear hc1 hc2
                generalize gs.getD k ByteArray.empty = tx at hx1 hx2
                have hk0 : (0 : Int) ≤ (k : Int) := by omega
                have hk3 : (k : Int) < (gs.length : Int) := by omega
                go_wp2
                go_quiet (fail)
                go_wp2
                go_roundw
                case rel => exact ⟨k + 1, by omega, by go_num, q9.drewN' _⟩
                case measure => simp [intOf]; omega
              · go_wp2
                go_ret
                exact ⟨rfl, HNEW.then (q9.upd _) (fun _ _ h => h)⟩
        · have hpos : (0 : Int) < (s'.size : Int) := by omega
          have hnb := F_notbad hgr (unhide HF)
          have hrz : r.size + s'.size ≤ 6040 := by have h1 := congrArg ByteArray.size (unhide HF); rw [size_append'] at h1; have h2 := F_size hgr; have h3 := congrArg List.length (unhide HE); rw [List.length_append] at h3; omega
          have hj3 : j ≤ 0 := by omega
          clear hj hj2 hs0 HR hgr hgl hF0
          have hle : r.size + s'.size ≤ 9223372036854775807 := by omega
          have hp := fun w hb => push_ok wo.heap.size r s' w hb hnb hle
          obtain ⟨s2, hs2e⟩ : ∃ s2, s2 = ByteArray.empty := ⟨_, rfl⟩
          have hs2z : s2.size = 0 := by rw [hs2e]; rfl
          have hF2 : F rest = (r ++ s') ++ s2 := by rw [empty_of hs2z, append_nil']; exact unhide HF
          have hs2 : s2.size ≤ s'.size := by omega
          have hs0 : j = 0 → s2.size = 0 := fun _ => hs2z
          have HP := hide hp
          have HF2 := hide hF2
          have HS0 := hide hs0
          have HE2 := hide hs2e
          clear hp hF2 hs0 hle hnb hs2z hs2e
          generalize r ++ s' = r2 at HF2 HP
          go_wp2_with fail
          refine (unhide HP _ hb).mono ?_
          rintro e w2 ⟨rfl, u2, b2⟩
          have hO2 := hO.upd u2 (by intro i hi _ h; omega)
          have hw2 := hwant.upd u2 (by intro i hi h1 h; have := hwlt i h1; omega)
          have hn2' := hq.then u2 (by intro i hi h; have := hn.size; omega)
          clear HP u2 hb hO hwant hq
          go_wp2_with fail
          rw [← unhide HE2]
          clear HE2
          go_loopw [11] (fun gv wq => ∃ (r : ByteArray) (gs rest : List ByteArray), Hid (ws = gs ++ rest) ∧ Hid (F rest = r ++ s2) ∧ Spl wq wo.heap.size r ∧ Owns wq (wo.heap.size + 1) gv gs ∧ Owns wq w.heap.size (.slice aw ws.length cw) ws ∧ New w wq ∧ wo.heap.size < wq.heap.size) (fun _ wq => splLen wq wo.heap.size)
          case atStart => exact ⟨r2, gs, rest, HE, HF2, b2, hO2, hw2, hn2', blk_lt b2⟩
          case round =>
            obtain ⟨x, hs, rst, HE3, HF3, b3, hO3, hw3, hn3, hz3⟩ := hrel
            have hgr : Good rst := fun t ht => hgood t (by rw [unhide HE3]; exact List.mem_append_right _ ht)
            have hgl : hs.length ≤ 20 := by have := congrArg List.length (unhide HE3); rw [List.length_append] at this; omega
            by_cases hrdy : ready x = true
            · obtain ⟨t, rst', hre, hnt, hnf⟩ := F_ready hgr (unhide HF3) hrdy
              have hnx := fun w hb => next_all wo.heap.size x w hb
              rw [hnt, hrdy] at hnx
              have hlt2 := nextR_lt hrdy
              have hsp := splLen_of b3
              have HSp := hide hsp
              have HN := hide hnx
              have HE4 : Hid (ws = (hs ++ [t]) ++ rst') := hide (by rw [unhide HE3, hre]; simp)
              have HF4 := hide hnf
              obtain ⟨ag, cg, rfl⟩ := hO3.shape
              clear hnx hnf hnt hre hrdy hsp
              generalize nextR x = y at *
              go_wp2_with fail
              refine (unhide HN _ b3).mono ?_
              rintro e w4 ⟨rfl, u4, b4⟩
              have hO4 := (hO3.upd u4 (by intro i hi _ h; omega)).row.2
              have hw4 := hw3.upd u4 (by intro i hi h1 h; have := hwlt i h1; omega)
              have hn4 := hn3.then u4 (by intro i hi h; have := hn.size; omega)
              have hz4 := u4.size
              have hsp4 := splLen_of b4
              have HSp4 := hide hsp4
              clear hsp4
              go_wp2_with (at_builtin; refine wpList_append_own _ rfl (.tmp 108) (.tmp 110) 22 rfl (wo.heap.size + 1) 9 i9 _ 1 16 Try.underlying22 hi hz0 hz1 hz2' rfl (by decide) _ _ _ rfl (hO4.alloc _) ⟨w4.heap.size, 0, none⟩ 1 1 [.string t] rfl rfl ?c1 ?c2 ?c3 ?c4 ?c5 ?_)
              case c1 => exact one_new w4 t _
              case c2 => simp [Value.oneCell']
              case c3 => unfold maxLen; omega
              case c4 => omega
              case c5 => simp; omega
              intro v' w5 hown5 hgrow5 _
              have b5 : Spl w5 wo.heap.size y := by
                refine (hgrow5.block _ (by simp; omega) ?_).trans (blk_alloc_old b4 _)
                intro h
                have := hO4.lt _ h.symm
                omega
              have hw5 : Owns w5 w.heap.size (.slice aw ws.length cw) ws := by
                refine (hw4.upd ((Upd.refl (fun k => wo.heap.size + 1 ≤ k) w4).alloc _) (by intro i hi h1 h; have := hwlt i h1; omega)).upd ((Upd.refl (fun k => wo.heap.size + 1 ≤ k) _).grown hgrow5 (by intro i h _; have := hO4.lt i h; omega)) (by intro i hi h1 h; have := hwlt i h1; omega)
              have hn5 : New w w5 := (hn4.alloc _).grown hgrow5 (by intro i h hi; have := hO4.lt i h; have := hn.size; omega)
              have hz5 := hgrow5.size
              have hsp5 := splLen_of b5
              have HSp5 := hide hsp5
              clear hsp5
              go_wp2
              go_roundw
              case rel => exact ⟨y, hs ++ [t], rst', HE4, HF4, b5, Owns.of hown5 (by simp) (by simp), hw5, hn5, by simp at hz5; omega⟩
              case measure => rw [unhide HSp5, unhide HSp]; exact hlt2
            · have hrf : ready x = false := by simpa using hrdy
              have hnx := fun w hb => next_all wo.heap.size x w hb
              rw [nextT_not hrf, nextR_not hrf, hrf] at hnx
              have HN := hide hnx
              have HR := hide hrf
              clear hnx hrf hrdy
              go_wp2_with fail
              refine (unhide HN _ b3).mono ?_
              rintro e w4 ⟨rfl, u4, b4⟩
              have hO4 := hO3.upd u4 (by intro i hi _ h; omega)
              have hw4 := hw3.upd u4 (by intro i hi h1 h; have := hwlt i h1; omega)
              have hn4 := hn3.then u4 (by intro i hi h; have := hn.size; omega)
              have hz4 := u4.size
              go_wp2
              go_roundw
              case rel => exact ⟨j + 1, x, s2, hs, rst, by go_num, rfl, by have := unhide HS0; omega, by omega, HE3, HF3, HR, b4, hO4, hw4, hn4, by omega, by omega⟩
              case measure => simp [intOf, strLen]; omega

end Go.Proofs.Ytdmipaeolmcdgaa
