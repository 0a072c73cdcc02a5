/-
  The reference's Of: its first loop.
-/
import Derived.Test.YtbcjhpeighlncaaDoorSel
namespace Go.Proofs.YtbcjhpeighlncaaDoor
open Go.RowKit Go.Sort

theorem bs_item0R (w : World) : (bsItemR 0 #[]).run Tryd.prog w = .ok (.slice (some ⟨w.heap.size, 0, none⟩) 0 0) (w.alloc (.cells #[] 67)) := by
  obtain ⟨i, z, hi, hz, hc⟩ := item_zeroR
  have hsz : i.size = 36 := by have := Tryd.infoItemR; rw [hi] at this; simpa using this
  show (Instr.buildSlice 34 0 #[]).run Tryd.prog w = _
  simp [Instr.buildSlice, run_underlying Tryd.underlying34, sizeOf, typeInfo, zeroValue, hi, hz, hsz, Instr.fill, newRow]
  rw [Array.eq_empty_of_size_eq_zero (xs := Array.map _ (Array.range 0)) (by simp)]
def stItemR (x v : Value) : Sem Unit := Instr.storeAt 67 x v
theorem st_item_foldR (x v : Value) : Instr.storeAt 67 x v = stItemR x v := rfl
theorem st_itemR (b o : Nat) (A : Array Value) (w : World) : (stItemR (.pointer (some ⟨b, o, none⟩)) (.agg A)).run Tryd.prog w = if stOk w b o 36 A = true then .ok () (w.setCells b o A.toList) else slowSt Tryd.prog 67 w b o A :=
  run_storeAt_row 67 36 Tryd.infoItemR b o A w
attribute [local go_sem ↓ high] ld_live_foldR st_live_foldR ld_htlc_fold bd_item_foldR bs_item_foldR ld_item_foldR st_item_foldR
attribute [local go_sem] ld_liveR st_liveR ld_htlc bd_itemR bs_itemR bs_item0R ld_itemR st_itemR rowN_drew

set_option maxRecDepth 100000 in
set_option maxHeartbeats 8000000 in
theorem refof_any (ours : Bool) (l r : Int) (v : Value) (xs : List Live) (hl : xs.length ≤ 60) (w : World) (hv : Lives w v xs) :
    Calls Tryd.prog 17 #[.bool ours, .agg #[.int .u64 l, .int .u64 r], v] w fun e w' => ∃ u, e = .returned (.agg #[.int .u64 (if ours then (sumsOf ours l r xs).1 else (sumsOf ours l r xs).2), .int .u64 (if ours then (sumsOf ours l r xs).2 else (sumsOf ours l r xs).1), u]) ∧
      New w w' ∧ ItemsR w' u (viewL (itemsOf ours xs)) ∧ IsView (itemsOf ours xs) (viewL (itemsOf ours xs)) := by
  obtain ⟨va, vc, rfl⟩ := hv.slice
  obtain ⟨i9, z9, hi, hz, hz0, hz1, hz2⟩ := item_infoR
  go_enter Tryd.func17, Tryd.ntmps17
  go_upto_region 1 with fail
  obtain ⟨wA, hwA⟩ : ∃ wA : World, wA = (w.alloc (.cells #[.int .u64 l, .int .u64 r] 52)).alloc (.cells #[.int .u64 0, .int .u64 0, .slice none 0 0] 36) := ⟨_, rfl⟩
  have sA : wA.heap.size = w.heap.size + 2 := by rw [hwA]; simp
  have nA : New w wA := by rw [hwA]; exact ((Upd.refl _ _).alloc _).alloc _
  have vA : wA.heap[w.heap.size]? = some (.cells #[.int .u64 l, .int .u64 r] 52 (0, 0)) := by rw [hwA]; exact blk_alloc_old (blk_alloc _ _) _
  have vB : wA.heap[w.heap.size + 1]? = some (.cells #[.int .u64 0, .int .u64 0, .slice none 0 0] 36 (0, 0)) := by
    rw [hwA]
    have := blk_alloc (w.alloc (.cells #[.int .u64 l, .int .u64 r] 52)) (.cells #[.int .u64 0, .int .u64 0, .slice none 0 0] 36)
    rwa [World.size_alloc] at this
  rw [← hwA]
  clear hwA
  have c0 := blk_cell vA 0
  have c1 := blk_cell vA 1
  simp at c0 c1
  go_upto_region 4 with fail
  have nB : New w (wA.alloc (.cells #[] 67)) := nA.alloc _
  have hO := World.ownsRow_made (base := w.heap.size + 2) (e := 67) (size := 36) wA #[] 0 (by omega) (by decide) rfl
  have vB2 := blk_alloc_old vB (.cells #[] 67)
  have sB : w.heap.size + 3 ≤ (wA.alloc (.cells #[] 67)).heap.size := by simp [sA]
  rw [sA] at hO
  generalize wA.alloc (.cells #[] 67) = wB at nB hO vB2 sB ⊢
  have HV := hide hv
  have HO := hide hO
  clear hO hv c0 c1 vA vB nA sA
  obtain ⟨wo, rfl⟩ : ∃ wo : World, wo = wB := ⟨_, rfl⟩
  go_wp2_with fail
  go_loopw [7, 8, 9, 10, 11, 12, 13, 14] (fun s7 s8 s9 iv _ _ _ _ wr => ∃ (n : Nat) (a : Option Addr) (c : Nat), iv = .int .i64 (n : Int) ∧ n ≤ xs.length ∧ s7 = .int .u64 (sumsOf ours l r (xs.take n)).1 ∧ s8 = .int .u64 (sumsOf ours l r (xs.take n)).2 ∧
    s9 = .slice a (itemsOf ours (xs.take n)).length c ∧ Hid (wr.ownsRow (w.heap.size + 2) 67 36 s9 (itemsOf ours (xs.take n)).length ((itemsOf ours (xs.take n)).flatMap itemCells)) ∧
    wr.heap[w.heap.size + 1]? = some (.cells #[.int .u64 0, .int .u64 0, .slice none 0 0] 36 (0, 0)) ∧ New w wr ∧ w.heap.size + 3 ≤ wr.heap.size) (fun _ _ _ iv _ _ _ _ _ => xs.length - (intOf iv).toNat)
  case atStart => exact ⟨0, _, _, rfl, Nat.zero_le _, rfl, rfl, rfl, HO, vB2, nB, by omega⟩
  case round =>
    obtain ⟨n, a, c, rfl, hn, rfl, rfl, rfl, HO, kB, nr, hsz⟩ := hrel
    clear vB2 nB
    by_cases hlt : n < xs.length
    · obtain ⟨x, hx⟩ : ∃ x, xs[n]? = some x := ⟨_, List.getElem?_eq_getElem hlt⟩
      rcases (unhide HV).new nr with ⟨_, _, e, e2⟩ | ⟨g, off, cap, e, hh⟩
      · rw [e2] at hlt; simp at hlt
      · cases e
        have hrow := hh.row hx
        have hnn : (n : Int) < (xs.length : Int) := by omega
        have hst : stOk (wr.alloc (.cells #[.int .u64 0, .int .u64 0, .int .u8 0, .int .u8 0, .int .u8 0, .int .u8 0, .int .u8 0, .int .u8 0, .int .u8 0, .int .u8 0, .int .u8 0, .int .u8 0, .int .u8 0, .int .u8 0, .int .u8 0, .int .u8 0, .int .u8 0, .int .u8 0, .int .u8 0, .int .u8 0, .int .u8 0, .int .u8 0, .int .u8 0, .int .u8 0, .int .u8 0, .int .u8 0, .int .u8 0, .int .u8 0, .int .u8 0, .int .u8 0, .int .u8 0, .int .u8 0, .int .u8 0, .int .u8 0, .int .i64 0, .bool false, .int .i64 0, .bool false] 76)) wr.heap.size 0 38 (liveCells x).toArray = true := stOk_blk (blk_alloc _ _) (by decide) (by rw [List.size_toArray, live_len]) (by rw [List.all_toArray, List.all_eq_true]; exact live_one x)
        have hlaid := laid_new wr #[.int .u64 0, .int .u64 0, .int .u8 0, .int .u8 0, .int .u8 0, .int .u8 0, .int .u8 0, .int .u8 0, .int .u8 0, .int .u8 0, .int .u8 0, .int .u8 0, .int .u8 0, .int .u8 0, .int .u8 0, .int .u8 0, .int .u8 0, .int .u8 0, .int .u8 0, .int .u8 0, .int .u8 0, .int .u8 0, .int .u8 0, .int .u8 0, .int .u8 0, .int .u8 0, .int .u8 0, .int .u8 0, .int .u8 0, .int .u8 0, .int .u8 0, .int .u8 0, .int .u8 0, .int .u8 0, .int .i64 0, .bool false, .int .i64 0, .bool false] 76 (liveCells x) (by rw [live_len]; rfl)
        have v1 := live_1 x
        have v35 := live_35 x
        have v36 := live_36 x
        have v37 := live_37 x
        have vh : ((liveCells x).toArray).extract 0 35 = (htlcCells x.h).toArray := by
          apply Array.ext'
          simp [liveCells, List.take_append_of_le_length, htlc_len, List.extract_eq_take_drop]
        have hlen := live_len x
        obtain ⟨hst1, hst2⟩ := step_ref (ours := ours) (l := l) (r := r) hx
        have hble : (itemsOf ours (xs.take n)).length ≤ n := Nat.le_trans (items_le _ _) (by rw [List.length_take]; omega)
        have HBL := hide hble
        clear hx hh hble
        generalize liveCells x = C at hrow hst hlaid v1 v35 v36 v37 vh hlen
        go_upto_region 8 with fail
        obtain ⟨hbx, nC⟩ := hlaid
        generalize (wr.alloc (.cells #[.int .u64 0, .int .u64 0, .int .u8 0, .int .u8 0, .int .u8 0, .int .u8 0, .int .u8 0, .int .u8 0, .int .u8 0, .int .u8 0, .int .u8 0, .int .u8 0, .int .u8 0, .int .u8 0, .int .u8 0, .int .u8 0, .int .u8 0, .int .u8 0, .int .u8 0, .int .u8 0, .int .u8 0, .int .u8 0, .int .u8 0, .int .u8 0, .int .u8 0, .int .u8 0, .int .u8 0, .int .u8 0, .int .u8 0, .int .u8 0, .int .u8 0, .int .u8 0, .int .u8 0, .int .u8 0, .int .i64 0, .bool false, .int .i64 0, .bool false] 76)).setCells wr.heap.size 0 C = wC at hbx nC ⊢
        have s1 : wC.cell? ⟨wr.heap.size, 1, none⟩ = some (.int .u64 x.h.amount) := by rw [blk_cell hbx, List.getElem?_toArray]; exact v1
        have s35 : wC.cell? ⟨wr.heap.size, 35, none⟩ = some (.bool x.own) := by rw [blk_cell hbx, List.getElem?_toArray]; exact v35
        have s36 : wC.cell? ⟨wr.heap.size, 36, none⟩ = some (.int .i64 x.state) := by rw [blk_cell hbx, List.getElem?_toArray]; exact v36
        have s37 : wC.cell? ⟨wr.heap.size, 37, none⟩ = some (.bool x.paid) := by rw [blk_cell hbx, List.getElem?_toArray]; exact v37
        have hrh : rowN wC wr.heap.size 0 35 = some (htlcCells x.h).toArray := by
          rw [rowN_blk hbx 0 35 (by simp [hlen]), Nat.zero_add, vh]
        have nW := nr.trans nC
        have kC := nC.old kB (fun h => h)
        have hszC := nC.size
        have HOC := hide (owns_new (unhide HO) nC)
        clear hst hrow vh v1 v35 v36 v37 hbx
        go_wp2_with fail
        refine (reftheirs_any x.state x.own wC).mono ?_
        rintro e wD ⟨rfl, qD⟩
        have s1 := qD.cell s1
        have s35 := qD.cell s35
        have s36 := qD.cell s36
        have s37 := qD.cell s37
        have hrh := rowN_q hrh qD
        go_wp2_with fail
        refine (refsettled_any x.state x.own wD).mono ?_
        rintro e wE ⟨rfl, qE⟩
        have s1 := qE.cell s1
        have s35 := qE.cell s35
        have s36 := qE.cell s36
        have s37 := qE.cell s37
        have hrh := rowN_q hrh qE
        have qq := qD.trans qE
        cases ours
        · have e1 : hasB false x.own x.state = oursB x.state !x.own := rfl
          have e2 : goneB false x.own x.state = outB x.state !x.own := rfl
          rw [e1] at hst1 hst2
          rw [e2] at hst2
          clear e1 e2
          obtain ⟨wF, hF⟩ : ∃ wF : World, wF = wE := ⟨_, rfl⟩
          subst hF
          have nF := nW.trans (qq.upd _)
          have kF := qq.old kC
          have hszF : wC.heap.size = wF.heap.size := by rw [qq.heap]
          have HOF := hide (owns_new (unhide HOC) (qq.upd _))
          have hszF2 : w.heap.size + 3 ≤ wF.heap.size := by omega
          clear hszF qq qD qE kC nW HOC kB
          cases hin : oursB x.state !x.own
          · obtain ⟨ht, hs⟩ := hst2 hin
            clear hst1 hst2 hin
            cases hg : outB x.state !x.own <;> cases hp : x.paid <;> cases ho : x.own
            all_goals
              rw [hg, hp, ho] at hs
              rw [hp] at s37
              rw [ho] at s35
              have HT := hide ht
              have HS := hide hs
              clear ht hs hg hp ho
              go_wp2
              go_roundw
              case rel => exact ⟨n + 1, a, c, by go_num, by omega, by rw [unhide HS]; rfl, by rw [unhide HS]; rfl, by rw [unhide HT], hide (by rw [unhide HT]; exact unhide HOF), kF, nF, hszF2⟩
              case measure => simp [intOf]; omega
          · obtain ⟨ht, hs⟩ := hst1 hin
            clear hst1 hst2 hin
            cases ho : x.own
            · rw [ho] at ht s35
              have HT := hide ht
              have HS := hide hs
              clear ht hs ho
              have hhl := htlc_len x.h
              go_wp2_with (at_builtin; refine wpList_append_own _ rfl (.tmp 57) (.tmp 65) 34 rfl (w.heap.size + 2) 67 i9 _ 36 64 Tryd.underlying34 hi hz hz0 hz1 hz2 (by decide) _ _ _ rfl ((unhide HOF).alloc _) ⟨wF.heap.size, 0, none⟩ 1 1 (itemCells ⟨true, x.h⟩) rfl (item_len _) ?c1 (item_one _) ?c3 ?c4 ?c5 ?_)
              case c1 =>
                intro j u hj
                have hadd : (⟨wF.heap.size, 0, none⟩ : Addr).add j = ⟨wF.heap.size, j, none⟩ := by unfold Addr.add; split <;> simp_all
                rw [hadd, blk_cell (blk_alloc _ _)]
                simpa [itemCells] using hj
              case c3 => have := unhide HBL; unfold maxLen; omega
              case c4 => have := unhide HBL; omega
              case c5 => simp; omega
              intro v' w5 hown5 hgrow5 _
              have n5 : New w w5 := (nF.alloc _).grown hgrow5 (fun k h hk => by have := own_ge (unhide HOF) k h; omega)
              have k5 := (hgrow5.block (w.heap.size + 1) (by simp; omega) (by intro h; have := own_ge (unhide HOF) _ h.symm; omega)).trans (blk_alloc_old kF _)
              have z5 := hgrow5.size
              obtain ⟨va', vk', vc', rfl⟩ := own_shape hown5
              have hvk : vk' = (itemsOf _ (xs.take n)).length + 1 := own_n hown5
              subst hvk
              have HO5 := hide hown5
              have hle5 : w.heap.size + 3 ≤ w5.heap.size := by simp at z5; omega
              clear hown5 hgrow5 s1 s35 s37 hrh kF z5
              go_wp2
              go_roundw
              case rel =>
                refine ⟨n + 1, va', vc', by go_num, by omega, by rw [unhide HS], by rw [unhide HS], by rw [unhide HT]; simp, hide ?_, k5, n5, hle5⟩
                rw [unhide HT, List.flatMap_append, List.length_append]
                simpa [itemCells] using unhide HO5
              case measure => simp [intOf]; omega

            · rw [ho] at ht s35
              have HT := hide ht
              have HS := hide hs
              clear ht hs ho
              have hhl := htlc_len x.h
              go_wp2_with (at_builtin; refine wpList_append_own _ rfl (.tmp 57) (.tmp 65) 34 rfl (w.heap.size + 2) 67 i9 _ 36 64 Tryd.underlying34 hi hz hz0 hz1 hz2 (by decide) _ _ _ rfl ((unhide HOF).alloc _) ⟨wF.heap.size, 0, none⟩ 1 1 (itemCells ⟨false, x.h⟩) rfl (item_len _) ?c1 (item_one _) ?c3 ?c4 ?c5 ?_)
              case c1 =>
                intro j u hj
                have hadd : (⟨wF.heap.size, 0, none⟩ : Addr).add j = ⟨wF.heap.size, j, none⟩ := by unfold Addr.add; split <;> simp_all
                rw [hadd, blk_cell (blk_alloc _ _)]
                simpa [itemCells] using hj
              case c3 => have := unhide HBL; unfold maxLen; omega
              case c4 => have := unhide HBL; omega
              case c5 => simp; omega
              intro v' w5 hown5 hgrow5 _
              have n5 : New w w5 := (nF.alloc _).grown hgrow5 (fun k h hk => by have := own_ge (unhide HOF) k h; omega)
              have k5 := (hgrow5.block (w.heap.size + 1) (by simp; omega) (by intro h; have := own_ge (unhide HOF) _ h.symm; omega)).trans (blk_alloc_old kF _)
              have z5 := hgrow5.size
              obtain ⟨va', vk', vc', rfl⟩ := own_shape hown5
              have hvk : vk' = (itemsOf _ (xs.take n)).length + 1 := own_n hown5
              subst hvk
              have HO5 := hide hown5
              have hle5 : w.heap.size + 3 ≤ w5.heap.size := by simp at z5; omega
              clear hown5 hgrow5 s1 s35 s37 hrh kF z5
              go_wp2
              go_roundw
              case rel =>
                refine ⟨n + 1, va', vc', by go_num, by omega, by rw [unhide HS], by rw [unhide HS], by rw [unhide HT]; simp, hide ?_, k5, n5, hle5⟩
                rw [unhide HT, List.flatMap_append, List.length_append]
                simpa [itemCells] using unhide HO5
              case measure => simp [intOf]; omega

        · have e1 : hasB true x.own x.state = oursB x.state x.own := rfl
          have e2 : goneB true x.own x.state = outB x.state x.own := rfl
          rw [e1] at hst1 hst2
          rw [e2] at hst2
          clear e1 e2
          go_wp2_with fail
          refine (refours_any x.state x.own wE).mono ?_
          rintro e wF ⟨rfl, qF⟩
          have s1 := qF.cell s1
          have s35 := qF.cell s35
          have s36 := qF.cell s36
          have s37 := qF.cell s37
          have hrh := rowN_q hrh qF
          have qq := qq.trans qF
          have nF := nW.trans (qq.upd _)
          have kF := qq.old kC
          have hszF : wC.heap.size = wF.heap.size := by rw [qq.heap]
          have HOF := hide (owns_new (unhide HOC) (qq.upd _))
          have hszF2 : w.heap.size + 3 ≤ wF.heap.size := by omega
          clear hszF qq qD qE qF kC nW HOC kB
          cases hin : oursB x.state x.own
          · obtain ⟨ht, hs⟩ := hst2 hin
            clear hst1 hst2 hin
            cases hg : outB x.state x.own <;> cases hp : x.paid <;> cases ho : x.own
            all_goals
              rw [hg, hp, ho] at hs
              rw [hp] at s37
              rw [ho] at s35
              have HT := hide ht
              have HS := hide hs
              clear ht hs hg hp ho
              go_wp2
              go_roundw
              case rel => exact ⟨n + 1, a, c, by go_num, by omega, by rw [unhide HS]; rfl, by rw [unhide HS]; rfl, by rw [unhide HT], hide (by rw [unhide HT]; exact unhide HOF), kF, nF, hszF2⟩
              case measure => simp [intOf]; omega
          · obtain ⟨ht, hs⟩ := hst1 hin
            clear hst1 hst2 hin
            cases ho : x.own
            · rw [ho] at ht s35
              have HT := hide ht
              have HS := hide hs
              clear ht hs ho
              have hhl := htlc_len x.h
              go_wp2_with (at_builtin; refine wpList_append_own _ rfl (.tmp 57) (.tmp 65) 34 rfl (w.heap.size + 2) 67 i9 _ 36 64 Tryd.underlying34 hi hz hz0 hz1 hz2 (by decide) _ _ _ rfl ((unhide HOF).alloc _) ⟨wF.heap.size, 0, none⟩ 1 1 (itemCells ⟨false, x.h⟩) rfl (item_len _) ?c1 (item_one _) ?c3 ?c4 ?c5 ?_)
              case c1 =>
                intro j u hj
                have hadd : (⟨wF.heap.size, 0, none⟩ : Addr).add j = ⟨wF.heap.size, j, none⟩ := by unfold Addr.add; split <;> simp_all
                rw [hadd, blk_cell (blk_alloc _ _)]
                simpa [itemCells] using hj
              case c3 => have := unhide HBL; unfold maxLen; omega
              case c4 => have := unhide HBL; omega
              case c5 => simp; omega
              intro v' w5 hown5 hgrow5 _
              have n5 : New w w5 := (nF.alloc _).grown hgrow5 (fun k h hk => by have := own_ge (unhide HOF) k h; omega)
              have k5 := (hgrow5.block (w.heap.size + 1) (by simp; omega) (by intro h; have := own_ge (unhide HOF) _ h.symm; omega)).trans (blk_alloc_old kF _)
              have z5 := hgrow5.size
              obtain ⟨va', vk', vc', rfl⟩ := own_shape hown5
              have hvk : vk' = (itemsOf _ (xs.take n)).length + 1 := own_n hown5
              subst hvk
              have HO5 := hide hown5
              have hle5 : w.heap.size + 3 ≤ w5.heap.size := by simp at z5; omega
              clear hown5 hgrow5 s1 s35 s37 hrh kF z5
              go_wp2
              go_roundw
              case rel =>
                refine ⟨n + 1, va', vc', by go_num, by omega, by rw [unhide HS], by rw [unhide HS], by rw [unhide HT]; simp, hide ?_, k5, n5, hle5⟩
                rw [unhide HT, List.flatMap_append, List.length_append]
                simpa [itemCells] using unhide HO5
              case measure => simp [intOf]; omega

            · rw [ho] at ht s35
              have HT := hide ht
              have HS := hide hs
              clear ht hs ho
              have hhl := htlc_len x.h
              go_wp2_with (at_builtin; refine wpList_append_own _ rfl (.tmp 57) (.tmp 65) 34 rfl (w.heap.size + 2) 67 i9 _ 36 64 Tryd.underlying34 hi hz hz0 hz1 hz2 (by decide) _ _ _ rfl ((unhide HOF).alloc _) ⟨wF.heap.size, 0, none⟩ 1 1 (itemCells ⟨true, x.h⟩) rfl (item_len _) ?c1 (item_one _) ?c3 ?c4 ?c5 ?_)
              case c1 =>
                intro j u hj
                have hadd : (⟨wF.heap.size, 0, none⟩ : Addr).add j = ⟨wF.heap.size, j, none⟩ := by unfold Addr.add; split <;> simp_all
                rw [hadd, blk_cell (blk_alloc _ _)]
                simpa [itemCells] using hj
              case c3 => have := unhide HBL; unfold maxLen; omega
              case c4 => have := unhide HBL; omega
              case c5 => simp; omega
              intro v' w5 hown5 hgrow5 _
              have n5 : New w w5 := (nF.alloc _).grown hgrow5 (fun k h hk => by have := own_ge (unhide HOF) k h; omega)
              have k5 := (hgrow5.block (w.heap.size + 1) (by simp; omega) (by intro h; have := own_ge (unhide HOF) _ h.symm; omega)).trans (blk_alloc_old kF _)
              have z5 := hgrow5.size
              obtain ⟨va', vk', vc', rfl⟩ := own_shape hown5
              have hvk : vk' = (itemsOf _ (xs.take n)).length + 1 := own_n hown5
              subst hvk
              have HO5 := hide hown5
              have hle5 : w.heap.size + 3 ≤ w5.heap.size := by simp at z5; omega
              clear hown5 hgrow5 s1 s35 s37 hrh kF z5
              go_wp2
              go_roundw
              case rel =>
                refine ⟨n + 1, va', vc', by go_num, by omega, by rw [unhide HS], by rw [unhide HS], by rw [unhide HT]; simp, hide ?_, k5, n5, hle5⟩
                rw [unhide HT, List.flatMap_append, List.length_append]
                simpa [itemCells] using unhide HO5
              case measure => simp [intOf]; omega

    · obtain rfl : n = xs.length := by omega
      obtain ⟨w4, rfl⟩ : ∃ w4 : World, w4 = wr := ⟨_, rfl⟩
      rw [List.take_length] at HO ⊢
      generalize hP : sumsOf ours l r xs = P
      have HP := hide hP
      clear hP
      generalize hI : itemsOf ours xs = I at HO ⊢
      have hIl : I.length ≤ 60 := by rw [← hI]; have := items_le ours xs; omega
      have HI := hide hI
      clear hI hl
      go_upto_if 88 with fail
      have vK := blk_alloc w4 (.cells #[.int .u64 P.2, .int .u64 P.1, .slice none 0 0] 36)
      have nK : New w4 (w4.alloc (.cells #[.int .u64 P.2, .int .u64 P.1, .slice none 0 0] 36)) := (Upd.refl _ _).alloc _
      have sK : w4.heap.size < (w4.alloc (.cells #[.int .u64 P.2, .int .u64 P.1, .slice none 0 0] 36)).heap.size := by simp
      generalize w4.alloc (.cells #[.int .u64 P.2, .int .u64 P.1, .slice none 0 0] 36) = wK at vK nK sK ⊢
      have d0 := blk_cell vK 0
      have d1 := blk_cell vK 1
      have d2 := blk_cell vK 2
      have z0 := blk_free vK 0
      have z1 := blk_free vK 1
      have z2 := blk_free vK 2
      simp at d0 d1 d2
      go_cut [88] from 88 to 92 (fun _ wx => wx.heap[w4.heap.size]? = some (.cells #[.int .u64 (if ours then P.1 else P.2), .int .u64 (if ours then P.2 else P.1), .slice none 0 0] 36 (0, 0)) ∧ Upd (· = w4.heap.size) wK wx)
      case first =>
        cases ours
        · go_wp2
          go_meet
          case rel => exact ⟨vK, Upd.refl _ _⟩
        · go_wp2
          go_meet
          case rel => exact ⟨laid3_blk _ _ _ vK, laid3_upd _ _ _ _ _⟩
      case rest =>
        obtain ⟨k4, u4⟩ := hcut
        have nw : New w wc := (nr.trans nK).then u4 (fun i hi e => by have := nr.size; omega)
        have hOc := (owns_new (unhide HO) nK)
        have hne : ∀ k, (Value.slice a I.length c).ownBlock = some k → k < w4.heap.size := fun k hk => ((unhide HO).lt k hk).2
        have hOw : wc.ownsRow (w.heap.size + 2) 67 36 (.slice a I.length c) I.length (I.flatMap itemCells) := by
          refine ⟨hOc.1, ?_⟩
          rcases hOc.2 with h | ⟨g, cap, cur, e1, e2, hg, rr⟩
          · exact .inl h
          · have : g < w4.heap.size := hne g (by rw [e1]; rfl)
            exact .inr ⟨g, cap, cur, e1, e2, u4.old hg (by omega), rr⟩
        have hsc : w4.heap.size < wc.heap.size := blk_lt k4
        have kBc := u4.old (nK.old kB (fun h => h)) (by omega)
        have HOW := hide hOw
        have HNE := hide hne
        clear hOc hOw hne HO vK nK sK u4 kB nr d0 d1 d2 z0 z1 z2
        generalize hA : (if ours = true then P.1 else P.2) = A at k4
        generalize hB : (if ours = true then P.2 else P.1) = B at k4
        have HA := hide hA
        have HB := hide hB
        clear hA hB
        obtain ⟨ws, rfl⟩ : ∃ ws : World, ws = wc := ⟨_, rfl⟩
        have sinit := sel_init I
        have hzl : I.zipIdx.length = I.length := by simp
        have HZ := hide hzl
        have HSI := hide sinit
        clear hzl sinit
        go_wp2_with fail
        go_loopw [9, 16, 17, 18, 19, 20] (fun s9 _ _ _ _ _ wq => ∃ (R M : List (Item × Nat)) (a sa : Option Addr) (c sc : Nat), s9 = .slice a R.length c ∧ Hid (SelInv I R M) ∧ Hid (∃ base, wq.ownsRow base 67 36 (.slice a R.length c) R.length ((its R).flatMap itemCells)) ∧
          Hid (∀ k, (Value.slice a R.length c).ownBlock = some k → k ≠ w4.heap.size ∧ (Value.slice sa M.length sc).ownBlock ≠ some k) ∧ Hid (wq.ownsRow ws.heap.size 67 36 (.slice sa M.length sc) M.length ((its M).flatMap itemCells)) ∧
          wq.heap[w4.heap.size]? = some (.cells #[.int .u64 A, .int .u64 B, .slice sa M.length sc] 36 (0, 0)) ∧ Upd (· = w4.heap.size) ws wq) (fun s9 _ _ _ _ _ _ => sliceLen s9)
        case atStart =>
          refine ⟨I.zipIdx, [], a, none, c, 0, by rw [unhide HZ], HSI, hide ⟨_, by rw [unhide HZ, its_zip]; exact unhide HOW⟩, hide (fun k hk => ?_), hide (World.ownsRow_nil _ _ _ _), k4, Upd.refl _ _⟩
          rw [unhide HZ] at hk
          exact ⟨by have := unhide HNE k hk; omega, by intro h; simp [Value.ownBlock] at h⟩
        case round =>
          obtain ⟨wq, rfl⟩ : ∃ wq : World, wq = wr := ⟨_, rfl⟩
          obtain ⟨R, M, a, sa, c, sc, rfl, HSI, HOR, HD, HOM, kq, uq⟩ := hrel
          have hI2 := sel_len (unhide HSI)
          have hRl : R.length ≤ 60 := by omega
          have hMl : M.length ≤ 60 := by omega
          clear hI2
          by_cases hpos : 0 < R.length
          · have hpos2 : (0 : Int) < (R.length : Int) := by omega
            obtain ⟨g, cap, e, hh⟩ : ∃ g cap, (Value.slice a R.length c) = .slice (some ⟨g, 0, none⟩) R.length cap ∧ HeldR wq g 0 (its R) := by
              obtain ⟨base, ho⟩ := unhide HOR
              have hlr : (its R).length = R.length := by simp [its]
              rcases (held_of_ownsR ho).2 with ⟨e, e2⟩ | ⟨g, cap, e, _, hh⟩
              · rw [e2] at hlr; simp at hlr; omega
              · exact ⟨g, cap, by rw [e, hlr], hh.toR⟩
            cases e
            have HH := hide hh
            clear hh
            go_wp2_with fail
            go_loopw [16, 17, 18, 19] (fun bv iv _ _ wz => ∃ (b k : Nat), bv = .int .i64 (b : Int) ∧ iv = .int .i64 (k : Int) ∧ b < k ∧ k ≤ R.length ∧ Hid (Best R b k) ∧ New wq wz) (fun _ iv _ _ _ => R.length - (intOf iv).toNat)
            case atStart => exact ⟨0, 1, rfl, rfl, by omega, by omega, hide (best_one R), Upd.refl _ _⟩
            case round =>
              obtain ⟨wz, rfl⟩ : ∃ wz : World, wz = wr := ⟨_, rfl⟩
              obtain ⟨b, k, rfl, rfl, hbk, hk, HBS, nz⟩ := hrel
              by_cases hlt2 : k < R.length
              · obtain ⟨q, hq⟩ : ∃ q, R[k]? = some q := ⟨_, List.getElem?_eq_getElem hlt2⟩
                obtain ⟨p, hp⟩ : ∃ p, R[b]? = some p := ⟨_, List.getElem?_eq_getElem (by omega)⟩
                have hh := (unhide HH).upd nz (fun h => h)
                have hr1 := hh.row (its_get hq)
                have hr2 := hh.row (its_get hp)
                rw [Nat.zero_add] at hr1 hr2
                have hturn := best_turn (unhide HBS) hbk hp hq
                have hkeep := best_keep (unhide HBS) (unhide HSI).idx hbk hp hq
                have hask := kl_ask q.1 p.1
                have h01 : (k : Int) < (R.length : Int) := by omega
                have h02 : (b : Int) < (R.length : Int) := by omega
                clear hp hq hh
                generalize q.1 = x at hr1 hturn hkeep hask
                generalize p.1 = y at hr2 hturn hkeep hask
                have x0 := item_0 x
                have x1 := item_1 x
                have y0 := item_0 y
                have y1 := item_1 y
                have hst1 : stOk (wz.alloc (.cells #[.bool false, .int .u64 0, .int .u64 0, .int .u8 0, .int .u8 0, .int .u8 0, .int .u8 0, .int .u8 0, .int .u8 0, .int .u8 0, .int .u8 0, .int .u8 0, .int .u8 0, .int .u8 0, .int .u8 0, .int .u8 0, .int .u8 0, .int .u8 0, .int .u8 0, .int .u8 0, .int .u8 0, .int .u8 0, .int .u8 0, .int .u8 0, .int .u8 0, .int .u8 0, .int .u8 0, .int .u8 0, .int .u8 0, .int .u8 0, .int .u8 0, .int .u8 0, .int .u8 0, .int .u8 0, .int .u8 0, .int .i64 0] 67)) wz.heap.size 0 36 (itemCells x).toArray = true := stOk_blk (blk_alloc _ _) (by decide) (by rw [List.size_toArray, item_len]) (by rw [List.all_toArray, List.all_eq_true]; exact item_one x)
                have hlaid1 := laid_new wz #[.bool false, .int .u64 0, .int .u64 0, .int .u8 0, .int .u8 0, .int .u8 0, .int .u8 0, .int .u8 0, .int .u8 0, .int .u8 0, .int .u8 0, .int .u8 0, .int .u8 0, .int .u8 0, .int .u8 0, .int .u8 0, .int .u8 0, .int .u8 0, .int .u8 0, .int .u8 0, .int .u8 0, .int .u8 0, .int .u8 0, .int .u8 0, .int .u8 0, .int .u8 0, .int .u8 0, .int .u8 0, .int .u8 0, .int .u8 0, .int .u8 0, .int .u8 0, .int .u8 0, .int .u8 0, .int .u8 0, .int .i64 0] 67 (itemCells x) (by rw [item_len]; rfl)
                have hst2 : ∀ w : World, stOk (w.alloc (.cells #[.bool false, .int .u64 0, .int .u64 0, .int .u8 0, .int .u8 0, .int .u8 0, .int .u8 0, .int .u8 0, .int .u8 0, .int .u8 0, .int .u8 0, .int .u8 0, .int .u8 0, .int .u8 0, .int .u8 0, .int .u8 0, .int .u8 0, .int .u8 0, .int .u8 0, .int .u8 0, .int .u8 0, .int .u8 0, .int .u8 0, .int .u8 0, .int .u8 0, .int .u8 0, .int .u8 0, .int .u8 0, .int .u8 0, .int .u8 0, .int .u8 0, .int .u8 0, .int .u8 0, .int .u8 0, .int .u8 0, .int .i64 0] 67)) w.heap.size 0 36 (itemCells y).toArray = true := fun w => stOk_blk (blk_alloc _ _) (by decide) (by rw [List.size_toArray, item_len]) (by rw [List.all_toArray, List.all_eq_true]; exact item_one y)
                have hlaid2 := fun w : World => laid_new w #[.bool false, .int .u64 0, .int .u64 0, .int .u8 0, .int .u8 0, .int .u8 0, .int .u8 0, .int .u8 0, .int .u8 0, .int .u8 0, .int .u8 0, .int .u8 0, .int .u8 0, .int .u8 0, .int .u8 0, .int .u8 0, .int .u8 0, .int .u8 0, .int .u8 0, .int .u8 0, .int .u8 0, .int .u8 0, .int .u8 0, .int .u8 0, .int .u8 0, .int .u8 0, .int .u8 0, .int .u8 0, .int .u8 0, .int .u8 0, .int .u8 0, .int .u8 0, .int .u8 0, .int .u8 0, .int .u8 0, .int .i64 0] 67 (itemCells y) (by rw [item_len]; rfl)
                generalize itemCells x = C at hr1 hst1 hlaid1 x0 x1
                generalize itemCells y = D at hr2 hst2 hlaid2 y0 y1
                have H2 := hide hst2
                have HD2 := hide hlaid2
                have HR2 := hide hr2
                have HTU := hide hturn
                have HKE := hide hkeep
                have HAS := hide hask
                clear hst2 hlaid2 hr2 hturn hkeep hask
                go_upto_region 27 with fail
                obtain ⟨hb1, nC⟩ := hlaid1
                generalize (wz.alloc (.cells #[.bool false, .int .u64 0, .int .u64 0, .int .u8 0, .int .u8 0, .int .u8 0, .int .u8 0, .int .u8 0, .int .u8 0, .int .u8 0, .int .u8 0, .int .u8 0, .int .u8 0, .int .u8 0, .int .u8 0, .int .u8 0, .int .u8 0, .int .u8 0, .int .u8 0, .int .u8 0, .int .u8 0, .int .u8 0, .int .u8 0, .int .u8 0, .int .u8 0, .int .u8 0, .int .u8 0, .int .u8 0, .int .u8 0, .int .u8 0, .int .u8 0, .int .u8 0, .int .u8 0, .int .u8 0, .int .u8 0, .int .i64 0] 67)).setCells wz.heap.size 0 C = wC at hb1 nC ⊢
                have hr2 := rowN_upd (unhide HR2) nC (fun h => h)
                have hst2 := unhide H2 wC
                have hlaid2 := unhide HD2 wC
                clear hst1 hr1 H2 HD2 HR2
                go_upto_region 28 with fail
                obtain ⟨hb2, nD⟩ := hlaid2
                generalize (wC.alloc (.cells #[.bool false, .int .u64 0, .int .u64 0, .int .u8 0, .int .u8 0, .int .u8 0, .int .u8 0, .int .u8 0, .int .u8 0, .int .u8 0, .int .u8 0, .int .u8 0, .int .u8 0, .int .u8 0, .int .u8 0, .int .u8 0, .int .u8 0, .int .u8 0, .int .u8 0, .int .u8 0, .int .u8 0, .int .u8 0, .int .u8 0, .int .u8 0, .int .u8 0, .int .u8 0, .int .u8 0, .int .u8 0, .int .u8 0, .int .u8 0, .int .u8 0, .int .u8 0, .int .u8 0, .int .u8 0, .int .u8 0, .int .i64 0] 67)).setCells wC.heap.size 0 D = wD at hb2 nD ⊢
                have hb3 := nD.old hb1 (fun h => h)
                have sx0 : wD.cell? ⟨wz.heap.size, 0, none⟩ = some (.bool x.offered) := by rw [blk_cell hb3, List.getElem?_toArray]; exact x0
                have sx1 : wD.cell? ⟨wz.heap.size, 1, none⟩ = some (.int .u64 x.h.id) := by rw [blk_cell hb3, List.getElem?_toArray]; exact x1
                have sy0 : wD.cell? ⟨wC.heap.size, 0, none⟩ = some (.bool y.offered) := by rw [blk_cell hb2, List.getElem?_toArray]; exact y0
                have sy1 : wD.cell? ⟨wC.heap.size, 1, none⟩ = some (.int .u64 y.h.id) := by rw [blk_cell hb2, List.getElem?_toArray]; exact y1
                have nn := nz.trans (nC.trans nD)
                clear hst2 hr2 hb1 hb2 hb3 nC nD x0 x1 y0 y1
                cases hox : x.offered <;> cases hoy : y.offered
                · by_cases hid : x.h.id < y.h.id
                  · have hB := hide (unhide HTU ((unhide HAS).2 (.inr ⟨by rw [hox, hoy], hid⟩)))
                    rw [hox] at sx0; rw [hoy] at sy0
                    clear hox hoy HTU HKE HAS
                    go_wp2
                    go_roundw
                    case rel => exact ⟨k, k + 1, rfl, by go_num, by omega, by omega, hB, nn⟩
                    case measure => simp [intOf]; omega
                  · have hB := hide (unhide HKE (fun h => by rcases (unhide HAS).1 h with ⟨h, _⟩ | ⟨_, h⟩; rw [hox] at h; cases h; exact hid h))
                    rw [hox] at sx0; rw [hoy] at sy0
                    clear hox hoy HTU HKE HAS
                    go_wp2
                    go_roundw
                    case rel => exact ⟨b, k + 1, rfl, by go_num, by omega, by omega, hB, nn⟩
                    case measure => simp [intOf]; omega
                · have hB := hide (unhide HKE (fun h => by rcases (unhide HAS).1 h with ⟨h, _⟩ | ⟨h, _⟩; rw [hox] at h; cases h; rw [hox, hoy] at h; cases h))
                  rw [hox] at sx0; rw [hoy] at sy0
                  clear hox hoy HTU HKE HAS
                  go_wp2
                  go_roundw
                  case rel => exact ⟨b, k + 1, rfl, by go_num, by omega, by omega, hB, nn⟩
                  case measure => simp [intOf]; omega
                · have hB := hide (unhide HTU ((unhide HAS).2 (.inl ⟨hox, hoy⟩)))
                  rw [hox] at sx0; rw [hoy] at sy0
                  clear hox hoy HTU HKE HAS
                  go_wp2
                  go_roundw
                  case rel => exact ⟨k, k + 1, rfl, by go_num, by omega, by omega, hB, nn⟩
                  case measure => simp [intOf]; omega
                · by_cases hid : x.h.id < y.h.id
                  · have hB := hide (unhide HTU ((unhide HAS).2 (.inr ⟨by rw [hox, hoy], hid⟩)))
                    rw [hox] at sx0; rw [hoy] at sy0
                    clear hox hoy HTU HKE HAS
                    go_wp2
                    go_roundw
                    case rel => exact ⟨k, k + 1, rfl, by go_num, by omega, by omega, hB, nn⟩
                    case measure => simp [intOf]; omega
                  · have hB := hide (unhide HKE (fun h => by rcases (unhide HAS).1 h with ⟨_, h⟩ | ⟨_, h⟩; rw [hoy] at h; cases h; exact hid h))
                    rw [hox] at sx0; rw [hoy] at sy0
                    clear hox hoy HTU HKE HAS
                    go_wp2
                    go_roundw
                    case rel => exact ⟨b, k + 1, rfl, by go_num, by omega, by omega, hB, nn⟩
                    case measure => simp [intOf]; omega
              · obtain rfl : k = R.length := by omega
                obtain ⟨p, hp⟩ : ∃ p, R[b]? = some p := ⟨_, List.getElem?_eq_getElem (by omega)⟩
                have hnext := sel_step (unhide HSI) hp (unhide HBS)
                have hh := (unhide HH).upd nz (fun h => h)
                have hrow := hh.row (its_get hp)
                rw [Nat.zero_add] at hrow
                have hlenx := item_len p.1
                have h1x := item_one p.1
                have hits : its (M ++ [p]) = its M ++ [p.1] := by simp [its]
                generalize hC : itemCells p.1 = C at hrow hlenx h1x
                have HC := hide hC
                have HN := hide hnext
                have HIT := hide hits
                have hlr : (its R).length = R.length := by simp [its]
                have hlm : (its M).length = M.length := by simp [its]
                have HLR := hide hlr
                have HLM := hide hlm
                have kz := nz.old kq (fun h => h)
                have uz : Upd (· = w4.heap.size) ws wz := uq.then nz (fun _ _ h => h.elim)
                have d2 := blk_cell kz 2
                have z2 := blk_free kz 2
                simp at d2
                have d2' : (wz.alloc (.cells C.toArray 67)).cell? ⟨w4.heap.size, 2, none⟩ = some (.slice sa M.length sc) := ((Upd.refl (fun _ => False) wz).alloc _).cell d2 (fun h => h)
                have HOZ := hide (owns_new (unhide HOM) nz)
                have HH2 := hide hh
                have hgz : g < wz.heap.size := hh.lt
                have hszz := uz.size
                have h02 : (b : Int) < (R.length : Int) := by omega
                obtain ⟨hgK, hgM⟩ := unhide HD g rfl
                have hcap : R.length ≤ c := by
                  obtain ⟨base, ho⟩ := unhide HOR
                  rcases ho.2 with ⟨e, _⟩ | ⟨g', cap', cur, e, _, _, hc, _⟩
                  · cases e
                  · cases e; exact hc
                have HGM := hide hgM
                clear hp hnext hh hC hits hlr hlm kq HH HBS hgM
                go_wp2_with fail
                go_region_law
                  ((refine step_append_lies _ (by rfl) _ _ _ (by rfl) ws.heap.size 67 i9 _ 36 64 Tryd.underlying34 hi hz hz0 hz1 hz2 (by decide) (.slice sa M.length sc) M.length ((its M).flatMap itemCells) (by rfl) (((unhide HOZ).alloc _).drew)
                        ⟨wz.heap.size, 0, none⟩ 1 1 C (by rfl) (by omega) (World.news_of_block (cs := C.toArray) (t := 67) (fr := (0, 0)) (heap_alloc_new wz _)) h1x
                        (by decide) (by unfold maxLen; omega) (by omega) (by simp; omega) (wz.heap.size + 1) (by simp) ?_; intro gg cap3 w3 hown1 hgrow hat hlt3
                    have k3 := (hgrow.block w4.heap.size (by simp; omega) (by intro h; have := own_ge (unhide HOZ) _ h.symm; omega)).trans (blk_alloc_old kz _)
                    have q1 := blk_cell k3 2
                    have q2 := blk_free k3 2
                    simp at q1))
                all_goals
                  have u4 := (Upd.refl (· = w4.heap.size) w3).set1 2 (.slice (some ⟨gg, 0, none⟩) (M.length + 1) cap3)
                  have hO4 := owns_upd hown1 u4 (fun k h1 h2 => by omega)
                  have k4 := blk_set k3 2 (.slice (some ⟨gg, 0, none⟩) (M.length + 1) cap3)
                  have n4 : Upd (· = w4.heap.size) ws (w3.setCell ⟨w4.heap.size, 2, none⟩ (.slice (some ⟨gg, 0, none⟩) (M.length + 1) cap3)) := (((uz.alloc _).drew).grown hgrow (fun k h hk => by have := own_ge (unhide HOZ) _ h; omega)).trans u4
                  have hh3 : HeldR w3 g 0 (its R) := by
                    obtain ⟨C', T', fz', hb', r'⟩ := unhide HH2
                    exact ⟨C', T', fz', (hgrow.block g (by simp; omega) (fun h => unhide HGM h.symm)).trans (blk_alloc_old hb' _), r'⟩
                  have hh4 := hh3.upd u4 hgK
                  simp at k4
                  have HO4 := hide hO4
                  have HH4 := hide hh4
                  have hgg4 : gg < (w3.setCell ⟨w4.heap.size, 2, none⟩ (.slice (some ⟨gg, 0, none⟩) (M.length + 1) cap3)).heap.size := by have := u4.size; omega
                  clear hO4 hown1 hgrow hat k3 q1 q2 hrow hh3 hh4 HH2 u4 hlt3
                  generalize w3.setCell ⟨w4.heap.size, 2, none⟩ (.slice (some ⟨gg, 0, none⟩) (M.length + 1) cap3) = w5 at *
                  have h03 : (b : Int) ≤ (c : Int) := by omega
                  have h04 : (b : Int) + 1 ≤ (R.length : Int) := by omega
                  have h05 : (R.length : Int) ≤ (c : Int) := by omega
                  have htl : ((its R).take b).length = b := by rw [List.length_take, unhide HLR]; omega
                  have HTL := hide htl
                  have hw5 := n4.size
                  clear htl
                  go_wp2_with (at_builtin; refine wpList_append_own _ rfl (.tmp 142) (.tmp 145) 34 rfl w5.heap.size 67 i9 _ 36 64 Tryd.underlying34 hi hz hz0 hz1 hz2 (by decide) _ 0 [] rfl (World.ownsRow_made (base := w5.heap.size) w5 #[] 0 (Nat.le_refl _) (by decide) rfl) ⟨g, 0, none⟩ b c (((its R).take b).flatMap itemCells) rfl ?c0 ?c1 (flat_one _) ?c3 ?c4 ?c5 ?_)
                  case c0 => rw [flat_len, unhide HTL]
                  case c1 => exact fun j u hj => ((Upd.refl (fun _ => False) w5).alloc _).cell (((unhide HH4).take b).cells j u hj) (fun h => h)
                  case c3 => unfold maxLen; omega
                  case c4 => omega
                  case c5 => simp
                  intro v7 w7 hown7 hgrow7 _
                  have hg5 := (unhide HH4).lt
                  have n7 : New w5 w7 := ((Upd.refl _ w5).alloc _).grown hgrow7 (fun k h hk => by simp [Value.ownBlock] at h; omega)
                  have HH7 := hide ((unhide HH4).upd n7 (fun h => h))
                  have hw7 := n7.size
                  obtain ⟨a7, b7, c7, rfl⟩ := own_shape hown7
                  have hb7 : b7 = b := by have := own_n hown7; omega
                  subst hb7
                  try simp only [Nat.zero_add, List.nil_append] at hown7
                  have HO7 := hide hown7
                  clear hown7 hgrow7 HH4
                  have h06 : (0 : Int) ≤ (b7 : Int) + 1 := by omega
                  have h07 : ((b7 : Int) + 1).toNat = b7 + 1 := by omega
                  have h08 : (b7 : Int) + 1 ≤ (c : Int) := by omega
                  by_cases hbc : c = b7 + 1
                  · have hbc2 : c - (b7 + 1) = 0 := by omega
                    go_wp2_with (at_builtin; refine wpList_append_own _ rfl (.tmp 147) (.tmp 151) 34 rfl w5.heap.size 67 i9 _ 36 64 Tryd.underlying34 hi hz hz0 hz1 hz2 (by decide) _ _ _ rfl (unhide HO7) ⟨g, 0, none⟩ (R.length - (b7 + 1)) 0 (((its R).drop (b7 + 1)).flatMap itemCells) rfl ?c0 ?c1 (flat_one _) ?c3 ?c4 ?c5 ?_)
                    case c0 => rw [flat_len, List.length_drop, unhide HLR]
                    case c1 =>
                      intro j u hj
                      have e : (its R).drop (b7 + 1) = [] := List.drop_eq_nil_of_le (by rw [unhide HLR]; omega)
                      rw [e] at hj; simp at hj
                    case c3 => unfold maxLen; omega
                    case c4 => omega
                    case c5 => omega
                    intro v8 w8 hown8 hgrow8 _
                    have n8 : New w5 w8 := n7.grown hgrow8 (fun k h hk => by have := own_ge (unhide HO7) k h; omega)
                    have k8 := n8.old k4 (fun h => h)
                    have HM8 := hide (owns_new (unhide HO4) n8)
                    have u8 := n4.then n8 (fun _ _ h => h.elim)
                    obtain ⟨a8, b8, c8, rfl⟩ := own_shape hown8
                    have hb8 : b8 = b7 + (R.length - (b7 + 1)) := own_n hown8
                    subst hb8
                    have HO8 := hide hown8
                    clear hown8 hgrow8 n8 k4 HO4 n4 n7
                    have hl8 : (R.take b7 ++ R.drop (b7 + 1)).length = b7 + (R.length - (b7 + 1)) := by rw [List.length_append, List.length_take, List.length_drop]; omega
                    have HL8 := hide hl8
                    clear hl8 hbc2
                    go_wp2
                    go_roundw
                    case rel =>
                      refine ⟨R.take b7 ++ R.drop (b7 + 1), M ++ [p], a8, some ⟨gg, 0, none⟩, c8, cap3, by rw [unhide HL8], HN, hide ⟨w5.heap.size, ?_⟩, hide (fun k hk => ?_), hide ?_, ?_, u8⟩
                      · rw [unhide HL8, its_split, List.flatMap_append]; exact unhide HO8
                      · rw [unhide HL8] at hk
                        have := own_ge (unhide HO8) k hk
                        exact ⟨by omega, by intro h; simp [Value.ownBlock] at h; omega⟩
                      · rw [unhide HIT, List.flatMap_append]
                        have := unhide HM8
                        rw [← unhide HC] at this
                        simpa using this
                      · simpa using k8
                    case measure => show b7 + (R.length - (b7 + 1)) < R.length; omega
                  · have hbc2 : ¬ c - (b7 + 1) = 0 := by omega
                    go_wp2_with (at_builtin; refine wpList_append_own _ rfl (.tmp 147) (.tmp 151) 34 rfl w5.heap.size 67 i9 _ 36 64 Tryd.underlying34 hi hz hz0 hz1 hz2 (by decide) _ _ _ rfl (unhide HO7) ⟨g, (b7 + 1) * 36, none⟩ (R.length - (b7 + 1)) (c - (b7 + 1)) (((its R).drop (b7 + 1)).flatMap itemCells) rfl ?c0 ?c1 (flat_one _) ?c3 ?c4 ?c5 ?_)
                    case c0 => rw [flat_len, List.length_drop, unhide HLR]
                    case c1 =>
                      intro j u hj
                      have := ((unhide HH7).drop (b7 + 1) (by rw [unhide HLR]; omega)).cells j u hj
                      rwa [Nat.zero_add] at this
                    case c3 => unfold maxLen; omega
                    case c4 => omega
                    case c5 => omega
                    intro v8 w8 hown8 hgrow8 _
                    have n8 : New w5 w8 := n7.grown hgrow8 (fun k h hk => by have := own_ge (unhide HO7) k h; omega)
                    have k8 := n8.old k4 (fun h => h)
                    have HM8 := hide (owns_new (unhide HO4) n8)
                    have u8 := n4.then n8 (fun _ _ h => h.elim)
                    obtain ⟨a8, b8, c8, rfl⟩ := own_shape hown8
                    have hb8 : b8 = b7 + (R.length - (b7 + 1)) := own_n hown8
                    subst hb8
                    have HO8 := hide hown8
                    clear hown8 hgrow8 n8 k4 HO4 n4 n7
                    have hl8 : (R.take b7 ++ R.drop (b7 + 1)).length = b7 + (R.length - (b7 + 1)) := by rw [List.length_append, List.length_take, List.length_drop]; omega
                    have HL8 := hide hl8
                    clear hl8 hbc2
                    go_wp2
                    go_roundw
                    case rel =>
                      refine ⟨R.take b7 ++ R.drop (b7 + 1), M ++ [p], a8, some ⟨gg, 0, none⟩, c8, cap3, by rw [unhide HL8], HN, hide ⟨w5.heap.size, ?_⟩, hide (fun k hk => ?_), hide ?_, ?_, u8⟩
                      · rw [unhide HL8, its_split, List.flatMap_append]; exact unhide HO8
                      · rw [unhide HL8] at hk
                        have := own_ge (unhide HO8) k hk
                        exact ⟨by omega, by intro h; simp [Value.ownBlock] at h; omega⟩
                      · rw [unhide HIT, List.flatMap_append]
                        have := unhide HM8
                        rw [← unhide HC] at this
                        simpa using this
                      · simpa using k8
                    case measure => show b7 + (R.length - (b7 + 1)) < R.length; omega
          · have hR0 : R = [] := List.length_eq_zero_iff.1 (by omega)
            subst hR0
            have hv1 := sel_view (unhide HSI)
            have hv2 := sel_isView (unhide HSI)
            have hlm : (its M).length = M.length := by simp [its]
            have hX : (Value.slice sa M.length sc = .slice none 0 0 ∧ its M = []) ∨ ∃ g cap, Value.slice sa M.length sc = .slice (some ⟨g, 0, none⟩) (its M).length cap ∧ ws.heap.size ≤ g ∧ Held wq g 0 (its M) := (held_of_ownsR (n := M.length) (unhide HOM)).2
            rw [hv1] at hX
            have HX := hide hX
            have HV2 := hide hv2
            have kb := uq.old kBc (by omega)
            have r0 := blk_cell kb 0
            have r1 := blk_cell kb 1
            have r2 := blk_cell kb 2
            have y0 := blk_free kb 0
            have y1 := blk_free kb 1
            have y2 := blk_free kb 2
            have e0 := blk_cell kq 0
            have e1 := blk_cell kq 1
            have e2 := blk_cell kq 2
            simp at r0 r1 r2 e0 e1 e2
            have nq : New w wq := nw.then uq (fun i hi e => by omega)
            have hpos2 : ¬ (0 : Int) < ((([] : List (Item × Nat)).length : Nat) : Int) := by simp
            clear hX hv1 hv2 hlm HOM HOR HD HSI
            cases ours
            all_goals
              go_wp2_with fail
              refine bodyPost_ret (results_cell_row rfl _ _ (w.heap.size + 1) _ _ _ _ rfl (laid3_blk _ _ _ kb) Tryd.underlying36 rfl Tryd.infoViewR) rfl ?_
              refine ⟨.slice sa M.length sc, ?_, laid3_new nq (by omega) _ _ _, ?_, by rw [unhide HI]; exact unhide HV2⟩
              · have e3 := unhide HA
                have e4 := unhide HB
                simp only [Bool.false_eq_true, if_false, if_true] at e3 e4 ⊢
                rw [unhide HP, e3, e4]
              · rw [unhide HI]
                rcases unhide HX with ⟨e, e2⟩ | ⟨g, cap, e, hb, hh⟩
                · exact .inl ⟨_, _, e, e2⟩
                · exact .inr ⟨g, 0, cap, e, hh.toR.upd (laid3_upd _ _ _ _ _) (by omega)⟩

end Go.Proofs.YtbcjhpeighlncaaDoor
