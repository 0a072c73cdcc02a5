/-
  The reference's Compress, walked.
-/
import Derived.Test.YtjckpgcmfieaoaaGreatDoorMdf
set_option linter.unusedVariables false
set_option linter.unusedSimpArgs false
namespace Go.Proofs.YtjckpgcmfieaoaaGreatDoor
open Go.RowKit
attribute [local go_sem ↓ high] ld_r64_fold st_r64_fold ld_r8_fold st_r8_fold
attribute [local go_sem] ld_r64 st_r64 ld_r8 st_r8

set_option maxRecDepth 100000 in
set_option maxHeartbeats 4000000 in
theorem compressR_any (h : List Int) (s : ByteArray) (w : World) (hh : h.length = 8) (hu : U32s h) (hs : s.size = 64) :
    Calls Tryz.prog 131 #[.agg (h.map (Value.int .u64)).toArray, .string s] w fun e w' => e = .returned (.tuple #[.agg ((digI h s).map (Value.int .u64)).toArray, .bool true]) ∧ New w w' := by
  obtain ⟨h0, h1, h2, h3, h4, h5, h6, h7, rfl⟩ := eight_letters hh
  simp only [List.map_cons, List.map_nil]
  go_enter Tryz.func131, Tryz.ntmps131
  have hs1 : (s.size : Int) = 64 := by omega
  go_upto_region 1 with fail
  obtain ⟨wA, hwA⟩ : ∃ wA : World, wA = (w.alloc (.cells #[.int .u64 h0, .int .u64 h1, .int .u64 h2, .int .u64 h3, .int .u64 h4, .int .u64 h5, .int .u64 h6, .int .u64 h7] 235)).alloc (.cells #[.int .u64 0, .int .u64 0, .int .u64 0, .int .u64 0, .int .u64 0, .int .u64 0, .int .u64 0, .int .u64 0] 235) := ⟨_, rfl⟩
  have sA : wA.heap.size = w.heap.size + 2 := by rw [hwA]; simp
  have nA : New w wA := by rw [hwA]; exact ((Upd.refl _ _).alloc _).alloc _
  have vA : Ints .u64 wA w.heap.size [h0, h1, h2, h3, h4, h5, h6, h7] := by rw [hwA]; exact ⟨_, blk_alloc_old (blk_alloc _ _) _⟩
  have vB : Ints .u64 wA (w.heap.size + 1) [0, 0, 0, 0, 0, 0, 0, 0] := by
    rw [hwA]
    have := blk_alloc (w.alloc (.cells #[.int .u64 h0, .int .u64 h1, .int .u64 h2, .int .u64 h3, .int .u64 h4, .int .u64 h5, .int .u64 h6, .int .u64 h7] 235)) (.cells #[.int .u64 0, .int .u64 0, .int .u64 0, .int .u64 0, .int .u64 0, .int .u64 0, .int .u64 0, .int .u64 0] 235)
    rw [World.size_alloc] at this
    exact ⟨_, this⟩
  rw [← hwA]
  clear hwA
  have HS := hide hs
  clear hs
  go_upto_region 3 with fail
  clear hs1
  refine wp_region_lit ?_
  refine wpList_val rfl (v := .agg z64) (w' := wA) (by kernel_rfl) ?_
  refine wpList_val rfl (v := .pointer (some ⟨wA.heap.size, 0, none⟩)) (w' := wA.alloc (.cells z64 292)) (by kernel_rfl) ?_
  have vW0 : Ints .u64 (wA.alloc (.cells z64 292)) wA.heap.size (List.replicate 64 0) := ⟨_, blk_alloc _ _⟩
  have n0 : New wA (wA.alloc (.cells z64 292)) := (Upd.refl _ _).alloc _
  generalize wA.alloc (.cells z64 292) = w1 at vW0 n0 ⊢
  obtain ⟨T1, hb1⟩ := vW0
  refine wpList_store_row rfl _ _ _ rfl wA.heap.size z64 rfl rfl T1 _ hb1 (by kernel_rfl) (by kernel_rfl) (by kernel_rfl) ?_
  have hF : (w1.setRow wA.heap.size z64).heap[wA.heap.size]? = some (.cells z64 T1 (0, 0)) := setRow_heap w1 wA.heap.size _ z64 T1 (0, 0) hb1
  have nF : New wA (w1.setRow wA.heap.size z64) := n0.setRow (fun h => by omega) _
  have vW : Ints .u64 (w1.setRow wA.heap.size z64) wA.heap.size (List.replicate 64 0) := ⟨T1, hF⟩
  have hsz : wA.heap.size < (w1.setRow wA.heap.size z64).heap.size := blk_lt hF
  generalize w1.setRow wA.heap.size z64 = wo at nF vW hsz ⊢
  clear hF n0 hb1
  replace vA := vA.upd nF (fun h => h)
  replace vB := vB.upd nF (fun h => h)
  replace nA := nA.trans nF
  clear nF
  generalize hAw : w.heap.size = A at *
  rw [sA] at vW hsz ⊢
  clear sA
  have HAW := hide hAw
  clear hAw
  go_wp2_with fail
  go_loopw [7, 8] (fun iv _ wr => ∃ i : Nat, iv = .int .i64 (i : Int) ∧ i ≤ 16 ∧ Ints .u64 wr (A + 2) (ldWords s (4 * i)) ∧ Upd (fun k => k = A + 2) wo wr) (fun iv _ _ => 16 - (intOf iv).toNat)
  case atStart => exact ⟨0, rfl, by omega, vW, Upd.refl _ _⟩
  case round =>
    obtain ⟨i, rfl, hi, hW, ur⟩ := hrel
    obtain ⟨wq, rfl⟩ : ∃ wq : World, wq = wr := ⟨_, rfl⟩
    by_cases hlt : i < 16
    · have hi0 : (i : Int) < 16 := by omega
      go_wp2_with fail
      go_loopw [8] (fun kv wr => ∃ k : Nat, kv = .int .i64 (k : Int) ∧ k ≤ 4 ∧ Ints .u64 wr (A + 2) (ldWords s (4 * i + k)) ∧ Upd (fun k => k = A + 2) wo wr) (fun kv _ => 4 - (intOf kv).toNat)
      case atStart => exact ⟨0, rfl, by omega, hW, ur⟩
      case round =>
        obtain ⟨k, rfl, hk, hW, ur⟩ := hrel
        by_cases hlt2 : k < 4
        · obtain ⟨⟨x0, x1⟩, hnx⟩ := ldWords_ref s i k hlt hlt2
          have c0 : wr.cell? ⟨A + 2, i, none⟩ = some (.int .u64 (wd (ldWords s (4 * i + k)) i)) := hW.cell (by rw [ldWords_len]; omega)
          have z0 := hW.free i
          have hst := hW.set i (wd (ldWords s (4 * i + k)) i * 256 + bt s (4 * i + k))
          rw [← hnx] at hst
          have hszs := unhide HS
          have hix : ∀ W : World, (Instr.index 9 (.string s) (.int .i64 (4 * (i : Int) + (k : Int)))).run Tryz.prog W = .ok (.int .u8 (bt s (4 * i + k))) W := fun W => run_index_at _ s _ _ (4 * i + k) Tryz.underlying9 (by omega) (by omega) W
          obtain ⟨hbt0, hbt1⟩ := bt_bd s (4 * i + k)
          have HST := hide hst
          clear hst hnx hW hszs
          generalize wd (ldWords s (4 * i + k)) i = x at c0 x0 x1 HST
          generalize bt s (4 * i + k) = y at hix hbt0 hbt1 HST
          have hk0 : (k : Int) < 4 := by omega
          have h01 : (i : Int).toNat = i := by omega
          have h02 : IntKind.i64.wrap (4 * (i : Int)) = 4 * (i : Int) := IntWalk.i64_in _ (by omega)
          have h03 : IntKind.i64.wrap (4 * (i : Int) + (k : Int)) = 4 * (i : Int) + (k : Int) := IntWalk.i64_in _ (by omega)
          have h04 : IntKind.u64.wrap (x * 256) = x * 256 := by rw [IntKind.wrap_u64]; omega
          have h05 : IntKind.u64.wrap y = y := by rw [IntKind.wrap_u64]; omega
          have h06 : IntKind.u64.wrap (x * 256 + y) = x * 256 + y := by rw [IntKind.wrap_u64]; omega
          have h07 : (i : Int) < 64 := by omega
          go_wp2_with fail
          go_region_law (fail)
          all_goals
            have us := ur.set1 i (.int .u64 (x * 256 + y))
            have hst2 := unhide HST
            generalize wr.setCell ⟨A + 2, i, none⟩ (.int .u64 (x * 256 + y)) = wS at *
            clear h02 h03 h04 h05 h06
            go_wp2
            go_roundw
            case rel => exact ⟨k + 1, by go_num, by omega, (hst2 : Ints .u64 wS _ _), us.drew⟩
            case measure => simp [intOf]; omega
        · obtain rfl : k = 4 := by omega
          rw [show ((4 : Nat) : Int) = 4 from rfl]
          go_wp2
          go_roundw
          case rel => exact ⟨i + 1, by go_num, by omega, by rw [show 4 * (i + 1) = 4 * i + 4 by omega]; exact hW, ur⟩
          case measure => simp [intOf]; omega
    · obtain rfl : i = 16 := by omega
      rw [show ((16 : Nat) : Int) = 16 from rfl]
      rw [show 4 * 16 = 64 from rfl] at hW
      have vA2 := vA.upd ur (by omega)
      have vB2 := vB.upd ur (by omega)
      have hsz2 := ur.size
      have u0 := ur
      clear vA vB vW ur
      go_wp2_with fail
      go_loopw [9, 10, 11, 12, 13] (fun iv _ _ _ _ wr => ∃ j : Nat, iv = .int .i64 ((j : Int) + 16) ∧ j ≤ 48 ∧ Ints .u64 wr (A + 2) (scWords s j) ∧ Upd (fun k => k = A + 2) wq wr) (fun iv _ _ _ _ _ => 64 - (intOf iv).toNat)
      case atStart => exact ⟨0, rfl, by omega, by rw [scWords_zero]; exact hW, Upd.refl _ _⟩
      case round =>
        clear hW
        obtain ⟨j, rfl, hj, hW, ur⟩ := hrel
        by_cases hlt2 : j < 48
        · have hlen := scWords_len s j
          have hr := scWords_u32 s j
          have c1 : wr.cell? ⟨A + 2, j + 1, none⟩ = some (.int .u64 (wd (scWords s j) (j + 1))) := hW.cell (by omega)
          have c14 : wr.cell? ⟨A + 2, j + 14, none⟩ = some (.int .u64 (wd (scWords s j) (j + 14))) := hW.cell (by omega)
          have c0 : wr.cell? ⟨A + 2, j, none⟩ = some (.int .u64 (wd (scWords s j) j)) := hW.cell (by omega)
          have c9 : wr.cell? ⟨A + 2, j + 9, none⟩ = some (.int .u64 (wd (scWords s j) (j + 9))) := hW.cell (by omega)
          obtain ⟨v16, c16⟩ : ∃ v, wr.cell? ⟨A + 2, j + 16, none⟩ = some v := ⟨_, hW.cell (by omega)⟩
          have z16 := hW.free (j + 16)
          obtain ⟨r1, r1'⟩ := hr.at (j + 1)
          obtain ⟨r14, r14'⟩ := hr.at (j + 14)
          obtain ⟨r0, r0'⟩ := hr.at j
          obtain ⟨r9, r9'⟩ := hr.at (j + 9)
          have hnext := scWords_succ s j
          unfold scStep at hnext
          have hst := hW.set (j + 16) ((wd (scWords s j) j + sig0 (wd (scWords s j) (j + 1)) + wd (scWords s j) (j + 9) + sig1 (wd (scWords s j) (j + 14))) % 4294967296)
          rw [← hnext] at hst
          have HST := hide hst
          clear hst hnext hW hr hlen
          have h01 : (j : Int) < 48 := by omega
          have h02 : IntKind.i64.wrap ((j : Int) + 16 - 15) = (j : Int) + 1 := by rw [IntWalk.i64_in _ (by omega)]; omega
          have h03 : IntKind.i64.wrap ((j : Int) + 16 - 2) = (j : Int) + 14 := by rw [IntWalk.i64_in _ (by omega)]; omega
          have h04 : ((j : Int) + 1).toNat = j + 1 := by omega
          have h05 : ((j : Int) + 14).toNat = j + 14 := by omega
          generalize hx : wd (scWords s j) (j + 1) = x at c1 r1 r1' HST
          generalize hy : wd (scWords s j) (j + 14) = y at c14 r14 r14' HST
          generalize wd (scWords s j) j = a at c0 r0 r0' HST
          generalize wd (scWords s j) (j + 9) = b at c9 r9 r9' HST
          clear hx hy
          have HC := hide (And.intro c0 (And.intro c9 c16))
          clear c0 c9 c16
          go_upto_region 16 with fail
          clear c1 c14 h02 h03 h04 h05
          go_wp2_with fail
          refine (turn_any x 7 _ r1 r1' (by decide) (by decide)).mono ?_
          rintro e w5 ⟨rfl, rfl⟩
          go_wp2_with fail
          refine (turn_any x 18 _ r1 r1' (by decide) (by decide)).mono ?_
          rintro e w5 ⟨rfl, rfl⟩
          go_wp2_with fail
          refine (shift_3 x _ r1 r1').mono ?_
          rintro e w5 ⟨rfl, rfl⟩
          go_upto_region 17 with fail
          rw [sig0_ref x r1 r1']
          obtain ⟨p0, p1⟩ : 0 ≤ sig0 x ∧ sig0 x < 4294967296 := bits_u32 ..
          generalize sig0 x = p at p0 p1 HST ⊢
          go_wp2_with fail
          refine (turn_any y 17 _ r14 r14' (by decide) (by decide)).mono ?_
          rintro e w5 ⟨rfl, rfl⟩
          go_wp2_with fail
          refine (turn_any y 19 _ r14 r14' (by decide) (by decide)).mono ?_
          rintro e w5 ⟨rfl, rfl⟩
          go_wp2_with fail
          refine (shift_10 y _ r14 r14').mono ?_
          rintro e w5 ⟨rfl, rfl⟩
          go_upto_region 18 with fail
          rw [sig1_ref y r14 r14']
          obtain ⟨q0, q1⟩ : 0 ≤ sig1 y ∧ sig1 y < 4294967296 := bits_u32 ..
          generalize sig1 y = q at q0 q1 HST ⊢
          obtain ⟨c0, c9, c16⟩ := unhide HC
          clear HC
          have h06 : IntKind.i64.wrap (j : Int) = (j : Int) := IntWalk.i64_in _ (by omega)
          have h07 : IntKind.i64.wrap ((j : Int) + 16 - 7) = (j : Int) + 9 := by rw [IntWalk.i64_in _ (by omega)]; omega
          have h13 : (j : Int) < 64 := by omega
          have h14 : (j : Int) + 9 < 64 := by omega
          have h15 : (j : Int) + 16 < 64 := by omega
          have h16 : (0 : Int) ≤ (j : Int) + 9 := by omega
          have h17 : (0 : Int) ≤ (j : Int) + 16 := by omega
          have h08 : ((j : Int) + 9).toNat = j + 9 := by omega
          have h09 : ((j : Int) + 16).toNat = j + 16 := by omega
          have h10 : IntKind.u64.wrap (a + p) = a + p := by rw [IntKind.wrap_u64]; omega
          have h11 : IntKind.u64.wrap (a + p + b) = a + p + b := by rw [IntKind.wrap_u64]; omega
          have h12 : IntKind.u64.wrap (a + p + b + q) = a + p + b + q := by rw [IntKind.wrap_u64]; omega
          have h18 : IntKind.u64.wrap ((a + p + b + q).tmod 4294967296) = (a + p + b + q) % 4294967296 := by rw [Int.tmod_eq_emod_of_nonneg (by omega), IntKind.wrap_u64]; omega
          have h19 : (a + p + b + q).tmod 4294967296 = (a + p + b + q) % 4294967296 := Int.tmod_eq_emod_of_nonneg (by omega)
          go_wp2_with fail
          go_region_law (fail)
          all_goals
            have us := ur.set1 (j + 16) (.int .u64 ((a + p + b + q) % 4294967296))
            have hst2 := unhide HST
            generalize wr.setCell ⟨A + 2, j + 16, none⟩ (.int .u64 ((a + p + b + q) % 4294967296)) = wS at *
            clear h10 h11 h12 h06 h07 h18 h19
            go_wp2
            go_roundw
            case rel => exact ⟨j + 1, by first | (rw [show ((j + 1 : Nat) : Int) + 16 = (j : Int) + 16 + 1 by omega]; done) | (simp; omega), by omega, (hst2 : Ints .u64 wS _ _), us.drew⟩
            case measure => simp [intOf]; omega
        · obtain rfl : j = 48 := by omega
          rw [show ((48 : Nat) : Int) + 16 = 64 from rfl]
          have vA3 := vA2.upd ur (by omega)
          have vB3 := vB2.upd ur (by omega)
          have u3 := u0.trans ur
          have hszr := ur.size
          clear vA2 vB2 u0 ur
          have hwl := scWords_len s 48
          have hwu := scWords_u32 s 48
          have nn := nA.then u3 (by intro q hq h; rw [unhide HAW] at hq; omega)
          obtain ⟨w3, rfl⟩ : ∃ w3 : World, w3 = wr := ⟨_, rfl⟩
          generalize hws : scWords s 48 = ws at hW hwl hwu
          have HWS := hide hws
          clear hws u3
          go_upto_region 19 with fail
          refine wp_region_lit ?_
          refine wpList_call rfl (f := 186) (args := #[]) (w' := w3) (by kernel_rfl) ?_
          refine (k_any w3).mono ?_
          rintro e w4 ⟨rfl, n4⟩
          refine ⟨_, rfl, ?_⟩
          refine wpList_val rfl (v := .pointer (some ⟨w4.heap.size, 0, none⟩)) (w' := w4.alloc (.cells z64 292)) (by kernel_rfl) ?_
          have n5 : New w4 (w4.alloc (.cells z64 292)) := (Upd.refl _ _).alloc _
          have hb5 : (w4.alloc (.cells z64 292)).heap[w4.heap.size]? = some (.cells z64 292 (0, 0)) := blk_alloc _ _
          generalize w4.alloc (.cells z64 292) = w5 at n5 hb5 ⊢
          refine wpList_store_row rfl _ _ _ rfl w4.heap.size kVal rfl rfl 292 _ hb5 (by kernel_rfl) (by kernel_rfl) (by kernel_rfl) ?_
          have hK : (w5.setRow w4.heap.size kVal).heap[w4.heap.size]? = some (.cells kVal 292 (0, 0)) := setRow_heap w5 w4.heap.size _ kVal 292 (0, 0) hb5
          have n6 : New w4 (w5.setRow w4.heap.size kVal) := n5.setRow (fun h => by omega) _
          generalize w5.setRow w4.heap.size kVal = w6 at hK n6 ⊢
          have hszn := n4.size
          have hszm : w4.heap.size < w6.heap.size := blk_lt hK
          have n36 := n4.trans n6
          generalize w4.heap.size = B4 at hK hszn hszm ⊢
          clear n4 n5 n6 hb5
          have vK : Ints .u64 w6 B4 kTab := ⟨_, hK⟩
          clear hK
          have vA6 := vA3.upd n36 (fun h => h)
          obtain ⟨TA6, hA6⟩ := vA6
          go_upto_region 20 with fail
          refine wp_region_lit ?_
          refine wpList_load_row rfl _ _ rfl A rfl TA6 _ _ _ hA6 Tryz.underlying235 rfl (by exact Tryz.infoR8) ?_
          refine wpList_val rfl (v := .pointer (some ⟨w6.heap.size, 0, none⟩)) (w' := w6.alloc (.cells #[.int .u64 0, .int .u64 0, .int .u64 0, .int .u64 0, .int .u64 0, .int .u64 0, .int .u64 0, .int .u64 0] 235)) (by kernel_rfl) ?_
          have n7 : New w6 (w6.alloc (.cells #[.int .u64 0, .int .u64 0, .int .u64 0, .int .u64 0, .int .u64 0, .int .u64 0, .int .u64 0, .int .u64 0] 235)) := (Upd.refl _ _).alloc _
          have hb7 : (w6.alloc (.cells #[.int .u64 0, .int .u64 0, .int .u64 0, .int .u64 0, .int .u64 0, .int .u64 0, .int .u64 0, .int .u64 0] 235)).heap[w6.heap.size]? = some (.cells #[.int .u64 0, .int .u64 0, .int .u64 0, .int .u64 0, .int .u64 0, .int .u64 0, .int .u64 0, .int .u64 0] 235 (0, 0)) := blk_alloc _ _
          generalize w6.alloc (.cells #[.int .u64 0, .int .u64 0, .int .u64 0, .int .u64 0, .int .u64 0, .int .u64 0, .int .u64 0, .int .u64 0] 235) = w7 at n7 hb7 ⊢
          refine wpList_store_row rfl _ _ _ rfl w6.heap.size ([h0, h1, h2, h3, h4, h5, h6, h7].map (Value.int .u64)).toArray rfl rfl 235 _ hb7 (by exact Tryz.infoR8) rfl (by simp [Value.oneCell']) ?_
          have hV : (w7.setRow w6.heap.size ([h0, h1, h2, h3, h4, h5, h6, h7].map (Value.int .u64)).toArray).heap[w6.heap.size]? = some (.cells ([h0, h1, h2, h3, h4, h5, h6, h7].map (Value.int .u64)).toArray 235 (0, 0)) := setRow_heap w7 w6.heap.size _ _ 235 (0, 0) hb7
          have n8 : New w6 (w7.setRow w6.heap.size ([h0, h1, h2, h3, h4, h5, h6, h7].map (Value.int .u64)).toArray) := n7.setRow (fun h => by omega) _
          generalize w7.setRow w6.heap.size ([h0, h1, h2, h3, h4, h5, h6, h7].map (Value.int .u64)).toArray = w8 at hV n8 ⊢
          have vV : Ints .u64 w8 w6.heap.size [h0, h1, h2, h3, h4, h5, h6, h7] := ⟨_, hV⟩
          clear hV n7 hb7 hA6
          have n38 := n36.trans n8
          replace vA3 := vA3.upd n38 (fun h => h)
          replace vB3 := vB3.upd n38 (fun h => h)
          replace hW := hW.upd n38 (fun h => h)
          replace vK := vK.upd n8 (fun h => h)
          replace nn := nn.trans n38
          have hszv := vV.lt
          generalize w6.heap.size = V at vV hszv hszm ⊢
          clear n36 n8 n38
          go_wp2_with fail
          go_loopw [16, 17, 18, 19, 20, 21, 22] (fun iv _ _ _ _ _ _ wr => ∃ k : Nat, iv = .int .i64 (k : Int) ∧ k ≤ 64 ∧ Ints .u64 wr V (rdAll ws [h0, h1, h2, h3, h4, h5, h6, h7] k) ∧ Upd (fun k => k = V) w8 wr) (fun iv _ _ _ _ _ _ _ => 64 - (intOf iv).toNat)
          case atStart => exact ⟨0, rfl, by omega, by rw [rdAll_zero]; exact vV, Upd.refl _ _⟩
          case round =>
            obtain ⟨k, rfl, hk, hV, ur⟩ := hrel
            by_cases hlt3 : k < 64
            · have hok := rdAll_ok ws [h0, h1, h2, h3, h4, h5, h6, h7] k ⟨rfl, hu⟩
              have hnext := rdAll_succ ws [h0, h1, h2, h3, h4, h5, h6, h7] k
              generalize hv : rdAll ws [h0, h1, h2, h3, h4, h5, h6, h7] k = v at hV hok hnext
              clear hv
              obtain ⟨h8, hvu⟩ := hok
              obtain ⟨a, b, c, d, e, f, g, hh', rfl⟩ := eight_letters h8
              clear h8
              have HN := hide hnext
              have v0 := hV.cell (i := 0) (by simp)
              have v1 := hV.cell (i := 1) (by simp)
              have v2 := hV.cell (i := 2) (by simp)
              have v3 := hV.cell (i := 3) (by simp)
              have v4 := hV.cell (i := 4) (by simp)
              have v5 := hV.cell (i := 5) (by simp)
              have v6 := hV.cell (i := 6) (by simp)
              have v7 := hV.cell (i := 7) (by simp)
              simp at v0 v1 v2 v3 v4 v5 v6 v7
              have HV := hide hV
              clear hnext hV
              have ix : wr.cell? ⟨A + 2, k, none⟩ = some (.int .u64 (wd ws k)) := (hW.upd ur (by omega)).cell (by omega)
              have tk : wr.cell? ⟨B4, k, none⟩ = some (.int .u64 (wd kTab k)) := (vK.upd ur (by omega)).cell (by rw [show kTab.length = 64 from rfl]; omega)
              obtain ⟨t0, t0'⟩ := kTab_u32.at k
              obtain ⟨x0, x0'⟩ := hwu.at k
              generalize hKK : wd kTab k = kk at tk t0 t0'
              generalize hWK : wd ws k = wk at ix x0 x0'
              have b0 := hvu a (by simp)
              have b1 := hvu b (by simp)
              have b2 := hvu c (by simp)
              have b3 := hvu d (by simp)
              have b4 := hvu e (by simp)
              have b5 := hvu f (by simp)
              have b6 := hvu g (by simp)
              have b7 := hvu hh' (by simp)
              obtain ⟨b40, b41⟩ := b4
              have BB := hide (And.intro b0 (And.intro b1 (And.intro b2 (And.intro b3 (And.intro b5 (And.intro b6 b7))))))
              have hk0 : (k : Int) < 64 := by omega
              clear hvu
              have hch := ch_ref e f g b40 b41 b5.1 b5.2 b6.1 b6.2
              have hmj := maj_ref a b c b0.1 b0.2 b1.1 b1.2 b2.1 b2.2
              have HCH := hide hch
              have HMJ := hide hmj
              clear hch hmj b1 b2 b3 b5 b6 b7 b0
              go_upto_region 28 with fail
              rw [unhide HCH, unhide HMJ]
              clear v0 v1 v2 v3 v4 v5 v6 HCH HMJ
              obtain ⟨T0, T1⟩ := turnsI_bd e [6, 11, 25]
              have hte := three_ref e 6 11 25 6 11 25 rfl rfl rfl b40 b41 (by decide) (by decide) (by decide)
              obtain ⟨p0, p1⟩ : 0 ≤ chI e f g ∧ chI e f g < 4294967296 := bits_u32 ..
              obtain ⟨m0, m1⟩ : 0 ≤ majI a b c ∧ majI a b c < 4294967296 := bits_u32 ..
              generalize hTE : turnsI e [6, 11, 25] = te at T0 T1 hte
              generalize hPE : chI e f g = p at p0 p1 ⊢
              generalize hMA : majI a b c = ma at m0 m1 ⊢
              have hone : oneI e f g hh' (kTab.getD k 0) (wd ws k) = (hh' + te + p + kk + wk) % 4294967296 := by
                unfold oneI
                rw [hTE, hPE, hWK, show kTab.getD k 0 = kk from hKK]
              clear hKK hWK
              obtain ⟨one, hOE⟩ : ∃ one : Int, one = (hh' + te + p + kk + wk) % 4294967296 := ⟨_, rfl⟩
              rw [← hOE] at hone
              have HONE := hide hone
              clear hone
              have HTE := hide hte
              clear hte hTE hPE
              obtain ⟨-, -, -, -, -, -, hb7⟩ := unhide BB
              have h06 : IntKind.u64.wrap (hh' + te) = hh' + te := by rw [IntKind.wrap_u64]; omega
              have h07 : IntKind.u64.wrap (hh' + te + p) = hh' + te + p := by rw [IntKind.wrap_u64]; omega
              have h08 : IntKind.u64.wrap (hh' + te + p + kk) = hh' + te + p + kk := by rw [IntKind.wrap_u64]; omega
              have h09 : IntKind.u64.wrap (hh' + te + p + kk + wk) = hh' + te + p + kk + wk := by rw [IntKind.wrap_u64]; omega
              have h12 : (hh' + te + p + kk + wk).tmod 4294967296 = one := by rw [Int.tmod_eq_emod_of_nonneg (by omega), hOE]
              have h13 : IntKind.u64.wrap one = one := by rw [IntKind.wrap_u64]; omega
              have hone0 : 0 ≤ one ∧ one < 4294967296 := by omega
              clear hOE hb7
              have h10 : (k : Int).toNat = k := by omega
              have h11 : IntKind.i64.wrap (k : Int) = (k : Int) := IntWalk.i64_in _ (by omega)
              refine wp_dagP (by kernel_rfl) [[], [(0, 130)], [], [(2, 132)], [], [(4, 134)], [(3, 133), (5, 135)], [], [(7, 137)], [(6, 136), (8, 138)], [(1, 131), (9, 139)], [], [(10, 140), (11, 141)], [], [(13, 143)], [(14, 144)], [(12, 142), (15, 145)], [], [(17, 147)], [(18, 148)], [(16, 146), (19, 149)], [(20, 150)], [(21, 151)]] 200 rfl (by kernel_rfl) [(0, 130), (1, 131), (2, 132), (3, 133), (4, 134), (5, 135), (6, 136), (7, 137), (8, 138), (9, 139), (10, 140), (11, 141), (12, 142), (13, 143), (14, 144), (15, 145), (16, 146), (17, 147), (18, 148), (19, 149), (20, 150), (21, 151), (22, 21)] (by kernel_rfl) [] (by kernel_rfl) [[(0, 0)], [(0, 0)], [(0, 0)], [(0, 0)], [(0, 0)], [(0, 0)], [(0, 0)], [(0, 0)], [(0, 0)], [(0, 0)], [(0, 0)], [(0, 0)], [(0, 0)], [(0, 0)], [(0, 0)], [(0, 0)], [(0, 0)], [(0, 0)], [(0, 0)], [(0, 0)], [(0, 0)], [(0, 0)], [(0, 0)]] (by kernel_rfl)
                (QS wr) AnyW (isV [.pointer (some ⟨V, 7, none⟩), .int .u64 hh', .int .u64 e, .int .u64 (rotI e 6), .int .u64 e, .int .u64 (rotI e 11), .int .u64 (bits .xor .u64 (rotI e 6) (rotI e 11)), .int .u64 e, .int .u64 (rotI e 25), .int .u64 te, .int .u64 (hh' + te), .int .u64 p, .int .u64 (hh' + te + p), .int .i64 (k : Int), .pointer (some ⟨B4, k, none⟩), .int .u64 kk, .int .u64 (hh' + te + p + kk), .int .i64 (k : Int), .pointer (some ⟨A + 2, k, none⟩), .int .u64 wk, .int .u64 (hh' + te + p + kk + wk), .int .u64 one, .int .u64 one])
                (⟨1, rfl⟩) (fun _ => AnyW.all _ _) (fun _ _ _ _ _ _ _ _ _ h => h) ?_ ?_
              · refine .pure rfl (fun _ => AnyW.all _ _) rfl ?_ <| .one rfl ?_ <| .pure rfl (fun _ => AnyW.all _ _) rfl ?_ <| .one rfl ?_ <| .pure rfl (fun _ => AnyW.all _ _) rfl ?_ <| .one rfl ?_ <| .pure rfl (fun _ => AnyW.all _ _) rfl ?_ <| .pure rfl (fun _ => AnyW.all _ _) rfl ?_ <| .one rfl ?_ <| .pure rfl (fun _ => AnyW.all _ _) rfl ?_ <| .pure rfl (fun _ => AnyW.all _ _) rfl ?_ <| .pure rfl (fun _ => AnyW.all _ _) rfl ?_ <| .pure rfl (fun _ => AnyW.all _ _) rfl ?_ <| .pure rfl (fun _ => AnyW.all _ _) rfl ?_ <| .pure rfl (fun _ => AnyW.all _ _) rfl ?_ <| .one rfl ?_ <| .pure rfl (fun _ => AnyW.all _ _) rfl ?_ <| .pure rfl (fun _ => AnyW.all _ _) rfl ?_ <| .pure rfl (fun _ => AnyW.all _ _) rfl ?_ <| .one rfl ?_ <| .pure rfl (fun _ => AnyW.all _ _) rfl ?_ <| .pure rfl (fun _ => AnyW.all _ _) rfl ?_ <| .pure rfl (fun _ => AnyW.all _ _) rfl ?_ <| .nil
                · rintro vals w1 _
                  unfold opRun; simp only [putL]; go_simp
                  first | exact ⟨rfl, rfl⟩ | rfl
                · rintro vals w1 hS ⟨p0, -⟩
                  replace hS : Q wr w1 := hS
                  replace p0 : vals 0 = .pointer (some ⟨V, 7, none⟩) := p0
                  have c := Q.cell hS v7
                  unfold opRun; simp only [putL]; go_simp
                  exact ⟨AnyW.all _ _, hS, rfl⟩
                · rintro vals w1 _
                  unfold opRun; simp only [putL]; go_simp
                  first | exact ⟨rfl, rfl⟩ | rfl
                · rintro vals w1 hS ⟨p0, -⟩
                  replace hS : Q wr w1 := hS
                  replace p0 : vals 2 = .int .u64 e := p0
                  unfold opRun; simp only [putL]; go_simp
                  refine (turn_any e 6 w1 b40 b41 (by decide) (by decide)).mono ?_
                  rintro e w2 ⟨rfl, rfl⟩
                  exact ⟨_, rfl, AnyW.all _ _, hS, rfl⟩
                · rintro vals w1 _
                  unfold opRun; simp only [putL]; go_simp
                  first | exact ⟨rfl, rfl⟩ | rfl
                · rintro vals w1 hS ⟨p0, -⟩
                  replace hS : Q wr w1 := hS
                  replace p0 : vals 4 = .int .u64 e := p0
                  unfold opRun; simp only [putL]; go_simp
                  refine (turn_any e 11 w1 b40 b41 (by decide) (by decide)).mono ?_
                  rintro e w2 ⟨rfl, rfl⟩
                  exact ⟨_, rfl, AnyW.all _ _, hS, rfl⟩
                · rintro vals w1 ⟨p0, p1, -⟩
                  replace p0 : vals 3 = .int .u64 (rotI e 6) := p0
                  replace p1 : vals 5 = .int .u64 (rotI e 11) := p1
                  unfold opRun; simp only [putL]; go_simp
                  first | exact ⟨rfl, rfl⟩ | rfl
                · rintro vals w1 _
                  unfold opRun; simp only [putL]; go_simp
                  first | exact ⟨rfl, rfl⟩ | rfl
                · rintro vals w1 hS ⟨p0, -⟩
                  replace hS : Q wr w1 := hS
                  replace p0 : vals 7 = .int .u64 e := p0
                  unfold opRun; simp only [putL]; go_simp
                  refine (turn_any e 25 w1 b40 b41 (by decide) (by decide)).mono ?_
                  rintro e w2 ⟨rfl, rfl⟩
                  exact ⟨_, rfl, AnyW.all _ _, hS, rfl⟩
                · rintro vals w1 ⟨p0, p1, -⟩
                  replace p0 : vals 6 = .int .u64 (bits .xor .u64 (rotI e 6) (rotI e 11)) := p0
                  replace p1 : vals 8 = .int .u64 (rotI e 25) := p1
                  have ht := unhide HTE
                  unfold opRun; simp only [putL]; go_simp
                  first | exact ⟨rfl, rfl⟩ | rfl
                · rintro vals w1 ⟨p0, p1, -⟩
                  replace p0 : vals 1 = .int .u64 hh' := p0
                  replace p1 : vals 9 = .int .u64 te := p1
                  have ht := h06
                  unfold opRun; simp only [putL]; go_simp
                  first | exact ⟨rfl, rfl⟩ | rfl
                · rintro vals w1 _
                  unfold opRun; simp only [putL]; go_simp
                  first | exact ⟨rfl, rfl⟩ | rfl
                · rintro vals w1 ⟨p0, p1, -⟩
                  replace p0 : vals 10 = .int .u64 (hh' + te) := p0
                  replace p1 : vals 11 = .int .u64 p := p1
                  have ht := h07
                  unfold opRun; simp only [putL]; go_simp
                  first | exact ⟨rfl, rfl⟩ | rfl
                · rintro vals w1 _
                  unfold opRun; simp only [putL]; go_simp
                  first | exact ⟨rfl, rfl⟩ | rfl
                · rintro vals w1 ⟨p0, -⟩
                  replace p0 : vals 13 = .int .i64 (k : Int) := p0
                  have h1 := h10
                  have h2 := h11
                  unfold opRun; simp only [putL]; go_simp
                  first | exact ⟨rfl, rfl⟩ | rfl
                · rintro vals w1 hS ⟨p0, -⟩
                  replace hS : Q wr w1 := hS
                  replace p0 : vals 14 = .pointer (some ⟨B4, k, none⟩) := p0
                  have c := Q.cell hS tk
                  unfold opRun; simp only [putL]; go_simp
                  exact ⟨AnyW.all _ _, hS, rfl⟩
                · rintro vals w1 ⟨p0, p1, -⟩
                  replace p0 : vals 12 = .int .u64 (hh' + te + p) := p0
                  replace p1 : vals 15 = .int .u64 kk := p1
                  have ht := h08
                  unfold opRun; simp only [putL]; go_simp
                  first | exact ⟨rfl, rfl⟩ | rfl
                · rintro vals w1 _
                  unfold opRun; simp only [putL]; go_simp
                  first | exact ⟨rfl, rfl⟩ | rfl
                · rintro vals w1 ⟨p0, -⟩
                  replace p0 : vals 17 = .int .i64 (k : Int) := p0
                  have h1 := h10
                  have h2 := h11
                  unfold opRun; simp only [putL]; go_simp
                  first | exact ⟨rfl, rfl⟩ | rfl
                · rintro vals w1 hS ⟨p0, -⟩
                  replace hS : Q wr w1 := hS
                  replace p0 : vals 18 = .pointer (some ⟨A + 2, k, none⟩) := p0
                  have c := Q.cell hS ix
                  unfold opRun; simp only [putL]; go_simp
                  exact ⟨AnyW.all _ _, hS, rfl⟩
                · rintro vals w1 ⟨p0, p1, -⟩
                  replace p0 : vals 16 = .int .u64 (hh' + te + p + kk) := p0
                  replace p1 : vals 19 = .int .u64 wk := p1
                  have ht := h09
                  unfold opRun; simp only [putL]; go_simp
                  first | exact ⟨rfl, rfl⟩ | rfl
                · rintro vals w1 ⟨p0, -⟩
                  replace p0 : vals 20 = .int .u64 (hh' + te + p + kk + wk) := p0
                  have ht := h12
                  unfold opRun; simp only [putL]; go_simp
                  first | exact ⟨rfl, rfl⟩ | rfl
                · rintro vals w1 ⟨p0, -⟩
                  replace p0 : vals 21 = .int .u64 one := p0
                  unfold opRun; simp only [putL]; go_simp
                  first | exact ⟨rfl, rfl⟩ | rfl
              · intro vals w1 hS hv
                have hlast := hv 22 (by decide)
                replace hlast : vals 22 = .int .u64 one := hlast
                clear hv
                replace hS : Q wr w1 := hS
                have HV9 := (unhide HV).q hS
                have u9 := ur.then (hS.upd (fun _ => False)) (fun _ _ h => h.elim)
                simp only [putL, hlast]; go_simp
                obtain ⟨⟨a0, a0'⟩, b1, b2, ⟨d0, d0'⟩, -⟩ := unhide BB
                clear hlast HV v7 tk ix hS h06 h07 h08 h09 h10 h11 h12 h13 BB HTE b1 b2
                obtain ⟨wz, rfl⟩ : ∃ wz : World, wz = w1 := ⟨_, rfl⟩
                have hta0 := three_ref a 2 13 22 2 13 22 rfl rfl rfl a0 a0' (by decide) (by decide) (by decide)
                obtain ⟨ta0, ta1⟩ := turnsI_bd a [2, 13, 22]
                generalize hTA : turnsI a [2, 13, 22] = ta at hta0 ta0 ta1
                have htwo : twoI a b c = (ta + ma) % 4294967296 := by unfold twoI; rw [hTA, hMA]
                obtain ⟨two, hTO⟩ : ∃ two : Int, two = (ta + ma) % 4294967296 := ⟨_, rfl⟩
                rw [← hTO] at htwo
                have HTWO := hide htwo
                have k0 : IntKind.u64.wrap (ta + ma) = ta + ma := by rw [IntKind.wrap_u64]; omega
                have k1 : (ta + ma).tmod 4294967296 = two := by rw [Int.tmod_eq_emod_of_nonneg (by omega), hTO]
                have k2 : IntKind.u64.wrap two = two := by rw [IntKind.wrap_u64]; omega
                have htwo0 : 0 ≤ two ∧ two < 4294967296 := by omega
                obtain ⟨o0, o1⟩ := hone0
                obtain ⟨t0, t1⟩ := htwo0
                have k3 : IntKind.u64.wrap (one + two) = one + two := by rw [IntKind.wrap_u64]; omega
                have k4 : (one + two).tmod 4294967296 = (one + two) % 4294967296 := Int.tmod_eq_emod_of_nonneg (by omega)
                have k5 : IntKind.u64.wrap (d + one) = d + one := by rw [IntKind.wrap_u64]; omega
                have k6 : (d + one).tmod 4294967296 = (d + one) % 4294967296 := Int.tmod_eq_emod_of_nonneg (by omega)
                clear htwo hTA hMA hTO
                have v0 := HV9.cell (i := 0) (by simp)
                have v1 := HV9.cell (i := 1) (by simp)
                have v2 := HV9.cell (i := 2) (by simp)
                have v3 := HV9.cell (i := 3) (by simp)
                have v4 := HV9.cell (i := 4) (by simp)
                have v5 := HV9.cell (i := 5) (by simp)
                have v6 := HV9.cell (i := 6) (by simp)
                simp at v0 v1 v2 v3 v4 v5 v6
                have hst := HV9.stOk (r := [(one + two) % 4294967296, a, b, c, (d + one) % 4294967296, e, f, g]) (n := 8) rfl rfl
                have hS1 := hide (HV9.setAll (r := [(one + two) % 4294967296, a, b, c, (d + one) % 4294967296, e, f, g]) rfl)
                simp only [List.map_cons, List.map_nil] at hst hS1
                have us := hide (u9.trans ((Upd.refl (· = V) wz).setCells 0 [.int .u64 ((one + two) % 4294967296), .int .u64 a, .int .u64 b, .int .u64 c, .int .u64 ((d + one) % 4294967296), .int .u64 e, .int .u64 f, .int .u64 g]))
                clear HV9 u9
                go_wp2_with fail
                refine (turn_any a 2 _ a0 a0' (by decide) (by decide)).mono ?_
                rintro e w5 ⟨rfl, rfl⟩
                go_wp2_with fail
                refine (turn_any a 13 _ a0 a0' (by decide) (by decide)).mono ?_
                rintro e w5 ⟨rfl, rfl⟩
                go_wp2_with fail
                refine (turn_any a 22 _ a0 a0' (by decide) (by decide)).mono ?_
                rintro e w5 ⟨rfl, rfl⟩
                go_wp2_with fail
                have hnx : rdAll ws [h0, h1, h2, h3, h4, h5, h6, h7] (k + 1) = [(one + two) % 4294967296, a, b, c, (d + one) % 4294967296, e, f, g] := by
                  rw [unhide HN]
                  simp only [rdStep]
                  rw [unhide HONE, unhide HTWO]
                clear k0 k1 k2 k3 k4 k5 k6 hta0
                go_roundw
                case rel => exact ⟨k + 1, by go_num, by omega, by rw [hnx]; exact unhide hS1, unhide us⟩
                case measure => simp [intOf]; omega
            · obtain rfl : k = 64 := by omega
              rw [show ((64 : Nat) : Int) = 64 from rfl]
              have hszu := ur.size
              have vA4 := vA3.upd ur (by omega)
              have vB4 := vB3.upd ur (by omega)
              have nn4 := nn.then ur (by intro q hq h; rw [unhide HAW] at hq; omega)
              have hvo := rdAll_ok ws [h0, h1, h2, h3, h4, h5, h6, h7] 64 ⟨rfl, hu⟩
              have HR := hide (show rdAll (scWords s 48) [h0, h1, h2, h3, h4, h5, h6, h7] 64 = rdAll ws [h0, h1, h2, h3, h4, h5, h6, h7] 64 by rw [unhide HWS])
              generalize rdAll ws [h0, h1, h2, h3, h4, h5, h6, h7] 64 = v at hV hvo HR
              clear ur vA3 vB3 vV vK hW nn
              obtain ⟨h8, hvu⟩ := hvo
              obtain ⟨w9, rfl⟩ : ∃ w9 : World, w9 = wr := ⟨_, rfl⟩
              go_wp2_with fail
              go_loopw [23] (fun iv wr => ∃ i : Nat, iv = .int .i64 (i : Int) ∧ i ≤ 8 ∧ Ints .u64 wr A (adWords v [h0, h1, h2, h3, h4, h5, h6, h7] i) ∧ Upd (fun k => k = A) w9 wr) (fun iv _ => 8 - (intOf iv).toNat)
              case atStart => exact ⟨0, rfl, by omega, by rw [adWords_zero]; exact vA4, Upd.refl _ _⟩
              case round =>
                obtain ⟨i, rfl, hi, hA, ur⟩ := hrel
                by_cases hlt4 : i < 8
                · have hok := adWords_ok v [h0, h1, h2, h3, h4, h5, h6, h7] i ⟨rfl, hu⟩
                  have hnext := adWords_succ v [h0, h1, h2, h3, h4, h5, h6, h7] i
                  unfold adStep at hnext
                  have c0 : wr.cell? ⟨A, i, none⟩ = some (.int .u64 (wd (adWords v [h0, h1, h2, h3, h4, h5, h6, h7] i) i)) := hA.cell (i := i) (by omega)
                  have z0 := hA.free i
                  have c1 : wr.cell? ⟨V, i, none⟩ = some (.int .u64 (wd v i)) := (hV.upd ur (by omega)).cell (i := i) (by omega)
                  obtain ⟨a0, a0'⟩ := hok.2.at i
                  obtain ⟨b0, b0'⟩ := hvu.at i
                  have hst := hA.set i ((wd (adWords v [h0, h1, h2, h3, h4, h5, h6, h7] i) i + wd v i) % 4294967296)
                  rw [← hnext] at hst
                  have HST := hide hst
                  clear hst hnext hok hA
                  generalize wd (adWords v [h0, h1, h2, h3, h4, h5, h6, h7] i) i = x at c0 a0 a0' HST
                  generalize wd v i = y at c1 b0 b0' HST
                  have h06 : IntKind.u64.wrap (x + y) = x + y := by rw [IntKind.wrap_u64]; omega
                  have h07 : (x + y).tmod 4294967296 = (x + y) % 4294967296 := Int.tmod_eq_emod_of_nonneg (by omega)
                  have h08 : IntKind.u64.wrap ((x + y) % 4294967296) = (x + y) % 4294967296 := by rw [IntKind.wrap_u64]; omega
                  have h01 : (i : Int) < 8 := by omega
                  have h02 : (i : Int).toNat = i := by omega
                  go_wp2_with fail
                  go_region_law (fail)
                  all_goals
                    have us := ur.set1 i (.int .u64 ((x + y) % 4294967296))
                    have hst2 := unhide HST
                    generalize wr.setCell ⟨A, i, none⟩ (.int .u64 ((x + y) % 4294967296)) = wS at *
                    clear h06 h07 h08
                    go_wp2
                    go_roundw
                    case rel => exact ⟨i + 1, by go_num, by omega, (hst2 : Ints .u64 wS _ _), us.drew⟩
                    case measure => simp [intOf]; omega
                · obtain rfl : i = 8 := by omega
                  rw [show ((8 : Nat) : Int) = 8 from rfl]
                  have hfin : digI [h0, h1, h2, h3, h4, h5, h6, h7] s = adWords v [h0, h1, h2, h3, h4, h5, h6, h7] 8 := by unfold digI; rw [unhide HR]
                  have hok := adWords_ok v [h0, h1, h2, h3, h4, h5, h6, h7] 8 ⟨rfl, hu⟩
                  have vB5 := vB4.upd ur (by omega)
                  have nn2 := nn4.then ur (by intro q hq h; rw [unhide HAW] at hq; omega)
                  generalize hr : adWords v [h0, h1, h2, h3, h4, h5, h6, h7] 8 = r at hA hok
                  rw [hr] at hfin
                  clear hr HR vA4 vB4 ur nn4 hV HWS
                  obtain ⟨r8, -⟩ := hok
                  have HF := hide hfin
                  clear hfin
                  obtain ⟨TA9, hA9⟩ := hA
                  obtain ⟨TB9, hB9⟩ := vB5
                  go_upto_region 35 with fail
                  refine wp_region_lit ?_
                  refine wpList_load_row rfl _ _ rfl A rfl TA9 _ _ _ hA9 Tryz.underlying235 rfl (by rw [List.size_toArray, List.length_map, r8]; exact Tryz.infoR8) ?_
                  refine wpList_store_row rfl _ _ _ rfl (A + 1) (r.map (Value.int .u64)).toArray rfl rfl TB9 _ hB9 (by rw [List.size_toArray, List.length_map, r8]; exact Tryz.infoR8) (by simp [r8]) (by simp [Value.oneCell']) ?_
                  have hF := setRow_heap wr (A + 1) _ (r.map (Value.int .u64)).toArray TB9 (0, 0) hB9
                  have nF := nn2.setRow (g := A + 1) (fun h => by rw [unhide HAW] at h; omega) (r.map (Value.int .u64)).toArray
                  generalize wr.setRow (A + 1) (r.map (Value.int .u64)).toArray = wF at hF nF ⊢
                  go_wp2_with fail
                  refine bodyPost_ret (results_row_tmp rfl _ _ (A + 1) TB9 _ _ _ rfl hF Tryz.underlying235 rfl (by rw [List.size_toArray, List.length_map, r8]; exact Tryz.infoR8)) rfl ?_
                  refine ⟨?_, nF⟩
                  rw [unhide HF]
                  rfl

end Go.Proofs.YtjckpgcmfieaoaaGreatDoor
