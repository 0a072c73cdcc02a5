/-
  Package digest: bytes (the bytes of eight letters).
-/
import Derived.Test.YtjckpgcmfieaoaaGreatDoorSha2
set_option linter.unusedVariables false
set_option linter.unusedSimpArgs false
namespace Go.Proofs.YtjckpgcmfieaoaaGreatDoor
open Go.RowKit

/-- The i-th byte of the eight letters. -/
def byI (h : List Int) (i : Nat) : Int := wd h (i / 4) / 2 ^ (24 - 8 * (i % 4)) % 256
def byAll (h : List Int) (n : Nat) : List Int := (List.range n).foldl (fun bs i => bs.set i (byI h i)) (List.replicate 32 0)
theorem byAll_zero (h : List Int) : byAll h 0 = List.replicate 32 0 := by unfold byAll; simp only [List.range_zero, List.foldl_nil]
theorem byAll_succ (h : List Int) (n : Nat) : byAll h (n + 1) = (byAll h n).set n (byI h n) := by simp [byAll, List.range_succ]
theorem byAll_len (h : List Int) (n : Nat) : (byAll h n).length = 32 := by
  induction n with
  | zero => rw [byAll_zero]; simp
  | succ n ih => rw [byAll_succ]; simp [ih]

theorem Tryz.infoHash : (Tryz.prog.info? 30).map (·.size) = some 32 := by kernel_rfl
set_option maxRecDepth 100000 in
set_option maxHeartbeats 1000000 in
theorem bytes_any (h : List Int) (w : World) (hh : h.length = 8) (hu : U32s h) :
    Calls Tryz.prog 133 #[.agg (h.map (Value.int .u32)).toArray] w fun e w' => e = .returned (.agg ((byAll h 32).map (Value.int .u8)).toArray) ∧ New w w' := by
  obtain ⟨h0, h1, h2, h3, h4, h5, h6, h7, rfl⟩ := eight_letters hh
  simp only [List.map_cons, List.map_nil]
  go_enter Tryz.func133, Tryz.ntmps133
  go_upto_region 2 with fail
  obtain ⟨wA, hwA⟩ : ∃ wA : World, wA = ((w.alloc (.cells #[.int .u32 h0, .int .u32 h1, .int .u32 h2, .int .u32 h3, .int .u32 h4, .int .u32 h5, .int .u32 h6, .int .u32 h7] 241)).alloc (.cells #[.int .u8 0, .int .u8 0, .int .u8 0, .int .u8 0, .int .u8 0, .int .u8 0, .int .u8 0, .int .u8 0, .int .u8 0, .int .u8 0, .int .u8 0, .int .u8 0, .int .u8 0, .int .u8 0, .int .u8 0, .int .u8 0, .int .u8 0, .int .u8 0, .int .u8 0, .int .u8 0, .int .u8 0, .int .u8 0, .int .u8 0, .int .u8 0, .int .u8 0, .int .u8 0, .int .u8 0, .int .u8 0, .int .u8 0, .int .u8 0, .int .u8 0, .int .u8 0] 30)).alloc (.cells #[.int .u8 0, .int .u8 0, .int .u8 0, .int .u8 0, .int .u8 0, .int .u8 0, .int .u8 0, .int .u8 0, .int .u8 0, .int .u8 0, .int .u8 0, .int .u8 0, .int .u8 0, .int .u8 0, .int .u8 0, .int .u8 0, .int .u8 0, .int .u8 0, .int .u8 0, .int .u8 0, .int .u8 0, .int .u8 0, .int .u8 0, .int .u8 0, .int .u8 0, .int .u8 0, .int .u8 0, .int .u8 0, .int .u8 0, .int .u8 0, .int .u8 0, .int .u8 0] 30) := ⟨_, rfl⟩
  have sA : wA.heap.size = w.heap.size + 3 := by rw [hwA]; simp
  have nA : New w wA := by rw [hwA]; exact (((Upd.refl _ _).alloc _).alloc _).alloc _
  have vA : Ints .u32 wA w.heap.size [h0, h1, h2, h3, h4, h5, h6, h7] := by rw [hwA]; exact ⟨_, blk_alloc_old (blk_alloc_old (blk_alloc _ _) _) _⟩
  have vB : Ints .u8 wA (w.heap.size + 1 + 1) (List.replicate 32 0) := by
    rw [hwA]
    have := blk_alloc ((w.alloc (.cells #[.int .u32 h0, .int .u32 h1, .int .u32 h2, .int .u32 h3, .int .u32 h4, .int .u32 h5, .int .u32 h6, .int .u32 h7] 241)).alloc (.cells #[.int .u8 0, .int .u8 0, .int .u8 0, .int .u8 0, .int .u8 0, .int .u8 0, .int .u8 0, .int .u8 0, .int .u8 0, .int .u8 0, .int .u8 0, .int .u8 0, .int .u8 0, .int .u8 0, .int .u8 0, .int .u8 0, .int .u8 0, .int .u8 0, .int .u8 0, .int .u8 0, .int .u8 0, .int .u8 0, .int .u8 0, .int .u8 0, .int .u8 0, .int .u8 0, .int .u8 0, .int .u8 0, .int .u8 0, .int .u8 0, .int .u8 0, .int .u8 0] 30)) (.cells #[.int .u8 0, .int .u8 0, .int .u8 0, .int .u8 0, .int .u8 0, .int .u8 0, .int .u8 0, .int .u8 0, .int .u8 0, .int .u8 0, .int .u8 0, .int .u8 0, .int .u8 0, .int .u8 0, .int .u8 0, .int .u8 0, .int .u8 0, .int .u8 0, .int .u8 0, .int .u8 0, .int .u8 0, .int .u8 0, .int .u8 0, .int .u8 0, .int .u8 0, .int .u8 0, .int .u8 0, .int .u8 0, .int .u8 0, .int .u8 0, .int .u8 0, .int .u8 0] 30)
    rw [World.size_alloc, World.size_alloc] at this
    exact ⟨_, this⟩
  have vR : Ints .u8 wA (w.heap.size + 1) (List.replicate 32 0) := by
    rw [hwA]
    have := blk_alloc (w.alloc (.cells #[.int .u32 h0, .int .u32 h1, .int .u32 h2, .int .u32 h3, .int .u32 h4, .int .u32 h5, .int .u32 h6, .int .u32 h7] 241)) (.cells #[.int .u8 0, .int .u8 0, .int .u8 0, .int .u8 0, .int .u8 0, .int .u8 0, .int .u8 0, .int .u8 0, .int .u8 0, .int .u8 0, .int .u8 0, .int .u8 0, .int .u8 0, .int .u8 0, .int .u8 0, .int .u8 0, .int .u8 0, .int .u8 0, .int .u8 0, .int .u8 0, .int .u8 0, .int .u8 0, .int .u8 0, .int .u8 0, .int .u8 0, .int .u8 0, .int .u8 0, .int .u8 0, .int .u8 0, .int .u8 0, .int .u8 0, .int .u8 0] 30)
    rw [World.size_alloc] at this
    exact ⟨_, blk_alloc_old this _⟩
  rw [← hwA]
  clear hwA
  generalize hAw : w.heap.size = A at *
  have HAW := hide hAw
  clear hAw
  obtain ⟨wo, rfl⟩ : ∃ wo : World, wo = wA := ⟨_, rfl⟩
  have hok : U32s [h0, h1, h2, h3, h4, h5, h6, h7] := hu
  generalize hhs : [h0, h1, h2, h3, h4, h5, h6, h7] = hs at vA hok
  have hl8 : hs.length = 8 := by rw [← hhs]; rfl
  go_wp2_with fail
  go_loopw [4, 5] (fun _ iv wr => ∃ i : Nat, iv = .int .i64 (i : Int) ∧ i ≤ 32 ∧ Ints .u8 wr (A + 1 + 1) (byAll hs i) ∧ Upd (fun k => k = A + 1 + 1) wo wr) (fun _ iv _ => 32 - (intOf iv).toNat)
  case atStart => exact ⟨0, rfl, by omega, by rw [byAll_zero]; exact vB, Upd.refl _ _⟩
  case round =>
    obtain ⟨i, rfl, hi, hB, ur⟩ := hrel
    by_cases hlt : i < 32
    · have c0 : wr.cell? ⟨A, i / 4, none⟩ = some (.int .u32 (wd hs (i / 4))) := (vA.upd ur (by omega)).cell (by omega)
      obtain ⟨a0, a0'⟩ := hok.at (i / 4)
      obtain ⟨v1, c1⟩ : ∃ v, wr.cell? ⟨A + 1 + 1, i, none⟩ = some v := ⟨_, hB.cell (by rw [byAll_len]; omega)⟩
      have z1 := hB.free i
      have h01 : (i : Int) < 32 := by omega
      have h02 : IntKind.i64.wrap ((i : Int) / 4) = (i : Int) / 4 := IntWalk.i64_in _ (by omega)
      have h03 : ((i : Int) / 4).toNat = i / 4 := by omega
      have h04 : (0 : Int) ≤ (i : Int) / 4 := by omega
      have h05 : (i : Int) / 4 < 8 := by omega
      have hst := hB.set i (byI hs i)
      rw [← byAll_succ] at hst
      have HST := hide hst
      clear hst
      go_wp2
      have us := ur.set1 i (.int .u8 (byI hs i))
      go_roundw
      case rel => exact ⟨i + 1, by go_num, by omega, unhide HST, us⟩
      case measure => simp [intOf]; omega
    · obtain rfl : i = 32 := by omega
      rw [show ((32 : Nat) : Int) = 32 from rfl]
      have vR2 := vR.upd ur (by omega)
      have nn := nA.then ur (by intro q hq h; rw [unhide HAW] at hq; omega)
      have hlen := byAll_len hs 32
      subst hhs
      generalize hbs : byAll [h0, h1, h2, h3, h4, h5, h6, h7] 32 = bs at hB hlen
      have HBS := hide hbs
      clear hbs vA vB vR ur
      obtain ⟨TB, hB⟩ := hB
      obtain ⟨TR, hR⟩ := vR2
      go_upto_region 7 with fail
      refine wp_region_lit ?_
      refine wpList_load_row rfl _ _ rfl (A + 1 + 1) rfl TB _ _ _ hB Tryz.underlying30 rfl (by rw [List.size_toArray, List.length_map, hlen]; exact Tryz.infoHash) ?_
      refine wpList_store_row rfl _ _ _ rfl (A + 1) (bs.map (Value.int .u8)).toArray rfl rfl TR _ hR (by rw [List.size_toArray, List.length_map, hlen]; exact Tryz.infoHash) (by simp [hlen]) (by simp [Value.oneCell']) ?_
      have hF := setRow_heap wr (A + 1) _ (bs.map (Value.int .u8)).toArray TR (0, 0) hR
      have uF : Upd (fun k => k = A + 1) wr (wr.setRow (A + 1) (bs.map (Value.int .u8)).toArray) := ⟨rfl, rfl, rfl, by simp, fun i _ hn => setRow_other _ _ _ _ hn⟩
      have nE := nn.then uF (by intro q hq h; rw [unhide HAW] at hq; omega)
      generalize wr.setRow (A + 1) (bs.map (Value.int .u8)).toArray = wF at hF nE ⊢
      clear uF nn hB hR
      go_wp2_with fail
      refine bodyPost_ret (results_cell_row rfl _ _ (A + 1) TR _ _ _ rfl hF Tryz.underlying30 rfl (by rw [List.size_toArray, List.length_map, hlen]; exact Tryz.infoHash)) rfl ?_
      exact ⟨by rw [unhide HBS], nE⟩

end Go.Proofs.YtjckpgcmfieaoaaGreatDoor
