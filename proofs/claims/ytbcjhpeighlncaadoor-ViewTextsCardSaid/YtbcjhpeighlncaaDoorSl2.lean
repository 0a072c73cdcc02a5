/-
  The reference's mixed, Tag and Of.
-/
import Derived.Test.YtbcjhpeighlncaaDoorSl1
import Derived.Test.YtbcjhpeighlncaaDoorShR4
namespace Go.Proofs.YtbcjhpeighlncaaDoor
set_option linter.unusedVariables false
set_option linter.unusedSimpArgs false
open Go.RowKit

def mixP (key : ByteArray) (x : Int) (n : Nat) : List Int := (List.range n).map fun i => bits .xor .u8 (bt key i) x
theorem mixP_len (key : ByteArray) (x : Int) (n : Nat) : (mixP key x n).length = n := by simp [mixP]
theorem mixP_succ (key : ByteArray) (x : Int) (n : Nat) : mixP key x (n + 1) = mixP key x n ++ [bits .xor .u8 (bt key n) x] := by unfold mixP; rw [List.range_succ, List.map_append]; rfl
theorem bt_out (key : ByteArray) (n : Nat) (h : key.size ≤ n) : bt key n = 0 := by
  have h2 : key.data.toList.length = key.size := Array.length_toList
  unfold bt
  rw [List.getD_eq_getElem?_getD, List.getElem?_eq_none (by omega)]
  rfl
set_option maxRecDepth 100000 in
set_option maxHeartbeats 1000000 in
theorem mixedR_any (key : ByteArray) (x : Int) (w : World) (hk : key.size ≤ 64) (h0 : 0 ≤ x) (h1 : x ≤ 255) :
    Calls Tryd.prog 56 #[.string key, .int .u8 x] w (Makes (.string (strOfNums (mixI key x))) w) := by
  have hk0 : (key.size : Int) ≤ 64 := by omega
  go_enter Tryd.func56, Tryd.ntmps56
  go_upto_region 2 with fail
  have hO := BytesO.made w w.heap.size [] (Nat.le_refl _) (by decide)
  have u0 : Upd (fun k => w.heap.size ≤ k) w (w.alloc (.cells #[] 5)) := (Upd.refl _ _).alloc _
  simp only [List.map_nil, List.length_nil] at hO
  generalize w.alloc (.cells #[] 5) = wa at hO u0 ⊢
  have HO := hide hO
  clear hO
  go_wp2_with fail
  go_loopw [5, 6, 7] (fun bv iv _ wr => ∃ (k : Nat) (a : Option Addr) (c : Nat), iv = .int .i64 (k : Int) ∧ k ≤ 64 ∧ bv = .slice a k c ∧ Hid (BytesO wr w.heap.size bv (mixP key x k)) ∧ Upd (fun k => w.heap.size ≤ k) w wr) (fun _ iv _ _ => 64 - (intOf iv).toNat)
  case atStart => exact ⟨0, _, _, rfl, by omega, rfl, HO, u0⟩
  case round =>
    obtain ⟨k, a, c, rfl, hk1, rfl, HO, ur⟩ := hrel
    by_cases hlt : k < 64
    · have hk2 : (k : Int) < 64 := by omega
      have hb := ur.size
      have hpl : (mixP key x k).length ≤ 1073741824 := by rw [mixP_len]; omega
      have hpn := mixP_succ key x k
      have hpl2 := mixP_len key x (k + 1)
      obtain ⟨y0, y1⟩ := bt_bd key k
      have HPN := hide hpn
      have HPL := hide hpl2
      clear hpn hpl2
      by_cases hkk : k < key.size
      · have hkk0 : (k : Int) < (key.size : Int) := by omega
        have hix : ∀ W : World, (Instr.index 9 (.string key) (.int .i64 (k : Int))).run Tryd.prog W = .ok (.int .u8 (bt key k)) W := fun W => run_index_at _ key _ _ k Tryd.underlying9 rfl (by omega) W
        generalize bt key k = y at hix y0 y1 HPN
        go_wp2_with (at_builtin; refine append_byte rfl (.tmp 20) (.tmp 24) rfl w.heap.size _ _ rfl _ _ _ rfl (unhide HO) hpl hb ?_)
        intro v' w5 hO5 u5
        have u6 := ur.then u5 (fun q _ h => ((unhide HO).ge h).1)
        rw [← unhide HPN] at hO5
        obtain ⟨a5, c5, rfl⟩ := hO5.shape
        rw [unhide HPL] at hO5 ⊢
        have HO5 := hide hO5
        clear hO5 u5 HO HPN hpl hix
        go_wp2
        go_roundw
        case rel => exact ⟨k + 1, a5, c5, by go_num, by omega, rfl, HO5, u6⟩
        case measure => simp [intOf]; omega
      · have hkk0 : ¬ (k : Int) < (key.size : Int) := by omega
        rw [bt_out key k (by omega)] at HPN
        clear y0 y1
        go_wp2_with (at_builtin; refine append_byte rfl (.tmp 20) (.tmp 24) rfl w.heap.size _ _ rfl _ _ _ rfl (unhide HO) hpl hb ?_)
        intro v' w5 hO5 u5
        have u6 := ur.then u5 (fun q _ h => ((unhide HO).ge h).1)
        rw [← unhide HPN] at hO5
        obtain ⟨a5, c5, rfl⟩ := hO5.shape
        rw [unhide HPL] at hO5 ⊢
        have HO5 := hide hO5
        clear hO5 u5 HO HPN hpl
        go_wp2
        go_roundw
        case rel => exact ⟨k + 1, a5, c5, by go_num, by omega, rfl, HO5, u6⟩
        case measure => simp [intOf]; omega
    · obtain rfl : k = 64 := by omega
      rw [show ((64 : Nat) : Int) = 64 from rfl]
      have hst := run_string_own (unhide HO)
      have hfin : mixP key x 64 = mixI key x := rfl
      rw [hfin] at hst
      generalize hq : strOfNums (mixI key x) = q at hst
      have HQ := hide hq
      clear hq hfin
      go_wp2
      go_ret
      exact ⟨by rw [unhide HQ]; rfl, Upd.of_below (ur.below' (Nat.le_refl _) (fun _ h => h)) (Nat.le_refl _)⟩

attribute [local go_sem ↓ high] ld_h32_fold st_h32_fold
attribute [local go_sem] ld_h32 st_h32
set_option maxRecDepth 100000 in
set_option maxHeartbeats 4000000 in
theorem tagR_any (key s : ByteArray) (w : World) (hk : key.size ≤ 100000000) (hs : s.size ≤ 100000000) :
    Calls Tryd.prog 45 #[.string key, .string s] w fun e w' => e = .returned (.agg ((tagI key s).map (Value.int .u8)).toArray) ∧ New w w' := by
  go_enter Tryd.func45, Tryd.ntmps45
  go_upto_region 0 with fail
  refine wp_region_lit ?_
  refine wpList_val rfl (v := .pointer (some ⟨w.heap.size, 0, none⟩)) (w' := w.alloc (.cells z32b 28)) (by kernel_rfl) ?_
  have n0 : New w (w.alloc (.cells z32b 28)) := (Upd.refl _ _).alloc _
  have vR : (w.alloc (.cells z32b 28)).heap[w.heap.size]? = some (.cells z32b 28 (0, 0)) := blk_alloc _ _
  generalize w.alloc (.cells z32b 28) = w1 at n0 vR ⊢
  have szr : w.heap.size < w1.heap.size := blk_lt vR
  have hks := keyS_size key
  have htag : tagI key s = sumI (strOfNums (mixI (keyS key) 92) ++ strOfNums (sumI (strOfNums (mixI (keyS key) 54) ++ s))) := rfl
  have HTAG := hide htag
  clear htag
  by_cases hc : 64 < key.size
  · have hkk : keyS key = strOfNums (sumI key) := by unfold keyS; rw [if_pos hc]
    have hc0 : (64 : Int) < (key.size : Int) := by omega
    have hsum := sumR_any key w1 (by omega)
    have hsl := sumI_len key
    generalize sumI key = sk at hkk hsum hsl
    have HKK := hide hkk
    have HSUM := hide hsum
    clear hkk hsum
    go_upto_region 3 with fail
    refine wp_region_lit ?_
    refine wpList_val rfl (v := .string key) (w' := w1) (by kernel_rfl) ?_
    refine wpList_call rfl (f := 55) (args := #[.string key]) (w' := w1) (by kernel_rfl) ?_
    refine (unhide HSUM).mono ?_
    rintro e w2 ⟨rfl, n2⟩
    refine ⟨_, rfl, ?_⟩
    refine wpList_val rfl (v := .pointer (some ⟨w2.heap.size, 0, none⟩)) (w' := w2.alloc (.cells z32b 28)) (by kernel_rfl) ?_
    have n3 : New w2 (w2.alloc (.cells z32b 28)) := (Upd.refl _ _).alloc _
    have hb3 : (w2.alloc (.cells z32b 28)).heap[w2.heap.size]? = some (.cells z32b 28 (0, 0)) := blk_alloc _ _
    generalize w2.alloc (.cells z32b 28) = w3 at n3 hb3 ⊢
    refine wpList_store_row rfl _ _ _ rfl w2.heap.size (sk.map (Value.int .u8)).toArray (by kernel_rfl) (by kernel_rfl) 28 _ hb3 (by rw [List.size_toArray, List.length_map, hsl]; exact Tryd.infoHash) (by have h9 : z32b.size = 32 := rfl; rw [h9]; simp [hsl]) (by simp [Value.oneCell']) ?_
    have hb4 := setRow_heap w3 w2.heap.size _ (sk.map (Value.int .u8)).toArray 28 (0, 0) hb3
    have n4 : New w2 (w3.setRow w2.heap.size (sk.map (Value.int .u8)).toArray) := n3.setRow (fun h => by omega) _
    generalize w3.setRow w2.heap.size (sk.map (Value.int .u8)).toArray = w4 at hb4 n4 ⊢
    have h8 : Ints8 w4 w2.heap.size sk := ⟨_, hb4⟩
    have hst := run_string_ints h8 32 hsl
    have nK : New w1 w4 := n2.trans n4
    have hkk2 := unhide HKK
    generalize hke : keyS key = kk at hkk2 hks
    rw [← hkk2] at hst
    have HKE := hide hke
    clear n2 n3 hb3 hb4 n4 h8 HSUM HKK hkk2 hke
    obtain ⟨wK, rfl⟩ : ∃ wK : World, wK = w4 := ⟨_, rfl⟩
    have HTAG2 := hide ((unhide HTAG).trans (by rw [unhide HKE]))
    have hq1 : (strOfNums (mixI kk 54)).size = 64 := by rw [strOfNums_size, mixI_len]
    have hq2 : (strOfNums (mixI kk 92)).size = 64 := by rw [strOfNums_size, mixI_len]
    have HM1 := hide (fun W => mixedR_any kk 54 W hks (by decide) (by decide))
    have HM2z := hide (fun W => mixedR_any kk 92 W hks (by decide) (by decide))
    generalize strOfNums (mixI kk 54) = q1 at hq1 HTAG2 HM1
    generalize strOfNums (mixI kk 92) = q2 at hq2 HTAG2 HM2z
    have HS7 := hide (fun W => sumR_any (q1 ++ s) W (by rw [ByteArray.size_append]; omega))
    have hil := sumI_len (q1 ++ s)
    generalize sumI (q1 ++ s) = inn at HS7 hil HTAG2
    have hin2 : (strOfNums inn).size = 32 := by rw [strOfNums_size, hil]
    go_upto_region 5 with fail
    refine wp_region_lit ?_
    refine wpList_val rfl (v := .string kk) (w' := wK) (by kernel_rfl) ?_
    refine wpList_call rfl (f := 56) (args := #[.string kk, .int .u8 54]) (w' := wK) (by kernel_rfl) ?_
    refine (unhide HM1 wK).mono ?_
    rintro e w7 ⟨rfl, n7⟩
    refine ⟨_, rfl, ?_⟩
    have hbig : ¬ 9223372036854775807 < q1.size + s.size := by omega
    refine wpList_val rfl (v := .string s) (w' := w7) (by kernel_rfl) ?_
    refine wpList_val rfl (v := .string (q1 ++ s)) (w' := w7) (by simp only [execOp]; go_simp; first | done | omega) ?_
    refine wpList_call rfl (f := 55) (args := #[.string (q1 ++ s)]) (w' := w7) (by kernel_rfl) ?_
    refine (unhide HS7 w7).mono ?_
    rintro e w8 ⟨rfl, n8⟩
    refine ⟨_, rfl, ?_⟩
    refine wpList_val rfl (v := .pointer (some ⟨w8.heap.size, 0, none⟩)) (w' := w8.alloc (.cells z32b 28)) (by kernel_rfl) ?_
    have n9 : New w8 (w8.alloc (.cells z32b 28)) := (Upd.refl _ _).alloc _
    have hb9 : (w8.alloc (.cells z32b 28)).heap[w8.heap.size]? = some (.cells z32b 28 (0, 0)) := blk_alloc _ _
    generalize w8.alloc (.cells z32b 28) = w9 at n9 hb9 ⊢
    refine wpList_store_row rfl _ _ _ rfl w8.heap.size (inn.map (Value.int .u8)).toArray (by kernel_rfl) (by kernel_rfl) 28 _ hb9 (by rw [List.size_toArray, List.length_map, hil]; exact Tryd.infoHash) (by have h9 : z32b.size = 32 := rfl; rw [h9]; simp [hil]) (by simp [Value.oneCell']) ?_
    have hbz := setRow_heap w9 w8.heap.size _ (inn.map (Value.int .u8)).toArray 28 (0, 0) hb9
    have nz : New w8 (w9.setRow w8.heap.size (inn.map (Value.int .u8)).toArray) := n9.setRow (fun h => by omega) _
    generalize w9.setRow w8.heap.size (inn.map (Value.int .u8)).toArray = wz at hbz nz ⊢
    have hGI : Ints8 wz w8.heap.size inn := ⟨_, hbz⟩
    have HGI := hide (fun W (n : New wz W) => (⟨_, n.old hGI.choose_spec (fun h => h)⟩ : Ints8 W w8.heap.size inn))
    have nwz : New w1 wz := nK.trans (n7.trans (n8.trans nz))
    have vRz0 := nwz.old vR (fun h => h)
    have vRz : Ints .u8 wz w.heap.size (List.replicate 32 0) := ⟨_, vRz0⟩
    generalize w8.heap.size = G at HGI ⊢
    clear hbig HM1 HS7 n9 hb9 hbz nz hGI n7 n8 vRz0
    generalize hine : strOfNums inn = in2 at hin2 HTAG2
    have HINE := hide hine
    clear hine
    have HS2 := hide (fun W => sumR_any (q2 ++ in2) W (by rw [ByteArray.size_append]; omega))
    have hol := sumI_len (q2 ++ in2)
    generalize sumI (q2 ++ in2) = out at HS2 hol HTAG2
    go_upto_region 6 with fail
    go_simp
    refine wp_dagP (by kernel_rfl) [[], [(0, 21)], [], [(2, 23)], [(1, 22), (3, 24)], [(4, 25)], [(5, 26)]] 27 rfl (by kernel_rfl) [(0, 21), (1, 22), (2, 23), (3, 24), (4, 25), (5, 26)] (by kernel_rfl) [6] (by kernel_rfl) [[(0, 0)], [(0, 0)], [(0, 0)], [(0, 0)], [(0, 0)], [(0, 0)], [(0, 1)]] (by kernel_rfl)
      (sumS wz w.heap.size out) AnyW (isV [.string kk, .string q2, .slice (some ⟨G, 0, none⟩) 32 32, .string in2, .string (q2 ++ in2), .agg (out.map (Value.int .u8)).toArray, undef])
      (((Upd.refl _ _).drew)) (fun _ => AnyW.all _ _) (fun _ _ _ _ _ _ _ _ _ h => h) ?_ ?_
    · refine .pure rfl (fun _ => AnyW.all _ _) rfl ?_ <| .one rfl ?_ <| .pure rfl (fun _ => AnyW.all _ _) rfl ?_ <| .one rfl ?_ <| .pure rfl (fun _ => AnyW.all _ _) rfl ?_ <| .one rfl ?_ <| .one rfl ?_ <| .nil
      · rintro vals w1 _
        unfold opRun; simp only [putL]; go_simp
        first | exact ⟨rfl, rfl⟩ | rfl
      · rintro vals w1 hS ⟨p0, -⟩
        replace hS : New wz w1 := hS
        replace p0 : vals 0 = .string kk := p0
        unfold opRun; simp only [putL]; go_simp
        refine (unhide HM2z w1).mono ?_
        rintro e w2 ⟨rfl, n2⟩
        exact ⟨_, rfl, AnyW.all _ _, hS.trans n2, rfl⟩
      · rintro vals w1 _
        unfold opRun; simp only [putL]; go_simp
        first | exact ⟨rfl, rfl⟩ | rfl
      · rintro vals w1 hS ⟨p0, -⟩
        replace hS : New wz w1 := hS
        replace p0 : vals 2 = .slice (some ⟨G, 0, none⟩) 32 32 := p0
        have hst := run_string_ints (unhide HGI w1 hS) 32 hil
        rw [unhide HINE] at hst
        unfold opRun; simp only [putL]; go_simp
        exact ⟨AnyW.all _ _, hS, rfl⟩
      · rintro vals w1 ⟨p0, p1, -⟩
        replace p0 : vals 1 = .string q2 := p0
        replace p1 : vals 3 = .string in2 := p1
        have hbig : ¬ 9223372036854775807 < q2.size + in2.size := by omega
        unfold opRun; simp only [putL]; go_simp
        first | exact ⟨rfl, rfl⟩ | rfl
      · rintro vals w1 hS ⟨p0, -⟩
        replace hS : New wz w1 := hS
        replace p0 : vals 4 = .string (q2 ++ in2) := p0
        unfold opRun; simp only [putL]; go_simp
        refine (unhide HS2 w1).mono ?_
        rintro e w2 ⟨rfl, n2⟩
        exact ⟨_, rfl, AnyW.all _ _, hS.trans n2, rfl⟩
      · rintro vals w1 hS ⟨p0, -⟩
        replace hS : New wz w1 := hS
        replace p0 : vals 5 = .agg (out.map (Value.int .u8)).toArray := p0
        have hI := vRz.upd hS (fun h => h)
        have hst := hI.stOk (r := out) (n := 32) (by simp [hol]) hol
        have hS1 := hide (hI.setAll (r := out) (by simp [hol]))
        have u1 := hide ((hS.mono (T := fun k => k = w.heap.size) (fun _ _ h => h.elim)).then ((Upd.refl (· = w.heap.size) w1).setCells 0 (out.map (Value.int .u8))) (fun _ _ h => h))
        have e0 : (out.map (Value.int .u8)).toArray.toList = out.map (Value.int .u8) := rfl
        generalize hcs : (out.map (Value.int .u8)).toArray = cs at p0 hst e0
        generalize hcl : out.map (Value.int .u8) = cl at e0 hS1 u1
        clear hcs hcl hI
        unfold opRun; simp only [putL]; go_simp
        exact ⟨AnyW.all _ _, ⟨unhide u1, unhide hS1⟩, rfl⟩
    · intro vals w1 hS hv
      clear hv
      replace hS : Upd (fun k => k = w.heap.size) wz w1 ∧ Ints .u8 w1 w.heap.size out := hS
      obtain ⟨u1, T1, hI⟩ := hS
      simp only [putL]
      have nE := (n0.trans nwz).then u1 (by intro q hq h; omega)
      go_wp2_with fail
      refine bodyPost_ret (results_cell_row rfl _ _ w.heap.size T1 _ _ _ rfl hI Tryd.underlying28 rfl (by rw [List.size_toArray, List.length_map, hol]; exact Tryd.infoHash)) rfl ?_
      exact ⟨by rw [unhide HTAG2], nE⟩
  · have hc0 : ¬ (64 : Int) < (key.size : Int) := by omega
    have hke : keyS key = key := by unfold keyS; rw [if_neg hc]
    have HKE := hide hke
    rw [hke] at hks
    clear hke
    obtain ⟨kk, rfl⟩ : ∃ kk : ByteArray, kk = key := ⟨_, rfl⟩
    have nK : New w1 w1 := Upd.refl _ _
    have HTAG2 := hide ((unhide HTAG).trans (by rw [unhide HKE]))
    have hq1 : (strOfNums (mixI kk 54)).size = 64 := by rw [strOfNums_size, mixI_len]
    have hq2 : (strOfNums (mixI kk 92)).size = 64 := by rw [strOfNums_size, mixI_len]
    have HM1 := hide (fun W => mixedR_any kk 54 W hks (by decide) (by decide))
    have HM2z := hide (fun W => mixedR_any kk 92 W hks (by decide) (by decide))
    generalize strOfNums (mixI kk 54) = q1 at hq1 HTAG2 HM1
    generalize strOfNums (mixI kk 92) = q2 at hq2 HTAG2 HM2z
    have HS7 := hide (fun W => sumR_any (q1 ++ s) W (by rw [ByteArray.size_append]; omega))
    have hil := sumI_len (q1 ++ s)
    generalize sumI (q1 ++ s) = inn at HS7 hil HTAG2
    have hin2 : (strOfNums inn).size = 32 := by rw [strOfNums_size, hil]
    go_upto_region 5 with fail
    refine wp_region_lit ?_
    refine wpList_val rfl (v := .string kk) (w' := w1) (by kernel_rfl) ?_
    refine wpList_call rfl (f := 56) (args := #[.string kk, .int .u8 54]) (w' := w1) (by kernel_rfl) ?_
    refine (unhide HM1 w1).mono ?_
    rintro e w7 ⟨rfl, n7⟩
    refine ⟨_, rfl, ?_⟩
    have hbig : ¬ 9223372036854775807 < q1.size + s.size := by omega
    refine wpList_val rfl (v := .string s) (w' := w7) (by kernel_rfl) ?_
    refine wpList_val rfl (v := .string (q1 ++ s)) (w' := w7) (by simp only [execOp]; go_simp; first | done | omega) ?_
    refine wpList_call rfl (f := 55) (args := #[.string (q1 ++ s)]) (w' := w7) (by kernel_rfl) ?_
    refine (unhide HS7 w7).mono ?_
    rintro e w8 ⟨rfl, n8⟩
    refine ⟨_, rfl, ?_⟩
    refine wpList_val rfl (v := .pointer (some ⟨w8.heap.size, 0, none⟩)) (w' := w8.alloc (.cells z32b 28)) (by kernel_rfl) ?_
    have n9 : New w8 (w8.alloc (.cells z32b 28)) := (Upd.refl _ _).alloc _
    have hb9 : (w8.alloc (.cells z32b 28)).heap[w8.heap.size]? = some (.cells z32b 28 (0, 0)) := blk_alloc _ _
    generalize w8.alloc (.cells z32b 28) = w9 at n9 hb9 ⊢
    refine wpList_store_row rfl _ _ _ rfl w8.heap.size (inn.map (Value.int .u8)).toArray (by kernel_rfl) (by kernel_rfl) 28 _ hb9 (by rw [List.size_toArray, List.length_map, hil]; exact Tryd.infoHash) (by have h9 : z32b.size = 32 := rfl; rw [h9]; simp [hil]) (by simp [Value.oneCell']) ?_
    have hbz := setRow_heap w9 w8.heap.size _ (inn.map (Value.int .u8)).toArray 28 (0, 0) hb9
    have nz : New w8 (w9.setRow w8.heap.size (inn.map (Value.int .u8)).toArray) := n9.setRow (fun h => by omega) _
    generalize w9.setRow w8.heap.size (inn.map (Value.int .u8)).toArray = wz at hbz nz ⊢
    have hGI : Ints8 wz w8.heap.size inn := ⟨_, hbz⟩
    have HGI := hide (fun W (n : New wz W) => (⟨_, n.old hGI.choose_spec (fun h => h)⟩ : Ints8 W w8.heap.size inn))
    have nwz : New w1 wz := nK.trans (n7.trans (n8.trans nz))
    have vRz0 := nwz.old vR (fun h => h)
    have vRz : Ints .u8 wz w.heap.size (List.replicate 32 0) := ⟨_, vRz0⟩
    generalize w8.heap.size = G at HGI ⊢
    clear hbig HM1 HS7 n9 hb9 hbz nz hGI n7 n8 vRz0
    generalize hine : strOfNums inn = in2 at hin2 HTAG2
    have HINE := hide hine
    clear hine
    have HS2 := hide (fun W => sumR_any (q2 ++ in2) W (by rw [ByteArray.size_append]; omega))
    have hol := sumI_len (q2 ++ in2)
    generalize sumI (q2 ++ in2) = out at HS2 hol HTAG2
    go_upto_region 6 with fail
    go_simp
    refine wp_dagP (by kernel_rfl) [[], [(0, 21)], [], [(2, 23)], [(1, 22), (3, 24)], [(4, 25)], [(5, 26)]] 27 rfl (by kernel_rfl) [(0, 21), (1, 22), (2, 23), (3, 24), (4, 25), (5, 26)] (by kernel_rfl) [6] (by kernel_rfl) [[(0, 0)], [(0, 0)], [(0, 0)], [(0, 0)], [(0, 0)], [(0, 0)], [(0, 1)]] (by kernel_rfl)
      (sumS wz w.heap.size out) AnyW (isV [.string kk, .string q2, .slice (some ⟨G, 0, none⟩) 32 32, .string in2, .string (q2 ++ in2), .agg (out.map (Value.int .u8)).toArray, undef])
      (((Upd.refl _ _).drew)) (fun _ => AnyW.all _ _) (fun _ _ _ _ _ _ _ _ _ h => h) ?_ ?_
    · refine .pure rfl (fun _ => AnyW.all _ _) rfl ?_ <| .one rfl ?_ <| .pure rfl (fun _ => AnyW.all _ _) rfl ?_ <| .one rfl ?_ <| .pure rfl (fun _ => AnyW.all _ _) rfl ?_ <| .one rfl ?_ <| .one rfl ?_ <| .nil
      · rintro vals w1 _
        unfold opRun; simp only [putL]; go_simp
        first | exact ⟨rfl, rfl⟩ | rfl
      · rintro vals w1 hS ⟨p0, -⟩
        replace hS : New wz w1 := hS
        replace p0 : vals 0 = .string kk := p0
        unfold opRun; simp only [putL]; go_simp
        refine (unhide HM2z w1).mono ?_
        rintro e w2 ⟨rfl, n2⟩
        exact ⟨_, rfl, AnyW.all _ _, hS.trans n2, rfl⟩
      · rintro vals w1 _
        unfold opRun; simp only [putL]; go_simp
        first | exact ⟨rfl, rfl⟩ | rfl
      · rintro vals w1 hS ⟨p0, -⟩
        replace hS : New wz w1 := hS
        replace p0 : vals 2 = .slice (some ⟨G, 0, none⟩) 32 32 := p0
        have hst := run_string_ints (unhide HGI w1 hS) 32 hil
        rw [unhide HINE] at hst
        unfold opRun; simp only [putL]; go_simp
        exact ⟨AnyW.all _ _, hS, rfl⟩
      · rintro vals w1 ⟨p0, p1, -⟩
        replace p0 : vals 1 = .string q2 := p0
        replace p1 : vals 3 = .string in2 := p1
        have hbig : ¬ 9223372036854775807 < q2.size + in2.size := by omega
        unfold opRun; simp only [putL]; go_simp
        first | exact ⟨rfl, rfl⟩ | rfl
      · rintro vals w1 hS ⟨p0, -⟩
        replace hS : New wz w1 := hS
        replace p0 : vals 4 = .string (q2 ++ in2) := p0
        unfold opRun; simp only [putL]; go_simp
        refine (unhide HS2 w1).mono ?_
        rintro e w2 ⟨rfl, n2⟩
        exact ⟨_, rfl, AnyW.all _ _, hS.trans n2, rfl⟩
      · rintro vals w1 hS ⟨p0, -⟩
        replace hS : New wz w1 := hS
        replace p0 : vals 5 = .agg (out.map (Value.int .u8)).toArray := p0
        have hI := vRz.upd hS (fun h => h)
        have hst := hI.stOk (r := out) (n := 32) (by simp [hol]) hol
        have hS1 := hide (hI.setAll (r := out) (by simp [hol]))
        have u1 := hide ((hS.mono (T := fun k => k = w.heap.size) (fun _ _ h => h.elim)).then ((Upd.refl (· = w.heap.size) w1).setCells 0 (out.map (Value.int .u8))) (fun _ _ h => h))
        have e0 : (out.map (Value.int .u8)).toArray.toList = out.map (Value.int .u8) := rfl
        generalize hcs : (out.map (Value.int .u8)).toArray = cs at p0 hst e0
        generalize hcl : out.map (Value.int .u8) = cl at e0 hS1 u1
        clear hcs hcl hI
        unfold opRun; simp only [putL]; go_simp
        exact ⟨AnyW.all _ _, ⟨unhide u1, unhide hS1⟩, rfl⟩
    · intro vals w1 hS hv
      clear hv
      replace hS : Upd (fun k => k = w.heap.size) wz w1 ∧ Ints .u8 w1 w.heap.size out := hS
      obtain ⟨u1, T1, hI⟩ := hS
      simp only [putL]
      have nE := (n0.trans nwz).then u1 (by intro q hq h; omega)
      go_wp2_with fail
      refine bodyPost_ret (results_cell_row rfl _ _ w.heap.size T1 _ _ _ rfl hI Tryd.underlying28 rfl (by rw [List.size_toArray, List.length_map, hol]; exact Tryd.infoHash)) rfl ?_
      exact ⟨by rw [unhide HTAG2], nE⟩

end Go.Proofs.YtbcjhpeighlncaaDoor
