/-
  Package seal: Tag; the reference's mixed and Tag.
-/
import Derived.Test.YtfmkdoachjgjbaaGreatDoorMaf
import Derived.Lib.BufferWrite
set_option linter.unusedVariables false
set_option linter.unusedSimpArgs false
namespace Go.Proofs.YtfmkdoachjgjbaaGreatDoor
open Go.RowKit

/-- A key, mixed with a byte. -/
def mixI (key : ByteArray) (x : Int) : List Int := (List.range 64).map fun i => bits .xor .u8 (bt key i) x
theorem Tryz.infoB64 : (Tryz.prog.info? 283).map (·.size) = some 64 := by kernel_rfl
def zB64 : Array Value := ((List.replicate 64 (0 : Int)).map (Value.int .u8)).toArray
def keyI (key : ByteArray) : List Int := (List.range 64).map fun i => bt key i

def mixTo (key : ByteArray) (x : Int) (n : Nat) : List Int := (List.range 64).map fun i => if i < n then bits .xor .u8 (bt key i) x else bt key i
theorem mixTo_len (key : ByteArray) (x : Int) (n : Nat) : (mixTo key x n).length = 64 := by unfold mixTo; simp
theorem mixTo_zero (key : ByteArray) (x : Int) : mixTo key x 0 = keyI key := by unfold mixTo keyI; exact List.map_congr_left fun i _ => by simp
theorem mixTo_all (key : ByteArray) (x : Int) : mixTo key x 64 = mixI key x := by unfold mixTo mixI; exact List.map_congr_left fun i hi => by rw [if_pos (List.mem_range.1 hi)]
theorem mixTo_at (key : ByteArray) (x : Int) (n : Nat) (h : n < 64) : (mixTo key x n).getD n 0 = bt key n := by
  unfold mixTo
  rw [List.getD_eq_getElem?_getD, List.getElem?_map, List.getElem?_range h]
  simp
theorem mixTo_succ (key : ByteArray) (x : Int) (n : Nat) (h : n < 64) : (mixTo key x n).set n (bits .xor .u8 (bt key n) x) = mixTo key x (n + 1) := by
  refine List.ext_getElem? fun i => ?_
  unfold mixTo
  rw [List.getElem?_set, List.getElem?_map, List.getElem?_map]
  by_cases hi : n = i
  · subst hi
    rw [if_pos rfl, if_pos (by simpa using h), List.getElem?_range h]
    simp
  · rw [if_neg hi]
    by_cases h2 : i < 64
    · rw [List.getElem?_range h2]
      simp only [Option.map_some]
      by_cases h3 : i < n
      · rw [if_pos h3, if_pos (by omega)]
      · rw [if_neg h3, if_neg (by omega)]
    · rw [List.getElem?_eq_none (by simp; omega)]
      rfl

set_option maxRecDepth 100000 in
set_option maxHeartbeats 1000000 in
theorem mixed_any (key : ByteArray) (x : Int) (K : Nat) (w : World) (hK : Ints8 w K (keyI key)) (h0 : 0 ≤ x) (h1 : x ≤ 255) :
    Calls Tryz.prog 187 #[.int .u8 x, .pointer (some ⟨K, 0, none⟩)] w (Makes (.string (strOfNums (mixI key x))) w) := by
  go_enter Tryz.func187, Tryz.ntmps187
  go_upto_region 1 with fail
  refine wp_region_lit ?_
  obtain ⟨TK, hK⟩ := hK
  refine wpList_load_row rfl _ _ rfl K rfl TK _ _ _ hK Tryz.underlying283 rfl (by rw [List.size_toArray, List.length_map]; exact Tryz.infoB64) ?_
  refine wpList_val rfl (v := .pointer (some ⟨w.heap.size, 0, none⟩)) (w' := w.alloc (.cells zB64 283)) (by kernel_rfl) ?_
  have n0 : New w (w.alloc (.cells zB64 283)) := (Upd.refl _ _).alloc _
  have hb0 : (w.alloc (.cells zB64 283)).heap[w.heap.size]? = some (.cells zB64 283 (0, 0)) := blk_alloc _ _
  generalize w.alloc (.cells zB64 283) = w1 at n0 hb0 ⊢
  have hl : (keyI key).length = 64 := by simp [keyI]
  refine wpList_store_row rfl _ _ _ rfl w.heap.size ((keyI key).map (Value.int .u8)).toArray rfl rfl 283 _ hb0 (by rw [List.size_toArray, List.length_map, hl]; exact Tryz.infoB64) (by have h9 : zB64.size = 64 := rfl; rw [h9]; simp [hl]) (by simp [Value.oneCell']) ?_
  have hF := setRow_heap w1 w.heap.size _ ((keyI key).map (Value.int .u8)).toArray 283 (0, 0) hb0
  have nF : New w (w1.setRow w.heap.size ((keyI key).map (Value.int .u8)).toArray) := n0.setRow (fun h => by omega) _
  generalize w1.setRow w.heap.size ((keyI key).map (Value.int .u8)).toArray = wo at hF nF ⊢
  have vM : Ints .u8 wo w.heap.size (keyI key) := ⟨_, hF⟩
  clear hF n0 hb0 hK hl
  go_wp2_with fail
  go_loopw [5, 7] (fun _ iv wr => ∃ i : Nat, iv = .int .i64 (i : Int) ∧ i ≤ 64 ∧ Ints .u8 wr w.heap.size (mixTo key x i) ∧ New w wr) (fun _ iv _ => 64 - (intOf iv).toNat)
  case atStart => exact ⟨0, rfl, by omega, by rw [mixTo_zero]; exact vM, nF⟩
  case round =>
    clear vM nF
    obtain ⟨i, rfl, hi, hM, ur⟩ := hrel
    by_cases hlt : i < 64
    · have c0 : wr.cell? ⟨w.heap.size, i, none⟩ = some (.int .u8 ((mixTo key x i).getD i 0)) := hM.cell (by rw [mixTo_len]; omega)
      rw [mixTo_at key x i hlt] at c0
      have z0 := hM.free i
      have hst := hM.set i (bits .xor .u8 (bt key i) x)
      rw [mixTo_succ key x i hlt] at hst
      have us : New w (wr.setCell ⟨w.heap.size, i, none⟩ (.int .u8 (bits .xor .u8 (bt key i) x))) := ur.setCell (fun h => by simp at h) _
      obtain ⟨y0, y1⟩ := bt_bd key i
      have HST := hide hst
      have HUS := hide us
      clear hst us hM
      have hi0 : (i : Int) < 64 := by omega
      generalize bt key i = y at c0 y0 y1 HST HUS
      go_wp2
      go_roundw
      case rel => exact ⟨i + 1, by go_num, by omega, unhide HST, unhide HUS⟩
      case measure => simp [intOf]; omega
    · obtain rfl : i = 64 := by omega
      rw [show ((64 : Nat) : Int) = 64 from rfl]
      rw [mixTo_all] at hM
      have hM8 : Ints8 wr w.heap.size (mixI key x) := hM
      have hst := run_string_ints hM8 64 (by unfold mixI; simp)
      generalize hq : strOfNums (mixI key x) = q at hst
      have HQ := hide hq
      clear hq hM hM8
      go_wp2
      go_ret
      exact ⟨by rw [unhide HQ]; rfl, ur⟩

theorem mixI_len (key : ByteArray) (x : Int) : (mixI key x).length = 64 := by simp [mixI]
/-- The key that is mixed. -/
def keyS (key : ByteArray) : ByteArray := if 64 < key.size then strOfNums (sumI key) else key
theorem keyS_size (key : ByteArray) : (keyS key).size ≤ 64 := by
  unfold keyS
  split
  · rw [strOfNums_size, sumI_len]; decide
  · omega
/-- A tag, as bytes. -/
def tagI (key s : ByteArray) : List Int := sumI (strOfNums (mixI (keyS key) 92) ++ strOfNums (sumI (strOfNums (mixI (keyS key) 54) ++ s)))

def z32b : Array Value := ((List.replicate 32 (0 : Int)).map (Value.int .u8)).toArray
attribute [local go_sem ↓ high] ld_h32_fold st_h32_fold
attribute [local go_sem] ld_h32 st_h32
theorem exec_copy {P : Program} {o : Oper} {a : Act} {w : World} (d s : Operand) (t t' : TypeId) (ho : o.op = .call { callee := .builtin .copy, args := #[d, s], argTypes := #[t, t'] }) (v u : Value) (hd : a.eval d = v) (hs : a.eval s = u) {v' : Value} {w' : World}
    (hr : (Builtin.copy_ #[t, t'] o.type #[v, u]).run P w = .ok v' w') : (execOp a.eval o).run P w = .ok (.value v') w' := by
  unfold execOp
  simp only [ho, resolve, invoke, builtin, Sem.run_bind, Sem.run_pure, Result.andThen_ok, List.map_toArray, List.map_cons, List.map_nil, hd, hs, hr]
theorem key_cells (key : ByteArray) (h : key.size ≤ 64) : (zB64.toList.take 0 ++ Lib.byteCells key.data.toList ++ zB64.toList.drop (0 + key.size)) = (keyI key).map (Value.int .u8) := by
  have hz : zB64.toList = List.replicate 64 (Value.int .u8 0) := rfl
  have hk : key.data.toList.length = key.size := Array.length_toList
  rw [hz, List.take_zero, List.nil_append, Nat.zero_add, List.drop_replicate]
  refine List.ext_getElem? fun i => ?_
  unfold keyI Lib.byteCells
  rw [List.getElem?_map, List.getElem?_map]
  by_cases h1 : i < key.size
  · rw [List.getElem?_append_left (by rw [List.length_map, hk]; exact h1), List.getElem?_map, List.getElem?_range (by omega)]
    have h2 : key.data.toList[i]? = some (key.data.toList.getD i 0) := by rw [List.getD_eq_getElem?_getD, List.getElem?_eq_getElem (by omega)]; rfl
    rw [h2]
    rfl
  · rw [List.getElem?_append_right (by rw [List.length_map, hk]; omega), List.length_map, hk, List.getElem?_replicate]
    by_cases h2 : i < 64
    · rw [if_pos (by omega), List.getElem?_range h2]
      simp only [Option.map_some, bt]
      rw [List.getD_eq_getElem?_getD, List.getElem?_eq_none (by omega)]
      rfl
    · rw [if_neg (by omega), List.getElem?_eq_none (by simp; omega)]
      rfl

set_option maxRecDepth 100000 in
set_option maxHeartbeats 4000000 in
theorem tag_any (key s : ByteArray) (w : World) (hk : key.size ≤ 100000000) (hs : s.size ≤ 100000000) (hT : Tabs w) :
    Calls Tryz.prog 156 #[.string key, .string s] w fun e w' => e = .returned (.agg ((tagI key s).map (Value.int .u8)).toArray) ∧ New w w' := by
  go_enter Tryz.func156, Tryz.ntmps156
  go_upto_region 0 with fail
  refine wp_region_lit ?_
  refine wpList_val rfl (v := .pointer (some ⟨w.heap.size, 0, none⟩)) (w' := w.alloc (.cells z32b 35)) (by kernel_rfl) ?_
  have n0 : New w (w.alloc (.cells z32b 35)) := (Upd.refl _ _).alloc _
  have vR : (w.alloc (.cells z32b 35)).heap[w.heap.size]? = some (.cells z32b 35 (0, 0)) := blk_alloc _ _
  generalize w.alloc (.cells z32b 35) = w1 at n0 vR ⊢
  have szr : w.heap.size < w1.heap.size := blk_lt vR
  have hks := keyS_size key
  have htag : tagI key s = sumI (strOfNums (mixI (keyS key) 92) ++ strOfNums (sumI (strOfNums (mixI (keyS key) 54) ++ s))) := rfl
  have HTAG := hide htag
  clear htag
  by_cases hc : 64 < key.size
  · have hkk : keyS key = strOfNums (sumI key) := by unfold keyS; rw [if_pos hc]
    have hc0 : (64 : Int) < (key.size : Int) := by omega
    have hsum := sum_any key w1 (by omega) (hT.new n0)
    have hsl := sumI_len key
    generalize sumI key = sk at hkk hsum hsl
    have HKK := hide hkk
    have HSUM := hide hsum
    clear hkk hsum
    go_upto_region 2 with fail
    refine wp_region_lit ?_
    refine wpList_val rfl (v := .string key) (w' := w1) (by kernel_rfl) ?_
    refine wpList_call rfl (f := 164) (args := #[.string key]) (w' := w1) (by kernel_rfl) ?_
    refine (unhide HSUM).mono ?_
    rintro e w2 ⟨rfl, n2⟩
    refine ⟨_, rfl, ?_⟩
    refine wpList_val rfl (v := .pointer (some ⟨w2.heap.size, 0, none⟩)) (w' := w2.alloc (.cells z32b 35)) (by kernel_rfl) ?_
    have n3 : New w2 (w2.alloc (.cells z32b 35)) := (Upd.refl _ _).alloc _
    have hb3 : (w2.alloc (.cells z32b 35)).heap[w2.heap.size]? = some (.cells z32b 35 (0, 0)) := blk_alloc _ _
    generalize w2.alloc (.cells z32b 35) = w3 at n3 hb3 ⊢
    refine wpList_store_row rfl _ _ _ rfl w2.heap.size (sk.map (Value.int .u8)).toArray rfl rfl 35 _ hb3 (by rw [List.size_toArray, List.length_map, hsl]; exact Tryz.infoHash) (by have h9 : z32b.size = 32 := rfl; rw [h9]; simp [hsl]) (by simp [Value.oneCell']) ?_
    have hb4 := setRow_heap w3 w2.heap.size _ (sk.map (Value.int .u8)).toArray 35 (0, 0) hb3
    have n4 : New w2 (w3.setRow w2.heap.size (sk.map (Value.int .u8)).toArray) := n3.setRow (fun h => by omega) _
    generalize w3.setRow w2.heap.size (sk.map (Value.int .u8)).toArray = w4 at hb4 n4 ⊢
    have h8 : Ints8 w4 w2.heap.size sk := ⟨_, hb4⟩
    have hst := run_string_ints h8 32 hsl
    have n14 := n2.trans n4
    have hkk2 := unhide HKK
    generalize hke : keyS key = kk at hkk2 hks
    rw [← hkk2] at hst
    have HKE := hide hke
    clear n2 n3 hb3 hb4 n4 h8 HSUM HKK hkk2 hke
    obtain ⟨wK, rfl⟩ : ∃ wK : World, wK = w4 := ⟨_, rfl⟩
    have nK := n14
    clear n14
    go_upto_region 4 with fail
    refine wp_region_lit ?_
    refine wpList_val rfl (v := .pointer (some ⟨wK.heap.size, 0, none⟩)) (w' := wK.alloc (.cells zB64 283)) (by kernel_rfl) ?_
    have n5 : New wK (wK.alloc (.cells zB64 283)) := (Upd.refl _ _).alloc _
    have hb5 : (wK.alloc (.cells zB64 283)).heap[wK.heap.size]? = some (.cells zB64 283 (0, 0)) := blk_alloc _ _
    generalize wK.alloc (.cells zB64 283) = w5 at n5 hb5 ⊢
    have szK := nK.size
    obtain ⟨K, hKe⟩ : ∃ K, K = wK.heap.size := ⟨_, rfl⟩
    rw [← hKe] at hb5 szK ⊢
    have hKlt : wK.heap.size ≤ K := by omega
    clear hKe
    go_upto_region 5 with fail
    refine wp_region_lit ?_
    refine wpList_val rfl (v := .slice (some ⟨K, 0, none⟩) 64 64) (w' := w5) (by kernel_rfl) ?_
    refine wpList_val rfl (v := .string kk) (w' := w5) (by kernel_rfl) ?_
    refine wpList_val rfl (v := goInt kk.size) (w' := w5.setRow K ((keyI kk).map (Value.int .u8)).toArray) (exec_copy (.tmp 16) (.tmp 17) 95 9 rfl _ _ rfl rfl ?_) ?_
    · have h := Lib.run_copy_row_string (P := Tryz.prog) w5 95 9 3 5 K 0 64 64 kk zB64 283 Tryz.underlying95 (by kernel_rfl) hb5 hks (by have h9 : zB64.size = 64 := rfl; rw [h9]; omega)
      rw [key_cells kk hks] at h
      exact h
    have hb6 := setRow_heap w5 K _ ((keyI kk).map (Value.int .u8)).toArray 283 (0, 0) hb5
    have n6 : New wK (w5.setRow K ((keyI kk).map (Value.int .u8)).toArray) := n5.setRow (fun h => by omega) _
    generalize w5.setRow K ((keyI kk).map (Value.int .u8)).toArray = w6 at hb6 n6 ⊢
    have hK8 : Ints8 w6 K (keyI kk) := ⟨_, hb6⟩
    have n16 := nK.trans n6
    clear n5 hb5 hb6
    have HTAG2 := hide ((unhide HTAG).trans (by rw [unhide HKE]))
    have hm1 := mixed_any kk 54 K
    have hq1 : (strOfNums (mixI kk 54)).size = 64 := by rw [strOfNums_size, mixI_len]
    have hq2 : (strOfNums (mixI kk 92)).size = 64 := by rw [strOfNums_size, mixI_len]
    have HM1 := hide (fun W (n : New w6 W) => mixed_any kk 54 K W ⟨_, (n.old hK8.choose_spec (fun h => h))⟩ (by decide) (by decide))
    have HM2 := hide (fun W (n : New w6 W) => mixed_any kk 92 K W ⟨_, (n.old hK8.choose_spec (fun h => h))⟩ (by decide) (by decide))
    clear hm1
    generalize strOfNums (mixI kk 54) = q1 at hq1 HTAG2 HM1
    generalize strOfNums (mixI kk 92) = q2 at hq2 HTAG2 HM2
    have hs7 := fun W h => sum_any (q1 ++ s) W (by rw [ByteArray.size_append]; omega) h
    have HS7 := hide hs7
    have hil := sumI_len (q1 ++ s)
    generalize sumI (q1 ++ s) = inn at HS7 hil HTAG2
    have hin2 : (strOfNums inn).size = 32 := by rw [strOfNums_size, hil]
    clear hs7
    go_upto_region 7 with fail
    refine wp_region_lit ?_
    refine wpList_val rfl (v := .func (.func 187) #[] #[.pointer (some ⟨K, 0, none⟩)]) (w' := w6) (by kernel_rfl) ?_
    refine wpList_call rfl (f := 187) (args := #[.int .u8 54, .pointer (some ⟨K, 0, none⟩)]) (w' := w6) (by kernel_rfl) ?_
    refine (unhide HM1 _ (Upd.refl _ _)).mono ?_
    rintro e w7 ⟨rfl, n7⟩
    refine ⟨_, rfl, ?_⟩
    have hbig : ¬ 9223372036854775807 < q1.size + s.size := by omega
    refine wpList_val rfl (v := .string s) (w' := w7) (by kernel_rfl) ?_
    refine wpList_val rfl (v := .string (q1 ++ s)) (w' := w7) (by simp only [execOp]; go_simp; first | done | omega) ?_
    refine wpList_call rfl (f := 164) (args := #[.string (q1 ++ s)]) (w' := w7) (by kernel_rfl) ?_
    refine (unhide HS7 _ (hT.new (n0.trans (n16.trans n7)))).mono ?_
    rintro e w8 ⟨rfl, n8⟩
    refine ⟨_, rfl, ?_⟩
    refine wpList_val rfl (v := .pointer (some ⟨w8.heap.size, 0, none⟩)) (w' := w8.alloc (.cells z32b 35)) (by kernel_rfl) ?_
    have n9 : New w8 (w8.alloc (.cells z32b 35)) := (Upd.refl _ _).alloc _
    have hb9 : (w8.alloc (.cells z32b 35)).heap[w8.heap.size]? = some (.cells z32b 35 (0, 0)) := blk_alloc _ _
    generalize w8.alloc (.cells z32b 35) = w9 at n9 hb9 ⊢
    refine wpList_store_row rfl _ _ _ rfl w8.heap.size (inn.map (Value.int .u8)).toArray (by kernel_rfl) (by kernel_rfl) 35 _ hb9 (by rw [List.size_toArray, List.length_map, hil]; exact Tryz.infoHash) (by have h9 : z32b.size = 32 := rfl; rw [h9]; simp [hil]) (by simp [Value.oneCell']) ?_
    have hbz := setRow_heap w9 w8.heap.size _ (inn.map (Value.int .u8)).toArray 35 (0, 0) hb9
    have nz : New w8 (w9.setRow w8.heap.size (inn.map (Value.int .u8)).toArray) := n9.setRow (fun h => by omega) _
    generalize w9.setRow w8.heap.size (inn.map (Value.int .u8)).toArray = wz at hbz nz ⊢
    have hGI : Ints8 wz w8.heap.size inn := ⟨_, hbz⟩
    have HGI := hide (fun W (n : New wz W) => (⟨_, n.old hGI.choose_spec (fun h => h)⟩ : Ints8 W w8.heap.size inn))
    have n6z : New w6 wz := n7.trans (n8.trans nz)
    have HM2z := hide (fun W (n : New wz W) => unhide HM2 W (n6z.trans n))
    have nwz : New w1 wz := n16.trans n6z
    have HTW := hide (fun W (n : New wz W) => (hT.new n0).new (nwz.trans n))
    have vRz0 := nwz.old vR (fun h => h)
    have vRz : Ints .u8 wz w.heap.size (List.replicate 32 0) := ⟨_, vRz0⟩
    generalize w8.heap.size = G at HGI ⊢
    clear hbig HM1 HS7 HM2 n9 hb9 hbz nz hGI n7 n8 n16 hK8 vRz0 n6z n6
    generalize hine : strOfNums inn = in2 at hin2 HTAG2
    have HINE := hide hine
    clear hine
    have hs8 := fun W h => sum_any (q2 ++ in2) W (by rw [ByteArray.size_append]; omega) h
    have HS2 := hide hs8
    have hol := sumI_len (q2 ++ in2)
    generalize sumI (q2 ++ in2) = out at HS2 hol HTAG2
    clear hs8
    go_upto_region 8 with fail
    go_simp
    refine wp_dagP (by kernel_rfl) [[], [(0, 25)], [], [(2, 27)], [(1, 26), (3, 28)], [(4, 29)], [(5, 30)]] 31 rfl (by kernel_rfl) [(0, 25), (1, 26), (2, 27), (3, 28), (4, 29), (5, 30)] (by kernel_rfl) [6] (by kernel_rfl) [[(0, 0)], [(0, 0)], [(0, 0)], [(0, 0)], [(0, 0)], [(0, 0)], [(0, 1)]] (by kernel_rfl)
      (sumS wz w.heap.size out) AnyW (isV [.func (.func 187) #[] #[.pointer (some ⟨K, 0, none⟩)], .string q2, .slice (some ⟨G, 0, none⟩) 32 32, .string in2, .string (q2 ++ in2), .agg (out.map (Value.int .u8)).toArray, undef])
      (((Upd.refl _ _).drew)) (fun _ => AnyW.all _ _) (fun _ _ _ _ _ _ _ _ _ h => h) ?_ ?_
    · refine .pure rfl (fun _ => AnyW.all _ _) rfl ?_ <| .one rfl ?_ <| .pure rfl (fun _ => AnyW.all _ _) rfl ?_ <| .one rfl ?_ <| .pure rfl (fun _ => AnyW.all _ _) rfl ?_ <| .one rfl ?_ <| .one rfl ?_ <| .nil
      · rintro vals w1 _
        unfold opRun; simp only [putL]; go_simp
        first | exact ⟨rfl, rfl⟩ | rfl
      · rintro vals w1 hS ⟨p0, -⟩
        replace hS : New wz w1 := hS
        replace p0 : vals 0 = .func (.func 187) #[] #[.pointer (some ⟨K, 0, none⟩)] := p0
        unfold opRun; simp only [putL]; go_simp
        refine (unhide HM2z w1 hS).mono ?_
        rintro e w2 ⟨rfl, n2⟩
        exact ⟨_, rfl, AnyW.all _ _, hS.trans n2, rfl⟩
      · rintro vals w1 _
        unfold opRun; simp only [putL]; go_simp
        first | exact ⟨rfl, rfl⟩ | rfl
      · rintro vals w1 hS ⟨p0, -⟩
        replace hS : New wz w1 := hS
        replace p0 : vals 2 = .slice (some ⟨G, 0, none⟩) 32 32 := p0
        have hst := run_string_ints (unhide HGI w1 hS) 32 hil
        rw [unhide HINE] at hst
        unfold opRun; simp only [putL]; go_simp
        exact ⟨AnyW.all _ _, hS, rfl⟩
      · rintro vals w1 ⟨p0, p1, -⟩
        replace p0 : vals 1 = .string q2 := p0
        replace p1 : vals 3 = .string in2 := p1
        have hbig : ¬ 9223372036854775807 < q2.size + in2.size := by omega
        unfold opRun; simp only [putL]; go_simp
        first | exact ⟨rfl, rfl⟩ | rfl
      · rintro vals w1 hS ⟨p0, -⟩
        replace hS : New wz w1 := hS
        replace p0 : vals 4 = .string (q2 ++ in2) := p0
        unfold opRun; simp only [putL]; go_simp
        refine (unhide HS2 w1 (unhide HTW w1 hS)).mono ?_
        rintro e w2 ⟨rfl, n2⟩
        exact ⟨_, rfl, AnyW.all _ _, hS.trans n2, rfl⟩
      · rintro vals w1 hS ⟨p0, -⟩
        replace hS : New wz w1 := hS
        replace p0 : vals 5 = .agg (out.map (Value.int .u8)).toArray := p0
        have hI := vRz.upd hS (fun h => h)
        have hst := hI.stOk (r := out) (n := 32) (by simp [hol]) hol
        have hS1 := hide (hI.setAll (r := out) (by simp [hol]))
        have u1 := hide ((hS.mono (T := fun k => k = w.heap.size) (fun _ _ h => h.elim)).then ((Upd.refl (· = w.heap.size) w1).setCells 0 (out.map (Value.int .u8))) (fun _ _ h => h))
        have e0 : (out.map (Value.int .u8)).toArray.toList = out.map (Value.int .u8) := rfl
        generalize hcs : (out.map (Value.int .u8)).toArray = cs at p0 hst e0
        generalize hcl : out.map (Value.int .u8) = cl at e0 hS1 u1
        clear hcs hcl hI
        unfold opRun; simp only [putL]; go_simp
        exact ⟨AnyW.all _ _, ⟨unhide u1, unhide hS1⟩, rfl⟩
    · intro vals w1 hS hv
      clear hv
      replace hS : Upd (fun k => k = w.heap.size) wz w1 ∧ Ints .u8 w1 w.heap.size out := hS
      obtain ⟨u1, T1, hI⟩ := hS
      simp only [putL]
      have nE := (n0.trans nwz).then u1 (by intro q hq h; omega)
      go_wp2_with fail
      refine bodyPost_ret (results_cell_row rfl _ _ w.heap.size T1 _ _ _ rfl hI Tryz.underlying35 rfl (by rw [List.size_toArray, List.length_map, hol]; exact Tryz.infoHash)) rfl ?_
      exact ⟨by rw [unhide HTAG2], nE⟩
  · have hc0 : ¬ (64 : Int) < (key.size : Int) := by omega
    have hke : keyS key = key := by unfold keyS; rw [if_neg hc]
    have HKE := hide hke
    rw [hke] at hks
    clear hke
    obtain ⟨kk, rfl⟩ : ∃ kk : ByteArray, kk = key := ⟨_, rfl⟩
    have nK : New w1 w1 := Upd.refl _ _
    go_upto_region 4 with fail
    refine wp_region_lit ?_
    refine wpList_val rfl (v := .pointer (some ⟨w1.heap.size, 0, none⟩)) (w' := w1.alloc (.cells zB64 283)) (by kernel_rfl) ?_
    have n5 : New w1 (w1.alloc (.cells zB64 283)) := (Upd.refl _ _).alloc _
    have hb5 : (w1.alloc (.cells zB64 283)).heap[w1.heap.size]? = some (.cells zB64 283 (0, 0)) := blk_alloc _ _
    generalize w1.alloc (.cells zB64 283) = w5 at n5 hb5 ⊢
    have szK := nK.size
    obtain ⟨K, hKe⟩ : ∃ K, K = w1.heap.size := ⟨_, rfl⟩
    rw [← hKe] at hb5 szK ⊢
    have hKlt : w1.heap.size ≤ K := by omega
    clear hKe
    go_upto_region 5 with fail
    refine wp_region_lit ?_
    refine wpList_val rfl (v := .slice (some ⟨K, 0, none⟩) 64 64) (w' := w5) (by kernel_rfl) ?_
    refine wpList_val rfl (v := .string kk) (w' := w5) (by kernel_rfl) ?_
    refine wpList_val rfl (v := goInt kk.size) (w' := w5.setRow K ((keyI kk).map (Value.int .u8)).toArray) (exec_copy (.tmp 16) (.tmp 17) 95 9 rfl _ _ rfl rfl ?_) ?_
    · have h := Lib.run_copy_row_string (P := Tryz.prog) w5 95 9 3 5 K 0 64 64 kk zB64 283 Tryz.underlying95 (by kernel_rfl) hb5 hks (by have h9 : zB64.size = 64 := rfl; rw [h9]; omega)
      rw [key_cells kk hks] at h
      exact h
    have hb6 := setRow_heap w5 K _ ((keyI kk).map (Value.int .u8)).toArray 283 (0, 0) hb5
    have n6 : New w1 (w5.setRow K ((keyI kk).map (Value.int .u8)).toArray) := n5.setRow (fun h => by omega) _
    generalize w5.setRow K ((keyI kk).map (Value.int .u8)).toArray = w6 at hb6 n6 ⊢
    have hK8 : Ints8 w6 K (keyI kk) := ⟨_, hb6⟩
    have n16 := nK.trans n6
    clear n5 hb5 hb6
    have HTAG2 := hide ((unhide HTAG).trans (by rw [unhide HKE]))
    have hm1 := mixed_any kk 54 K
    have hq1 : (strOfNums (mixI kk 54)).size = 64 := by rw [strOfNums_size, mixI_len]
    have hq2 : (strOfNums (mixI kk 92)).size = 64 := by rw [strOfNums_size, mixI_len]
    have HM1 := hide (fun W (n : New w6 W) => mixed_any kk 54 K W ⟨_, (n.old hK8.choose_spec (fun h => h))⟩ (by decide) (by decide))
    have HM2 := hide (fun W (n : New w6 W) => mixed_any kk 92 K W ⟨_, (n.old hK8.choose_spec (fun h => h))⟩ (by decide) (by decide))
    clear hm1
    generalize strOfNums (mixI kk 54) = q1 at hq1 HTAG2 HM1
    generalize strOfNums (mixI kk 92) = q2 at hq2 HTAG2 HM2
    have hs7 := fun W h => sum_any (q1 ++ s) W (by rw [ByteArray.size_append]; omega) h
    have HS7 := hide hs7
    have hil := sumI_len (q1 ++ s)
    generalize sumI (q1 ++ s) = inn at HS7 hil HTAG2
    have hin2 : (strOfNums inn).size = 32 := by rw [strOfNums_size, hil]
    clear hs7
    go_upto_region 7 with fail
    refine wp_region_lit ?_
    refine wpList_val rfl (v := .func (.func 187) #[] #[.pointer (some ⟨K, 0, none⟩)]) (w' := w6) (by kernel_rfl) ?_
    refine wpList_call rfl (f := 187) (args := #[.int .u8 54, .pointer (some ⟨K, 0, none⟩)]) (w' := w6) (by kernel_rfl) ?_
    refine (unhide HM1 _ (Upd.refl _ _)).mono ?_
    rintro e w7 ⟨rfl, n7⟩
    refine ⟨_, rfl, ?_⟩
    have hbig : ¬ 9223372036854775807 < q1.size + s.size := by omega
    refine wpList_val rfl (v := .string s) (w' := w7) (by kernel_rfl) ?_
    refine wpList_val rfl (v := .string (q1 ++ s)) (w' := w7) (by simp only [execOp]; go_simp; first | done | omega) ?_
    refine wpList_call rfl (f := 164) (args := #[.string (q1 ++ s)]) (w' := w7) (by kernel_rfl) ?_
    refine (unhide HS7 _ (hT.new (n0.trans (n16.trans n7)))).mono ?_
    rintro e w8 ⟨rfl, n8⟩
    refine ⟨_, rfl, ?_⟩
    refine wpList_val rfl (v := .pointer (some ⟨w8.heap.size, 0, none⟩)) (w' := w8.alloc (.cells z32b 35)) (by kernel_rfl) ?_
    have n9 : New w8 (w8.alloc (.cells z32b 35)) := (Upd.refl _ _).alloc _
    have hb9 : (w8.alloc (.cells z32b 35)).heap[w8.heap.size]? = some (.cells z32b 35 (0, 0)) := blk_alloc _ _
    generalize w8.alloc (.cells z32b 35) = w9 at n9 hb9 ⊢
    refine wpList_store_row rfl _ _ _ rfl w8.heap.size (inn.map (Value.int .u8)).toArray (by kernel_rfl) (by kernel_rfl) 35 _ hb9 (by rw [List.size_toArray, List.length_map, hil]; exact Tryz.infoHash) (by have h9 : z32b.size = 32 := rfl; rw [h9]; simp [hil]) (by simp [Value.oneCell']) ?_
    have hbz := setRow_heap w9 w8.heap.size _ (inn.map (Value.int .u8)).toArray 35 (0, 0) hb9
    have nz : New w8 (w9.setRow w8.heap.size (inn.map (Value.int .u8)).toArray) := n9.setRow (fun h => by omega) _
    generalize w9.setRow w8.heap.size (inn.map (Value.int .u8)).toArray = wz at hbz nz ⊢
    have hGI : Ints8 wz w8.heap.size inn := ⟨_, hbz⟩
    have HGI := hide (fun W (n : New wz W) => (⟨_, n.old hGI.choose_spec (fun h => h)⟩ : Ints8 W w8.heap.size inn))
    have n6z : New w6 wz := n7.trans (n8.trans nz)
    have HM2z := hide (fun W (n : New wz W) => unhide HM2 W (n6z.trans n))
    have nwz : New w1 wz := n16.trans n6z
    have HTW := hide (fun W (n : New wz W) => (hT.new n0).new (nwz.trans n))
    have vRz0 := nwz.old vR (fun h => h)
    have vRz : Ints .u8 wz w.heap.size (List.replicate 32 0) := ⟨_, vRz0⟩
    generalize w8.heap.size = G at HGI ⊢
    clear hbig HM1 HS7 HM2 n9 hb9 hbz nz hGI n7 n8 n16 hK8 vRz0 n6z n6
    generalize hine : strOfNums inn = in2 at hin2 HTAG2
    have HINE := hide hine
    clear hine
    have hs8 := fun W h => sum_any (q2 ++ in2) W (by rw [ByteArray.size_append]; omega) h
    have HS2 := hide hs8
    have hol := sumI_len (q2 ++ in2)
    generalize sumI (q2 ++ in2) = out at HS2 hol HTAG2
    clear hs8
    go_upto_region 8 with fail
    go_simp
    refine wp_dagP (by kernel_rfl) [[], [(0, 25)], [], [(2, 27)], [(1, 26), (3, 28)], [(4, 29)], [(5, 30)]] 31 rfl (by kernel_rfl) [(0, 25), (1, 26), (2, 27), (3, 28), (4, 29), (5, 30)] (by kernel_rfl) [6] (by kernel_rfl) [[(0, 0)], [(0, 0)], [(0, 0)], [(0, 0)], [(0, 0)], [(0, 0)], [(0, 1)]] (by kernel_rfl)
      (sumS wz w.heap.size out) AnyW (isV [.func (.func 187) #[] #[.pointer (some ⟨K, 0, none⟩)], .string q2, .slice (some ⟨G, 0, none⟩) 32 32, .string in2, .string (q2 ++ in2), .agg (out.map (Value.int .u8)).toArray, undef])
      (((Upd.refl _ _).drew)) (fun _ => AnyW.all _ _) (fun _ _ _ _ _ _ _ _ _ h => h) ?_ ?_
    · refine .pure rfl (fun _ => AnyW.all _ _) rfl ?_ <| .one rfl ?_ <| .pure rfl (fun _ => AnyW.all _ _) rfl ?_ <| .one rfl ?_ <| .pure rfl (fun _ => AnyW.all _ _) rfl ?_ <| .one rfl ?_ <| .one rfl ?_ <| .nil
      · rintro vals w1 _
        unfold opRun; simp only [putL]; go_simp
        first | exact ⟨rfl, rfl⟩ | rfl
      · rintro vals w1 hS ⟨p0, -⟩
        replace hS : New wz w1 := hS
        replace p0 : vals 0 = .func (.func 187) #[] #[.pointer (some ⟨K, 0, none⟩)] := p0
        unfold opRun; simp only [putL]; go_simp
        refine (unhide HM2z w1 hS).mono ?_
        rintro e w2 ⟨rfl, n2⟩
        exact ⟨_, rfl, AnyW.all _ _, hS.trans n2, rfl⟩
      · rintro vals w1 _
        unfold opRun; simp only [putL]; go_simp
        first | exact ⟨rfl, rfl⟩ | rfl
      · rintro vals w1 hS ⟨p0, -⟩
        replace hS : New wz w1 := hS
        replace p0 : vals 2 = .slice (some ⟨G, 0, none⟩) 32 32 := p0
        have hst := run_string_ints (unhide HGI w1 hS) 32 hil
        rw [unhide HINE] at hst
        unfold opRun; simp only [putL]; go_simp
        exact ⟨AnyW.all _ _, hS, rfl⟩
      · rintro vals w1 ⟨p0, p1, -⟩
        replace p0 : vals 1 = .string q2 := p0
        replace p1 : vals 3 = .string in2 := p1
        have hbig : ¬ 9223372036854775807 < q2.size + in2.size := by omega
        unfold opRun; simp only [putL]; go_simp
        first | exact ⟨rfl, rfl⟩ | rfl
      · rintro vals w1 hS ⟨p0, -⟩
        replace hS : New wz w1 := hS
        replace p0 : vals 4 = .string (q2 ++ in2) := p0
        unfold opRun; simp only [putL]; go_simp
        refine (unhide HS2 w1 (unhide HTW w1 hS)).mono ?_
        rintro e w2 ⟨rfl, n2⟩
        exact ⟨_, rfl, AnyW.all _ _, hS.trans n2, rfl⟩
      · rintro vals w1 hS ⟨p0, -⟩
        replace hS : New wz w1 := hS
        replace p0 : vals 5 = .agg (out.map (Value.int .u8)).toArray := p0
        have hI := vRz.upd hS (fun h => h)
        have hst := hI.stOk (r := out) (n := 32) (by simp [hol]) hol
        have hS1 := hide (hI.setAll (r := out) (by simp [hol]))
        have u1 := hide ((hS.mono (T := fun k => k = w.heap.size) (fun _ _ h => h.elim)).then ((Upd.refl (· = w.heap.size) w1).setCells 0 (out.map (Value.int .u8))) (fun _ _ h => h))
        have e0 : (out.map (Value.int .u8)).toArray.toList = out.map (Value.int .u8) := rfl
        generalize hcs : (out.map (Value.int .u8)).toArray = cs at p0 hst e0
        generalize hcl : out.map (Value.int .u8) = cl at e0 hS1 u1
        clear hcs hcl hI
        unfold opRun; simp only [putL]; go_simp
        exact ⟨AnyW.all _ _, ⟨unhide u1, unhide hS1⟩, rfl⟩
    · intro vals w1 hS hv
      clear hv
      replace hS : Upd (fun k => k = w.heap.size) wz w1 ∧ Ints .u8 w1 w.heap.size out := hS
      obtain ⟨u1, T1, hI⟩ := hS
      simp only [putL]
      have nE := (n0.trans nwz).then u1 (by intro q hq h; omega)
      go_wp2_with fail
      refine bodyPost_ret (results_cell_row rfl _ _ w.heap.size T1 _ _ _ rfl hI Tryz.underlying35 rfl (by rw [List.size_toArray, List.length_map, hol]; exact Tryz.infoHash)) rfl ?_
      exact ⟨by rw [unhide HTAG2], nE⟩

end Go.Proofs.YtfmkdoachjgjbaaGreatDoor
