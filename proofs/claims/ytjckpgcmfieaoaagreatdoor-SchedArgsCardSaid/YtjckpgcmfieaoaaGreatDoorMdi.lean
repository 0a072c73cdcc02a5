/-
  The reference's Pad and Sum.
-/
import Derived.Test.YtjckpgcmfieaoaaGreatDoorShR3
import Derived.Test.YtjckpgcmfieaoaaGreatDoorMce
import Derived.Test.YtjckpgcmfieaoaaGreatDoorMdh
import Derived.Test.YtjckpgcmfieaoaaGreatDoorMci
import Derived.Test.YtjckpgcmfieaoaaGreatDoorMdd
import Derived.Test.YtjckpgcmfieaoaaGreatDoorMbi
set_option linter.unusedVariables false
set_option linter.unusedSimpArgs false
namespace Go.Proofs.YtjckpgcmfieaoaaGreatDoor
open Go.RowKit

theorem strOf_bytesI (s : ByteArray) (ys : List Int) : strOfNums (bytesI s ++ ys) = s ++ strOfNums ys := by
  unfold strOfNums bytesI
  rw [List.map_append, List.map_map]
  have : (s.data.toList.map ((fun n : Int => UInt8.ofNat n.toNat) ∘ fun c : UInt8 => (c.toNat : Int))) = s.data.toList := by
    conv => rhs; rw [← List.map_id s.data.toList]
    refine List.map_congr_left fun c _ => ?_
    simp
  rw [this]
  apply ByteArray.ext
  simp
theorem padZ_ref (n k : Nat) (h : k < padZ n) : (n + (k + 1)) % 64 ≠ 56 := by unfold padZ at h; omega
theorem padZ_end (n : Nat) : (n + (padZ n + 1)) % 64 = 56 := by unfold padZ; omega

set_option maxRecDepth 100000 in
set_option maxHeartbeats 1000000 in
theorem padR_any (s : ByteArray) (w : World) (hs : s.size ≤ 1000000000) :
    Calls Tryz.prog 130 #[.string s] w (Makes (.string (padS s)) w) := by
  have hz := padZ_lt s.size
  have hn0 : (s.size : Int) ≤ 1000000000 := by omega
  have hlI := bytesI_len s
  have hcv : ∀ w : World, (convert 9 157 (.string s)).run Tryz.prog w = .ok (.slice (some ⟨w.heap.size, 0, none⟩) s.size (grownCap w s.size 0 5)) (w.drew.alloc (.cells (bytesRow s (grownCap w s.size 0 5)) 5 ((bytesRow s (grownCap w s.size 0 5)).size, (bytesRow s (grownCap w s.size 0 5)).size + 1))) :=
    fun w => run_bytes_of_string w _ _ _ s Tryz.underlying9 Tryz.underlying157 Tryz.underlying5
  have hG := BytesG.ofS w s (grownCap w s.size 0 5) w.heap.size (Nat.le_refl _) (grownCap_ge _ _ _ _)
  have u0 : Upd (fun k => w.heap.size ≤ k) w (w.drew.alloc (.cells (bytesRow s (grownCap w s.size 0 5)) 5 ((bytesRow s (grownCap w s.size 0 5)).size, (bytesRow s (grownCap w s.size 0 5)).size + 1))) := (Upd.refl _ _).drew.alloc _
  have HG := hide hG
  have HLI := hide hlI
  clear hG hlI
  go_enter Tryz.func130, Tryz.ntmps130
  go_upto_region 2 with fail
  generalize hgc : grownCap w s.size 0 5 = gc at *
  have hcv1 := hcv w
  rw [hgc] at hcv1
  clear hcv hgc
  refine wp_region_lit ?_
  refine wpList_val rfl (v := .string s) (w' := w) (by kernel_rfl) ?_
  refine wpList_val rfl (v := .slice (some ⟨w.heap.size, 0, none⟩) s.size gc) (w' := w.drew.alloc (.cells (bytesRow s gc) 5 ((bytesRow s gc).size, (bytesRow s gc).size + 1))) (by simp only [execOp]; go_simp) ?_
  generalize w.drew.alloc (.cells (bytesRow s gc) 5 ((bytesRow s gc).size, (bytesRow s gc).size + 1)) = w1 at HG u0 ⊢
  clear hcv1
  refine wpList_val rfl (v := .slice (some ⟨w1.heap.size, 0, none⟩) 1 1) (w' := w1.alloc (.cells #[.int .u8 128] 5)) (by kernel_rfl) ?_
  refine append_byteG rfl (.tmp 11) (.tmp 12) rfl w.heap.size _ _ rfl 128 _ _ rfl (unhide HG) (by rw [unhide HLI]; omega) u0.size ?_
  intro v2 w2 hO2 u2
  have u3 := u0.then u2 (fun q _ h => ((unhide HG).ge h).1)
  clear u2 HG u0
  have hll : (bytesI s ++ [128]).length = s.size + 1 := by rw [List.length_append, unhide HLI]; rfl
  obtain ⟨a2, c2, rfl⟩ := hO2.shape
  rw [hll] at hO2 ⊢
  have HO := hide hO2
  clear hO2 hll
  go_wp2_with fail
  go_loopw [4] (fun bv wr => ∃ (k : Nat) (a : Addr) (c : Nat), bv = .slice (some a) (s.size + 1 + k) c ∧ k ≤ padZ s.size ∧ Hid (BytesG wr w.heap.size bv (bytesI s ++ (128 :: List.replicate k 0))) ∧ Upd (fun k => w.heap.size ≤ k) w wr) (fun bv _ => s.size + 100 - (match bv with | .slice _ l _ => l | _ => 0))
  case atStart => exact ⟨0, _, _, rfl, Nat.zero_le _, HO, u3⟩
  case round =>
    obtain ⟨k, a, c, rfl, hk, HO, ur⟩ := hrel
    by_cases hlt : k < padZ s.size
    · have hne := padZ_ref s.size k hlt
      have h1 : ((((s.size : Int) + 1 + (k : Int))) % 64 != 56) = true := by rw [bne_iff_ne]; omega
      have hk0 : (k : Int) < 64 := by omega
      have hb := ur.size
      have hl1 : (bytesI s ++ (128 :: List.replicate k (0 : Int))).length ≤ 1073741824 := by rw [List.length_append, unhide HLI]; simp; omega
      clear hne
      go_wp2_with (at_builtin; refine append_byteG rfl (.tmp 18) (.tmp 19) rfl w.heap.size _ _ rfl 0 _ _ rfl (unhide HO) hl1 hb ?_)
      intro v' w5 hO5 u5
      have u6 := ur.then u5 (fun q _ h => ((unhide HO).ge h).1)
      obtain ⟨a5, c5, rfl⟩ := hO5.shape
      replace hO5 : BytesG w5 w.heap.size (Value.slice (some a5) (bytesI s ++ (128 :: (List.replicate k (0 : Int) ++ [0]))).length c5) (bytesI s ++ (128 :: (List.replicate k 0 ++ [0]))) := hO5
      rw [← List.replicate_succ'] at hO5
      have hll : (bytesI s ++ (128 :: (List.replicate k (0 : Int) ++ [0]))).length = s.size + 1 + (k + 1) := by rw [List.length_append, unhide HLI]; simp; omega
      have hlm : (bytesI s ++ (128 :: (List.replicate (k + 1) (0 : Int)))).length = s.size + 1 + (k + 1) := by rw [List.length_append, unhide HLI]; simp; omega
      rw [hlm] at hO5
      rw [hll]
      have HO5 := hide hO5
      clear hO5 u5 HO hll hlm
      go_wp2
      go_roundw
      case rel => exact ⟨k + 1, a5, c5, rfl, by omega, HO5, u6⟩
      case measure => simp; omega
    · obtain rfl : k = padZ s.size := by omega
      have hne := padZ_end s.size
      have h1 : ((((s.size : Int) + 1 + (padZ s.size : Int))) % 64 != 56) = false := by rw [bne_eq_false_iff_eq]; omega
      have hk0 : (padZ s.size : Int) < 64 := by omega
      obtain ⟨wo, rfl⟩ : ∃ wo : World, wo = wr := ⟨_, rfl⟩
      clear hne
      go_wp2_with fail
      go_loopw [4, 5] (fun bv iv wr => ∃ (m : Nat) (a : Addr) (c : Nat), iv = .int .i64 (7 - (m : Int)) ∧ m ≤ 8 ∧ bv = .slice (some a) (s.size + 1 + padZ s.size + m) c ∧ Hid (BytesG wr w.heap.size bv (bytesI s ++ (128 :: List.replicate (padZ s.size) 0) ++ (List.range m).map (lenB s.size))) ∧ Upd (fun k => w.heap.size ≤ k) w wr) (fun _ iv _ => (intOf iv + 1).toNat)
      case atStart => exact ⟨0, _, _, rfl, by omega, rfl, by simpa using HO, ur⟩
      case round =>
        obtain ⟨m, a, c, rfl, hm, rfl, HO, ur⟩ := hrel
        by_cases hlt : m < 8
        · have hm0 : (m : Int) < 8 := by omega
          have hb := ur.size
          have hl1 : (bytesI s ++ (128 :: List.replicate (padZ s.size) (0 : Int)) ++ (List.range m).map (lenB s.size)).length ≤ 1073741824 := by rw [List.length_append, List.length_append, unhide HLI]; simp; omega
          have hsh : ∀ W, Calls Tryz.prog 132 #[.int .u64 ((s.size : Int) * 8), .int .i64 (8 * (7 - (m : Int)))] W fun e w' => e = .returned (.int .u64 ((s.size : Int) * 8 / 2 ^ (8 * (7 - (m : Int))).toNat)) ∧ W = w' :=
            fun W => shift_any ((s.size : Int) * 8) (8 * (7 - (m : Int))) W (by omega) (by omega) (by omega) (by omega)
          have hq : lenB s.size m = ((s.size : Int) * 8 / 2 ^ (8 * (7 - (m : Int))).toNat) % 256 := by
            unfold lenB
            rw [show (8 * (7 - (m : Int))).toNat = 56 - 8 * m by omega, Int.mul_comm]
          have hq0 : 0 ≤ (s.size : Int) * 8 / 2 ^ (8 * (7 - (m : Int))).toNat ∧ (s.size : Int) * 8 / 2 ^ (8 * (7 - (m : Int))).toNat ≤ 8000000000 := by
            have hp : (1 : Int) ≤ 2 ^ (8 * (7 - (m : Int))).toNat := Int.pow_pos (by decide)
            refine ⟨Int.ediv_nonneg (by omega) (by omega), ?_⟩
            refine Int.le_trans (Int.ediv_le_self _ (by omega)) (by omega)
          generalize (s.size : Int) * 8 / 2 ^ (8 * (7 - (m : Int))).toNat = q at hsh hq hq0
          have HSH := hide hsh
          have HQ := hide hq
          clear hsh hq
          obtain ⟨q0, q1⟩ := hq0
          go_wp2_with fail
          refine (unhide HSH _).mono ?_
          rintro e w' ⟨rfl, rfl⟩
          go_wp2_with (at_builtin; refine append_byteG rfl (.tmp 25) (.tmp 32) rfl w.heap.size _ _ rfl _ _ _ rfl (unhide HO) hl1 hb ?_)
          intro v' w5 hO5 u5
          have u6 := ur.then u5 (fun q _ h => ((unhide HO).ge h).1)
          obtain ⟨a5, c5, rfl⟩ := hO5.shape
          have e1 : bytesI s ++ (128 :: List.replicate (padZ s.size) 0) ++ (List.range (m + 1)).map (lenB s.size) = bytesI s ++ (128 :: (List.replicate (padZ s.size) 0 ++ ((List.range m).map (lenB s.size) ++ [q % 256]))) := by rw [List.range_succ, List.map_append, List.map_cons, List.map_nil, unhide HQ]; simp
          have hll : (bytesI s ++ (128 :: (List.replicate (padZ s.size) (0 : Int) ++ ((List.range m).map (lenB s.size) ++ [q % 256])))).length = s.size + 1 + padZ s.size + (m + 1) := by rw [List.length_append, unhide HLI]; simp; omega
          rw [hll] at hO5 ⊢
          rw [← e1] at hO5
          have HO5 := hide hO5
          clear hO5 u5 HO e1 hll hl1
          go_wp2
          go_roundw
          case rel => exact ⟨m + 1, a5, c5, by congr 1; omega, by omega, rfl, HO5, u6⟩
          case measure => simp [intOf]; omega
        · obtain rfl : m = 8 := by omega
          rw [show (7 : Int) - ((8 : Nat) : Int) = -1 from rfl]
          have hst := run_string_G (unhide HO)
          have hfin : strOfNums (bytesI s ++ (128 :: List.replicate (padZ s.size) 0) ++ (List.range 8).map (lenB s.size)) = padS s := by
            unfold padS tailI
            rw [List.append_assoc, strOf_bytesI]
          generalize strOfNums (bytesI s ++ (128 :: List.replicate (padZ s.size) 0) ++ (List.range 8).map (lenB s.size)) = fin at hst hfin
          have HFIN := hide hfin
          clear hfin
          go_wp2
          go_ret
          exact ⟨by rw [unhide HFIN]; rfl, ur.below' (Nat.le_refl _) (fun _ h => h) |> fun h => Upd.of_below h (Nat.le_refl _)⟩

theorem padS_size (s : ByteArray) : (padS s).size % 64 = 0 ∧ (padS s).size ≤ s.size + 73 := by
  unfold padS
  rw [ByteArray.size_append, strOfNums_size, tailI_len]
  have := padZ_lt s.size
  have := padZ_eq s.size
  omega
theorem ext_first (p : ByteArray) (i : Nat) (h : i + 64 ≤ p.size) : (p.extract i p.size).extract 0 64 = p.extract i (i + 64) := by
  rw [ByteArray.extract_extract]
  congr 1
  omega
theorem ext_rest (p : ByteArray) (i : Nat) (h : i + 64 ≤ p.size) : (p.extract i p.size).extract 64 (p.extract i p.size).size = p.extract (i + 64) p.size := by
  rw [ByteArray.extract_extract]
  congr 1
  rw [ByteArray.size_extract]
  omega
theorem blkI_step (p : ByteArray) (n : Nat) (h : List Int) (hp : p.size % 64 = 0) (hn : 64 * n + 64 ≤ p.size) :
    blkI ((p.size - 64 * n) / 64) h (p.extract (64 * n) p.size) = blkI ((p.size - 64 * (n + 1)) / 64) (digI h (p.extract (64 * n) (64 * n + 64))) (p.extract (64 * (n + 1)) p.size) := by
  obtain ⟨k, hk⟩ : ∃ k, (p.size - 64 * n) / 64 = k + 1 := ⟨(p.size - 64 * n) / 64 - 1, by omega⟩
  rw [hk, show (p.size - 64 * (n + 1)) / 64 = k by omega]
  show blkI k (digI h ((p.extract (64 * n) p.size).extract 0 64)) ((p.extract (64 * n) p.size).extract 64 (p.extract (64 * n) p.size).size) = _
  rw [ext_first p _ hn, ext_rest p _ hn, show 64 * n + 64 = 64 * (n + 1) by omega]

def z32 : Array Value := ((List.replicate 32 (0 : Int)).map (Value.int .u8)).toArray
def z8r : Array Value := ((List.replicate 8 (0 : Int)).map (Value.int .u64)).toArray
def hVal : Array Value := (hBeg.map (Value.int .u64)).toArray
attribute [local go_sem ↓ high] ld_r8_fold st_r8_fold ld_h32_fold st_h32_fold
attribute [local go_sem] ld_r8 st_r8 ld_h32 st_h32
set_option maxRecDepth 100000 in
set_option maxHeartbeats 2000000 in
theorem sumR_any (s : ByteArray) (w : World) (hs : s.size ≤ 1000000000) :
    Calls Tryz.prog 73 #[.string s] w fun e w' => e = .returned (.agg ((sumI s).map (Value.int .u8)).toArray) ∧ New w w' := by
  obtain ⟨p64, plen⟩ := padS_size s
  have hp := fun W => padR_any s W hs
  have hsum : sumI s = byAll (blkI ((padS s).size / 64) hBeg (padS s)) 32 := rfl
  generalize padS s = p at p64 plen hp hsum
  have HP := hide hp
  have HSUM := hide hsum
  clear hp hsum
  go_enter Tryz.func73, Tryz.ntmps73
  go_upto_region 0 with fail
  refine wp_region_lit ?_
  refine wpList_val rfl (v := .pointer (some ⟨w.heap.size, 0, none⟩)) (w' := w.alloc (.cells z32 30)) (by kernel_rfl) ?_
  have n0 : New w (w.alloc (.cells z32 30)) := (Upd.refl _ _).alloc _
  have hb0 : (w.alloc (.cells z32 30)).heap[w.heap.size]? = some (.cells z32 30 (0, 0)) := blk_alloc _ _
  generalize w.alloc (.cells z32 30) = w1 at n0 hb0 ⊢
  go_upto_region 1 with fail
  refine wp_region_lit ?_
  refine wpList_val rfl (v := .agg hVal) (w' := w1) (by kernel_rfl) ?_
  refine wpList_val rfl (v := .pointer (some ⟨w1.heap.size, 0, none⟩)) (w' := w1.alloc (.cells z8r 235)) (by kernel_rfl) ?_
  have n2 : New w1 (w1.alloc (.cells z8r 235)) := (Upd.refl _ _).alloc _
  have hb2 : (w1.alloc (.cells z8r 235)).heap[w1.heap.size]? = some (.cells z8r 235 (0, 0)) := blk_alloc _ _
  generalize w1.alloc (.cells z8r 235) = w2 at n2 hb2 ⊢
  refine wpList_store_row rfl _ _ _ rfl w1.heap.size hVal rfl rfl 235 _ hb2 (by kernel_rfl) (by kernel_rfl) (by kernel_rfl) ?_
  have hb3 : (w2.setRow w1.heap.size hVal).heap[w1.heap.size]? = some (.cells hVal 235 (0, 0)) := setRow_heap w2 w1.heap.size _ hVal 235 (0, 0) hb2
  have n3 : New w1 (w2.setRow w1.heap.size hVal) := n2.setRow (fun h => by omega) _
  generalize w2.setRow w1.heap.size hVal = w3 at hb3 n3 ⊢
  have sz1 : w.heap.size < w1.heap.size := blk_lt hb0
  have vR := n3.old hb0 (fun h => h)
  have nA := n0.trans n3
  have vH : Ints .u64 w3 w1.heap.size hBeg := ⟨_, hb3⟩
  have szB := vH.lt
  generalize w1.heap.size = B at vH sz1 szB ⊢
  clear n0 hb0 n2 hb2 hb3 n3
  go_wp2_with fail
  refine (unhide HP w3).mono ?_
  rintro e w4 ⟨rfl, n4⟩
  have szs := n4.size
  replace vR := n4.old vR (fun h => h)
  replace vH := vH.upd n4 (fun h => h)
  replace nA := nA.trans n4
  clear n4 HP
  go_wp2_with fail
  go_loopw [5, 6, 7] (fun iv _ _ wr => ∃ (n : Nat) (hc : List Int), iv = .int .i64 (64 * (n : Int)) ∧ 64 * n ≤ p.size ∧ hc.length = 8 ∧ U32s hc ∧ Hid (blkI ((p.size - 64 * n) / 64) hc (p.extract (64 * n) p.size) = blkI (p.size / 64) hBeg p) ∧ Ints .u64 wr B hc ∧ Upd (fun k => k = B) w4 wr) (fun iv _ _ _ => p.size - (intOf iv).toNat)
  case atStart => exact ⟨0, hBeg, rfl, by omega, rfl, hBeg_u32, by rw [show 64 * 0 = 0 from rfl, Nat.sub_zero]; exact hide (by simp), vH, Upd.refl _ _⟩
  case round =>
    clear vH
    obtain ⟨n, hc, rfl, hn, hc8, hcu, HE, hH, ur⟩ := hrel
    by_cases hlt : 64 * n < p.size
    · have hn64 : 64 * n + 64 ≤ p.size := by omega
      have hbs : (p.extract (64 * n) (64 * n + 64)).size = 64 := by rw [ByteArray.size_extract]; omega
      have hC := fun W => compressR_any hc (p.extract (64 * n) (64 * n + 64)) W hc8 hcu hbs
      have hok := digI_ok hc (p.extract (64 * n) (64 * n + 64)) ⟨hc8, hcu⟩
      have hst := (blkI_step p n hc p64 hn64).symm.trans (unhide HE)
      obtain ⟨TH, hb⟩ := hH
      generalize hbl : p.extract (64 * n) (64 * n + 64) = bl at hC hok hst
      generalize digI hc bl = d at hC hok hst
      obtain ⟨d8, du⟩ := hok
      have HC := hide hC
      have HBL := hide hbl
      have HST := hide hst
      clear hC hbs hst hbl HE
      obtain ⟨wq, rfl⟩ : ∃ wq : World, wq = wr := ⟨_, rfl⟩
      have szq := ur.size
      generalize hcv : (hc.map (Value.int .u64)).toArray = cv at hb HC
      have cv8 : cv.size = 8 := by rw [← hcv]; simpa using hc8
      have HCV := hide hcv
      clear hcv
      have hr8 := rowN_whole hb 8 cv8
      have hn0 : 64 * (n : Int) < (p.size : Int) := by omega
      have hn1 : 64 * (n : Int) + 64 ≤ (p.size : Int) := by omega
      have hp0 : (p.size : Int) ≤ 2000000000 := by omega
      have ht0 : (64 * (n : Int)).toNat = 64 * n := by omega
      have hw0 : IntKind.i64.wrap (64 * (n : Int) + 64) = 64 * (n : Int) + 64 := IntWalk.i64_in _ (by omega)
      have hw1 : 0 ≤ 64 * (n : Int) := by omega
      have hw2 : 0 ≤ 64 * (n : Int) + 64 := by omega
      have hw3 : 64 * (n : Int) ≤ 64 * (n : Int) + 64 := by omega
      have ht1 : (64 * (n : Int) + 64).toNat = 64 * n + 64 := by omega
      go_wp2_with fail
      refine wp_dagN (by kernel_rfl) [[], [], [], [], [(3, 23)], [(1, 21), (2, 22), (4, 24)], [(0, 20), (5, 25)], [(6, 26)], [(7, 19)], [(7, 19)], [], [(10, 6), (8, 27)], [(9, 28)]] 49 rfl (by kernel_rfl) [(0, 20), (1, 21), (2, 22), (3, 23), (4, 24), (5, 25), (6, 26), (7, 19), (8, 27), (9, 28), (10, 6), (12, 7)] (by kernel_rfl) 10 11 8 rfl rfl rfl rfl ((d.map (Value.int .u64)).toArray)
        [.agg cv, .string p, .int .i64 (64 * (n : Int)), .int .i64 (64 * (n : Int)), .int .i64 (64 * (n : Int) + 64), .string bl, .tuple #[.agg (d.map (Value.int .u64)).toArray, .bool true], .tuple #[.agg (d.map (Value.int .u64)).toArray, .bool true], .agg (d.map (Value.int .u64)).toArray, .bool true, undef, undef, .bool true] ?_ ?_
      · refine .nval rfl rfl rfl ?_ <| .nval rfl rfl rfl ?_ <| .nval rfl rfl rfl ?_ <| .nval rfl rfl rfl ?_ <| .nval rfl rfl rfl ?_ <| .nval rfl rfl rfl ?_ <| .nval rfl rfl rfl ?_ <| .nval rfl rfl rfl ?_ <| .nval rfl rfl rfl ?_ <| .nval rfl rfl rfl ?_ <| .nalloc rfl rfl rfl z8r 235 rfl ?_ <| .nstore rfl rfl rfl rfl (by simp [d8]) ?_ <| .nval rfl rfl rfl ?_ <| .nil
        · intro vals w5 hS _
          have hr := rowN_upd hr8 hS (fun h => h)
          unfold opRun; simp only [putL]; go_simp
          exact ⟨Upd.refl _ _, rfl⟩
        · intro vals w5 hS _
          unfold opRun; simp only [putL]; go_simp
          exact ⟨Upd.refl _ _, rfl⟩
        · intro vals w5 hS _
          unfold opRun; simp only [putL]; go_simp
          exact ⟨Upd.refl _ _, rfl⟩
        · intro vals w5 hS _
          unfold opRun; simp only [putL]; go_simp
          exact ⟨Upd.refl _ _, rfl⟩
        · rintro vals w5 hS ⟨p0, -⟩
          replace p0 : vals 3 = .int .i64 (64 * (n : Int)) := p0
          unfold opRun; simp only [putL]; go_simp
          exact ⟨Upd.refl _ _, rfl⟩
        · rintro vals w5 hS ⟨p0, p1, p2, -⟩
          replace p0 : vals 1 = .string p := p0
          replace p1 : vals 2 = .int .i64 (64 * (n : Int)) := p1
          replace p2 : vals 4 = .int .i64 (64 * (n : Int) + 64) := p2
          have hbl := unhide HBL
          unfold opRun; simp only [putL]; go_simp
          exact ⟨Upd.refl _ _, rfl⟩
        · rintro vals w5 hS ⟨p0, p1, -⟩
          replace p0 : vals 0 = .agg cv := p0
          replace p1 : vals 5 = .string bl := p1
          unfold opRun; simp only [putL]; go_simp
          refine (unhide HC w5).mono ?_
          rintro e w6 ⟨rfl, n6⟩
          exact ⟨_, rfl, n6, rfl⟩
        · rintro vals w5 hS ⟨p0, -⟩
          replace p0 : vals 6 = .tuple #[.agg (d.map (Value.int .u64)).toArray, .bool true] := p0
          generalize (d.map (Value.int .u64)).toArray = dv at p0 ⊢
          unfold opRun; simp only [putL]; go_simp
          exact ⟨Upd.refl _ _, rfl⟩
        · rintro vals w5 hS ⟨p0, -⟩
          replace p0 : vals 7 = .tuple #[.agg (d.map (Value.int .u64)).toArray, .bool true] := p0
          generalize (d.map (Value.int .u64)).toArray = dv at p0 ⊢
          unfold opRun; simp only [putL]; go_simp
          exact ⟨Upd.refl _ _, rfl⟩
        · rintro vals w5 hS ⟨p0, -⟩
          replace p0 : vals 7 = .tuple #[.agg (d.map (Value.int .u64)).toArray, .bool true] := p0
          generalize (d.map (Value.int .u64)).toArray = dv at p0 ⊢
          unfold opRun; simp only [putL]; go_simp
          exact ⟨Upd.refl _ _, rfl⟩
        · intro vals w5
          rfl
        · rintro vals w5 g T cs e1 hg hcs ⟨-, p1, -⟩
          replace p1 : vals 8 = .agg (d.map (Value.int .u64)).toArray := p1
          have hst8 := stOk_blk (o := 0) (n := 8) (A := (d.map (Value.int .u64)).toArray) hg (by omega) (by simp [d8]) (by simp [Value.oneCell'])
          generalize (d.map (Value.int .u64)).toArray = dv at p1 hst8 ⊢
          unfold opRun; simp only [putL]; go_simp
        · rintro vals w5 hS ⟨p0, -⟩
          replace p0 : vals 9 = .bool true := p0
          unfold opRun; simp only [putL]; go_simp
          exact ⟨Upd.refl _ _, rfl⟩
      · intro vals w5 g T n5 e10 hgB hg hv
        have hv12 : vals 12 = .bool true := hv 12 (by decide) (by decide) (by decide)
        clear hv
        simp only [putL, e10, hv12]
        clear hw0 hw1 hw2 hw3 ht0 ht1
        go_simp
        have hb5 := n5.old hb (fun h => h)
        have u5 := ur.then n5 (fun _ _ h => h.elim)
        clear hr8 hb HC n5 ur
        go_upto_region 7 with fail
        refine wp_region_lit ?_
        refine wpList_load_row rfl _ _ rfl g rfl T _ _ _ hg Tryz.underlying235 rfl (by rw [List.size_toArray, List.length_map, d8]; exact Tryz.infoR8) ?_
        refine wpList_store_row rfl _ _ _ rfl B (d.map (Value.int .u64)).toArray rfl rfl TH _ hb5 (by rw [List.size_toArray, List.length_map, d8]; exact Tryz.infoR8) (by simp [d8, cv8]) (by simp [Value.oneCell']) ?_
        have hF := setRow_heap w5 B _ (d.map (Value.int .u64)).toArray TH (0, 0) hb5
        have u6 := u5.setRow (g := B) (fun _ => rfl) (d.map (Value.int .u64)).toArray
        generalize w5.setRow B (d.map (Value.int .u64)).toArray = w6 at hF u6 ⊢
        clear hg hb5 u5
        go_wp2
        go_roundw
        case rel => exact ⟨n + 1, d, by congr 1, by omega, d8, du, HST, ⟨TH, hF⟩, u6⟩
        case measure => simp [intOf]; omega
    · have he : 64 * n = p.size := by omega
      have hHE := unhide HE
      rw [show (p.size - 64 * n) / 64 = 0 by omega] at hHE
      have hfin : sumI s = byAll hc 32 := by rw [unhide HSUM, ← hHE]; rfl
      have HFIN := hide hfin
      clear hfin hHE HE HSUM
      have hn0 : ¬ 64 * (n : Int) < (p.size : Int) := by omega
      have szq := ur.size
      have vR2 := ur.old vR (by omega)
      have nB := nA.then ur (fun q hq e => by omega)
      clear vR nA ur
      obtain ⟨wq, rfl⟩ : ∃ wq : World, wq = wr := ⟨_, rfl⟩
      go_upto_region 8 with fail
      refine wp_region_lit ?_
      refine wpList_val rfl (v := .agg z32) (w' := wq) (by kernel_rfl) ?_
      refine wpList_val rfl (v := .pointer (some ⟨wq.heap.size, 0, none⟩)) (w' := wq.alloc (.cells z32 30)) (by kernel_rfl) ?_
      have n2 : New wq (wq.alloc (.cells z32 30)) := (Upd.refl _ _).alloc _
      have hb2 : (wq.alloc (.cells z32 30)).heap[wq.heap.size]? = some (.cells z32 30 (0, 0)) := blk_alloc _ _
      generalize wq.alloc (.cells z32 30) = w5 at n2 hb2 ⊢
      refine wpList_store_row rfl _ _ _ rfl wq.heap.size z32 rfl rfl 30 _ hb2 (by kernel_rfl) (by kernel_rfl) (by kernel_rfl) ?_
      have hb3 : (w5.setRow wq.heap.size z32).heap[wq.heap.size]? = some (.cells z32 30 (0, 0)) := setRow_heap w5 wq.heap.size _ z32 30 (0, 0) hb2
      have n3 : New wq (w5.setRow wq.heap.size z32) := n2.setRow (fun h => by omega) _
      generalize w5.setRow wq.heap.size z32 = w6 at hb3 n3 ⊢
      have vO : Ints .u8 w6 wq.heap.size (List.replicate 32 0) := ⟨_, hb3⟩
      have szO := vO.lt
      have szC : B < wq.heap.size := hH.lt
      replace hH := hH.upd n3 (fun h => h)
      replace vR2 := n3.old vR2 (fun h => h)
      replace nB := nB.trans n3
      generalize wq.heap.size = C at vO szC szO ⊢
      clear n2 hb2 hb3 n3
      go_wp2_with fail
      go_loopw [9] (fun iv wr => ∃ i : Nat, iv = .int .i64 (i : Int) ∧ i ≤ 32 ∧ Ints .u8 wr C (byAll hc i) ∧ Upd (fun k => k = C) w6 wr) (fun iv _ => 32 - (intOf iv).toNat)
      case atStart => exact ⟨0, rfl, by omega, by rw [byAll_zero]; exact vO, Upd.refl _ _⟩
      case round =>
        obtain ⟨i, rfl, hi, hO, ur⟩ := hrel
        by_cases hlt2 : i < 32
        · have c0 : wr.cell? ⟨B, i / 4, none⟩ = some (.int .u64 (wd hc (i / 4))) := (hH.upd ur (by omega)).cell (by omega)
          obtain ⟨a0, a0'⟩ := hcu.at (i / 4)
          obtain ⟨v1, c1⟩ : ∃ v, wr.cell? ⟨C, i, none⟩ = some v := ⟨_, hO.cell (by rw [byAll_len]; omega)⟩
          have z1 := hO.free i
          have h01 : (i : Int) < 32 := by omega
          have h02 : IntKind.i64.wrap ((i : Int) / 4) = (i : Int) / 4 := IntWalk.i64_in _ (by omega)
          have h03 : ((i : Int) / 4).toNat = i / 4 := by omega
          have h04 : (0 : Int) ≤ (i : Int) / 4 := by omega
          have h05 : (i : Int) / 4 < 8 := by omega
          have hst := hO.set i (byI hc i)
          rw [← byAll_succ] at hst
          have HST := hide hst
          clear hst
          have hq : byI hc i = wd hc (i / 4) / 2 ^ (24 - 8 * ((i : Int) % 4)).toNat % 256 := by
            unfold byI
            rw [show (24 - 8 * ((i : Int) % 4)).toNat = 24 - 8 * (i % 4) by omega]
          have hsh : ∀ W, Calls Tryz.prog 132 #[.int .u64 (wd hc (i / 4)), .int .i64 (24 - 8 * ((i : Int) % 4))] W fun e w' => e = .returned (.int .u64 (wd hc (i / 4) / 2 ^ (24 - 8 * ((i : Int) % 4)).toNat)) ∧ W = w' :=
            fun W => shift_any (wd hc (i / 4)) (24 - 8 * ((i : Int) % 4)) W a0 (by omega) (by omega) (by omega)
          have hq0 : 0 ≤ wd hc (i / 4) / 2 ^ (24 - 8 * ((i : Int) % 4)).toNat ∧ wd hc (i / 4) / 2 ^ (24 - 8 * ((i : Int) % 4)).toNat < 4294967296 := by
            have hp : (1 : Int) ≤ 2 ^ (24 - 8 * ((i : Int) % 4)).toNat := Int.pow_pos (by decide)
            refine ⟨Int.ediv_nonneg a0 (by omega), ?_⟩
            exact Int.lt_of_le_of_lt (Int.ediv_le_self _ a0) a0'
          generalize wd hc (i / 4) / 2 ^ (24 - 8 * ((i : Int) % 4)).toNat = q at hsh hq hq0
          generalize wd hc (i / 4) = x at c0 hsh
          have HSH := hide hsh
          rw [hq] at HST
          have us := hide (ur.set1 i (.int .u8 (q % 256)))
          clear hsh hq
          obtain ⟨q0, q1⟩ := hq0
          go_wp2_with fail
          refine (unhide HSH _).mono ?_
          rintro e w' ⟨rfl, rfl⟩
          go_wp2
          clear h02 h03
          go_roundw
          case rel => exact ⟨i + 1, by go_num, by omega, unhide HST, unhide us⟩
          case measure => simp [intOf]; omega
        · obtain rfl : i = 32 := by omega
          rw [show ((32 : Nat) : Int) = 32 from rfl]
          have vR3 := ur.old vR2 (by omega)
          have nn := nB.then ur (by intro q hq h; omega)
          have hlen := byAll_len hc 32
          generalize hbs : byAll hc 32 = bs at hO hlen
          have HBS := hide hbs
          clear hbs vR2 nB ur vO
          obtain ⟨TO, hO⟩ := hO
          go_upto_region 13 with fail
          refine wp_region_lit ?_
          refine wpList_load_row rfl _ _ rfl C rfl TO _ _ _ hO Tryz.underlying30 rfl (by rw [List.size_toArray, List.length_map, hlen]; exact Tryz.infoHash) ?_
          refine wpList_store_row rfl _ _ _ rfl w.heap.size (bs.map (Value.int .u8)).toArray rfl rfl 30 _ vR3 (by rw [List.size_toArray, List.length_map, hlen]; exact Tryz.infoHash) (by have h9 : z32.size = 32 := rfl; rw [h9]; simp [hlen]) (by simp [Value.oneCell']) ?_
          have hF := setRow_heap wr w.heap.size _ (bs.map (Value.int .u8)).toArray 30 (0, 0) vR3
          have nF := nn.setRow (g := w.heap.size) (fun h => by omega) (bs.map (Value.int .u8)).toArray
          generalize wr.setRow w.heap.size (bs.map (Value.int .u8)).toArray = wF at hF nF ⊢
          clear nn hO vR3
          go_wp2_with fail
          refine bodyPost_ret (results_cell_row rfl _ _ w.heap.size 30 _ _ _ rfl hF Tryz.underlying30 rfl (by rw [List.size_toArray, List.length_map, hlen]; exact Tryz.infoHash)) rfl ?_
          exact ⟨by rw [unhide HFIN, unhide HBS], nF⟩

end Go.Proofs.YtjckpgcmfieaoaaGreatDoor
namespace Go.Proofs.YtjckpgcmfieaoaaGreatDoor
open Go.RowKit

noncomputable def iSumR (_ : ECall) (a : List EV) (s : ESt) : EO := match a with
  | [.str l] => match Nat.ble l.length 1000000000 with
    | true => .v (.agg (eBytesV (hSum l))) s
    | false => .er
  | [.sstr l] => match Nat.ble (sLen l) 1000000000 with
    | true => .v (.agg (iShaL l 32)) s
    | false => .er
  | _ => .er
theorem iSumR_ok {k : ECall} {args : List EV} {s s' : ESt} {x : EV} (ha : iSumR k args s = .v x s') : KOk Tryz.prog 73 args s x s' := fun w0 β w av hg hr hv => by
  unfold iSumR at ha
  have one : ∀ {b : ByteArray} {l : List Nat} {y : EV}, b.data.toList.map (·.toNat) = l → b.size ≤ 1000000000 → VR β y (.agg ((natI (hSum l)).map (Value.int .u8)).toArray) → y = x → s = s' → av = #[.string b] →
      CallOk Tryz.prog 73 av w fun v w' => ∃ β', VR β' x v ∧ HR w0 β' s' w' ∧ Ext β s β' s' := by
    intro b l y hb hs hy e1 e2 e3
    subst e1 e2 e3
    refine .inr ⟨enters_of Tryz.func73 (by kernel_rfl) rfl _ _, (sumR_any b w hs).mono ?_⟩
    rintro e w' ⟨rfl, n⟩
    refine ⟨_, rfl, β, ?_, hr.world n, Ext.refl _ _⟩
    rw [sumI_eq b hb hs]
    exact hy
  have arr : ∀ {x1 : EV}, VRs β [x1] av.toList → ∃ v, VR β x1 v ∧ av = #[v] := fun h => by
    obtain ⟨av⟩ := av
    cases h with
    | cons h1 h2 => cases h2; exact ⟨_, h1, rfl⟩
  split at ha
  · rename_i l
    split at ha
    · rename_i hl
      injection ha with e1 e2
      obtain ⟨v, h1, e3⟩ := arr hv
      cases h1 with
      | str hb =>
        rename_i b
        have hsz : b.size = l.length := by rw [← hb]; simp
        exact one hb (by rw [hsz]; exact Nat.le_of_ble_eq_true hl) (.agg (by simpa using eBytesV_nat (hSum l))) e1 e2 e3
    · cases ha
  · rename_i l
    split at ha
    · rename_i hl
      injection ha with e1 e2
      obtain ⟨v, h1, e3⟩ := arr hv
      cases h1 with
      | sstr hb =>
        rename_i b
        have hsz : b.size = sLen l := by rw [hb.len]; simp
        exact one rfl (by rw [hsz]; exact Nat.le_of_ble_eq_true hl) (.agg (by simpa using iShaL_VRs hb)) e1 e2 e3
    · cases ha
  · cases ha

noncomputable section
def sTexts (l : List EV) : Option (List SX) :=
  List.rec (motive := fun _ => Option (List SX)) (some []) (fun x _ ih => match x with
    | .str a => match ih with
      | some r => some (sOf a :: r)
      | none => none
    | .sstr a => match ih with
      | some r => some (a :: r)
      | none => none
    | _ => none) l
def sJoinL (sep : SX) (l : List SX) : SX :=
  List.rec (motive := fun _ => SX) .nil (fun x r ih => match r with
    | [] => x
    | _ => sApp x (sApp sep ih)) l
def iJoinS (k : ECall) (a : List EV) (s : ESt) : EO := match iJoin k a s with
  | .v x t => .v x t
  | .er => match a with
    | [.sl (some (b, o)) n c z, .str sep] => match s.loadN b o n with
      | some l => match sTexts l with
        | some ls => match Nat.ble n c && Nat.ble 1 n && Nat.ble n 1000 && Nat.ble (sLen (sJoinL (sOf sep) ls)) 1000000000 with
          | true => .v (.sstr (sJoinL (sOf sep) ls)) s
          | false => .er
        | none => .er
      | none => .er
    | _ => .er
end
theorem sTexts_cons (x : EV) (l : List EV) : sTexts (x :: l) = match x with
    | .str a => (match sTexts l with
      | some r => some (sOf a :: r)
      | none => none)
    | .sstr a => (match sTexts l with
      | some r => some (a :: r)
      | none => none)
    | _ => none := rfl
/-- The texts that these forms tell. -/
inductive SBs (σ : Nat → Option Nat) : List SX → List ByteArray → Prop
  | nil : SBs σ [] []
  | cons {l : SX} {b : ByteArray} {ls : List SX} {bs : List ByteArray} : SB σ l (b.data.toList.map (·.toNat)) → SBs σ ls bs → SBs σ (l :: ls) (b :: bs)
theorem sTexts_run {β : EMp} : ∀ {l : List EV} {vs : List Value} {ls : List SX}, VRs β l vs → sTexts l = some ls → ∃ bs : List ByteArray, vs = bs.map Value.string ∧ SBs (symOf β) ls bs
  | _, _, ls, .nil, h => by
    obtain rfl := Option.some.inj (show some [] = some ls from h)
    exact ⟨[], rfl, .nil⟩
  | x :: l, v :: vs, ls, .cons hx hl, h => by
    rw [sTexts_cons] at h
    cases hx <;> first | (cases h; done) | skip
    · rename_i a b hb
      simp only at h
      cases hq : sTexts l with
      | none => rw [hq] at h; cases h
      | some r =>
        rw [hq] at h
        obtain rfl := Option.some.inj h
        obtain ⟨bs, rfl, h2⟩ := sTexts_run hl hq
        refine ⟨_ :: bs, rfl, .cons ?_ h2⟩
        rw [← hb]
        exact sOf_bytes _
    · rename_i a b hb
      simp only at h
      cases hq : sTexts l with
      | none => rw [hq] at h; cases h
      | some r =>
        rw [hq] at h
        obtain rfl := Option.some.inj h
        obtain ⟨bs, rfl, h2⟩ := sTexts_run hl hq
        exact ⟨_ :: bs, rfl, .cons hb h2⟩
theorem SBs.join {σ : Nat → Option Nat} {sep : SX} {sb : ByteArray} (hs : SB σ sep (sb.data.toList.map (·.toNat))) : ∀ {ls : List SX} {bs : List ByteArray}, SBs σ ls bs → SB σ (sJoinL sep ls) ((Lib.join (bs.map (·.data.toList)) sb.data.toList).map (·.toNat))
  | _, _, .nil => .nil
  | _, _, .cons h .nil => by rw [List.map_cons, List.map_nil, Lib.join_one]; exact h
  | _, _, .cons (l := l) (b := b) h (.cons (l := l2) (b := c) (ls := ls) (bs := r) h2 t) => by
    have ih := SBs.join hs (.cons h2 t)
    have e : sJoinL sep (l :: l2 :: ls) = sApp l (sApp sep (sJoinL sep (l2 :: ls))) := rfl
    have e2 : (Lib.join ((b :: c :: r).map (·.data.toList)) sb.data.toList).map (·.toNat) = b.data.toList.map (·.toNat) ++ (sb.data.toList.map (·.toNat) ++ (Lib.join ((c :: r).map (·.data.toList)) sb.data.toList).map (·.toNat)) := by
      unfold Lib.join
      rw [List.map_cons, List.map_cons, List.intercalate_cons_cons]
      simp
    rw [e, e2]
    exact sApp_ok (sApp_ok ih hs) h
theorem iJoinS_ok {k : ECall} {args : List EV} {s s' : ESt} {x : EV} (ha : iJoinS k args s = .v x s') : KOk Tryz.prog 162 args s x s' := by
  unfold iJoinS at ha
  split at ha
  · rename_i y t hj
    injection ha with e1 e2
    subst e1 e2
    exact iJoin_ok hj
  · exact fun w0 β w av hg hr hv => by
      split at ha <;> first | (cases ha; done) | skip
      rename_i b o n c z sep hj
      cases hl : s.loadN b o n with
      | none => rw [hl] at ha; cases ha
      | some l =>
        rw [hl] at ha
        simp only at ha
        cases ht : sTexts l with
        | none => rw [ht] at ha; cases ha
        | some ls =>
          rw [ht] at ha
          simp only at ha
          cases hc : (Nat.ble n c && Nat.ble 1 n && Nat.ble n 1000 && Nat.ble (sLen (sJoinL (sOf sep) ls)) 1000000000) with
          | false => rw [hc] at ha; cases ha
          | true =>
            rw [hc] at ha
            injection ha with e1 e2
            subst e1 e2
            simp only [Bool.and_eq_true] at hc
            obtain ⟨⟨⟨hc1, hc2⟩, hc3⟩, hc4⟩ := hc
            obtain ⟨av⟩ := av
            cases hv with
            | cons h1 h2 =>
              cases h2 with
              | cons h2 h3 =>
                cases h3
                cases h2 with
                | str hs =>
                  cases h1 with
                  | sle _ => exact absurd (Nat.le_of_ble_eq_true hc2) (by omega)
                  | sl hb h0 hz =>
                    obtain ⟨vs, g1, g2, g3⟩ := hr.loadN hb hl
                    obtain ⟨bs, rfl, hB⟩ := sTexts_run g2 ht
                    subst hs
                    rename_i sb cap' l2
                    have hn : n = bs.length := by rw [← g1, List.length_map]
                    subst hn
                    have hJ := hB.join (sb := sb) (sOf_bytes sb)
                    rw [hJ.len, List.length_map] at hc4
                    have hc4 := Nat.le_of_ble_eq_true hc4
                    have hc3 := Nat.le_of_ble_eq_true hc3
                    have hcap : bs.length ≤ cap' := by
                      have h1 := Nat.le_of_ble_eq_true hc1
                      by_cases e : z = 0
                      · rw [h0 e]; exact h1
                      · exact Nat.le_trans h1 (hz e).1
                    have hcell : ∀ (j : Nat) y, bs[j]? = some y → w.cell? ⟨l2.c, l2.sh + o + j, none⟩ = some (.string y) := fun j y hy => g3 j _ (by rw [List.getElem?_map, hy]; rfl)
                    have hlt : l2.c < w.heap.size := by
                      have hpos : 0 < bs.length := Nat.le_of_ble_eq_true hc2
                      have h1 := hcell 0 bs[0] (List.getElem?_eq_getElem hpos)
                      unfold World.cell? at h1
                      cases hq : w.heap[l2.c]? with
                      | none => simp [hq] at h1
                      | some _ => exact (Array.getElem?_eq_some_iff.1 hq).1
                    refine .inr ⟨enters_of Tryz.func162 (by kernel_rfl) rfl _ _, (Any.strings_Join joiL joiX l2.c (l2.sh + o) cap' bs sb w hcell hlt (by omega) hcap (by omega)).mono fun e w' he => ?_⟩
                    obtain ⟨rfl, hb2⟩ := he
                    have hu : Upd (fun _ => False) w w' := Upd.of_below hb2 (Nat.le_refl _)
                    exact ⟨_, rfl, β, .sstr (by simpa using hJ), hr.world hu, Ext.refl _ _⟩
end Go.Proofs.YtjckpgcmfieaoaaGreatDoor
