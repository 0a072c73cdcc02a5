/-
  Package digest: tail, Pad, Sum.
-/
import Derived.Test.YtfmkdoachjgjbaaGreatDoorMae
import Derived.Outline
import Derived.Test.YtfmkdoachjgjbaaGreatDoorMaa
import Derived.Lib.JoinLaws
import Derived.ArgAppend
import Derived.Laws.IdiomStrings
import Derived.Laws.Tables
import Derived.Test.YtfmkdoachjgjbaaGreatDoorMad
import Derived.Laws.BitsAllLaws
import Derived.Laws.Bits64
import Derived.IntWalk
import Derived.Deep.CutRange
import Derived.BigRegion
import Derived.Deep.RegionLaw
set_option linter.unusedVariables false
set_option linter.unusedSimpArgs false
namespace Go.Proofs.YtfmkdoachjgjbaaGreatDoor
open Go.RowKit

/-- How many zeros stand behind the byte 128. -/
def padZ (n : Nat) : Nat := (119 - n % 64) % 64
theorem padZ_lt (n : Nat) : padZ n < 64 := Nat.mod_lt _ (by decide)
theorem padZ_ne (n k : Nat) (h : k < padZ n) : (n + (k + 1) + 8) % 64 ≠ 0 := by unfold padZ at h; omega
theorem padZ_eq (n : Nat) : (n + (padZ n + 1) + 8) % 64 = 0 := by unfold padZ; omega
def lenB (n i : Nat) : Int := (8 * n : Int) / 2 ^ (56 - 8 * i) % 256
def tailI (n : Nat) : List Int := (128 :: List.replicate (padZ n) 0) ++ (List.range 8).map (lenB n)
theorem tailI_len (n : Nat) : (tailI n).length = padZ n + 9 := by simp [tailI]

set_option maxRecDepth 100000 in
set_option maxHeartbeats 1000000 in
theorem tail_any (n : Nat) (w : World) (hn : n ≤ 1073741824) :
    Calls Tryz.prog 213 #[.int .u64 n] w (Makes (.string (strOfNums (tailI n))) w) := by
  have hz := padZ_lt n
  go_enter Tryz.func213, Tryz.ntmps213
  go_wp2_with fail
  have hO := BytesO.made w w.heap.size [128] (Nat.le_refl _) (by decide)
  have u0 : Upd (fun k => w.heap.size ≤ k) w (w.alloc (.cells #[.int .u8 128] 5)) := (Upd.refl _ _).alloc _
  simp only [List.map_cons, List.map_nil, List.length_cons, List.length_nil, Nat.zero_add] at hO
  generalize w.alloc (.cells #[.int .u8 128] 5) = wa at hO u0 ⊢
  have HO := hide hO
  clear hO
  go_loopw [3] (fun bv wr => ∃ (k : Nat) (a : Option Addr) (c : Nat), bv = .slice a (k + 1) c ∧ k ≤ padZ n ∧ Hid (BytesO wr w.heap.size bv (128 :: List.replicate k 0)) ∧ Upd (fun k => w.heap.size ≤ k) w wr) (fun bv _ => 100 - (match bv with | .slice _ l _ => l | _ => 0))
  case atStart => exact ⟨0, _, _, rfl, Nat.zero_le _, HO, u0⟩
  case round =>
    obtain ⟨k, a, c, rfl, hk, HO, ur⟩ := hrel
    by_cases hlt : k < padZ n
    · have hne := padZ_ne n k hlt
      have h1 : ((((n : Int) + ((k : Int) + 1)) + 8) % 64 != 0) = true := by rw [bne_iff_ne]; omega
      have hk0 : (k : Int) < 64 := by omega
      have hn0 : (n : Int) ≤ 1073741824 := by omega
      have hb := ur.size
      clear hne
      go_wp2_with (at_builtin; refine append_byte rfl (.tmp 14) (.tmp 15) rfl w.heap.size _ _ rfl 0 _ _ rfl (unhide HO) (by simp; omega) hb ?_)
      intro v' w5 hO5 u5
      have u6 := ur.then u5 (fun q _ h => ((unhide HO).ge h).1)
      obtain ⟨a5, c5, rfl⟩ := hO5.shape
      replace hO5 : BytesO w5 w.heap.size (Value.slice a5 (128 :: (List.replicate k (0 : Int) ++ [0])).length c5) (128 :: (List.replicate k 0 ++ [0])) := hO5
      rw [← List.replicate_succ'] at hO5
      simp only [List.length_append, List.length_cons, List.length_replicate, List.length_nil, Nat.zero_add] at hO5 ⊢
      have HO5 := hide hO5
      clear hO5 u5 HO
      go_wp2
      go_roundw
      case rel => exact ⟨k + 1, a5, c5, rfl, by omega, HO5, u6⟩
      case measure => simp; omega
    · obtain rfl : k = padZ n := by omega
      have hne := padZ_eq n
      have h1 : ((((n : Int) + ((padZ n : Int) + 1)) + 8) % 64 != 0) = false := by rw [bne_eq_false_iff_eq]; omega
      have hk0 : (padZ n : Int) < 64 := by omega
      have hn0 : (n : Int) ≤ 1073741824 := by omega
      obtain ⟨wo, rfl⟩ : ∃ wo : World, wo = wr := ⟨_, rfl⟩
      clear hne
      go_wp2_with fail
      go_loopw [3, 4, 17] (fun bv _ iv wr => ∃ (i : Nat) (a : Option Addr) (c : Nat), iv = .int .i64 (i : Int) ∧ i ≤ 8 ∧ bv = .slice a (padZ n + 1 + i) c ∧ Hid (BytesO wr w.heap.size bv ((128 :: List.replicate (padZ n) 0) ++ (List.range i).map (lenB n))) ∧ Upd (fun k => w.heap.size ≤ k) w wr) (fun _ _ iv _ => 8 - (intOf iv).toNat)
      case atStart => exact ⟨0, _, _, rfl, by omega, rfl, by simpa using HO, ur⟩
      case round =>
        obtain ⟨i, a, c, rfl, hi, rfl, HO, ur⟩ := hrel
        by_cases hlt : i < 8
        · have hi0 : (i : Int) < 8 := by omega
          have hb := ur.size
          go_wp2_with (at_builtin; refine append_byte rfl (.tmp 20) (.tmp 28) rfl w.heap.size _ _ rfl _ _ _ rfl (unhide HO) (by simp; omega) hb ?_)
          intro v' w5 hO5 u5
          have u6 := ur.then u5 (fun q _ h => ((unhide HO).ge h).1)
          obtain ⟨a5, c5, rfl⟩ := hO5.shape
          have hlen5 : (128 :: (List.replicate (padZ n) (0 : Int) ++ ((List.range i).map (lenB n) ++ [8 * (n : Int) / 2 ^ (56 - 8 * i) % 256]))).length = padZ n + 1 + (i + 1) := by simp; omega
          rw [hlen5] at hO5 ⊢
          replace hO5 : BytesO w5 w.heap.size (.slice a5 (padZ n + 1 + (i + 1)) c5) ((128 :: List.replicate (padZ n) 0) ++ (List.range (i + 1)).map (lenB n)) := by
            rw [List.range_succ, List.map_append, ← List.append_assoc]
            have e : (128 :: List.replicate (padZ n) (0 : Int)) ++ (List.range i).map (lenB n) ++ [lenB n i] = 128 :: (List.replicate (padZ n) 0 ++ ((List.range i).map (lenB n) ++ [8 * (n : Int) / 2 ^ (56 - 8 * i) % 256])) := by simp [lenB]
            exact e ▸ hO5
          clear hlen5
          have HO5 := hide hO5
          clear hO5 u5 HO
          go_wp2
          go_roundw
          case rel => exact ⟨i + 1, a5, c5, by go_num, by omega, rfl, HO5, u6⟩
          case measure => simp [intOf]; omega
        · obtain rfl : i = 8 := by omega
          rw [show ((8 : Nat) : Int) = 8 from rfl]
          have hst := run_string_own (unhide HO)
          go_wp2
          go_ret
          exact ⟨rfl, ur.below' (Nat.le_refl _) (fun _ h => h) |> fun h => Upd.of_below h (Nat.le_refl _)⟩

set_option maxHeartbeats 1000000 in
theorem pad_any (s : ByteArray) (w : World) (hs : s.size ≤ 1073741824) :
    Calls Tryz.prog 198 #[.string s] w (Makes (.string (s ++ strOfNums (tailI s.size))) w) := by
  have hn0 : (s.size : Int) ≤ 1073741824 := by omega
  have hz := padZ_lt s.size
  have hl : (strOfNums (tailI s.size)).size = padZ s.size + 9 := by rw [strOfNums_size, tailI_len]
  generalize padZ s.size = z at hz hl
  go_enter Tryz.func198, Tryz.ntmps198
  go_wp2_with fail
  refine (tail_any s.size w hs).mono ?_
  rintro e w1 ⟨rfl, n1⟩
  generalize ht : strOfNums (tailI s.size) = t at hl ⊢
  have HT := hide ht
  clear ht
  go_wp2
  go_ret
  exact ⟨by rw [unhide HT]; rfl, n1⟩

theorem rowN_of_cells {w : World} {b n : Nat} {A : Array Value} (hn : 0 < n) (hA : A.size = n) (h : ∀ j, j < n → w.cell? ⟨b, j, none⟩ = A[j]?) : rowN w b 0 n = some A := by
  have h0 := h (n - 1) (by omega)
  rw [Array.getElem?_eq_getElem (by omega)] at h0
  unfold rowN
  unfold World.cell? at h h0
  cases hb : w.heap[b]? with
  | none => rw [hb] at h0; cases h0
  | some ob =>
    simp only [hb] at h h0
    cases ob with
    | cells C T fz =>
      simp only at h h0 ⊢
      have hs := (Array.getElem?_eq_some_iff.1 h0).1
      rw [if_pos (by omega)]
      congr 1
      refine Array.ext_getElem? fun i => ?_
      rw [Array.getElem?_extract]
      by_cases hi : i < n
      · rw [if_pos (by omega), Nat.zero_add]
        exact h i hi
      · rw [if_neg (by omega), Array.getElem?_eq_none (by omega)]
    | _ => cases h0
theorem Tabs.row {w : World} (h : Tabs w) : rowN w 1 0 8 = some (hBeg.map (Value.int .u32)).toArray := by
  refine rowN_of_cells (by decide) rfl fun j hj => ?_
  rw [h.start j hj]
  match j, hj with
  | 0, _ => rfl
  | 1, _ => rfl
  | 2, _ => rfl
  | 3, _ => rfl
  | 4, _ => rfl
  | 5, _ => rfl
  | 6, _ => rfl
  | 7, _ => rfl
theorem hBeg_u32 : U32s hBeg := by unfold U32s hBeg; decide

/-- The sum of a text, as the program reckons it: thirty-two bytes. -/
def padS (s : ByteArray) : ByteArray := s ++ strOfNums (tailI s.size)
def sumI (s : ByteArray) : List Int := byAll (blkI ((padS s).size / 64) hBeg (padS s)) 32
theorem sumI_len (s : ByteArray) : (sumI s).length = 32 := byAll_len _ _
def ldH32 (x : Value) : Sem Value := Instr.loadAt 35 x
theorem ld_h32_fold (x : Value) : Instr.loadAt 35 x = ldH32 x := rfl
theorem ld_h32 (b o : Nat) (w : World) : (ldH32 (.pointer (some ⟨b, o, none⟩))).run Tryz.prog w = match rowN w b o 32 with | some A => .ok (.agg A) w | none => slowLd Tryz.prog 35 w b o :=
  run_loadAt_rowN 35 32 _ Tryz.underlying35 rfl Tryz.infoHash b o w
def stH32 (x v : Value) : Sem Unit := Instr.storeAt 35 x v
theorem st_h32_fold (x v : Value) : Instr.storeAt 35 x v = stH32 x v := rfl
theorem st_h32 (b o : Nat) (A : Array Value) (w : World) : (stH32 (.pointer (some ⟨b, o, none⟩)) (.agg A)).run Tryz.prog w = if stOk w b o 32 A = true then .ok () (w.setCells b o A.toList) else slowSt Tryz.prog 35 w b o A :=
  run_storeAt_row 35 32 Tryz.infoHash b o A w
attribute [local go_sem ↓ high] ld_w8_fold st_w8_fold ld_h32_fold st_h32_fold
attribute [local go_sem] ld_w8 st_w8 ld_h32 st_h32
def sumS (wo : World) (A : Nat) (r : List Int) : Nat → World → Prop
  | 0, w => New wo w
  | _, w => Upd (fun k => k = A) wo w ∧ Ints .u8 w A r

set_option maxRecDepth 100000 in
set_option maxHeartbeats 1000000 in
theorem sum_any (s : ByteArray) (w : World) (hs : s.size ≤ 1000000000) (hT : Tabs w) :
    Calls Tryz.prog 164 #[.string s] w fun e w' => e = .returned (.agg ((sumI s).map (Value.int .u8)).toArray) ∧ New w w' := by
  have hl : (padS s).size ≤ 1073741824 := by
    unfold padS
    rw [ByteArray.size_append, strOfNums_size, tailI_len]
    have := padZ_lt s.size
    omega
  have hp := fun W => pad_any s W (by omega)
  have hb := fun W h1 => blocks_any hBeg (padS s) W rfl hBeg_u32 hl h1
  have hy := fun W => bytes_any (blkI ((padS s).size / 64) hBeg (padS s)) W (blkI_ok _ _ _ ⟨rfl, hBeg_u32⟩).1 (blkI_ok _ _ _ ⟨rfl, hBeg_u32⟩).2
  have hlen := sumI_len s
  change ∀ W, Calls _ _ _ _ (Makes (.string (padS s)) W) at hp
  change ∀ W, Calls _ _ _ _ (fun e w' => e = .returned (.agg ((sumI s).map (Value.int .u8)).toArray) ∧ New W w') at hy
  have HF := hide (rfl : sumI s = sumI s)
  go_enter Tryz.func164, Tryz.ntmps164
  go_upto_region 1 with fail
  obtain ⟨T0, h0⟩ : ∃ T, (w.alloc (.cells #[.int .u8 0, .int .u8 0, .int .u8 0, .int .u8 0, .int .u8 0, .int .u8 0, .int .u8 0, .int .u8 0, .int .u8 0, .int .u8 0, .int .u8 0, .int .u8 0, .int .u8 0, .int .u8 0, .int .u8 0, .int .u8 0, .int .u8 0, .int .u8 0, .int .u8 0, .int .u8 0, .int .u8 0, .int .u8 0, .int .u8 0, .int .u8 0, .int .u8 0, .int .u8 0, .int .u8 0, .int .u8 0, .int .u8 0, .int .u8 0, .int .u8 0, .int .u8 0] 35)).heap[w.heap.size]? = some (.cells ((List.replicate 32 0).map (Value.int .u8)).toArray T (0, 0)) := ⟨_, blk_alloc _ _⟩
  have n0 : New w (w.alloc (.cells #[.int .u8 0, .int .u8 0, .int .u8 0, .int .u8 0, .int .u8 0, .int .u8 0, .int .u8 0, .int .u8 0, .int .u8 0, .int .u8 0, .int .u8 0, .int .u8 0, .int .u8 0, .int .u8 0, .int .u8 0, .int .u8 0, .int .u8 0, .int .u8 0, .int .u8 0, .int .u8 0, .int .u8 0, .int .u8 0, .int .u8 0, .int .u8 0, .int .u8 0, .int .u8 0, .int .u8 0, .int .u8 0, .int .u8 0, .int .u8 0, .int .u8 0, .int .u8 0] 35)) := (Upd.refl _ _).alloc _
  generalize w.alloc (.cells #[.int .u8 0, .int .u8 0, .int .u8 0, .int .u8 0, .int .u8 0, .int .u8 0, .int .u8 0, .int .u8 0, .int .u8 0, .int .u8 0, .int .u8 0, .int .u8 0, .int .u8 0, .int .u8 0, .int .u8 0, .int .u8 0, .int .u8 0, .int .u8 0, .int .u8 0, .int .u8 0, .int .u8 0, .int .u8 0, .int .u8 0, .int .u8 0, .int .u8 0, .int .u8 0, .int .u8 0, .int .u8 0, .int .u8 0, .int .u8 0, .int .u8 0, .int .u8 0] 35) = wo at h0 n0 ⊢
  have hr := hlen
  have H0 : Ints .u8 wo w.heap.size (List.replicate 32 0) := ⟨T0, h0⟩
  have HT := hide (hT.new n0)
  generalize hbl : blkI ((padS s).size / 64) hBeg (padS s) = bl at hb hy
  generalize hsi : sumI s = si at hy hlen hr
  generalize hps : padS s = ps at hp hb hl
  have HP := hide hp
  have HB := hide hb
  have HY := hide hy
  have HSI := hide hsi
  have HL := hide hlen
  have hst := H0.stOk (r := si) (n := 32) (by simpa using hr) hr
  clear hp hb hy hbl hsi hps hr h0 hT hlen HF
  refine wp_dagP (by kernel_rfl) [[], [], [(1, 4)], [(0, 3), (2, 5)], [(3, 6)], [(4, 7)]] 8 rfl (by kernel_rfl) [(0, 3), (1, 4), (2, 5), (3, 6), (4, 7)] (by kernel_rfl) [5] (by kernel_rfl) [[(0, 0)], [(0, 0)], [(0, 0)], [(0, 0)], [(0, 0)], [(0, 1)]] (by kernel_rfl)
    (sumS wo w.heap.size si) AnyW (isV [.agg (hBeg.map (Value.int .u32)).toArray, .string s, .string ps, .agg (bl.map (Value.int .u32)).toArray, .agg (si.map (Value.int .u8)).toArray, undef])
    ((Upd.refl _ _).drew) (fun _ => AnyW.all _ _) (fun _ _ _ _ _ _ _ _ _ h => h) ?_ ?_
  · refine .one rfl ?_ <| .pure rfl (fun _ => AnyW.all _ _) rfl ?_ <| .one rfl ?_ <| .one rfl ?_ <| .one rfl ?_ <| .one rfl ?_ <| .nil
    · intro vals w1 hS _
      replace hS : New wo w1 := hS
      have hr := ((unhide HT).new hS).row
      generalize (hBeg.map (Value.int .u32)).toArray = hB at hr ⊢
      unfold opRun; simp only [putL]; go_simp
      exact ⟨AnyW.all _ _, hS, rfl⟩
    · intro vals w1 _
      unfold opRun; simp only [putL]; go_simp
      first | exact ⟨rfl, rfl⟩ | rfl
    · rintro vals w1 hS ⟨p0, -⟩
      replace hS : New wo w1 := hS
      replace p0 : vals 1 = .string s := p0
      unfold opRun; simp only [putL]; go_simp
      refine (unhide HP w1).mono ?_
      rintro e w2 ⟨rfl, n2⟩
      exact ⟨_, rfl, AnyW.all _ _, hS.trans n2, rfl⟩
    · rintro vals w1 hS ⟨p0, p1, -⟩
      replace hS : New wo w1 := hS
      replace p0 : vals 0 = .agg (hBeg.map (Value.int .u32)).toArray := p0
      replace p1 : vals 2 = .string ps := p1
      have HQ := hide (unhide HB w1 ((unhide HT).new hS))
      generalize (hBeg.map (Value.int .u32)).toArray = hB at p0 HQ
      unfold opRun; simp only [putL]; go_simp
      refine (unhide HQ).mono ?_
      rintro e w2 ⟨rfl, n2⟩
      exact ⟨_, rfl, AnyW.all _ _, hS.trans n2, rfl⟩
    · rintro vals w1 hS ⟨p0, -⟩
      replace hS : New wo w1 := hS
      replace p0 : vals 3 = .agg (bl.map (Value.int .u32)).toArray := p0
      have HQ := hide (unhide HY w1)
      generalize (bl.map (Value.int .u32)).toArray = hB at p0 HQ
      unfold opRun; simp only [putL]; go_simp
      refine (unhide HQ).mono ?_
      rintro e w2 ⟨rfl, n2⟩
      exact ⟨_, rfl, AnyW.all _ _, hS.trans n2, rfl⟩
    · rintro vals w1 hS ⟨p0, -⟩
      replace hS : New wo w1 := hS
      replace p0 : vals 4 = .agg (si.map (Value.int .u8)).toArray := p0
      have hI := H0.upd hS (fun h => h)
      have hst := hI.stOk (r := si) (n := 32) (by simpa using unhide HL) (unhide HL)
      have hS1 := hide (hI.setAll (r := si) (by simpa using unhide HL))
      have u1 := hide ((hS.mono (T := fun k => k = w.heap.size) (fun _ _ h => h.elim)).then ((Upd.refl (· = w.heap.size) w1).setCells 0 (si.map (Value.int .u8))) (fun _ _ h => h))
      have e0 : (si.map (Value.int .u8)).toArray.toList = si.map (Value.int .u8) := rfl
      generalize hcs : (si.map (Value.int .u8)).toArray = cs at p0 hst e0
      generalize hcl : si.map (Value.int .u8) = cl at e0 hS1 u1
      clear hcs hcl hI
      unfold opRun; simp only [putL]; go_simp
      exact ⟨AnyW.all _ _, ⟨unhide u1, unhide hS1⟩, rfl⟩
  · intro vals w1 hS hv
    clear hv
    replace hS : Upd (fun k => k = w.heap.size) wo w1 ∧ Ints .u8 w1 w.heap.size si := hS
    obtain ⟨u1, T1, hI⟩ := hS
    simp only [putL]
    have nE := n0.then u1 (by intro q hq h; omega)
    go_wp2_with fail
    refine bodyPost_ret (results_cell_row rfl _ _ w.heap.size T1 _ _ _ rfl hI Tryz.underlying35 rfl (by rw [List.size_toArray, List.length_map, unhide HL]; exact Tryz.infoHash)) rfl ?_
    exact ⟨by rw [unhide HSI], nE⟩

end Go.Proofs.YtfmkdoachjgjbaaGreatDoor
namespace Go.Proofs.YtfmkdoachjgjbaaGreatDoor
open Go.RowKit

/-- v holds the bytes xs in a block from base on, of which no cell is frozen. -/
def BytesG (w : World) (base : Nat) (v : Value) (xs : List Int) : Prop :=
  ∃ g cap cur fz, v = .slice (some ⟨g, 0, none⟩) xs.length cap ∧ base ≤ g ∧ w.heap[g]? = some (.cells cur 5 fz) ∧ (fz = (0, 0) ∨ cur.size ≤ fz.1) ∧ xs.length ≤ cap ∧ cur.size = cap ∧ cur.toList.take xs.length = xs.map (Value.int .u8)
theorem BytesG.shape {w : World} {base : Nat} {v : Value} {xs : List Int} (h : BytesG w base v xs) : ∃ a c, v = .slice (some a) xs.length c := by
  obtain ⟨g, cap, cur, fz, rfl, _⟩ := h
  exact ⟨_, _, rfl⟩
theorem BytesG.ge {w : World} {base : Nat} {v : Value} {xs : List Int} (h : BytesG w base v xs) {k : Nat} (hk : v.ownBlock = some k) : base ≤ k ∧ k < w.heap.size := by
  obtain ⟨g, cap, cur, fz, rfl, e2, hg, _⟩ := h
  simp [Value.ownBlock] at hk
  subst hk
  exact ⟨e2, blk_lt hg⟩
theorem BytesG.upd {S : Nat → Prop} {w w' : World} {base : Nat} {v : Value} {xs : List Int} (h : BytesG w base v xs) (u : Upd S w w') (hS : ∀ k, v.ownBlock = some k → ¬ S k) : BytesG w' base v xs := by
  obtain ⟨g, cap, cur, fz, e1, e2, hg, r⟩ := h
  exact ⟨g, cap, cur, fz, e1, e2, u.old hg (hS g (by rw [e1]; rfl)), r⟩

section
variable {P : Program} {ops : Array Oper} {rest : List Oper} {o : Oper} {a : Act} {w w' : World} {Q : Exit → Act → World → Prop}
theorem wpList_val {v : Value} (hg : o.guard = none) (h : (execOp a.eval o).run P w = .ok (.value v) w') (k : wpList P ops Q rest (a.put o.dst v) w') : wpList P ops Q (o :: rest) a w :=
  wpList_plain hg fun K hK => by
    unfold Oper.wp
    rw [h]
    exact hK _ _ k
theorem wpList_call {f : FuncId} {args : Array Value} (hg : o.guard = none) (h : (execOp a.eval o).run P w = .ok (.enter f args) w')
    (k : Calls P f args w' fun e w'' => ∃ v, e = .returned v ∧ wpList P ops Q rest (a.put o.dst v) w'') : wpList P ops Q (o :: rest) a w :=
  wpList_plain hg fun K hK => by
    unfold Oper.wp
    rw [h]
    simp only [Oper.upon]
    refine k.mono fun e w'' he => ?_
    obtain ⟨v, rfl, hv⟩ := he
    exact hK _ _ hv
end
theorem Upd.setRow {S : Nat → Prop} {a w : World} (h : Upd S a w) {g : Nat} (hg : g < a.heap.size → S g) (cs : Array Value) : Upd S a (w.setRow g cs) :=
  ⟨h.os, h.tape, h.output, by simpa using h.size, fun i hi hn => by
    rw [setRow_other _ _ _ _ (show i ≠ g from fun e => hn (e ▸ hg (e ▸ hi)))]
    exact h.block i hi hn⟩

/-- The bytes of a number, the highest one first. -/
def numI (n : Nat) (width : Nat) : List Int := (List.range width).map fun k => (n : Int) / 2 ^ (8 * (width - 1 - k)) % 256
theorem numI_len (n width : Nat) : (numI n width).length = width := by simp [numI]
def numS (n width : Nat) : ByteArray := strOfNums (numI n width)
theorem numS_size (n width : Nat) : (numS n width).size = width := by unfold numS; rw [strOfNums_size, numI_len]
/-- A writer, that holds s. -/
def Wr (w : World) (g : Nat) (s : ByteArray) : Prop := w.heap[g]? = some (.cells #[.string s] 174 (0, 0))
theorem Wr.new {w w' : World} {g : Nat} {s : ByteArray} (h : Wr w g s) (n : New w w') : Wr w' g s := n.old h (fun h => h)
theorem Wr.lt {w : World} {g : Nat} {s : ByteArray} (h : Wr w g s) : g < w.heap.size := blk_lt h

/-- Block b holds just these bytes. -/
def Ints8 (w : World) (b : Nat) (ws : List Int) : Prop := ∃ T, w.heap[b]? = some (.cells (ws.map (Value.int .u8)).toArray T (0, 0))
def pref (n width m : Nat) : List Int := (List.range m).map fun k => (n : Int) / 2 ^ (8 * (width - 1 - k)) % 256
set_option maxRecDepth 100000 in
set_option maxHeartbeats 1000000 in
theorem number_any (g n width : Nat) (s : ByteArray) (w : World) (hg : Wr w g s) (hw1 : 1 ≤ width) (hw8 : width ≤ 8) (hn : n < 2 ^ (8 * width)) (hs : s.size ≤ 1073741824) :
    Calls Tryz.prog 92 #[.pointer (some ⟨g, 0, none⟩), .int .u64 n, .int .i64 width] w fun e w' => e = .returned (.int .i64 0) ∧ Upd (fun k => k = g) w w' ∧ Wr w' g (s ++ numS n width) := by
  have hn64 : n < 18446744073709551616 := Nat.lt_of_lt_of_le hn (by
    have : (2 : Nat) ^ (8 * width) ≤ 2 ^ 64 := Nat.pow_le_pow_right (by decide) (by omega)
    exact this)
  have hsh : (n : Int) / 2 ^ (8 * width) = 0 := by
    refine Int.ediv_eq_zero_of_lt (by omega) ?_
    exact_mod_cast hn
  have hw1' : (1 : Int) ≤ width := by omega
  have hw8' : (width : Int) ≤ 8 := by omega
  have hwt : (8 * (width : Int)).toNat = 8 * width := by omega
  have hlt : decide ((width : Int) < 1) = false := by simp; omega
  have hgt : decide ((8 : Int) < (width : Int)) = false := by simp; omega
  have hlt1 : ¬ (width : Int) < 1 := by omega
  have hgt1 : ¬ (8 : Int) < (width : Int) := by omega
  have hn1 : (n : Int) < 18446744073709551616 := by omega
  go_enter Tryz.func92, Tryz.ntmps92
  go_wp2_with fail
  clear hsh hwt hlt hgt hlt1 hgt1
  have hgl := hg.lt
  go_loopw [7, 8] (fun bv iv wr => ∃ (m : Nat) (a : Option Addr) (c : Nat), iv = .int .i64 ((width : Int) - 1 - (m : Int)) ∧ m ≤ width ∧ bv = .slice a m c ∧ Hid (BytesO wr w.heap.size bv (pref n width m)) ∧ Upd (fun k => w.heap.size ≤ k) w wr) (fun _ iv _ => (intOf iv + 1).toNat)
  case atStart => exact ⟨0, _, _, by simp, Nat.zero_le _, rfl, hide (BytesO.nil _ _), Upd.refl _ _⟩
  case round =>
    obtain ⟨m, a, c, rfl, hm, rfl, HO, ur⟩ := hrel
    by_cases hlt : m < width
    · have hm0 : (m : Int) < (width : Int) := by omega
      have hb := ur.size
      have ht : (8 * ((width : Int) - 1 - (m : Int))).toNat = 8 * (width - 1 - m) := by omega
      have hp : ∀ k : Nat, (n : Int) / 2 ^ k < 18446744073709551616 ∧ 0 ≤ (n : Int) / 2 ^ k := fun k => by
        have hp : (1 : Int) ≤ 2 ^ k := Int.pow_pos (by decide)
        exact ⟨Int.lt_of_le_of_lt (Int.ediv_le_self _ (by omega)) hn1, Int.ediv_nonneg (by omega) (by omega)⟩
      obtain ⟨q1, q0⟩ := hp (8 * (width - 1 - m))
      have hwr : IntKind.u64.wrap ((n : Int) / 2 ^ (8 * (width - 1 - m))) = (n : Int) / 2 ^ (8 * (width - 1 - m)) := by rw [IntKind.wrap_u64]; omega
      have HN64 := hide (And.intro hn64 hn1)
      have hpl : (pref n width m).length ≤ 1073741824 := by simp [pref]; omega
      have hpn : pref n width (m + 1) = pref n width m ++ [(n : Int) / 2 ^ (8 * (width - 1 - m)) % 256] := by unfold pref; rw [List.range_succ, List.map_append]; rfl
      have hpl2 : (pref n width (m + 1)).length = m + 1 := by simp [pref]
      have HPN := hide hpn
      have HPL := hide hpl2
      have hnn : 0 ≤ (width : Int) - 1 - (m : Int) := by omega
      clear hp hpn hpl2 q1 hn64 hn1
      go_wp2_with (at_builtin; refine append_byte rfl (.tmp 28) (.tmp 34) rfl w.heap.size _ _ rfl _ _ _ rfl (unhide HO) hpl hb ?_)
      intro v' w5 hO5 u5
      have u6 := ur.then u5 (fun q _ h => ((unhide HO).ge h).1)
      rw [← unhide HPN] at hO5
      obtain ⟨a5, c5, rfl⟩ := hO5.shape
      rw [unhide HPL] at hO5 ⊢
      have HO5 := hide hO5
      clear hO5 u5 HO HPN q0 hpl ht hnn hwr
      go_wp2
      go_roundw
      case rel => exact ⟨m + 1, a5, c5, by congr 1; omega, by omega, rfl, HO5, u6⟩
      case measure => simp [intOf]; omega
    · obtain rfl : m = width := by omega
      rw [show (m : Int) - 1 - (m : Int) = -1 by omega]
      have hst := run_string_own (((unhide HO).upd ((Upd.refl (fun _ => False) wr).drew) (fun _ _ h => h)))
      have hg' := ur.old hg (fun h => by omega)
      have c0 := blk_cell hg' 0
      have z0 := blk_free hg' 0
      simp at c0
      have hpe : strOfNums (pref n m m) = numS n m := rfl
      rw [hpe] at hst
      have hq := numS_size n m
      generalize hqe : numS n m = q at hst hq ⊢
      have HQE := hide hqe
      clear hqe
      have hg2 := blk_set hg' 0 (.string (s ++ q))
      have nW : New w wr := Upd.of_below (ur.below' (Nat.le_refl _) (fun _ h => h)) (Nat.le_refl _)
      have uW : Upd (fun k => k = g) w (wr.setCell ⟨g, 0, none⟩ (.string (s ++ q))) := (nW.mono (T := fun k => k = g) (fun _ _ h => h.elim)).set1 0 _
      have HG2 := hide hg2
      clear hg2 nW ur
      clear hpe
      have hbig : ¬ 9223372036854775807 < s.size + m := by omega
      go_wp2_with fail
      go_region_law (fail)
      all_goals
        have hg3 := unhide HG2
        generalize wr.setCell ⟨g, 0, none⟩ (.string (s ++ q)) = wS at hg3 uW ⊢
        go_wp2
        go_ret
        exact ⟨rfl, uW.drew, by rw [unhide HQE]; exact hg3⟩

theorem Ints8.drew {w : World} {b : Nat} {ws : List Int} (h : Ints8 w b ws) : Ints8 w.drew b ws := h
theorem run_string_ints {w : World} {b : Nat} {xs : List Int} (h : Ints8 w b xs) (n : Nat) (hn : xs.length = n) : (convert 95 9 (.slice (some ⟨b, 0, none⟩) n n)).run Tryz.prog w = .ok (.string (strOfNums xs)) w := by
  obtain ⟨T, h⟩ := h
  exact run_string_block w 95 9 5 Tryz.underlying95 Tryz.underlying5 Tryz.underlying9 b n xs T (0, 0) n hn h
set_option maxRecDepth 100000 in
set_option maxHeartbeats 1000000 in
theorem hash_any (g : Nat) (h : List Int) (s : ByteArray) (w : World) (hg : Wr w g s) (hh : h.length = 32) (hs : s.size ≤ 1073741824) :
    Calls Tryz.prog 189 #[.pointer (some ⟨g, 0, none⟩), .agg (h.map (Value.int .u8)).toArray] w fun e w' => e = .returned (.tuple #[]) ∧ Upd (fun k => k = g) w w' ∧ Wr w' g (s ++ strOfNums h) := by
  have hq : (strOfNums h).size = 32 := by rw [strOfNums_size, hh]
  generalize hhv : (h.map (Value.int .u8)).toArray = hv
  go_enter Tryz.func189, Tryz.ntmps189
  go_upto_region 1 with fail
  have hb : Ints8 (w.alloc (.cells hv 35)) w.heap.size h := ⟨_, by rw [hhv]; exact blk_alloc _ _⟩
  have n1 : New w (w.alloc (.cells hv 35)) := (Upd.refl _ _).alloc _
  have hgl := hg.lt
  have hg' := hg.new n1
  generalize w.alloc (.cells hv 35) = w1 at hb n1 hg' ⊢
  have hst := run_string_ints (hb.drew) 32 hh
  have c0 := blk_cell hg' 0
  have z0 := blk_free hg' 0
  simp at c0
  generalize hqe : strOfNums h = q at hst hq
  have HQE := hide hqe
  have hg2 := blk_set hg' 0 (.string (s ++ q))
  have uW : Upd (fun k => k = g) w (w1.setCell ⟨g, 0, none⟩ (.string (s ++ q))) := (n1.mono (T := fun k => k = g) (fun _ _ h => h.elim)).set1 0 _
  have HG2 := hide hg2
  have hbig : ¬ 9223372036854775807 < s.size + 32 := by omega
  clear hqe hg2 n1 hb hhv hg' hg hh
  go_region_law (fail)
  all_goals
    have hg3 := unhide HG2
    generalize w1.setCell ⟨g, 0, none⟩ (.string (s ++ q)) = wS at hg3 uW ⊢
    go_end0
    exact ⟨rfl, uW.drew, by rw [unhide HQE]; exact hg3⟩

set_option maxHeartbeats 1000000 in
theorem bytesW_any (g : Nat) (s : ByteArray) (w : World) (hg : Wr w g s) :
    Calls Tryz.prog 93 #[.pointer (some ⟨g, 0, none⟩)] w fun e w' => e = .returned (.string s) ∧ w = w' := by
  have c0 := blk_cell hg 0
  simp at c0
  clear hg
  go_enter Tryz.func93, Tryz.ntmps93
  go_wp2
  go_ret
  exact ⟨rfl, rfl⟩

/-! ### The reference's -/

end Go.Proofs.YtfmkdoachjgjbaaGreatDoor
