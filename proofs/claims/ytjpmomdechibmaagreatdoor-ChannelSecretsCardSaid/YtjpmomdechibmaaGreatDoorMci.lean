/-
  Package secret: isNumber, Place, Can.
-/
import Derived.Test.YtjpmomdechibmaaGreatDoorTxt
import Derived.Test.YtjpmomdechibmaaGreatDoorProg
import Derived.Lib.TrailingZeros
import Derived.Laws.Bits64b
import Derived.Test.YtjpmomdechibmaaGreatDoorSec2
import Derived.Test.YtjpmomdechibmaaGreatDoorMcb
namespace Go.Proofs.YtjpmomdechibmaaGreatDoor
set_option linter.unusedVariables false
set_option linter.unusedSimpArgs false
open Go.RowKit

/-- The table of math/bits. -/
structure Deb (w : World) : Prop where
  tab : ∀ j, j < 64 → w.cell? ⟨5, j, none⟩ = some (.int .u8 (Lib.deBruijn64tab.getD j 0))
theorem Deb.upd {S : Nat → Prop} {w w' : World} (h : Deb w) (u : Upd S w w') (h0 : ¬ S 5) : Deb w' := ⟨fun i hi => u.cell (h.tab i hi) h0⟩
theorem Deb.new {w w' : World} (h : Deb w) (u : New w w') : Deb w' := h.upd u (fun h => h)

def isNumB (i : Int) : Bool := decide (0 ≤ i) && decide (i < 65536)
theorem num_yes {i : Int} (h0 : 0 ≤ i) (h1 : i < 65536) : isNumB i = true := by unfold isNumB; simp; omega
theorem num_no {i : Int} (h : i < 0 ∨ 65536 ≤ i) : isNumB i = false := by unfold isNumB; simp; omega
theorem num_bd {i : Int} (h : isNumB i = true) : 0 ≤ i ∧ i < 65536 := by unfold isNumB at h; simpa using h
theorem isNum_any (i : Int) (w : World) : Calls Tryz.prog 79 #[.int .i64 i] w (Reads (.bool (isNumB i)) w) := by
  by_cases h0 : 0 ≤ i
  · by_cases h1 : i < 65536
    · rw [num_yes h0 h1]
      go_enter Tryz.func79, Tryz.ntmps79
      go_wp2
      go_ret
      exact ⟨rfl, Q.refl _⟩
    · rw [num_no (by omega)]
      have h1' : decide (i < 65536) = false := by simpa using h1
      go_enter Tryz.func79, Tryz.ntmps79
      go_wp2
      go_ret
      exact ⟨rfl, Q.refl _⟩
  · rw [num_no (by omega)]
    go_enter Tryz.func79, Tryz.ntmps79
    go_wp2
    go_ret
    exact ⟨rfl, Q.refl _⟩

theorem tz64_key' (x a : Nat) (hx : x < 18446744073709551616) (hlow : x &&& (18446744073709551616 - x) = a) (h0 : x ≠ 0) :
    IntKind.u64.wrap (bits BinOp.and IntKind.u64 (x : Int) (IntKind.u64.wrap (-(x : Int))) * 285870213051353865) / 288230376151711744 = ((a * 285870213051353865 % 18446744073709551616 / 288230376151711744 : Nat) : Int) := by
  have e1 : IntKind.u64.wrap (-(x : Int)) = ((18446744073709551616 - x : Nat) : Int) := by rw [IntKind.wrap_u64]; omega
  rw [e1, bits_and_u64_nat x _ hx (by omega), hlow, IntKind.wrap_u64]
  omega
theorem tz64_core (x k idx : Nat) (w : World) (hx0 : ((x : Int) == 0) = false)
    (key : IntKind.u64.wrap (bits BinOp.and IntKind.u64 (x : Int) (IntKind.u64.wrap (-(x : Int))) * 285870213051353865) / 288230376151711744 = (idx : Int))
    (hi : idx < 64) (hk : k < 64) (hcell : w.cell? ⟨5, idx, none⟩ = some (.int .u8 k)) :
    Calls Tryz.prog 140 #[.int .u64 x] w (Reads (.int .i64 k) w) := by
  go_enter Tryz.func140, Tryz.ntmps140
  go_wp2_with (simp only [key])
  go_ret
  exact ⟨rfl, Q.refl _⟩
theorem tz64_zero (w : World) : Calls Tryz.prog 140 #[.int .u64 0] w (Reads (.int .i64 64) w) := by
  go_enter Tryz.func140, Tryz.ntmps140
  go_wp2
  go_ret
  exact ⟨rfl, Q.refl _⟩
theorem tz64_any (x : Nat) (hx : x < 18446744073709551616) (w : World) (hT : Deb w) :
    Calls Tryz.prog 140 #[.int .u64 x] w (Reads (.int .i64 (Lib.ctz 64 x)) w) := by
  by_cases hx0 : x = 0
  · subst hx0
    have e : Lib.ctz 64 0 = 64 := by decide
    rw [e]
    exact tz64_zero w
  · obtain ⟨hlow, hk⟩ := Lib.lowest_bit 64 x hx0 hx
    obtain ⟨hi, htab⟩ := Lib.deBruijn64_at _ hk
    have hcell := hT.tab _ hi
    rw [htab] at hcell
    exact tz64_core x _ _ w (by simp; omega) (tz64_key' x _ hx hlow hx0) hi hk hcell
set_option maxHeartbeats 1000000 in
theorem tz_any (x : Nat) (hx : x < 18446744073709551616) (w : World) (hT : Deb w) :
    Calls Tryz.prog 135 #[.int .u64 x] w (Reads (.int .i64 (Lib.ctz 64 x)) w) := by
  have hw : IntKind.u64.wrap (x : Int) = (x : Int) := by rw [IntKind.wrap_u64]; omega
  have hc := tz64_any x hx w hT
  go_enter Tryz.func135, Tryz.ntmps135
  go_wp2_with fail
  refine hc.mono ?_
  rintro e w1 ⟨rfl, q⟩
  go_wp2_with fail
  go_ret
  exact ⟨rfl, q⟩

/-- The place of a secret. -/
def placeI (i : Int) : Nat := if isNumB i then min (Lib.ctz 64 i.toNat) 16 else 0
theorem placeI_le (i : Int) : placeI i ≤ 16 := by unfold placeI; split <;> omega
set_option maxRecDepth 100000 in
set_option maxHeartbeats 1000000 in
theorem secPlace_any (i : Int) (w : World) (hT : Deb w) : Calls Tryz.prog 123 #[.int .i64 i] w (Reads (.int .i64 (placeI i)) w) := by
  have hc := isNum_any i w
  go_enter Tryz.func123, Tryz.ntmps123
  go_wp2_with fail
  refine hc.mono ?_
  rintro e w1 ⟨rfl, q⟩
  cases hn : isNumB i with
  | false =>
    have e : placeI i = 0 := by unfold placeI; rw [if_neg (by rw [hn]; decide)]
    have HE := hide e
    clear e
    go_wp2_with fail
    go_ret
    exact ⟨by rw [unhide HE]; rfl, q⟩
  | true =>
    obtain ⟨h0, h1⟩ := num_bd hn
    obtain ⟨n, rfl⟩ := Int.eq_ofNat_of_zero_le h0
    have hw : IntKind.u64.wrap (n : Int) = (n : Int) := by rw [IntKind.wrap_u64]; omega
    have ht := tz_any n (by omega) w1 (hT.new (q.upd _))
    have e : placeI (n : Int) = min (Lib.ctz 64 n) 16 := by unfold placeI; rw [if_pos hn]; rfl
    have HE := hide e
    clear e hc
    have hn' := hide hn
    clear hn h0
    go_wp2_with fail
    refine ht.mono ?_
    rintro e w2 ⟨rfl, q2⟩
    have q3 := q.trans q2
    generalize Lib.ctz 64 n = k at *
    clear ht q q2
    by_cases hk : k ≤ 16
    · have e1 : min k 16 = k := by omega
      have e2 : min (k : Int) 16 = (k : Int) := by omega
      rw [e1] at HE
      clear e1
      go_wp2_with fail
      go_ret
      exact ⟨by rw [unhide HE]; rfl, q3⟩
    · have e1 : min k 16 = 16 := by omega
      have e2 : (16 : Int) < (k : Int) := by omega
      rw [e1] at HE
      clear e1
      go_wp2_with fail
      go_ret
      exact ⟨by rw [unhide HE]; rfl, q3⟩

/-- Does the secret of one number tell that of another? -/
def canB (f t : Int) : Bool := isNumB f && (isNumB t && (f.toNat / 2 ^ placeI f == t.toNat / 2 ^ placeI f))
set_option maxRecDepth 100000 in
set_option maxHeartbeats 1000000 in
theorem can_any (f t : Int) (w : World) (hT : Deb w) : Calls Tryz.prog 122 #[.int .i64 f, .int .i64 t] w (Reads (.bool (canB f t)) w) := by
  have hc := secPlace_any f w hT
  have hp := placeI_le f
  have hn1 := fun W => isNum_any f W
  have hn2 := fun W => isNum_any t W
  have hcan : canB f t = (isNumB f && (isNumB t && (f.toNat / 2 ^ placeI f == t.toNat / 2 ^ placeI f))) := rfl
  have HC := hide hcan
  clear hcan
  generalize placeI f = p at *
  go_enter Tryz.func122, Tryz.ntmps122
  go_wp2_with fail
  refine hc.mono ?_
  rintro e w1 ⟨rfl, q⟩
  clear hc
  have hpi : (p : Int) ≤ 16 := by omega
  cases h1 : isNumB f with
  | false =>
    rw [h1, Bool.false_and] at HC
    replace hn1 := hn1
    rw [h1] at hn1
    go_wp2_with (first | ((with_reducible apply tp); rfl; rfl; intro _ _ _) | ((with_reducible apply tr); rfl; intro _ _) | ((with_reducible apply te); rfl; intro _ _) | (with_reducible rfl) | (with_reducible apply tn) | ((with_reducible apply wp_txt); kernel_rfl; decide +kernel))
    refine (hn1 _).mono ?_
    rintro e w2 ⟨rfl, q2⟩
    go_wp2_with (first | ((with_reducible apply tp); rfl; rfl; intro _ _ _) | ((with_reducible apply tr); rfl; intro _ _) | ((with_reducible apply te); rfl; intro _ _) | (with_reducible rfl) | (with_reducible apply tn) | ((with_reducible apply wp_txt); kernel_rfl; decide +kernel))
    go_ret
    exact ⟨by rw [unhide HC]; rfl, q.trans q2.ofDrew⟩
  | true =>
    rw [h1, Bool.true_and] at HC
    rw [h1] at hn1
    cases h2 : isNumB t with
    | false =>
      rw [h2, Bool.false_and] at HC
      rw [h2] at hn2
      go_wp2_with (first | ((with_reducible apply tp); rfl; rfl; intro _ _ _) | ((with_reducible apply tr); rfl; intro _ _) | ((with_reducible apply te); rfl; intro _ _) | (with_reducible rfl) | (with_reducible apply tn) | ((with_reducible apply wp_txt); kernel_rfl; decide +kernel))
      refine (hn1 _).mono ?_
      rintro e w2 ⟨rfl, q2⟩
      go_wp2_with (first | ((with_reducible apply tp); rfl; rfl; intro _ _ _) | ((with_reducible apply tr); rfl; intro _ _) | ((with_reducible apply te); rfl; intro _ _) | (with_reducible rfl) | (with_reducible apply tn) | ((with_reducible apply wp_txt); kernel_rfl; decide +kernel))
      refine (hn2 _).mono ?_
      rintro e w3 ⟨rfl, q3⟩
      go_wp2_with (first | ((with_reducible apply tp); rfl; rfl; intro _ _ _) | ((with_reducible apply tr); rfl; intro _ _) | ((with_reducible apply te); rfl; intro _ _) | (with_reducible rfl) | (with_reducible apply tn) | ((with_reducible apply wp_txt); kernel_rfl; decide +kernel))
      go_ret
      exact ⟨by rw [unhide HC]; rfl, (q.trans q2.ofDrew).trans q3⟩
    | true =>
      rw [h2, Bool.true_and] at HC
      rw [h2] at hn2
      obtain ⟨f0, f1⟩ := num_bd h1
      obtain ⟨t0, t1⟩ := num_bd h2
      obtain ⟨n, rfl⟩ := Int.eq_ofNat_of_zero_le f0
      obtain ⟨m, rfl⟩ := Int.eq_ofNat_of_zero_le t0
      have H1 := hide h1
      have H2 := hide h2
      clear h1 h2 f0 t0
      go_wp2_with (first | ((with_reducible apply tp); rfl; rfl; intro _ _ _) | ((with_reducible apply tr); rfl; intro _ _) | ((with_reducible apply te); rfl; intro _ _) | (with_reducible rfl) | (with_reducible apply tn) | ((with_reducible apply wp_txt); kernel_rfl; decide +kernel))
      refine (hn1 _).mono ?_
      rintro e w2 ⟨rfl, q2⟩
      go_wp2_with (first | ((with_reducible apply tp); rfl; rfl; intro _ _ _) | ((with_reducible apply tr); rfl; intro _ _) | ((with_reducible apply te); rfl; intro _ _) | (with_reducible rfl) | (with_reducible apply tn) | ((with_reducible apply wp_txt); kernel_rfl; decide +kernel))
      refine (hn2 _).mono ?_
      rintro e w3 ⟨rfl, q3⟩
      go_wp2_with (first | ((with_reducible apply tp); rfl; rfl; intro _ _ _) | ((with_reducible apply tr); rfl; intro _ _) | ((with_reducible apply te); rfl; intro _ _) | (with_reducible rfl) | (with_reducible apply tn) | ((with_reducible apply wp_txt); kernel_rfl; decide +kernel))
      go_ret
      refine ⟨?_, (q.trans q2.ofDrew).trans q3⟩
      have hnm : ((n : Int) / 2 ^ p == (m : Int) / 2 ^ p) = ((n : Int).toNat / 2 ^ p == (m : Int).toNat / 2 ^ p) := by
        have en : (n : Int) / 2 ^ p = ((n / 2 ^ p : Nat) : Int) := by rw [Int.natCast_ediv]; rfl
        have em : (m : Int) / 2 ^ p = ((m / 2 ^ p : Nat) : Int) := by rw [Int.natCast_ediv]; rfl
        rw [en, em, Int.toNat_natCast, Int.toNat_natCast]
        by_cases e : n / 2 ^ p = m / 2 ^ p
        · rw [e]; simp
        · rw [beq_false_of_ne e, beq_false_of_ne (by omega)]
      rw [unhide HC, ← hnm]
      rfl

end Go.Proofs.YtjpmomdechibmaaGreatDoor

/-
  Package secret: Make, Derive.
-/
namespace Go.Proofs.YtjpmomdechibmaaGreatDoor
set_option linter.unusedVariables false
set_option linter.unusedSimpArgs false
open Go.RowKit

attribute [local go_sem ↓ high] ld_hsh_fold st_hsh_fold al_hsh_fold bd_hsh_fold
attribute [local go_sem] ld_hsh st_hsh al_hsh bd_hsh rowN_drew

def makeI (h : List Int) (i : Int) : List Int × Int := if isNumB i = true then (chainI h i.toNat 16, 0) else (z32i, 1)
set_option maxRecDepth 100000 in
set_option maxHeartbeats 1000000 in
theorem make_any (h : List Int) (hh : h.length = 32) (i : Int) (w : World) (hT : Tabs w) :
    Calls Tryz.prog 50 #[.agg (hshV h).toArray, .int .i64 i] w (Makes (.tuple #[.agg (hshV (makeI h i).1).toArray, .int .i64 (makeI h i).2]) w) := by
  have hnum := fun W => isNum_any i W
  go_enter Tryz.func50, Tryz.ntmps50
  go_upto_region 1 with fail
  have hA := (hs_alloc w h hh).new ((Upd.refl _ _).alloc (.cells (hshV z32i).toArray 28))
  have hB := hs_alloc (w.alloc (.cells (hshV h).toArray 28)) z32i z32i_len
  rw [World.size_alloc] at hB
  have n1 : New w ((w.alloc (.cells (hshV h).toArray 28)).alloc (.cells (hshV z32i).toArray 28)) := ((Upd.refl _ _).alloc _).alloc _
  generalize (w.alloc (.cells (hshV h).toArray 28)).alloc (.cells (hshV z32i).toArray 28) = w1 at hA hB n1 ⊢
  obtain ⟨A, hAe⟩ : ∃ A, A = w.heap.size := ⟨_, rfl⟩
  obtain ⟨B, hBe⟩ : ∃ B, B = w.heap.size + 1 := ⟨_, rfl⟩
  rw [← hBe] at hB ⊢
  rw [← hAe] at hA ⊢
  have hBl : w.heap.size ≤ B := by omega
  have hBA : B ≠ A := by omega
  clear hAe hBe
  have HA := hide hA
  have HB := hide hB
  clear hA hB
  go_wp2_with fail
  refine (hnum _).mono ?_
  rintro e w2 ⟨rfl, q⟩
  have hB2 := (unhide HB).new (q.upd _)
  have hA2 := (unhide HA).new (q.upd _)
  have n2 := n1.trans (q.upd _)
  have hT2 := hT.new n2
  cases hn : isNumB i with
  | false =>
    have e : makeI h i = (z32i, 1) := by unfold makeI; rw [if_neg (by rw [hn]; decide)]
    have HE := hide e
    have hst := hB2.stOk z32i z32i_len
    have HF := hide (hB2.put z32i z32i_len)
    have HN := hide (n2.then (upd_sets (w := w2) (b := B) (hshV z32i)) (fun i hi e => by omega))
    clear hB2 hA2 n2 n1 hT2 hT e
    go_wp2_with fail
    refine bodyPost_ret (results_row_tmp' rfl _ _ B _ _ _ _ rfl (unhide HF).at_ Tryz.underlying28 rfl (by rw [List.size_toArray, hshV_len, z32i_len]; exact Tryz.infoHsh)) rfl ?_
    rw [unhide HE]
    exact ⟨rfl, unhide HN⟩
  | true =>
    obtain ⟨h0, h1⟩ := num_bd hn
    obtain ⟨n, rfl⟩ := Int.eq_ofNat_of_zero_le h0
    have e : makeI h (n : Int) = (chainI h n 16, 0) := by unfold makeI; rw [if_pos hn]; rfl
    have HE := hide e
    have hl := chainI_len h hh n 16
    have hc := chain_any h hh n 16 (by omega) (by omega) w2 hT2
    have hr := hA2.row
    have HB2 := hide hB2
    have HN2 := hide n2
    clear e hnum h0 hA2 hB2 n2 n1 hT hn hT2
    go_wp2_with fail
    refine hc.mono ?_
    rintro e w3 ⟨rfl, n3⟩
    have hB3 := (unhide HB2).new n3
    have n4 := (unhide HN2).trans n3
    have hst := hB3.stOk _ hl
    have HF := hide (hB3.put _ hl)
    have HN := hide (n4.then (upd_sets (w := w3) (b := B) (hshV (chainI h n 16))) (fun i hi e => by omega))
    clear hB3 n4 n3 hc hr
    generalize chainI h n 16 = K at *
    go_wp2_with fail
    refine bodyPost_ret (results_row_tmp' rfl _ _ B _ _ _ _ rfl (unhide HF).at_ Tryz.underlying28 rfl (by rw [List.size_toArray, hshV_len, hl]; exact Tryz.infoHsh)) rfl ?_
    rw [unhide HE]
    exact ⟨rfl, unhide HN⟩

def deriveI (h : List Int) (f t : Int) : List Int × Int := if canB f t = true then (chainI h t.toNat (placeI f), 0) else (z32i, 1)
theorem deriveI_len (h : List Int) (hh : h.length = 32) (f t : Int) : (deriveI h f t).1.length = 32 := by
  unfold deriveI
  split
  · exact chainI_len h hh _ _
  · exact z32i_len
theorem can_num {f t : Int} (h : canB f t = true) : isNumB t = true := by
  unfold canB at h
  simp only [Bool.and_eq_true] at h
  exact h.2.1
set_option maxRecDepth 100000 in
set_option maxHeartbeats 1000000 in
theorem derive_any (h : List Int) (hh : h.length = 32) (f t : Int) (w : World) (hT : Tabs w) (hD : Deb w) :
    Calls Tryz.prog 126 #[.agg (hshV h).toArray, .int .i64 f, .int .i64 t] w (Makes (.tuple #[.agg (hshV (deriveI h f t).1).toArray, .int .i64 (deriveI h f t).2]) w) := by
  go_enter Tryz.func126, Tryz.ntmps126
  go_upto_region 1 with fail
  have hA := (hs_alloc w h hh).new ((Upd.refl _ _).alloc (.cells (hshV z32i).toArray 28))
  have hB := hs_alloc (w.alloc (.cells (hshV h).toArray 28)) z32i z32i_len
  rw [World.size_alloc] at hB
  have n1 : New w ((w.alloc (.cells (hshV h).toArray 28)).alloc (.cells (hshV z32i).toArray 28)) := ((Upd.refl _ _).alloc _).alloc _
  generalize (w.alloc (.cells (hshV h).toArray 28)).alloc (.cells (hshV z32i).toArray 28) = w1 at hA hB n1 ⊢
  obtain ⟨A, hAe⟩ : ∃ A, A = w.heap.size := ⟨_, rfl⟩
  obtain ⟨B, hBe⟩ : ∃ B, B = w.heap.size + 1 := ⟨_, rfl⟩
  rw [← hBe] at hB ⊢
  rw [← hAe] at hA ⊢
  have hBl : w.heap.size ≤ B := by omega
  have hBA : B ≠ A := by omega
  clear hAe hBe
  have HA := hide hA
  have HB := hide hB
  have hcan := can_any f t w1 (hD.new n1)
  clear hA hB
  go_wp2_with fail
  refine hcan.mono ?_
  rintro e w2 ⟨rfl, q⟩
  have hB2 := (unhide HB).new (q.upd _)
  have hA2 := (unhide HA).new (q.upd _)
  have n2 := n1.trans (q.upd _)
  have hT2 := hT.new n2
  have hD2 := hD.new n2
  clear hcan
  cases hn : canB f t with
  | false =>
    have e : deriveI h f t = (z32i, 1) := by unfold deriveI; rw [if_neg (by rw [hn]; decide)]
    have HE := hide e
    have hst := hB2.stOk z32i z32i_len
    have HF := hide (hB2.put z32i z32i_len)
    have HN := hide (n2.then (upd_sets (w := w2) (b := B) (hshV z32i)) (fun i hi e => by omega))
    clear hB2 hA2 n2 n1 hT2 hT e hD hD2
    go_wp2_with fail
    refine bodyPost_ret (results_row_tmp' rfl _ _ B _ _ _ _ rfl (unhide HF).at_ Tryz.underlying28 rfl (by rw [List.size_toArray, hshV_len, z32i_len]; exact Tryz.infoHsh)) rfl ?_
    rw [unhide HE]
    exact ⟨rfl, unhide HN⟩
  | true =>
    obtain ⟨h0, h1⟩ := num_bd (can_num hn)
    obtain ⟨n, rfl⟩ := Int.eq_ofNat_of_zero_le h0
    have e : deriveI h f (n : Int) = (chainI h n (placeI f), 0) := by unfold deriveI; rw [if_pos hn]; rfl
    have HE := hide e
    have hl := chainI_len h hh n (placeI f)
    have hpl := placeI_le f
    have hc := fun W (hW : Tabs W) => chain_any h hh n (placeI f) (by omega) hpl W hW
    have hp := fun W (hW : Deb W) => secPlace_any f W hW
    have hr : rowN w2.drew A 0 32 = some (hshV h).toArray := hA2.row
    have HB2 := hide hB2
    have HA2 := hide hA2
    have HN2 := hide n2
    have HT2 := hide hT2
    have HD2 := hide hD2
    have HC := hide hc
    have HP := hide hp
    clear e h0 hA2 hB2 n2 n1 hT hn hT2 hD hD2 hc hp
    generalize chainI h n (placeI f) = K at *
    generalize placeI f = p at *
    go_upto_region 3 with fail
    refine wp_plan (fun w' => rowN w' A 0 32 = some (hshV h).toArray) [0] (.of [0, 1, 2, 3, 4, 5, 6]) (by kernel_rfl) (by kernel_rfl) hr ?_
    simp only [Plan.of]
    go_wp2_with (first | ((with_reducible apply qp); rfl; rfl; rfl; intro _ _ _) | ((with_reducible apply qc); rfl; rfl; rfl; with_reducible assumption; intro _ hC _ _) | ((with_reducible apply qr); rfl; rfl; intro _ _) | ((with_reducible apply qd); rfl; rfl; decide +kernel; intro _ _) | ((with_reducible apply qe); rfl; rfl; intro _ _) | (with_reducible rfl) | (with_reducible apply qn))
    refine (unhide HP _ ((unhide HD2).new ((Upd.refl _ _).drew))).mono ?_
    rintro e w3 ⟨rfl, q3⟩
    have n3 : New w2 w3 := (q3.ofDrew).upd _
    have hr3 := ((unhide HA2).new n3).row
    have hc := unhide HC w3 ((unhide HT2).new n3)
    clear hr HP
    go_wp2_with (first | ((with_reducible apply qp); rfl; rfl; rfl; intro _ _ _) | ((with_reducible apply qc); rfl; rfl; rfl; with_reducible assumption; intro _ hC _ _) | ((with_reducible apply qr); rfl; rfl; intro _ _) | ((with_reducible apply qd); rfl; rfl; decide +kernel; intro _ _) | ((with_reducible apply qe); rfl; rfl; intro _ _) | (with_reducible rfl) | (with_reducible apply qn))
    refine ⟨hr3, ?_⟩
    go_wp2_with (first | ((with_reducible apply qp); rfl; rfl; rfl; intro _ _ _) | ((with_reducible apply qc); rfl; rfl; rfl; with_reducible assumption; intro _ hC _ _) | ((with_reducible apply qr); rfl; rfl; intro _ _) | ((with_reducible apply qd); rfl; rfl; decide +kernel; intro _ _) | ((with_reducible apply qe); rfl; rfl; intro _ _) | (with_reducible rfl) | (with_reducible apply qn))
    refine hc.mono ?_
    rintro e w4 ⟨rfl, n4⟩
    have hB4 := ((unhide HB2).new n3).new n4
    have n5 := ((unhide HN2).trans n3).trans n4
    have hst := hB4.stOk _ hl
    have HF := hide (hB4.put _ hl)
    have HN := hide (n5.then (upd_sets (w := w4) (b := B) (hshV K)) (fun i hi e => by omega))
    clear hB4 n5 n3 hc n4 hr3
    go_wp2_with (first | ((with_reducible apply qp); rfl; rfl; rfl; intro _ _ _) | ((with_reducible apply qc); rfl; rfl; rfl; with_reducible assumption; intro _ hC _ _) | ((with_reducible apply qr); rfl; rfl; intro _ _) | ((with_reducible apply qd); rfl; rfl; decide +kernel; intro _ _) | ((with_reducible apply qe); rfl; rfl; intro _ _) | (with_reducible rfl) | (with_reducible apply qn))
    refine bodyPost_ret (results_row_tmp' rfl _ _ B _ _ _ _ rfl (unhide HF).at_ Tryz.underlying28 rfl (by rw [List.size_toArray, hshV_len, hl]; exact Tryz.infoHsh)) rfl ?_
    rw [unhide HE]
    exact ⟨rfl, unhide HN⟩

end Go.Proofs.YtjpmomdechibmaaGreatDoor

/-
  An end's secrets: Secret, revocation.
-/
namespace Go.Proofs.YtjpmomdechibmaaGreatDoor
set_option linter.unusedVariables false
set_option linter.unusedSimpArgs false
open Go.RowKit

attribute [local go_sem ↓ high] ld_hsh_fold st_hsh_fold al_hsh_fold bd_hsh_fold ld_msg_fold st_msg_fold al_msg_fold bd_msg_fold
attribute [local go_sem] ld_hsh st_hsh al_hsh bd_hsh rowN_drew ld_msg st_msg al_msg

def Ch.secret (c : Ch) (n : Int) : List Int × Int := if n < 0 ∨ c.k.heard ≤ n then (z32i, 1) else makeI c.s.seed (65535 - n)
theorem makeI_len (h : List Int) (hh : h.length = 32) (i : Int) : (makeI h i).1.length = 32 := by
  unfold makeI
  split
  · exact chainI_len h hh _ _
  · exact z32i_len
theorem Ch.secret_len {c : Ch} (h : c.Ok) (n : Int) : (c.secret n).1.length = 32 := by
  unfold Ch.secret
  split
  · exact z32i_len
  · exact makeI_len _ h.s.seed _
set_option maxRecDepth 100000 in
set_option maxHeartbeats 1000000 in
theorem secret_any (g : Nat) (S : Nat → Prop) (c : Ch) (n : Int) (w : World) (h : ChS w g S c) (hT : Tabs w) (hn : -9223372036854775808 ≤ n ∧ n ≤ 9223372036854775807) :
    Calls Tryz.prog 29 #[.pointer (some ⟨g, 0, none⟩), .int .i64 n] w (Makes (.tuple #[.agg (hshV (c.secret n).1).toArray, .int .i64 (c.secret n).2]) w) := by
  obtain ⟨lv, nv, av, h⟩ := h
  go_enter Tryz.func29, Tryz.ntmps29
  go_upto_region 1 with fail
  have hB := hs_alloc w z32i z32i_len
  have n1 : New w (w.alloc (.cells (hshV z32i).toArray 28)) := (Upd.refl _ _).alloc _
  generalize w.alloc (.cells (hshV z32i).toArray 28) = w1 at hB n1 ⊢
  obtain ⟨B, hBe⟩ : ∃ B, B = w.heap.size := ⟨_, rfl⟩
  rw [← hBe] at hB ⊢
  have hBl : w.heap.size ≤ B := by omega
  clear hBe
  have h1 := h.new n1
  have c38 : w1.cell? ⟨g, 38, none⟩ = some (.int .i64 c.k.heard) := h1.toR.heard
  have hseed := h1.seed
  by_cases e : n < 0 ∨ c.k.heard ≤ n
  · have he : c.secret n = (z32i, 1) := by unfold Ch.secret; rw [if_pos e]
    have hst := hB.stOk z32i z32i_len
    have HF := hide (hB.put z32i z32i_len)
    have HN := hide (n1.then (upd_sets (w := w1) (b := B) (hshV z32i)) (fun i hi e => by omega))
    have HE := hide he
    clear h h1 hB n1 he
    by_cases e0 : n < 0
    · go_wp2_with fail
      refine bodyPost_ret (results_row_tmp' rfl _ _ B _ _ _ _ rfl (unhide HF).at_ Tryz.underlying28 rfl (by rw [List.size_toArray, hshV_len, z32i_len]; exact Tryz.infoHsh)) rfl ?_
      rw [unhide HE]
      exact ⟨rfl, unhide HN⟩
    · have e1 : c.k.heard ≤ n := by omega
      clear e
      go_wp2_with fail
      refine bodyPost_ret (results_row_tmp' rfl _ _ B _ _ _ _ rfl (unhide HF).at_ Tryz.underlying28 rfl (by rw [List.size_toArray, hshV_len, z32i_len]; exact Tryz.infoHsh)) rfl ?_
      rw [unhide HE]
      exact ⟨rfl, unhide HN⟩
  · have he : c.secret n = makeI c.s.seed (65535 - n) := by unfold Ch.secret; rw [if_neg e]
    have e0 : ¬ n < 0 := by omega
    have e1 : ¬ c.k.heard ≤ n := by omega
    have hw1 : IntKind.i64.wrap (65535 - n) = 65535 - n := wrapI (by omega) (by omega)
    have hm := make_any c.s.seed h.ok.s.seed (65535 - n) w1 (hT.new n1)
    have hl := makeI_len c.s.seed h.ok.s.seed (65535 - n)
    have HE := hide he
    have HB := hide hB
    have N1 := hide n1
    clear h h1 hB n1 he e
    generalize makeI c.s.seed (65535 - n) = K at *
    go_wp2_with fail
    refine hm.mono ?_
    rintro e w2 ⟨rfl, n2⟩
    have hB2 := (unhide HB).new n2
    have hst := hB2.stOk _ hl
    have HF := hide (hB2.put _ hl)
    have HN := hide (((unhide N1).trans n2).then (upd_sets (w := w2) (b := B) (hshV K.1)) (fun i hi e => by omega))
    clear hB2 n2 hm hseed
    go_wp2_with fail
    refine bodyPost_ret (results_row_tmp' rfl _ _ B _ _ _ _ rfl (unhide HF).at_ Tryz.underlying28 rfl (by rw [List.size_toArray, hshV_len, hl]; exact Tryz.infoHsh)) rfl ?_
    rw [unhide HE]
    exact ⟨rfl, unhide HN⟩

def Ch.revocation (c : Ch) : MsgV := ⟨7, c.s.ch, 0, 0, (c.secret (c.k.heard - 1)).1, 0, c.k.heard - 1⟩
set_option maxRecDepth 100000 in
set_option maxHeartbeats 1000000 in
theorem revocation_any (g : Nat) (S : Nat → Prop) (c : Ch) (w : World) (h : ChS w g S c) (hT : Tabs w) :
    Calls Tryz.prog 103 #[.pointer (some ⟨g, 0, none⟩)] w (Makes (.agg c.revocation.cells.toArray) w) := by
  obtain ⟨lv, nv, av, h⟩ := h
  have hhd := h.ok.heard
  go_enter Tryz.func103, Tryz.ntmps103
  go_upto_region 1 with fail
  have hB := ms_alloc w MsgV.zero z32i_len
  have n1 : New w (w.alloc (.cells MsgV.zero.cells.toArray 30)) := (Upd.refl _ _).alloc _
  generalize w.alloc (.cells MsgV.zero.cells.toArray 30) = w1 at hB n1 ⊢
  obtain ⟨B, hBe⟩ : ∃ B, B = w.heap.size := ⟨_, rfl⟩
  rw [← hBe] at hB ⊢
  have hBl : w.heap.size ≤ B := by omega
  clear hBe
  have h1 := h.new n1
  have c38 : w1.cell? ⟨g, 38, none⟩ = some (.int .i64 c.k.heard) := h1.toR.heard
  have hw1 : IntKind.i64.wrap (c.k.heard - 1) = c.k.heard - 1 := wrapI (by omega) (by omega)
  have hs := secret_any g S c (c.k.heard - 1) w1 ⟨lv, nv, av, h1⟩ (hT.new n1) (by omega)
  have hl := Ch.secret_len h.ok (c.k.heard - 1)
  have hrv : c.revocation = ⟨7, c.s.ch, 0, 0, (c.secret (c.k.heard - 1)).1, 0, c.k.heard - 1⟩ := rfl
  have HR := hide hrv
  have HB := hide hB
  have N1 := hide n1
  have H1 := hide h1
  clear h h1 hB n1 hrv
  generalize c.secret (c.k.heard - 1) = K at *
  go_wp2_with fail
  refine hs.mono ?_
  rintro e w2 ⟨rfl, n2⟩
  obtain ⟨hst, hF, nF⟩ := hs_fresh w2 K.1 hl
  have h2 := ((unhide H1).new n2).new nF
  have HF := hide hF
  have HB2 := hide (((unhide HB).new n2).new nF)
  have HN2 := hide (((unhide N1).trans n2).trans nF)
  have H2 := hide h2
  clear hs n2 hF nF h2 c38
  go_upto_region 2 with fail
  change Code.wp _ _ _ _ (hsNew w2 K.1)
  generalize hsNew w2 K.1 = w3 at HF HB2 HN2 H2 ⊢
  generalize w2.heap.size = A at HF ⊢
  have hP := unhide H2
  have hrA := (unhide HF).row
  have cch : w3.cell? ⟨g, 0, none⟩ = some (.int .u32 c.s.ch) := hP.toR.ch
  have c38 : w3.cell? ⟨g, 38, none⟩ = some (.int .i64 c.k.heard) := hP.toR.heard
  have hbd := fun W => bd_msg_rev 7 c.s.ch (c.k.heard - 1) K.1 hl W
  have hst : stOk w3.drew B 0 38 (MsgV.cells ⟨7, c.s.ch, 0, 0, K.1, 0, c.k.heard - 1⟩).toArray = true := (unhide HB2).stOk (k := ⟨7, c.s.ch, 0, 0, K.1, 0, c.k.heard - 1⟩) hl
  have nd : New w3 w3.drew := (Upd.refl _ _).drew
  have HP := hide (((unhide HB2).new nd).put (k := ⟨7, c.s.ch, 0, 0, K.1, 0, c.k.heard - 1⟩) hl)
  have HU := hide (((unhide HN2).trans nd).then (upd_sets (w := w3.drew) (b := B) (MsgV.cells ⟨7, c.s.ch, 0, 0, K.1, 0, c.k.heard - 1⟩)) (fun i hi e => by omega))
  clear hP nd
  rw [← unhide HR] at hst HP HU hbd
  go_wp2_with (first | ((with_reducible apply tp); rfl; rfl; intro _ _ _) | ((with_reducible apply tr); rfl; intro _ _) | ((with_reducible apply te); rfl; intro _ _) | (with_reducible rfl) | (with_reducible apply tn) | ((with_reducible apply wp_txt); kernel_rfl; decide +kernel))
  have hF := unhide HP
  exact bodyPost_ret (results_cell_row rfl _ _ B _ _ _ _ rfl hF.at_ Tryz.underlying30 rfl (by rw [hF.agg]; exact Tryz.infoMsg)) rfl ⟨rfl, unhide HU⟩

end Go.Proofs.YtjpmomdechibmaaGreatDoor
