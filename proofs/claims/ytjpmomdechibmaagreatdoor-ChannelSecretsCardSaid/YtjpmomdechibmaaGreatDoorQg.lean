/-
  The reference's secrets: bit, walk, Make: the same as the program's.
-/
import Derived.Test.YtjpmomdechibmaaGreatDoorMeg
import Derived.Test.YtjpmomdechibmaaGreatDoorQd
import Derived.Test.YtjpmomdechibmaaGreatDoorQa
namespace Go.Proofs.YtjpmomdechibmaaGreatDoor
set_option linter.unusedVariables false
set_option linter.unusedSimpArgs false
open Go.RowKit

attribute [local go_sem ↓ high] ld_hsh_fold st_hsh_fold al_hsh_fold bd_hsh_fold
attribute [local go_sem] ld_hsh st_hsh al_hsh bd_hsh rowN_drew

set_option maxRecDepth 100000 in
set_option maxHeartbeats 1000000 in
theorem bitR_any (i b : Nat) (hi : i < 65536) (hb : b ≤ 16) (w : World) : Calls Tryz.prog 81 #[.int .i64 i, .int .i64 b] w (Makes (.bool (i.testBit b)) w) := by
  go_enter Tryz.func81, Tryz.ntmps81
  go_wp2_with fail
  go_loopw [0, 5] (fun iv kv wr => ∃ k x : Nat, iv = .int .i64 (x : Int) ∧ kv = .int .i64 (k : Int) ∧ k ≤ b ∧ Hid (x = i / 2 ^ k) ∧ x < 65536 ∧ New w wr) (fun _ kv _ => b - (intOf kv).toNat)
  case atStart => exact ⟨0, i, rfl, rfl, Nat.zero_le _, hide (by simp), hi, Upd.refl _ _⟩
  case round =>
    obtain ⟨k, x, rfl, rfl, hk, HX, hxb, hN⟩ := hrel
    obtain ⟨wq, rfl⟩ : ∃ wq : World, wq = wr := ⟨_, rfl⟩
    by_cases h : k < b
    · have hc : (k : Int) < (b : Int) := by omega
      have hd : (x : Int).tdiv 2 = ((x / 2 : Nat) : Int) := (Int.ofNat_tdiv x 2).symm
      have hw : IntKind.i64.wrap ((x / 2 : Nat) : Int) = ((x / 2 : Nat) : Int) := wrapI (by omega) (by omega)
      go_wp2_with fail
      go_roundw
      case rel => exact ⟨k + 1, x / 2, rfl, by go_num, by omega, hide (by rw [unhide HX, Nat.div_div_eq_div_mul, ← Nat.pow_succ]), by omega, hN⟩
      case measure => simp [intOf]; omega
    · obtain rfl : k = b := by omega
      have hd : (x : Int).tmod 2 = ((x % 2 : Nat) : Int) := (Int.ofNat_tmod x 2).symm
      have hw : IntKind.i64.wrap ((x % 2 : Nat) : Int) = ((x % 2 : Nat) : Int) := wrapI (by omega) (by omega)
      have hr : i.testBit k = ((x : Int) % 2 == 1) := by
        rw [Nat.testBit_eq_decide_div_mod_eq, ← unhide HX, show (x : Int) % 2 = ((x % 2 : Nat) : Int) from rfl]
        rcases Nat.mod_two_eq_zero_or_one x with e | e <;> rw [e] <;> rfl
      have HR := hide hr
      have hN' := hide hN
      clear hN hr HX
      go_wp2_with fail
      go_ret
      exact ⟨by rw [unhide HR]; rfl, unhide hN'⟩

theorem two_pow_u8 (r : Nat) (h : r < 8) : (2 : Int) ^ r % 256 = 2 ^ r := by
  have : ∀ r : Fin 8, (2 : Int) ^ r.val % 256 = 2 ^ r.val := by decide
  exact this ⟨r, h⟩
theorem HsB.setAt {w : World} {b : Nat} {q : List Int} (a : HsB w b q) {j : Nat} (hj : j < 32) (v : Int) : HsB (w.setCell ⟨b, j, none⟩ (.int .u8 v)) b (q.set j v) := by
  refine ⟨?_, by rw [List.length_set]; exact a.len⟩
  rw [blk_set a.at_]
  unfold hshV
  rw [List.map_set, List.setIfInBounds_toArray]
set_option maxRecDepth 100000 in
set_option maxHeartbeats 2000000 in
theorem walkR_any (h : List Int) (hh : h.length = 32) (d i : Nat) (hi : i < 65536) (hd : d ≤ 16) (w : World) :
    Calls Tryz.prog 52 #[.agg (hshV h).toArray, .int .i64 d, .int .i64 i] w (Makes (.agg (hshV (chainI h i d)).toArray) w) := by
  go_enter Tryz.func52, Tryz.ntmps52
  go_upto_region 1 with fail
  have hA := (hs_alloc w h hh).new ((Upd.refl _ _).alloc (.cells (hshV z32i).toArray 28))
  have hB := hs_alloc (w.alloc (.cells (hshV h).toArray 28)) z32i z32i_len
  rw [World.size_alloc] at hB
  have n1 : New w ((w.alloc (.cells (hshV h).toArray 28)).alloc (.cells (hshV z32i).toArray 28)) := ((Upd.refl _ _).alloc _).alloc _
  generalize (w.alloc (.cells (hshV h).toArray 28)).alloc (.cells (hshV z32i).toArray 28) = w1 at hA hB n1 ⊢
  obtain ⟨A, hAe⟩ : ∃ A, A = w.heap.size := ⟨_, rfl⟩
  obtain ⟨B, hBe⟩ : ∃ B, B = w.heap.size + 1 := ⟨_, rfl⟩
  rw [← hBe] at hB ⊢
  rw [← hAe] at hA ⊢
  have hAl : w.heap.size ≤ A := by omega
  have hBl : w.heap.size ≤ B := by omega
  have hAB : B ≠ A := by omega
  clear hAe hBe
  have hw0 : IntKind.i64.wrap ((d : Int) - 1) = (d : Int) - 1 := wrapI (by omega) (by omega)
  have HA := hide hA
  have HB := hide hB
  have HN := hide n1
  clear hA hB n1
  go_wp2_with fail
  go_loopw [7] (fun kv wr => ∃ (k : Nat) (V : Int) (q : List Int), kv = .int .i64 V ∧ V = (k : Int) - 1 ∧ k ≤ d ∧ Hid (q = (hiB i d k).foldl chStep h) ∧ q.length = 32 ∧ Hid (HsB wr A q) ∧ Hid (HsB wr B z32i) ∧ Hid (New w wr)) (fun kv _ => (intOf kv + 1).toNat)
  case atStart => exact ⟨d, _, h, rfl, rfl, Nat.le_refl _, hide (by rw [hiB_top]; rfl), hh, HA, HB, HN⟩
  case round =>
    obtain ⟨k, V, q, rfl, hV, hk, HQ, hq, HA, HB, HN⟩ := hrel
    obtain ⟨wq, rfl⟩ : ∃ wq : World, wq = wr := ⟨_, rfl⟩
    cases k with
    | zero =>
      have hneg : ¬ (0 : Int) ≤ V := by omega
      have hneg2 : V < 0 := by omega
      clear hV
      have rA := (unhide HA).row
      have hst := (unhide HB).stOk q hq
      have HF := hide ((unhide HB).put q hq)
      have HN2 := hide ((unhide HN).then (upd_sets (w := wq) (b := B) (hshV q)) (fun i hi e => by omega))
      have hqe : q = chainI h i d := unhide HQ
      subst hqe
      generalize chainI h i d = q at *
      clear HA HB HN HQ
      go_wp2_with fail
      have hF := unhide HF
      exact bodyPost_ret (results_cell_row rfl _ _ B _ _ _ _ rfl hF.at_ Tryz.underlying28 rfl (by rw [List.size_toArray, hshV_len, hF.len]; exact Tryz.infoHsh)) rfl ⟨rfl, unhide HN2⟩
    | succ m =>
      obtain rfl : V = (m : Int) := by omega
      have hwm : IntKind.i64.wrap ((m : Int) - 1) = (m : Int) - 1 := wrapI (by omega) (by omega)
      have hbt := bitR_any i m hi (by omega) wq
      clear hV
      go_wp2_with (first | ((with_reducible apply tp); rfl; rfl; intro _ _ _) | ((with_reducible apply tr); rfl; intro _ _) | ((with_reducible apply te); rfl; intro _ _) | (with_reducible rfl) | (with_reducible apply tn) | ((with_reducible apply wp_txt); kernel_rfl; decide +kernel))
      refine hbt.mono ?_
      rintro e w2 ⟨rfl, n2⟩
      have HA2 := hide ((unhide HA).new n2)
      have HB2 := hide ((unhide HB).new n2)
      have HN2 := hide ((unhide HN).trans n2)
      have hstep := hiB_step (i := i) (d := d) (k := m) (by omega)
      cases hb : i.testBit m with
      | false =>
        rw [hb] at hstep
        have HS := hide hstep
        clear hbt n2 hstep hb HA HB HN
        go_wp2_with (first | ((with_reducible apply tp); rfl; rfl; intro _ _ _) | ((with_reducible apply tr); rfl; intro _ _) | ((with_reducible apply te); rfl; intro _ _) | (with_reducible rfl) | (with_reducible apply tn) | ((with_reducible apply wp_txt); kernel_rfl; decide +kernel))
        go_roundw
        case rel => exact ⟨m, _, q, rfl, rfl, by omega, hide (by rw [unhide HS, if_neg (by decide), List.append_nil]; exact unhide HQ), hq, HA2, HB2, HN2⟩
        case measure => simp [intOf]
      | true =>
        rw [hb] at hstep
        have HS := hide hstep
        obtain ⟨j, hj⟩ : ∃ j, j = m / 8 := ⟨_, rfl⟩
        obtain ⟨r, hr⟩ : ∃ r, r = m % 8 := ⟨_, rfl⟩
        have hjb : j < 32 := by omega
        have hrb : r < 8 := by omega
        have hqj : (m : Int).tdiv 8 = (j : Int) := by rw [hj]; exact (Int.ofNat_tdiv m 8).symm
        have hqr : (m : Int).tmod 8 = (r : Int) := by rw [hr]; exact (Int.ofNat_tmod m 8).symm
        have hwj : IntKind.i64.wrap (j : Int) = (j : Int) := wrapI (by omega) (by omega)
        have hwr : IntKind.i64.wrap (r : Int) = (r : Int) := wrapI (by omega) (by omega)
        have hj2 : (j : Int) < 32 := by omega
        have hj0 : (0 : Int) ≤ (j : Int) := by omega
        have hr8 : (r : Int) < 8 := by omega
        have hr0 : (0 : Int) ≤ (r : Int) := by omega
        have hA2 := unhide HA2
        have ci0 : w2.cell? ⟨A, j, none⟩ = some (.int .u8 (q.getD j 0)) := by
          have := hA2.at_
          unfold hshV at this
          rw [blk_cell this j, List.getElem?_toArray, List.getElem?_map, List.getD_eq_getElem?_getD, List.getElem?_eq_getElem (by omega)]
          rfl
        have fi0 := blk_free hA2.at_ j
        have HJ := hide hj
        have HR := hide hr
        clear hbt n2 hstep hb HA HB HN hj hr hA2
        obtain ⟨v, hv⟩ : ∃ v, v = q.getD j 0 := ⟨_, rfl⟩
        rw [← hv] at ci0
        have hb := (unhide HA2).setAt (j := j) hjb (bits .xor .u8 v (2 ^ r % 256))
        have hfl : q.set j (bits .xor .u8 v (2 ^ r % 256)) = flipB q m := by
          unfold flipB
          rw [hv, unhide HJ, unhide HR, two_pow_u8 (m % 8) (by omega)]
        rw [hfl] at hb
        have hN3 : New w (w2.setCell ⟨A, j, none⟩ (.int .u8 (bits .xor .u8 v (2 ^ r % 256)))) := (unhide HN2).then ((Upd.refl (· = A) w2).set1 j _) (fun i hi e => by omega)
        have hB3 : HsB (w2.setCell ⟨A, j, none⟩ (.int .u8 (bits .xor .u8 v (2 ^ r % 256)))) B z32i := (unhide HB2).upd ((Upd.refl (· = A) w2).set1 j _) hAB
        have HF2 := hide hb
        have HN3 := hide hN3
        have HB3 := hide hB3
        clear hb hfl hv hN3 hB3
        go_upto_region 6 with (first | ((with_reducible apply tp); rfl; rfl; intro _ _ _) | ((with_reducible apply tr); rfl; intro _ _) | ((with_reducible apply te); rfl; intro _ _) | (with_reducible rfl) | (with_reducible apply tn) | ((with_reducible apply wp_txt); kernel_rfl; decide +kernel))
        generalize w2.setCell ⟨A, j, none⟩ (.int .u8 (bits .xor .u8 v (2 ^ r % 256))) = w3 at HF2 HN3 HB3 ⊢
        clear ci0 fi0 HJ HR hj2 hj0 hr8 hr0 hwj hwr hqj hqr HA2 HB2 HN2
        have nd : New w3 w3.drew := (Upd.refl _ _).drew
        have hb3 := (unhide HF2).new nd
        obtain ⟨f, hf⟩ : ∃ f, f = flipB q m := ⟨_, rfl⟩
        rw [← hf] at hb3
        have hfl : f.length = 32 := hb3.len
        have hconv : (convert 111 9 (.slice (some ⟨A, 0, none⟩) 32 32)).run Tryz.prog w3.drew = .ok (.string (strOfNums f)) w3.drew :=
          run_string_block w3.drew _ _ _ Tryz.underlying111 Tryz.underlying5 Tryz.underlying9 A 32 _ _ _ 32 hfl hb3.at_
        obtain ⟨K, hK⟩ : ∃ K, K = chStep q m := ⟨_, rfl⟩
        have hKl : K.length = 32 := by rw [hK]; exact chStep_len _ _
        have hsum : Calls Tryz.prog 46 #[.string (strOfNums f)] w3.drew (fun e w' => e = .returned (.agg (hshV K).toArray) ∧ New w3.drew w') := by
          rw [hK, hf]
          exact sumR_any (strOfNums (flipB q m)) w3.drew (by rw [← hf, strOfNums_size, hfl]; omega)
        have HKK := hide hK
        have HA4 := hide hb3
        clear hb3 hf hK HF2 nd
        go_wp2_with (first | ((with_reducible apply tp); rfl; rfl; intro _ _ _) | ((with_reducible apply tr); rfl; intro _ _) | ((with_reducible apply te); rfl; intro _ _) | (with_reducible rfl) | (with_reducible apply tn) | ((with_reducible apply wp_txt); kernel_rfl; decide +kernel))
        refine hsum.mono ?_
        rintro e w4 ⟨rfl, n4⟩
        have hA4 := (unhide HA4).new n4
        have n4 := n4.ofDrew
        have hst := hA4.stOk K hKl
        have HA5 := hide (hA4.put K hKl)
        have HB5 := hide (((unhide HB3).new n4).upd (upd_sets (w := w4) (b := A) (hshV K)) hAB)
        have HN5 := hide (((unhide HN3).trans n4).then (upd_sets (w := w4) (b := A) (hshV K)) (fun i hi e => by omega))
        clear hA4 n4 hsum hconv HA4 HN3 HB3
        go_wp2_with (first | ((with_reducible apply tp); rfl; rfl; intro _ _ _) | ((with_reducible apply tr); rfl; intro _ _) | ((with_reducible apply te); rfl; intro _ _) | (with_reducible rfl) | (with_reducible apply tn) | ((with_reducible apply wp_txt); kernel_rfl; decide +kernel))
        go_roundw
        case rel => exact ⟨m, _, K, rfl, rfl, by omega, hide (by rw [unhide HS, if_pos trivial, List.foldl_append, ← unhide HQ, unhide HKK, List.foldl_cons, List.foldl_nil]), hKl, HA5, HB5, HN5⟩
        case measure => simp [intOf]
set_option maxRecDepth 100000 in
set_option maxHeartbeats 1000000 in
theorem numberR_any (i : Int) (w : World) : Calls Tryz.prog 51 #[.int .i64 i] w (Makes (.bool (isNumB i)) w) := by
  go_enter Tryz.func51, Tryz.ntmps51
  by_cases h0 : 0 ≤ i
  · by_cases h1 : i < 65536
    · have e := num_yes h0 h1
      have HE := hide e
      clear e
      go_wp2_with fail
      go_ret
      exact ⟨by rw [unhide HE]; rfl, Upd.refl _ _⟩
    · have e := num_no (i := i) (.inr (by omega))
      have HE := hide e
      clear e
      go_wp2_with fail
      go_ret
      exact ⟨by rw [unhide HE]; rfl, Upd.refl _ _⟩
  · have e := num_no (i := i) (.inl (by omega))
    have HE := hide e
    have h0' : i < 0 := by omega
    clear e
    go_wp2_with fail
    go_ret
    exact ⟨by rw [unhide HE]; rfl, Upd.refl _ _⟩
set_option maxRecDepth 100000 in
set_option maxHeartbeats 1000000 in
theorem makeR_any (h : List Int) (hh : h.length = 32) (i : Nat) (hi : i < 65536) (w : World) :
    Calls Tryz.prog 30 #[.agg (hshV h).toArray, .int .i64 i] w (Makes (.tuple #[.agg (hshV (makeI h i).1).toArray, .int .i64 0]) w) := by
  have hm : (makeI h i).1 = chainI h i 16 := by unfold makeI; rw [if_pos (num_yes (by omega) (by omega))]; rfl
  rw [hm]
  have hKl := chainI_len h hh i 16
  go_enter Tryz.func30, Tryz.ntmps30
  go_upto_region 1 with fail
  have hA := (hs_alloc w h hh).new ((Upd.refl _ _).alloc (.cells (hshV z32i).toArray 28))
  have hB := hs_alloc (w.alloc (.cells (hshV h).toArray 28)) z32i z32i_len
  rw [World.size_alloc] at hB
  have n1 : New w ((w.alloc (.cells (hshV h).toArray 28)).alloc (.cells (hshV z32i).toArray 28)) := ((Upd.refl _ _).alloc _).alloc _
  generalize (w.alloc (.cells (hshV h).toArray 28)).alloc (.cells (hshV z32i).toArray 28) = w1 at hA hB n1 ⊢
  obtain ⟨A, hAe⟩ : ∃ A, A = w.heap.size := ⟨_, rfl⟩
  obtain ⟨B, hBe⟩ : ∃ B, B = w.heap.size + 1 := ⟨_, rfl⟩
  rw [← hBe] at hB ⊢
  rw [← hAe] at hA ⊢
  have hBl : w.heap.size ≤ B := by omega
  clear hAe hBe hm
  have hnum := numberR_any (i : Int) w1
  rw [num_yes (by omega) (by omega)] at hnum
  have HA := hide hA
  have HB := hide hB
  have HN := hide n1
  clear hA hB n1
  go_wp2_with (first | ((with_reducible apply tp); rfl; rfl; intro _ _ _) | ((with_reducible apply tr); rfl; intro _ _) | ((with_reducible apply te); rfl; intro _ _) | (with_reducible rfl) | (with_reducible apply tn) | ((with_reducible apply wp_txt); kernel_rfl; decide +kernel))
  refine hnum.mono ?_
  rintro e w2 ⟨rfl, n2⟩
  have hA2 := (unhide HA).new n2
  have rA := hA2.row
  have hwk := walkR_any h hh 16 i hi (by decide) w2
  have HB2 := hide ((unhide HB).new n2)
  have HN2 := hide ((unhide HN).trans n2)
  clear hnum n2 hA2 HA HB HN
  generalize chainI h i 16 = K at *
  go_wp2_with (first | ((with_reducible apply tp); rfl; rfl; intro _ _ _) | ((with_reducible apply tr); rfl; intro _ _) | ((with_reducible apply te); rfl; intro _ _) | (with_reducible rfl) | (with_reducible apply tn) | ((with_reducible apply wp_txt); kernel_rfl; decide +kernel))
  refine hwk.mono ?_
  rintro e w3 ⟨rfl, n3⟩
  have hB3 := (unhide HB2).new n3
  have hst := hB3.stOk K hKl
  have HF := hide (hB3.put K hKl)
  have HN3 := hide (((unhide HN2).trans n3).then (upd_sets (w := w3) (b := B) (hshV K)) (fun i hi e => by omega))
  clear hwk hB3 n3 rA HB2 HN2
  go_wp2_with (first | ((with_reducible apply tp); rfl; rfl; intro _ _ _) | ((with_reducible apply tr); rfl; intro _ _) | ((with_reducible apply te); rfl; intro _ _) | (with_reducible rfl) | (with_reducible apply tn) | ((with_reducible apply wp_txt); kernel_rfl; decide +kernel))
  refine bodyPost_ret (results_row_tmp' rfl _ _ B _ _ _ _ rfl (unhide HF).at_ Tryz.underlying28 rfl (by rw [List.size_toArray, hshV_len, hKl]; exact Tryz.infoHsh)) rfl ?_
  exact ⟨rfl, unhide HN3⟩

end Go.Proofs.YtjpmomdechibmaaGreatDoor

/-
  Law 13: what ChannelSecrets comes to, in plain values: one payment behind the other.
-/
namespace Go.Proofs.YtjpmomdechibmaaGreatDoor
set_option linter.unusedVariables false
set_option linter.unusedSimpArgs false
open Go.RowKit

/-- The pair behind i payments of one. -/
def SecSt (i : Nat) (P : Pr) : Prop := ∃ (X Y sg j : Int) (sa sb : List KeptV) (la lb : List MsgV) (ra rb : Bool), X = 100000 - (i : Int) ∧ Y = (i : Int) ∧ sg = 2 * (i : Int) ∧ j = (i : Int) ∧ ToldL (seedI 2) sa ∧ ToldL (seedI 1) sb ∧
  P = ⟨eA 100000 100000 X Y sa [] la ⟨sg, sg, false, j, 0, false, false, ra⟩ [], eB 100000 100000 X Y sb [] lb ⟨sg, sg, false, 0, j, false, false, rb⟩ [], [], [], false⟩
theorem sec_start : SecSt 0 ⟨Ch.new (setA 100000 100000), Ch.new (setB 100000 100000), [], [], false⟩ := by
  refine ⟨100000, 0, 0, 0, List.replicate 17 .zero, List.replicate 17 .zero, [], [], false, false, rfl, rfl, rfl, rfl, told_zero _, told_zero _, ?_⟩
  rw [newA, newB ⟨by decide, by decide⟩ (by decide)]
  rfl
structure SecWay (i : Nat) (P : Pr) (A1 : Ch) (M : MsgV) (P2 : Pr) (B : Ch) (F : MsgV) (P3 : Pr) : Prop where
  off : P.a.offer 1 (hO 1) 5 = (A1, M, 0)
  few : P.a.news = [] ∧ P.a.xs = [] ∧ P.wb = []
  ok : MsgOk M
  go : Rests 500 ⟨A1, P.b, P.wa, [M], P.bad⟩ P2
  ful : P2.b.fulfill (i : Int) (preI 1) = (B, F, 0)
  none : P2.wa = [] ∧ P2.b.news = []
  okF : MsgOk F
  go2 : Rests 500 ⟨P2.a, B, [F], P2.wb, P2.bad⟩ P3
  next : SecSt (i + 1) P3
theorem sec_step {i : Nat} {P : Pr} (hi : i < 12) (h : SecSt i P) : ∃ A1 M P2 B F P3, SecWay i P A1 M P2 B F P3 := by
  obtain ⟨X, Y, sg, j, sa, sb, la, lb, ra, rb, hX, hY, hs, rfl, ta, tb, rfl⟩ := h
  have hb : ∀ b ∈ (hO 1).toList, 0 ≤ b ∧ b ≤ 255 := by rw [hO_list]; exact ofI_bytes _
  obtain ⟨sa', sb', la', lb', ta', tb', r1⟩ := rests_first (o := 100000) (c := 100000) (n := 1) (x := X - 1) (y := Y) (sg := sg) (j := (i : Int)) (h := hO 1) (ra := ra) (rb := rb) (bad := false) (sa := sa) (sb := sb) (la := la) (lb := lb) ⟨by omega, by omega⟩ ⟨by decide, by decide⟩ ⟨by omega, by omega⟩ (by omega) hb ta tb
  obtain ⟨sa1, sb1, la1, lb1, ta1, tb1, r2⟩ := rests_second (o := 100000) (c := 100000) (n := 1) (x := X - 1) (y := Y) (sg := sg + 1) (j := (i : Int)) (h := hO 1) (pd := true) (bad := false) (sa := sa') (sb := sb') (la := la') (lb := lb') ⟨by omega, by omega⟩ ta' tb' (hfulA (p := preI 1) ⟨by omega, by omega⟩ (preI_len 1) (preI_bytes 1) (by rw [hO_list]; exact opens_own _) ta' (by show sg + 1 ≤ 65535; omega))
  rw [show X - 1 + 1 = X by omega] at r1
  refine ⟨_, _, _, _, _, _, offA_good (h := hO 1) ⟨by decide, by omega⟩ ⟨by omega, by omega⟩, ⟨rfl, rfl, rfl⟩, pM_ok ⟨by decide, by decide⟩ ⟨by omega, by omega⟩ hb, r1, fulB_good (j := (i : Int)) (by rw [hO_list]; exact opens_own _), ⟨rfl, rfl⟩, fulM_ok (j := (i : Int)) ⟨by omega, by omega⟩ (preI_len 1) (preI_bytes 1), r2, ?_⟩
  · refine ⟨X - 1, Y + 1, sg + 1 + 1, (i : Int) + 1, sa1, sb1, la1, lb1, false, true, by omega, by omega, by omega, by omega, ta1, tb1, ?_⟩
    have e1 : goneI (!true) 1 (X - 1) = X - 1 := rfl
    have e2 : goneI true 1 Y = Y + 1 := wrapU (by omega) (by omega)
    rw [e1, e2]
/-- What is read of the end at last. -/
theorem sec_end {i : Nat} {P : Pr} (hi : i ≤ 12) (h : SecSt i P) : P.b.k.heard = ((2 * i : Nat) : Int) ∧ P.b.s.seed = seedI 2 ∧ P.bad = false := by
  obtain ⟨X, Y, sg, j, sa, sb, la, lb, ra, rb, hX, hY, hs, hj, ta, tb, rfl⟩ := h
  exact ⟨by show sg = _; omega, rfl, rfl⟩

end Go.Proofs.YtjpmomdechibmaaGreatDoor

/-
  Law 13: Counts and Secret of the second end, over the pair beside messages.
-/
namespace Go.Proofs.YtjpmomdechibmaaGreatDoor
set_option linter.unusedVariables false
set_option linter.unusedSimpArgs false
open Go.RowKit

section
variable {w0 w : World} {p g0 : Nat} {P : Pr} {Ks : List (Nat × MsgV)}
theorem counts1L (hT : Tb w0) (H : PrL w0 w p P Ks) (hg : w.cell? ⟨p, 1, none⟩ = some (.pointer (some ⟨g0, 0, none⟩))) :
    Calls Tryz.prog 28 #[.pointer (some ⟨g0, 0, none⟩)] w (Makes (.tuple #[.int .i64 P.b.k.signed, .int .i64 P.b.k.heard, .bool P.b.k.awaits]) w) := by
  obtain ⟨g, S', h1, h2, h3, h4, h5⟩ := H.endB hT
  obtain rfl := ptr_eq hg h1
  exact (counts_any g S' P.b w h2).mono fun e w' h => ⟨h.1, h.2.upd _⟩
theorem secret1L (hT : Tb w0) (H : PrL w0 w p P Ks) (hg : w.cell? ⟨p, 1, none⟩ = some (.pointer (some ⟨g0, 0, none⟩))) (n : Int) (hn : -9223372036854775808 ≤ n ∧ n ≤ 9223372036854775807) :
    Calls Tryz.prog 29 #[.pointer (some ⟨g0, 0, none⟩), .int .i64 n] w (Makes (.tuple #[.agg (hshV (P.b.secret n).1).toArray, .int .i64 (P.b.secret n).2]) w) := by
  obtain ⟨g, S', h1, h2, h3, h4, h5⟩ := H.endB hT
  obtain rfl := ptr_eq hg h1
  exact secret_any g S' P.b n w h2 h4.tabs hn
end

end Go.Proofs.YtjpmomdechibmaaGreatDoor

/-
  The law ChannelSecrets.
-/
namespace Go.Proofs.YtjpmomdechibmaaGreatDoor
set_option linter.unusedVariables false
set_option linter.unusedSimpArgs false
open Go.RowKit

attribute [local go_sem ↓ high] ld_hsh_fold st_hsh_fold al_hsh_fold bd_hsh_fold ld_msg_fold st_msg_fold al_msg_fold bd_msg_fold ne_hsh_fold
attribute [local go_sem] ld_hsh st_hsh al_hsh bd_hsh1 rowN_drew ld_msg st_msg al_msg bd_msg_zero

theorem secret_told {c : Ch} {k : Int} (hs : c.s.seed = seedI 2) (h0 : 0 ≤ k) (h1 : k < c.k.heard) (h2 : k ≤ 65535) : c.secret k = ((makeI (seedI 2) (65535 - k)).1, 0) := by
  unfold Ch.secret
  rw [if_neg (by omega), hs]
  unfold makeI
  rw [if_pos (num_yes (by omega) (by omega))]
theorem secret_none (c : Ch) : c.secret c.k.heard = (z32i, 1) := by
  unfold Ch.secret
  rw [if_pos (.inr (Int.le_refl _))]

set_option maxRecDepth 100000 in
set_option maxHeartbeats 4000000 in
theorem secrets_law (n : Int) (w : World) (hn : 0 ≤ n ∧ n ≤ 255) (hT : Tb w) : Calls Tryz.prog 6 #[.int .u8 n] w (Makes (.bool true) w) := by
  obtain ⟨m, hm⟩ : ∃ m : Nat, m = n.toNat % 12 := ⟨_, rfl⟩
  have hmb : m < 12 := by omega
  have hmod : n.tmod 12 = (m : Int) := by rw [Int.tmod_eq_emod_of_nonneg hn.1]; omega
  have hw1 : IntKind.i64.wrap n = n := wrapI (by omega) (by omega)
  have hwm : IntKind.i64.wrap (m : Int) = (m : Int) := wrapI (by omega) (by omega)
  clear hm
  go_enter Tryz.func6, Tryz.ntmps6
  go_wp2_with fail
  refine (begin_any 100000 100000 ⟨by decide, by decide⟩ ⟨by decide, by decide⟩ w).mono ?_
  rintro e w1 (⟨p, gA0, gB0, rfl, -, hP⟩ | ⟨-, hno, -⟩)
  case inr => exact absurd ⟨by decide, by decide, by decide⟩ hno
  have HL : Hid (PrL w w1 p ⟨Ch.new (setA 100000 100000), Ch.new (setB 100000 100000), [], [], false⟩ []) := hide (PrL.start hP.toS)
  have hsh := shown_any w1 (hT.new hP.two.n)
  clear hP
  go_wp2_with fail
  refine hsh.mono ?_
  rintro e w2 ⟨rfl, n2⟩
  have HL2 : Hid (∃ P, PrL w w2 p P [] ∧ SecSt 0 P) := hide ⟨_, (unhide HL).new n2, sec_start⟩
  clear HL hsh n2
  go_wp2_with fail
  go_loopw [5] (fun iv wr => ∃ i : Nat, iv = .int .i64 (i : Int) ∧ i ≤ m ∧ Hid (∃ P, PrL w wr p P [] ∧ SecSt i P)) (fun iv _ => m - (intOf iv).toNat)
  case atStart => exact ⟨0, rfl, Nat.zero_le _, HL2⟩
  case round =>
    obtain ⟨i, rfl, hi, HH⟩ := hrel
    obtain ⟨wq, rfl⟩ : ∃ wq : World, wq = wr := ⟨_, rfl⟩
    obtain ⟨P, hL, hS⟩ := unhide HH
    obtain ⟨gA, gB, cA, cB, cD⟩ := hL.cells
    have HL := hide hL
    clear HH HL2 hL
    by_cases hlt : i < m
    · obtain ⟨A1, M, P2, B, F, P3, W⟩ := sec_step (by omega) hS
      have hlti : (i : Int) < (m : Int) := by omega
      have hMl := W.ok.len
      have hFl := W.okF.len
      have HW := hide W
      have cAd : wq.drew.cell? ⟨p, 0, none⟩ = some (.pointer (some ⟨gA, 0, none⟩)) := cA
      have hpr := fun W => preimage_any 1 ⟨by decide, by decide⟩ W
      have hof := fun W => refOf_any (preI 1) (preI_len 1) W
      clear W hS cB cD
      go_upto_region 8 with (first | ((with_reducible apply tp); rfl; rfl; intro _ _ _) | ((with_reducible apply tr); rfl; intro _ _) | ((with_reducible apply te); rfl; intro _ _) | (with_reducible rfl) | (with_reducible apply tn) | ((with_reducible apply wp_txt); kernel_rfl; decide +kernel))
      go_cut [6, 7] from 34 to 45 (fun kv ev wx => ∃ K, kv = .pointer (some ⟨K, 0, none⟩) ∧ ev = .int .i64 0 ∧ PrL w wx p ⟨A1, P.b, P.wa, P.wb, P.bad⟩ [(K, M)])
      case first =>
        refine wp_plan (fun w' => w'.cell? ⟨p, 0, none⟩ = some (.pointer (some ⟨gA, 0, none⟩))) [4] (.fork (.of [11, 0, 1, 2, 3, 4, 5, 6, 7, 8, 9, 10, 12, 13]) (Plan.pre [0, 1, 2, 3, 4, 5] (.fork (.of [11, 6, 7, 8, 9, 10, 12, 13]) (Plan.pre [6] (.fork (.of [11, 7, 8, 9, 10, 12, 13]) (.of [7, 8, 9, 10, 11, 12, 13])))))) (by kernel_rfl) (by kernel_rfl) cAd ?_
        simp only [Plan.of, Plan.pre]
        refine qf ?_ ?_
        · go_wp2_with (first | ((with_reducible apply qp); rfl; rfl; rfl; intro _ _ _) | ((with_reducible apply qc); rfl; rfl; rfl; with_reducible assumption; intro _ hC _ _) | ((with_reducible apply qr); rfl; rfl; intro _ _) | ((with_reducible apply qd); rfl; rfl; decide +kernel; intro _ _) | ((with_reducible apply qe); rfl; rfl; intro _ _) | (with_reducible rfl) | (with_reducible apply qn))
          have c3 : ((wq.alloc (.cells MsgV.zero.cells.toArray 30)).drew).cell? ⟨p, 0, none⟩ = some (.pointer (some ⟨gA, 0, none⟩)) := (((Upd.refl (fun _ => False) wq).alloc _).drew.cell cA (fun h => h))
          have H3 := (unhide HL).alloc.new ((Upd.refl (fun _ => False) (wq.alloc (.cells MsgV.zero.cells.toArray 30))).drew)
          first | refine ⟨c3, ?_⟩ | skip
          generalize (wq.alloc (.cells MsgV.zero.cells.toArray 30)).drew = wa3 at c3 H3 ⊢
          generalize wq.heap.size = K3 at H3 ⊢
          have H3 := hide H3
          try go_wp2_with (first | ((with_reducible apply qp); rfl; rfl; rfl; intro _ _ _) | ((with_reducible apply qc); rfl; rfl; rfl; with_reducible assumption; intro _ hC _ _) | ((with_reducible apply qr); rfl; rfl; intro _ _) | ((with_reducible apply qd); rfl; rfl; decide +kernel; intro _ _) | ((with_reducible apply qe); rfl; rfl; intro _ _) | (with_reducible rfl) | (with_reducible apply qn))
          refine (hpr wa3).mono ?_
          rintro e w4 ⟨rfl, n4⟩
          have n4 := n4
          have c4 := n4.cell c3 (fun h => h)
          have H4 := hide ((unhide H3).new n4)
          go_wp2_with (first | (first | ((with_reducible apply qp); rfl; rfl; rfl; intro _ _ _) | ((with_reducible apply qc); rfl; rfl; rfl; with_reducible assumption; intro _ hC _ _) | ((with_reducible apply qr); rfl; rfl; intro _ _) | ((with_reducible apply qd); rfl; rfl; decide +kernel; intro _ _) | ((with_reducible apply qe); rfl; rfl; intro _ _) | (with_reducible rfl) | (with_reducible apply qn)) | refine ⟨c4, ?_⟩)
          refine (hof w4).mono ?_
          rintro e w5 ⟨rfl, n5⟩
          have n5 := n5
          have c5 := n5.cell c4 (fun h => h)
          have H5 := hide ((unhide H4).new n5)
          go_wp2_with (first | (first | ((with_reducible apply qp); rfl; rfl; rfl; intro _ _ _) | ((with_reducible apply qc); rfl; rfl; rfl; with_reducible assumption; intro _ hC _ _) | ((with_reducible apply qr); rfl; rfl; intro _ _) | ((with_reducible apply qd); rfl; rfl; decide +kernel; intro _ _) | ((with_reducible apply qe); rfl; rfl; intro _ _) | (with_reducible rfl) | (with_reducible apply qn)) | refine ⟨c5, ?_⟩)
          have hcall := offer0L hT (unhide H5) c5 1 (ofI (preI 1)) 5 (ofI_len _) (ofI_bytes _) ⟨by decide, by decide⟩ ⟨by decide, by decide⟩ ⟨by rw [(unhide HW).few.1]; decide, by rw [(unhide HW).few.2.1]; decide⟩
          rw [show P.a.offer 1 (hvec (ofI (preI 1))) 5 = (A1, M, 0) from (unhide HW).off] at hcall
          refine hcall.mono ?_
          rintro e w6 ⟨rfl, H6, kp6⟩
          have c6 := kp6 _ _ c5
          have H6 := hide H6
          clear hcall kp6
          have hst := ((unhide H6).msb (List.mem_cons_self ..)).stOk hMl
          have H7 := hide ((unhide H6).put hMl)
          go_wp2_with (first | (first | ((with_reducible apply qp); rfl; rfl; rfl; intro _ _ _) | ((with_reducible apply qc); rfl; rfl; rfl; with_reducible assumption; intro _ hC _ _) | ((with_reducible apply qr); rfl; rfl; intro _ _) | ((with_reducible apply qd); rfl; rfl; decide +kernel; intro _ _) | ((with_reducible apply qe); rfl; rfl; intro _ _) | (with_reducible rfl) | (with_reducible apply qn)) | refine ⟨c6, ?_⟩)
          go_meet
          case rel => exact ⟨K3, rfl, rfl, unhide H7⟩
        · go_wp2_with (first | ((with_reducible apply qp); rfl; rfl; rfl; intro _ _ _) | ((with_reducible apply qc); rfl; rfl; rfl; with_reducible assumption; intro _ hC _ _) | ((with_reducible apply qr); rfl; rfl; intro _ _) | ((with_reducible apply qd); rfl; rfl; decide +kernel; intro _ _) | ((with_reducible apply qe); rfl; rfl; intro _ _) | (with_reducible rfl) | (with_reducible apply qn))
          refine (hpr wq.drew).mono ?_
          rintro e w3 ⟨rfl, n3⟩
          have n3 := n3.ofDrew
          have c3 := n3.cell cA (fun h => h)
          have H3 := hide ((unhide HL).new n3)
          go_wp2_with (first | (first | ((with_reducible apply qp); rfl; rfl; rfl; intro _ _ _) | ((with_reducible apply qc); rfl; rfl; rfl; with_reducible assumption; intro _ hC _ _) | ((with_reducible apply qr); rfl; rfl; intro _ _) | ((with_reducible apply qd); rfl; rfl; decide +kernel; intro _ _) | ((with_reducible apply qe); rfl; rfl; intro _ _) | (with_reducible rfl) | (with_reducible apply qn)) | refine ⟨c3, ?_⟩)
          refine qf ?_ ?_
          · go_wp2_with (first | ((with_reducible apply qp); rfl; rfl; rfl; intro _ _ _) | ((with_reducible apply qc); rfl; rfl; rfl; with_reducible assumption; intro _ hC _ _) | ((with_reducible apply qr); rfl; rfl; intro _ _) | ((with_reducible apply qd); rfl; rfl; decide +kernel; intro _ _) | ((with_reducible apply qe); rfl; rfl; intro _ _) | (with_reducible rfl) | (with_reducible apply qn))
            have c4 : ((w3.alloc (.cells MsgV.zero.cells.toArray 30))).cell? ⟨p, 0, none⟩ = some (.pointer (some ⟨gA, 0, none⟩)) := (((Upd.refl (fun _ => False) w3).alloc _).cell c3 (fun h => h))
            have H4 := (unhide H3).alloc
            first | refine ⟨c4, ?_⟩ | skip
            generalize (w3.alloc (.cells MsgV.zero.cells.toArray 30)) = wa4 at c4 H4 ⊢
            generalize w3.heap.size = K4 at H4 ⊢
            have H4 := hide H4
            try go_wp2_with (first | ((with_reducible apply qp); rfl; rfl; rfl; intro _ _ _) | ((with_reducible apply qc); rfl; rfl; rfl; with_reducible assumption; intro _ hC _ _) | ((with_reducible apply qr); rfl; rfl; intro _ _) | ((with_reducible apply qd); rfl; rfl; decide +kernel; intro _ _) | ((with_reducible apply qe); rfl; rfl; intro _ _) | (with_reducible rfl) | (with_reducible apply qn))
            refine (hof wa4).mono ?_
            rintro e w5 ⟨rfl, n5⟩
            have n5 := n5
            have c5 := n5.cell c4 (fun h => h)
            have H5 := hide ((unhide H4).new n5)
            go_wp2_with (first | (first | ((with_reducible apply qp); rfl; rfl; rfl; intro _ _ _) | ((with_reducible apply qc); rfl; rfl; rfl; with_reducible assumption; intro _ hC _ _) | ((with_reducible apply qr); rfl; rfl; intro _ _) | ((with_reducible apply qd); rfl; rfl; decide +kernel; intro _ _) | ((with_reducible apply qe); rfl; rfl; intro _ _) | (with_reducible rfl) | (with_reducible apply qn)) | refine ⟨c5, ?_⟩)
            have hcall := offer0L hT (unhide H5) c5 1 (ofI (preI 1)) 5 (ofI_len _) (ofI_bytes _) ⟨by decide, by decide⟩ ⟨by decide, by decide⟩ ⟨by rw [(unhide HW).few.1]; decide, by rw [(unhide HW).few.2.1]; decide⟩
            rw [show P.a.offer 1 (hvec (ofI (preI 1))) 5 = (A1, M, 0) from (unhide HW).off] at hcall
            refine hcall.mono ?_
            rintro e w6 ⟨rfl, H6, kp6⟩
            have c6 := kp6 _ _ c5
            have H6 := hide H6
            clear hcall kp6
            have hst := ((unhide H6).msb (List.mem_cons_self ..)).stOk hMl
            have H7 := hide ((unhide H6).put hMl)
            go_wp2_with (first | (first | ((with_reducible apply qp); rfl; rfl; rfl; intro _ _ _) | ((with_reducible apply qc); rfl; rfl; rfl; with_reducible assumption; intro _ hC _ _) | ((with_reducible apply qr); rfl; rfl; intro _ _) | ((with_reducible apply qd); rfl; rfl; decide +kernel; intro _ _) | ((with_reducible apply qe); rfl; rfl; intro _ _) | (with_reducible rfl) | (with_reducible apply qn)) | refine ⟨c6, ?_⟩)
            go_meet
            case rel => exact ⟨K4, rfl, rfl, unhide H7⟩
          · go_wp2_with (first | ((with_reducible apply qp); rfl; rfl; rfl; intro _ _ _) | ((with_reducible apply qc); rfl; rfl; rfl; with_reducible assumption; intro _ hC _ _) | ((with_reducible apply qr); rfl; rfl; intro _ _) | ((with_reducible apply qd); rfl; rfl; decide +kernel; intro _ _) | ((with_reducible apply qe); rfl; rfl; intro _ _) | (with_reducible rfl) | (with_reducible apply qn))
            refine (hof w3).mono ?_
            rintro e w4 ⟨rfl, n4⟩
            have n4 := n4
            have c4 := n4.cell c3 (fun h => h)
            have H4 := hide ((unhide H3).new n4)
            go_wp2_with (first | (first | ((with_reducible apply qp); rfl; rfl; rfl; intro _ _ _) | ((with_reducible apply qc); rfl; rfl; rfl; with_reducible assumption; intro _ hC _ _) | ((with_reducible apply qr); rfl; rfl; intro _ _) | ((with_reducible apply qd); rfl; rfl; decide +kernel; intro _ _) | ((with_reducible apply qe); rfl; rfl; intro _ _) | (with_reducible rfl) | (with_reducible apply qn)) | refine ⟨c4, ?_⟩)
            refine qf ?_ ?_
            · go_wp2_with (first | ((with_reducible apply qp); rfl; rfl; rfl; intro _ _ _) | ((with_reducible apply qc); rfl; rfl; rfl; with_reducible assumption; intro _ hC _ _) | ((with_reducible apply qr); rfl; rfl; intro _ _) | ((with_reducible apply qd); rfl; rfl; decide +kernel; intro _ _) | ((with_reducible apply qe); rfl; rfl; intro _ _) | (with_reducible rfl) | (with_reducible apply qn))
              have c5 : ((w4.alloc (.cells MsgV.zero.cells.toArray 30))).cell? ⟨p, 0, none⟩ = some (.pointer (some ⟨gA, 0, none⟩)) := (((Upd.refl (fun _ => False) w4).alloc _).cell c4 (fun h => h))
              have H5 := (unhide H4).alloc
              first | refine ⟨c5, ?_⟩ | skip
              generalize (w4.alloc (.cells MsgV.zero.cells.toArray 30)) = wa5 at c5 H5 ⊢
              generalize w4.heap.size = K5 at H5 ⊢
              have H5 := hide H5
              try go_wp2_with (first | ((with_reducible apply qp); rfl; rfl; rfl; intro _ _ _) | ((with_reducible apply qc); rfl; rfl; rfl; with_reducible assumption; intro _ hC _ _) | ((with_reducible apply qr); rfl; rfl; intro _ _) | ((with_reducible apply qd); rfl; rfl; decide +kernel; intro _ _) | ((with_reducible apply qe); rfl; rfl; intro _ _) | (with_reducible rfl) | (with_reducible apply qn))
              have hcall := offer0L hT (unhide H5) c5 1 (ofI (preI 1)) 5 (ofI_len _) (ofI_bytes _) ⟨by decide, by decide⟩ ⟨by decide, by decide⟩ ⟨by rw [(unhide HW).few.1]; decide, by rw [(unhide HW).few.2.1]; decide⟩
              rw [show P.a.offer 1 (hvec (ofI (preI 1))) 5 = (A1, M, 0) from (unhide HW).off] at hcall
              refine hcall.mono ?_
              rintro e w6 ⟨rfl, H6, kp6⟩
              have c6 := kp6 _ _ c5
              have H6 := hide H6
              clear hcall kp6
              have hst := ((unhide H6).msb (List.mem_cons_self ..)).stOk hMl
              have H7 := hide ((unhide H6).put hMl)
              go_wp2_with (first | (first | ((with_reducible apply qp); rfl; rfl; rfl; intro _ _ _) | ((with_reducible apply qc); rfl; rfl; rfl; with_reducible assumption; intro _ hC _ _) | ((with_reducible apply qr); rfl; rfl; intro _ _) | ((with_reducible apply qd); rfl; rfl; decide +kernel; intro _ _) | ((with_reducible apply qe); rfl; rfl; intro _ _) | (with_reducible rfl) | (with_reducible apply qn)) | refine ⟨c6, ?_⟩)
              go_meet
              case rel => exact ⟨K5, rfl, rfl, unhide H7⟩
            · go_wp2_with (first | ((with_reducible apply qp); rfl; rfl; rfl; intro _ _ _) | ((with_reducible apply qc); rfl; rfl; rfl; with_reducible assumption; intro _ hC _ _) | ((with_reducible apply qr); rfl; rfl; intro _ _) | ((with_reducible apply qd); rfl; rfl; decide +kernel; intro _ _) | ((with_reducible apply qe); rfl; rfl; intro _ _) | (with_reducible rfl) | (with_reducible apply qn))
              have hcall := offer0L hT (unhide H4) c4 1 (ofI (preI 1)) 5 (ofI_len _) (ofI_bytes _) ⟨by decide, by decide⟩ ⟨by decide, by decide⟩ ⟨by rw [(unhide HW).few.1]; decide, by rw [(unhide HW).few.2.1]; decide⟩
              rw [show P.a.offer 1 (hvec (ofI (preI 1))) 5 = (A1, M, 0) from (unhide HW).off] at hcall
              refine hcall.mono ?_
              rintro e w5 ⟨rfl, H5, kp5⟩
              have c5 := kp5 _ _ c4
              have H5 := hide H5
              clear hcall kp5
              go_wp2_with (first | (first | ((with_reducible apply qp); rfl; rfl; rfl; intro _ _ _) | ((with_reducible apply qc); rfl; rfl; rfl; with_reducible assumption; intro _ hC _ _) | ((with_reducible apply qr); rfl; rfl; intro _ _) | ((with_reducible apply qd); rfl; rfl; decide +kernel; intro _ _) | ((with_reducible apply qe); rfl; rfl; intro _ _) | (with_reducible rfl) | (with_reducible apply qn)) | refine ⟨c5, ?_⟩)
              have c6 : ((w5.alloc (.cells MsgV.zero.cells.toArray 30))).cell? ⟨p, 0, none⟩ = some (.pointer (some ⟨gA, 0, none⟩)) := (((Upd.refl (fun _ => False) w5).alloc _).cell c5 (fun h => h))
              have H6 := (unhide H5).alloc
              first | refine ⟨c6, ?_⟩ | skip
              generalize (w5.alloc (.cells MsgV.zero.cells.toArray 30)) = wa6 at c6 H6 ⊢
              generalize w5.heap.size = K6 at H6 ⊢
              have H6 := hide H6
              have hst := ((unhide H6).msb (List.mem_cons_self ..)).stOk hMl
              have H7 := hide ((unhide H6).put hMl)
              try go_wp2_with (first | ((with_reducible apply qp); rfl; rfl; rfl; intro _ _ _) | ((with_reducible apply qc); rfl; rfl; rfl; with_reducible assumption; intro _ hC _ _) | ((with_reducible apply qr); rfl; rfl; intro _ _) | ((with_reducible apply qd); rfl; rfl; decide +kernel; intro _ _) | ((with_reducible apply qe); rfl; rfl; intro _ _) | (with_reducible rfl) | (with_reducible apply qn))
              go_meet
              case rel => exact ⟨K6, rfl, rfl, unhide H7⟩
      case rest =>
        obtain ⟨K, rfl, rfl, hX⟩ := hcut
        obtain ⟨w3, rfl⟩ : ∃ w3 : World, w3 = wc := ⟨_, rfl⟩
        have rK := (hX.msb (List.mem_cons_self ..)).row
        have hsay := says0L hX M 0 (unhide HW).ok (by rw [show (Pr.mk A1 P.b P.wa P.wb P.bad).wb = [] from (unhide HW).few.2.2]; decide)
        clear hX hof cA cAd HL
        go_wp2_with (first | ((with_reducible apply tp); rfl; rfl; intro _ _ _) | ((with_reducible apply tr); rfl; intro _ _) | ((with_reducible apply te); rfl; intro _ _) | (with_reducible rfl) | (with_reducible apply tn) | ((with_reducible apply wp_txt); kernel_rfl; decide +kernel))
        refine hsay.mono ?_
        rintro e w4 ⟨rfl, h4⟩
        have h4' : PrL w w4 p ⟨A1, P.b, P.wa, [M], P.bad⟩ [(K, M)] := by
          have e2 := (unhide HW).few.2.2
          have := h4
          simp only [eq_self, if_true, e2, List.nil_append] at this
          exact this
        have hre := restsL hT h4' (unhide HW).go
        clear hsay rK h4 h4'
        go_wp2_with (first | ((with_reducible apply tp); rfl; rfl; intro _ _ _) | ((with_reducible apply tr); rfl; intro _ _) | ((with_reducible apply te); rfl; intro _ _) | (with_reducible rfl) | (with_reducible apply tn) | ((with_reducible apply wp_txt); kernel_rfl; decide +kernel))
        refine hre.mono ?_
        rintro e w5 ⟨rfl, h5⟩
        obtain ⟨gA5, gB5, -, cB, -⟩ := h5.cells
        have cBd : w5.drew.cell? ⟨p, 1, none⟩ = some (.pointer (some ⟨gB5, 0, none⟩)) := cB
        have hwi : IntKind.u64.wrap (i : Int) = (i : Int) := wrapU (by omega) (by omega)
        have H5 := hide h5
        clear hre h5
        go_upto_region 11 with (first | ((with_reducible apply tp); rfl; rfl; intro _ _ _) | ((with_reducible apply tr); rfl; intro _ _) | ((with_reducible apply te); rfl; intro _ _) | (with_reducible rfl) | (with_reducible apply tn) | ((with_reducible apply wp_txt); kernel_rfl; decide +kernel))
        refine wp_plan (fun w' => w'.cell? ⟨p, 1, none⟩ = some (.pointer (some ⟨gB5, 0, none⟩))) [4, 6] (.of [0, 1, 2, 3, 4, 5, 6, 7, 8, 9, 10, 11, 12, 13]) (by kernel_rfl) (by kernel_rfl) cBd ?_
        simp only [Plan.of]
        go_wp2_with (first | ((with_reducible apply qp); rfl; rfl; rfl; intro _ _ _) | ((with_reducible apply qc); rfl; rfl; rfl; with_reducible assumption; intro _ hC _ _) | ((with_reducible apply qr); rfl; rfl; intro _ _) | ((with_reducible apply qd); rfl; rfl; decide +kernel; intro _ _) | ((with_reducible apply qe); rfl; rfl; intro _ _) | (with_reducible rfl) | (with_reducible apply qn))
        refine (hpr _).mono ?_
        rintro e w7 ⟨rfl, n7⟩
        have n7 := n7.ofDrew
        have c7 := n7.cell cB (fun h => h)
        have hfu := fulfill1L hT ((unhide H5).new n7) c7 (i : Int) (preI 1) (preI_len _) (by rw [(unhide HW).none.2]; decide)
        rw [(unhide HW).ful] at hfu
        clear hpr n7
        go_wp2_with (first | (first | ((with_reducible apply qp); rfl; rfl; rfl; intro _ _ _) | ((with_reducible apply qc); rfl; rfl; rfl; with_reducible assumption; intro _ hC _ _) | ((with_reducible apply qr); rfl; rfl; intro _ _) | ((with_reducible apply qd); rfl; rfl; decide +kernel; intro _ _) | ((with_reducible apply qe); rfl; rfl; intro _ _) | (with_reducible rfl) | (with_reducible apply qn)) | refine ⟨c7, ?_⟩)
        refine hfu.mono ?_
        rintro e w8 ⟨rfl, h7, kp⟩
        have c8 := kp _ _ c7
        have hst := (h7.msb (List.mem_cons_self ..)).stOk hFl
        have H8 := hide (h7.put hFl)
        clear hfu h7 H5 cB kp c7 cBd
        go_upto_region 12 with (first | (first | ((with_reducible apply qp); rfl; rfl; rfl; intro _ _ _) | ((with_reducible apply qc); rfl; rfl; rfl; with_reducible assumption; intro _ hC _ _) | ((with_reducible apply qr); rfl; rfl; intro _ _) | ((with_reducible apply qd); rfl; rfl; decide +kernel; intro _ _) | ((with_reducible apply qe); rfl; rfl; intro _ _) | (with_reducible rfl) | (with_reducible apply qn)) | refine ⟨c8, ?_⟩)
        generalize w8.setCells K 0 F.cells = w9 at H8 ⊢
        clear hst
        have rK := ((unhide H8).msb (List.mem_cons_self ..)).row
        have hsay := says1L (unhide H8) F 0 (unhide HW).okF (show P2.wa.length < 1000000 by rw [(unhide HW).none.1]; decide)
        go_wp2_with (first | ((with_reducible apply tp); rfl; rfl; intro _ _ _) | ((with_reducible apply tr); rfl; intro _ _) | ((with_reducible apply te); rfl; intro _ _) | (with_reducible rfl) | (with_reducible apply tn) | ((with_reducible apply wp_txt); kernel_rfl; decide +kernel))
        refine hsay.mono ?_
        rintro e w10 ⟨rfl, h9⟩
        have h9' : PrL w w10 p ⟨P2.a, B, [F], P2.wb, P2.bad⟩ [(K, F)] := by
          have e1 := (unhide HW).none.1
          have := h9
          simp only [eq_self, if_true, e1, List.nil_append] at this
          exact this
        have hre := restsL hT h9' (unhide HW).go2
        clear hsay rK h9 h9' H8
        go_wp2_with (first | ((with_reducible apply tp); rfl; rfl; intro _ _ _) | ((with_reducible apply tr); rfl; intro _ _) | ((with_reducible apply te); rfl; intro _ _) | (with_reducible rfl) | (with_reducible apply tn) | ((with_reducible apply wp_txt); kernel_rfl; decide +kernel))
        refine hre.mono ?_
        rintro e w11 ⟨rfl, h10⟩
        have HF := hide h10.drop
        clear hre h10
        go_wp2_with (first | ((with_reducible apply tp); rfl; rfl; intro _ _ _) | ((with_reducible apply tr); rfl; intro _ _) | ((with_reducible apply te); rfl; intro _ _) | (with_reducible rfl) | (with_reducible apply tn) | ((with_reducible apply wp_txt); kernel_rfl; decide +kernel))
        go_roundw
        case rel => exact ⟨i + 1, by go_num, by omega, hide ⟨P3, unhide HF, (unhide HW).next⟩⟩
        case measure => simp [intOf]; omega
    · obtain rfl : i = m := by omega
      obtain ⟨hh, hsd, hbad⟩ := sec_end (by omega) hS
      have hcn := counts1L hT (unhide HL) cB
      rw [hh] at hcn
      have HHH := hide hh
      have HSD := hide hsd
      rw [hbad] at cD
      clear hS hh hsd hbad cA
      go_wp2_with (first | ((with_reducible apply tp); rfl; rfl; intro _ _ _) | ((with_reducible apply tr); rfl; intro _ _) | ((with_reducible apply te); rfl; intro _ _) | (with_reducible rfl) | (with_reducible apply tn) | ((with_reducible apply wp_txt); kernel_rfl; decide +kernel))
      refine hcn.mono ?_
      rintro e w3 ⟨rfl, n3⟩
      have HL3 := hide ((unhide HL).new n3)
      have cB3 := n3.cell cB (fun h => h)
      have cD3 := n3.cell cD (fun h => h)
      obtain ⟨h, hh2⟩ : ∃ h : Nat, h = 2 * i := ⟨_, rfl⟩
      have hb2 : i ≤ h ∧ h ≤ 24 := by omega
      rw [← hh2] at HHH ⊢
      clear hcn n3 HL cB cD hh2
      go_wp2_with (first | ((with_reducible apply tp); rfl; rfl; intro _ _ _) | ((with_reducible apply tr); rfl; intro _ _) | ((with_reducible apply te); rfl; intro _ _) | (with_reducible rfl) | (with_reducible apply tn) | ((with_reducible apply wp_txt); kernel_rfl; decide +kernel))
      go_loopw [12] (fun kv wr => ∃ k : Nat, kv = .int .i64 (k : Int) ∧ k ≤ h ∧ Hid (New w3 wr)) (fun kv _ => h - (intOf kv).toNat)
      case atStart => exact ⟨0, rfl, Nat.zero_le _, hide (Upd.refl _ _)⟩
      case round =>
        obtain ⟨k, rfl, hk, HN⟩ := hrel
        obtain ⟨wz, rfl⟩ : ∃ wz : World, wz = wr := ⟨_, rfl⟩
        have cB4 := (unhide HN).cell cB3 (fun h => h)
        have cD4 := (unhide HN).cell cD3 (fun h => h)
        by_cases hkl : k < h
        · have hkli : (k : Int) < (h : Int) := by omega
          obtain ⟨q, hq⟩ : ∃ q : Nat, q = 65535 - k := ⟨_, rfl⟩
          have hqi : 65535 - (k : Int) = (q : Int) := by omega
          have hwq : IntKind.i64.wrap (65535 - (k : Int)) = (q : Int) := by rw [wrapI (by omega) (by omega)]; exact hqi
          have hsc := secret1L hT ((unhide HL3).new (unhide HN)) cB4 (k : Int) ⟨by omega, by omega⟩
          rw [secret_told (unhide HSD) (by omega) (by rw [unhide HHH]; exact hkli) (by omega), hqi] at hsc
          have hmk := fun W => makeR_any (seedI 2) (seed_len 2) q (by omega) W
          have hTl := makeI_len (seedI 2) (seed_len 2) (q : Int)
          have hTb := makeI_bytes (seedI 2) seed2_bytes (q : Int)
          generalize (makeI (seedI 2) (q : Int)).1 = T at *
          have hne := fun W => ne_hsh hTl hTl hTb hTb W
          simp only [bne_self_eq_false] at hne
          clear hTb hq
          go_wp2_with (first | ((with_reducible apply tp); rfl; rfl; intro _ _ _) | ((with_reducible apply tr); rfl; intro _ _) | ((with_reducible apply te); rfl; intro _ _) | (with_reducible rfl) | (with_reducible apply tn) | ((with_reducible apply wp_txt); kernel_rfl; decide +kernel))
          refine hsc.mono ?_
          rintro e w5 ⟨rfl, n5⟩
          obtain ⟨hst, hK, nK⟩ := hs_fresh w5 T hTl
          have N5 := hide (((unhide HN).trans n5).trans nK)
          clear hsc n5 nK cB4 cD4
          go_upto_region 21 with (first | ((with_reducible apply tp); rfl; rfl; intro _ _ _) | ((with_reducible apply tr); rfl; intro _ _) | ((with_reducible apply te); rfl; intro _ _) | (with_reducible rfl) | (with_reducible apply tn) | ((with_reducible apply wp_txt); kernel_rfl; decide +kernel))
          change Code.wp _ _ _ _ (hsNew w5 T)
          generalize hsNew w5 T = w6 at N5 hK ⊢
          generalize w5.heap.size = K1 at hK ⊢
          have HK := hide hK
          clear hst hK
          go_wp2_with (first | ((with_reducible apply tp); rfl; rfl; intro _ _ _) | ((with_reducible apply tr); rfl; intro _ _) | ((with_reducible apply te); rfl; intro _ _) | (with_reducible rfl) | (with_reducible apply tn) | ((with_reducible apply wp_txt); kernel_rfl; decide +kernel))
          refine (hmk w6).mono ?_
          rintro e w7 ⟨rfl, n7⟩
          obtain ⟨hst, hK2, nK2⟩ := hs_fresh w7 T hTl
          have r1 := (((unhide HK).new n7).new nK2).row
          have r2 := hK2.row
          have N7 := hide (((unhide N5).trans n7).trans nK2)
          clear hmk n7 nK2 hK2 HK N5
          go_upto_region 22 with (first | ((with_reducible apply tp); rfl; rfl; intro _ _ _) | ((with_reducible apply tr); rfl; intro _ _) | ((with_reducible apply te); rfl; intro _ _) | (with_reducible rfl) | (with_reducible apply tn) | ((with_reducible apply wp_txt); kernel_rfl; decide +kernel))
          change Code.wp _ _ _ _ (hsNew w7 T)
          generalize hsNew w7 T = w8 at N7 r1 r2 ⊢
          generalize w7.heap.size = K2 at r2 ⊢
          clear hst
          go_wp2_with (first | ((with_reducible apply tp); rfl; rfl; intro _ _ _) | ((with_reducible apply tr); rfl; intro _ _) | ((with_reducible apply te); rfl; intro _ _) | (with_reducible rfl) | (with_reducible apply tn) | ((with_reducible apply wp_txt); kernel_rfl; decide +kernel))
          go_roundw
          case rel => exact ⟨k + 1, by go_num, by omega, N7⟩
          case measure => simp [intOf]; omega
        · obtain rfl : k = h := by omega
          have hsc := secret1L hT ((unhide HL3).new (unhide HN)) cB4 (k : Int) ⟨by omega, by omega⟩
          rw [show P.b.secret (k : Int) = (z32i, 1) by rw [← unhide HHH]; exact secret_none P.b] at hsc
          go_wp2_with (first | ((with_reducible apply tp); rfl; rfl; intro _ _ _) | ((with_reducible apply tr); rfl; intro _ _) | ((with_reducible apply te); rfl; intro _ _) | (with_reducible rfl) | (with_reducible apply tn) | ((with_reducible apply wp_txt); kernel_rfl; decide +kernel))
          refine hsc.mono ?_
          rintro e w5 ⟨rfl, n5⟩
          obtain ⟨hst, hK, nK⟩ := hs_fresh w5 z32i z32i_len
          have cD5 := (n5.trans nK).cell cD4 (fun h => h)
          have N5 := hide ((((unhide HL3).n.trans (unhide HN)).trans n5).trans nK)
          have hge : (i : Int) ≤ (k : Int) := by omega
          clear hsc n5 nK cB4 cD4 hK
          go_upto_region 25 with (first | ((with_reducible apply tp); rfl; rfl; intro _ _ _) | ((with_reducible apply tr); rfl; intro _ _) | ((with_reducible apply te); rfl; intro _ _) | (with_reducible rfl) | (with_reducible apply tn) | ((with_reducible apply wp_txt); kernel_rfl; decide +kernel))
          change Code.wp _ _ _ _ (hsNew w5 z32i)
          generalize hsNew w5 z32i = w6 at N5 cD5 ⊢
          clear hst
          generalize w5.heap.size = K1
          go_wp2_with (first | ((with_reducible apply tp); rfl; rfl; intro _ _ _) | ((with_reducible apply tr); rfl; intro _ _) | ((with_reducible apply te); rfl; intro _ _) | (with_reducible rfl) | (with_reducible apply tn) | ((with_reducible apply wp_txt); kernel_rfl; decide +kernel))
          go_ret
          exact ⟨rfl, unhide N5⟩

end Go.Proofs.YtjpmomdechibmaaGreatDoor
