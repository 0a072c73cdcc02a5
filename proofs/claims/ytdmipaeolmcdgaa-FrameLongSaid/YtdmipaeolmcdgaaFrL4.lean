/-
  FrameLong: the walk.
-/
import Derived.Test.YtdmipaeolmcdgaaFrL1
import Derived.Test.YtdmipaeolmcdgaaFrPlain
import Derived.Deep.OwnRows
namespace Go.Proofs.Ytdmipaeolmcdgaa
open Go.RowKit

theorem hd_cut (f : ByteArray) (k : Nat) (h : 2 ≤ k) : hd (f.extract 0 k) = hd f := by
  unfold hd
  have e : ∀ n, n < k → bt (f.extract 0 k) n = bt f n := by
    intro n hn
    unfold bt
    rw [toList_extract, List.drop_zero, Nat.sub_zero, getD_take _ _ _ _ hn]
  rw [e 0 (by omega), e 1 (by omega)]
theorem cut_join (f : ByteArray) (k n : Nat) (h : k ≤ n) (hn : f.size = n) : f.extract 0 k ++ f.extract k n = f := by
  refine ba_ext ?_
  rw [toList_append, toList_extract, toList_extract, List.drop_zero, Nat.sub_zero]
  rw [List.take_of_length_le (l := List.drop k f.data.toList) (by rw [List.length_drop, toList_size]; omega), List.take_append_drop]
theorem cut_size (f : ByteArray) (k n : Nat) (hn : f.size = n) (h : k ≤ n) : (f.extract 0 k).size = k := by simp; omega

/-- The first k bytes of a block are c. -/
def Filled (w : World) (b m k : Nat) (c : Int) : Prop :=
  ∃ C : Array Value, w.heap[b]? = some (.cells C 5 (0, 0)) ∧ C.size = m ∧ ∀ i, i < k → C[i]? = some (.int .u8 c)
theorem Filled.cell {w : World} {b m k : Nat} {c : Int} (h : Filled w b m k c) {i : Nat} (hi : i < m) : ∃ v, w.cell? ⟨b, i, none⟩ = some v := by
  obtain ⟨C, hb, hs, _⟩ := h
  exact ⟨C[i]'(by omega), by rw [blk_cell hb, Array.getElem?_eq_getElem]⟩
theorem Filled.free {w : World} {b m k : Nat} {c : Int} (h : Filled w b m k c) (i : Nat) : w.frozen? ⟨b, i, none⟩ = false := by
  obtain ⟨C, hb, _, _⟩ := h
  exact blk_free hb i
theorem Filled.step {w : World} {b m k : Nat} {c : Int} (h : Filled w b m k c) (hk : k < m) : Filled (w.setCell ⟨b, k, none⟩ (.int .u8 c)) b m (k + 1) c := by
  obtain ⟨C, hb, hs, hc⟩ := h
  refine ⟨_, blk_set hb k _, by simpa using hs, fun i hi => ?_⟩
  rw [Array.getElem?_setIfInBounds]
  by_cases e : k = i
  · rw [if_pos e, if_pos (by omega)]
  · rw [if_neg e]
    exact hc i (by omega)
theorem Filled.upd {S : Nat → Prop} {w w' : World} {b m k : Nat} {c : Int} (h : Filled w b m k c) (u : Upd S w w') (hn : ¬ S b) : Filled w' b m k c := by
  obtain ⟨C, hb, hs, hc⟩ := h
  exact ⟨C, u.old hb hn, hs, hc⟩
theorem Filled.start (w : World) (m : Nat) (c : Int) : Filled (w.alloc (.cells (madeCells #[.int .u8 0] m) 5)) w.heap.size m 0 c :=
  ⟨_, blk_alloc _ _, size_madeCells _ _, fun i hi => by omega⟩
/-- m times the byte c. -/
def reps (m : Nat) (c : Int) : ByteArray := strOfNums (List.replicate m c)
theorem reps_size (m : Nat) (c : Int) : (reps m c).size = m := by unfold reps; rw [strOfNums_size, List.length_replicate]
theorem Filled.run {w : World} {b m : Nat} {c : Int} (h : Filled w b m m c) (cap : Nat) :
    (convert 35 9 (.slice (some ⟨b, 0, none⟩) m cap)).run Try.prog w = .ok (.string (reps m c)) w := by
  obtain ⟨C, hb, hs, hc⟩ := h
  refine run_string_block w 35 9 5 Try.underlying35 Try.underlying5 Try.underlying9 b cap (List.replicate m c) 5 (0, 0) m (by simp) ?_
  rw [hb]
  have e : C = ((List.replicate m c).map (Value.int .u8)).toArray := by
    apply Array.ext'
    apply List.ext_getElem?
    intro i
    rw [Array.getElem?_toList]
    by_cases hi : i < m
    · rw [hc i hi]
      simp [hi]
    · rw [Array.getElem?_eq_none (by omega), List.getElem?_eq_none (by simp; omega)]
  rw [e]

theorem Try.info5 : (Try.prog.info? 5).map (fun i => (i.zero, i.size, i.bytes)) = some (some (.int .u8 0), 1, 1) := by kernel_rfl

set_option maxHeartbeats 1000000 in
theorem long_walk (n c : Int) (w : World) (hn : (Lit.int .u16 n).wf = true) (hc : (Lit.int .u8 c).wf = true) :
    Calls Try.prog 7 #[.int .u16 n, .int .u8 c] w (Makes (.bool true) w) := by
  obtain ⟨n0, n1⟩ := bounds_u16 hn
  clear hn hc
  obtain ⟨m, hm⟩ : ∃ m : Nat, n % 1200 = m := ⟨(n % 1200).toNat, by omega⟩
  have hm2 : m < 1200 := by omega
  have hmk := run_make_row' (P := Try.prog) 35 5 (.int .u8 0) 1 Try.underlying35 Try.info5 rfl .i64 .i64 m (by omega) (by omega)
  go_enter Try.func7, Try.ntmps7
  go_wp2_with fail
  go_loopw [6] (fun i wr => ∃ k : Nat, k ≤ m ∧ i = .int .i64 k ∧ Filled wr w.heap.size m k c ∧ New w wr) (fun i _ => m - (intOf i).toNat)
  case atStart => exact ⟨0, Nat.zero_le _, rfl, Filled.start _ _ _, (Upd.refl _ _).alloc _⟩
  case round =>
    obtain ⟨k, hk, rfl, hf, hnw⟩ := hrel
    by_cases hlt : k < m
    · obtain ⟨v, hv⟩ := hf.cell hlt
      have hfr := hf.free k
      go_wp2_with fail
      go_roundw
      case rel => exact ⟨k + 1, by omega, by go_num, hf.step hlt, hnw.setCell (by intro h; simp at h) _⟩
      case measure => simp [intOf]; omega
    · obtain rfl : k = m := by omega
      have hcv := hf.run k
      have hrs := reps_size k c
      generalize hbe : reps k c = b at hcv hrs
      have Hbe := hide hbe
      clear hbe
      have hmx : b.size ≤ maxLen := by unfold maxLen; omega
      by_cases h0 : k = 0
      · have Hp := hide (put_empty b · (by omega))
        have h00 : ((k : Int) == 0) = true := by rw [h0]; rfl
        have h01 : decide (1024 < (k : Int)) = false := by simp; omega
        clear hk hlt hm hm2 hmk hrs hmx h0
        go_wp2_with fail
        refine (unhide Hp _).mono ?_
        rintro e w2 ⟨rfl, m2⟩
        go_wp2_with fail
        refine (shown_any _).mono ?_
        rintro e w3 ⟨rfl, m3⟩
        go_wp2
        go_ret
        exact ⟨rfl, (hnw.trans m2).trans m3⟩
      · have h00 : ((k : Int) == 0) = false := beq_eq_false_iff_ne.2 (by omega)
        by_cases hbig : 1024 < k
        · have Hp := hide (put_great b · (by omega) hmx)
          have h01 : decide (1024 < (k : Int)) = true := by simp; omega
          clear hk hlt hm hm2 hmk hrs hmx h0
          go_wp2_with fail
          refine (unhide Hp _).mono ?_
          rintro e w2 ⟨rfl, m2⟩
          go_wp2_with fail
          refine (shown_any _).mono ?_
          rintro e w3 ⟨rfl, m3⟩
          go_wp2
          go_ret
          exact ⟨rfl, (hnw.trans m2).trans m3⟩
        · have h01 : decide (1024 < (k : Int)) = false := by simp; omega
          have hk1 : 0 < b.size := by omega
          have hk2 : b.size ≤ 1024 := by omega
          have Hp := hide (put_good b · hk1 hk2)
          have hfs := framed_size b
          have hhd := hd_framed b ⟨#[]⟩ hk2
          have hF := append_nil' (framed b)
          have hT := nextT_framed b ⟨#[]⟩ hk1 hk2
          have hR := nextR_framed b ⟨#[]⟩ hk1 hk2
          have hY := ready_framed b ⟨#[]⟩ hk1 hk2
          rw [hF] at hhd hT hR hY
          generalize framed b = f at *
          have hN := next_all (r := f)
          rw [hT, hR, hY] at hN
          have hc1 := cut_size f (k + 1) (k + 2) (by omega) (by omega)
          have hc2 := hd_cut f (k + 1) (by omega)
          have hj := cut_join f (k + 1) f.size (by omega) rfl
          have hr1 : ready (f.extract 0 (k + 1)) = false := by
            cases e : ready (f.extract 0 (k + 1)) with
            | false => rfl
            | true => have := ((ready_iff _).1 e).2.2; omega
          have hN1 := next_all (r := f.extract 0 (k + 1))
          rw [nextT_not hr1, nextR_not hr1, hr1] at hN1
          have hb1 : badB (f.extract 0 (k + 1)) = false := badB_good (by omega) (by omega)
          have hP1 := fun b w hb => push_ok b ⟨#[]⟩ (f.extract 0 (k + 1)) w hb (badB_short (by decide)) (by rw [show (⟨#[]⟩ : ByteArray).size = 0 from rfl]; omega)
          rw [nil_append] at hP1
          have hP2 := fun b w hb => push_ok b (f.extract 0 (k + 1)) (f.extract (k + 1) f.size) w hb hb1 (by have := rest_size f (k + 1); omega)
          rw [hj] at hP2
          have hfs2 : f.size = k + 2 := by omega
          rw [hfs2] at hP2
          have hL := left_any (r := ⟨#[]⟩)
          rw [show ((⟨#[]⟩ : ByteArray).size : Int) = 0 from rfl] at hL
          have HP1 := hide hP1
          have HP2 := hide hP2
          have HN := hide hN
          have HN1 := hide hN1
          have HL := hide hL
          clear hP1 hP2 hN hN1 hL hb1 hr1 hj hc2 hc1 hT hR hY hF hhd hfs hk1 hk2 hmx hm hmk hm2 hlt hk hrs
          go_wp2_with fail
          refine (unhide Hp _).mono ?_
          rintro e w2 ⟨rfl, m2⟩
          go_wp2_with fail
          have b2 : Spl (w2.alloc (.cells #[.string ⟨#[]⟩] 28)) w2.heap.size ⟨#[]⟩ := blk_alloc _ _
          have hw := hnw.size
          have hw2 := m2.size
          refine (unhide HP1 _ _ b2).mono ?_
          rintro e w3 ⟨rfl, u3, b3⟩
          go_wp2_with fail
          refine (unhide HN1 _ _ b3).mono ?_
          rintro e w4 ⟨rfl, u4, b4⟩
          go_wp2_with fail
          refine (unhide HP2 _ _ b4).mono ?_
          rintro e w5 ⟨rfl, u5, b5⟩
          go_wp2_with fail
          refine (unhide HN _ _ b5).mono ?_
          rintro e w6 ⟨rfl, u6, b6⟩
          have hu : Upd (· = w2.heap.size) w2 w6 := ((Upd.refl _ w2).alloc _).trans (u3.trans (u4.trans (u5.trans u6)))
          have hcv6 := ((hf.upd m2 (fun h => h)).upd hu (by have := blk_lt hf.choose_spec.1; omega)).run k
          rw [unhide Hbe] at hcv6
          go_wp2_with fail
          refine (unhide HL _ _ b6.cell).mono ?_
          rintro e w' ⟨rfl, rfl⟩
          go_wp2_with fail
          refine (shown_any _).mono ?_
          rintro e w7 ⟨rfl, m7⟩
          go_wp2
          go_ret
          exact ⟨rfl, ((hnw.trans m2).then hu (by intro i hi h; omega)).trans m7⟩

end Go.Proofs.Ytdmipaeolmcdgaa
