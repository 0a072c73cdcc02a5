/-
  FrameActs: the walk.
-/
import Derived.Test.YtdmipaeolmcdgaaFrL1
namespace Go.Proofs.Ytdmipaeolmcdgaa
open Go.RowKit

set_option maxRecDepth 100000 in
set_option maxHeartbeats 2000000 in
theorem acts_empty (b off cap : Nat) (ss : List ByteArray) (a2 : Option Addr) (cap2 : Nat) (w : World)
    (hl : ss.length ≤ cap) (hm : cap ≤ maxLen) (hcell : ∀ i, i < ss.length → w.cell? ⟨b, off + i, none⟩ = some (.string (ss.getD i ByteArray.empty))) (hss : ∀ s ∈ ss, s.size ≤ maxLen) :
    Calls Try.prog 4 #[.slice (some ⟨b, off, none⟩) ss.length cap, .slice a2 0 cap2] w (Makes (.bool true) w) := by
  unfold maxLen at hm
  by_cases h60 : 60 < ss.length
  · go_enter Try.func4, Try.ntmps4
    go_wp2_with fail
    refine (shown_any _).mono ?_
    rintro e w1 ⟨rfl, m1⟩
    go_wp2
    go_ret
    exact ⟨rfl, m1⟩
  go_enter Try.func4, Try.ntmps4
  go_wp2_with fail
  refine (shown_any _).mono ?_
  rintro e w1 ⟨rfl, m1⟩
  have hB := m1.size
  go_wp2_with fail
  go_loopw [6, 7] (fun rv i wr => ∃ (k : Nat) (r : ByteArray), k ≤ ss.length ∧ i = .int .i64 k ∧ rv = .string r ∧ r.size ≤ 1500 * k ∧ Spl wr w1.heap.size r ∧ New w wr) (fun _ i _ => ss.length - (intOf i).toNat)
  case atStart => exact ⟨0, ⟨#[]⟩, Nat.zero_le _, rfl, rfl, Nat.le_refl _, blk_alloc _ _, m1.alloc _⟩
  case round =>
    obtain ⟨k, r, hk, rfl, rfl, hrs, hb, hn⟩ := hrel
    have hk40 : k ≤ 60 := by omega
    by_cases hlt : k < ss.length
    · have hc := hn.cell (hcell k hlt) (fun h => h)
      have hbl : b < w1.heap.size := by have := World.block_lt_of_cell? w _ (hcell k hlt); simp at this; omega
      have hsz' := hss _ (getD_mem hlt)
      generalize ss.getD k ByteArray.empty = s at hc hsz'
      have hsz := hsz'
      unfold maxLen at hsz
      by_cases h15 : 1500 < s.size
      · go_wp2_with fail
        refine (shown_any _).mono ?_
        rintro e w2 ⟨rfl, m2⟩
        go_wp2
        go_ret
        exact ⟨rfl, hn.then m2 (fun _ _ h => h)⟩
      · go_wp2_with fail
        refine (put_all s _ hsz').mono ?_
        rintro e w2 ⟨rfl, m2⟩
        have hc2 := m2.cell hc (fun h => h)
        go_wp2_with fail
        refine (refput_all s _ hsz').mono ?_
        rintro e w3 ⟨rfl, m3⟩
        have hc3 := m3.cell hc2 (fun h => h)
        have b3 := (hb.upd m2 (fun h => h)).upd m3 (fun h => h)
        have hn3 := (hn.trans m2).trans m3
        clear hc hc2 m2 m3 hb hn
        have hle : r.size + s.size ≤ 9223372036854775807 := by omega
        have hap : (r ++ s).size ≤ 1500 * (k + 1) := by rw [append_size]; omega
        have hap2 : r.size ≤ 1500 * (k + 1) := by omega
        cases hbad : badB r with
        | true =>
          have Hb := Lib.hid hbad
          clear hbad
          go_wp2_with fail
          refine (refbad_true r _ Hb.out).mono ?_
          rintro e w4 ⟨rfl, q4⟩
          have hc4 := q4.cell hc3
          go_wp2_with fail
          refine (push_bad _ r s _ (b3.q q4) Hb.out).mono ?_
          rintro e w5 ⟨rfl, u5, b5⟩
          have hn5 := hn3.then ((q4.upd _).trans u5) (by intro i hi h; omega)
          clear Hb hc3 hc4 q4 b3 u5 hap hle hrs
          have hap := hap2
          clear hap2
          go_wp2_with fail
          go_loopw [6, 13] (fun rv jv wr => ∃ (j : Nat) (x : ByteArray), j ≤ 4 ∧ jv = .int .i64 j ∧ rv = .string x ∧ x.size ≤ 1500 * (k + 1) ∧ Spl wr w1.heap.size x ∧ New w wr) (fun _ jv _ => 5 - (intOf jv).toNat)
          case atStart => exact ⟨0, r, by omega, rfl, rfl, hap, b5, hn5⟩
          case round =>
            obtain ⟨j, x, hj, rfl, rfl, hx, bx, hnx⟩ := hrel
            go_wp2_with fail
            refine (left_any _ x _ bx.cell).mono ?_
            rintro e w' ⟨rfl, rfl⟩
            go_wp2_with fail
            refine (bad_any _ x _ bx.cell).mono ?_
            rintro e w6 ⟨rfl, q6⟩
            go_wp2_with fail
            refine (refbad_any x _).mono ?_
            rintro e w7 ⟨rfl, q7⟩
            go_wp2
            go_roundw
            case rel => exact ⟨k + 1, x, by omega, by go_num, rfl, hx, (bx.q q6).q q7, (hnx.then ((q6.trans q7).upd _) (fun _ _ h => h))⟩
            case measure => simp [intOf]; omega
        | false =>
          have Hb := Lib.hid hbad
          clear hbad
          go_wp2_with fail
          refine (refbad_false r _ Hb.out).mono ?_
          rintro e w4 ⟨rfl, q4⟩
          have hc4 := q4.cell hc3
          have Hp := hide (push_ok _ r s w4 (b3.q q4) Hb.out hle)
          go_wp2_with fail
          refine (unhide Hp).mono ?_
          rintro e w5 ⟨rfl, u5, b5⟩
          have hn5 := hn3.then ((q4.upd _).trans u5) (by intro i hi h; omega)
          clear Hb Hp hc3 hc4 q4 b3 u5 hap2 hle hrs
          generalize r ++ s = y at *
          go_wp2_with fail
          go_loopw [6, 13] (fun rv jv wr => ∃ (j : Nat) (x : ByteArray), j ≤ 4 ∧ jv = .int .i64 j ∧ rv = .string x ∧ x.size ≤ 1500 * (k + 1) ∧ Spl wr w1.heap.size x ∧ New w wr) (fun _ jv _ => 5 - (intOf jv).toNat)
          case atStart => exact ⟨0, y, by omega, rfl, rfl, hap, b5, hn5⟩
          case round =>
            obtain ⟨j, x, hj, rfl, rfl, hx, bx, hnx⟩ := hrel
            go_wp2_with fail
            refine (left_any _ x _ bx.cell).mono ?_
            rintro e w' ⟨rfl, rfl⟩
            go_wp2_with fail
            refine (bad_any _ x _ bx.cell).mono ?_
            rintro e w6 ⟨rfl, q6⟩
            go_wp2_with fail
            refine (refbad_any x _).mono ?_
            rintro e w7 ⟨rfl, q7⟩
            go_wp2
            go_roundw
            case rel => exact ⟨k + 1, x, by omega, by go_num, rfl, hx, (bx.q q6).q q7, (hnx.then ((q6.trans q7).upd _) (fun _ _ h => h))⟩
            case measure => simp [intOf]; omega
    · go_wp2_with fail
      refine (left_any _ r _ hb.cell).mono ?_
      rintro e w' ⟨rfl, rfl⟩
      go_wp2
      go_ret
      exact ⟨rfl, hn⟩

set_option maxRecDepth 100000 in
set_option maxHeartbeats 2000000 in
theorem acts_full (b off cap : Nat) (ss : List ByteArray) (b2 off2 cap2 : Nat) (zs : List Int) (w : World)
    (hl : ss.length ≤ cap) (hm : cap ≤ maxLen) (hcell : ∀ i, i < ss.length → w.cell? ⟨b, off + i, none⟩ = some (.string (ss.getD i ByteArray.empty))) (hss : ∀ s ∈ ss, s.size ≤ maxLen)
    (hz2 : zs.length ≤ maxLen) (hcell2 : ∀ i, i < zs.length → w.cell? ⟨b2, off2 + i, none⟩ = some (.int .u8 (zs.getD i 0))) (hwz : ∀ i, i < zs.length → (Lit.int .u8 (zs.getD i 0)).wf = true) :
    Calls Try.prog 4 #[.slice (some ⟨b, off, none⟩) ss.length cap, .slice (some ⟨b2, off2, none⟩) zs.length cap2] w (Makes (.bool true) w) := by
  unfold maxLen at hm hz2
  generalize hn2 : zs.length = n2 at *
  clear hn2
  by_cases h60 : 60 < ss.length
  · go_enter Try.func4, Try.ntmps4
    go_wp2_with fail
    refine (shown_any _).mono ?_
    rintro e w1 ⟨rfl, m1⟩
    go_wp2
    go_ret
    exact ⟨rfl, m1⟩
  by_cases h61 : 60 < n2
  · go_enter Try.func4, Try.ntmps4
    go_wp2_with fail
    refine (shown_any _).mono ?_
    rintro e w1 ⟨rfl, m1⟩
    go_wp2
    go_ret
    exact ⟨rfl, m1⟩
  go_enter Try.func4, Try.ntmps4
  go_wp2_with fail
  refine (shown_any _).mono ?_
  rintro e w1 ⟨rfl, m1⟩
  have hB := m1.size
  go_wp2_with fail
  go_loopw [6, 7] (fun rv i wr => ∃ (k : Nat) (r : ByteArray), k ≤ ss.length ∧ i = .int .i64 k ∧ rv = .string r ∧ r.size ≤ 1500 * k ∧ Spl wr w1.heap.size r ∧ New w wr) (fun _ i _ => ss.length - (intOf i).toNat)
  case atStart => exact ⟨0, ⟨#[]⟩, Nat.zero_le _, rfl, rfl, Nat.le_refl _, blk_alloc _ _, m1.alloc _⟩
  case round =>
    obtain ⟨k, r, hk, rfl, rfl, hrs, hb, hn⟩ := hrel
    have hk40 : k ≤ 60 := by omega
    by_cases hlt : k < ss.length
    · have hc := hn.cell (hcell k hlt) (fun h => h)
      have hbl : b < w1.heap.size := by have := World.block_lt_of_cell? w _ (hcell k hlt); simp at this; omega
      have hsz' := hss _ (getD_mem hlt)
      generalize ss.getD k ByteArray.empty = s at hc hsz'
      have hsz := hsz'
      unfold maxLen at hsz
      by_cases h15 : 1500 < s.size
      · go_wp2_with fail
        refine (shown_any _).mono ?_
        rintro e w2 ⟨rfl, m2⟩
        go_wp2
        go_ret
        exact ⟨rfl, hn.then m2 (fun _ _ h => h)⟩
      · go_wp2_with fail
        refine (put_all s _ hsz').mono ?_
        rintro e w2 ⟨rfl, m2⟩
        have hc2 := m2.cell hc (fun h => h)
        go_wp2_with fail
        refine (refput_all s _ hsz').mono ?_
        rintro e w3 ⟨rfl, m3⟩
        have hc3 := m3.cell hc2 (fun h => h)
        have b3 := (hb.upd m2 (fun h => h)).upd m3 (fun h => h)
        have hn3 := (hn.trans m2).trans m3
        clear hc hc2 m2 m3 hb hn
        have hle : r.size + s.size ≤ 9223372036854775807 := by omega
        have hap : (r ++ s).size ≤ 1500 * (k + 1) := by rw [append_size]; omega
        have hap2 : r.size ≤ 1500 * (k + 1) := by omega
        cases hbad : badB r with
        | true =>
          have Hb := Lib.hid hbad
          clear hbad
          go_wp2_with fail
          refine (refbad_true r _ Hb.out).mono ?_
          rintro e w4 ⟨rfl, q4⟩
          have hc4 := q4.cell hc3
          go_wp2_with fail
          refine (push_bad _ r s _ (b3.q q4) Hb.out).mono ?_
          rintro e w5 ⟨rfl, u5, b5⟩
          have hn5 := hn3.then ((q4.upd _).trans u5) (by intro i hi h; omega)
          clear Hb hc3 hc4 q4 b3 u5 hap hle hrs
          have hap := hap2
          clear hap2
          go_wp2_with fail
          go_loopw [6, 13] (fun rv jv wr => ∃ (j : Nat) (x : ByteArray), j ≤ 4 ∧ jv = .int .i64 j ∧ rv = .string x ∧ x.size ≤ 1500 * (k + 1) ∧ Spl wr w1.heap.size x ∧ New w wr) (fun _ jv _ => 5 - (intOf jv).toNat)
          case atStart => exact ⟨0, r, by omega, rfl, rfl, hap, b5, hn5⟩
          case round =>
            obtain ⟨j, x, hj, rfl, rfl, hx, bx, hnx⟩ := hrel
            by_cases hi : k < n2
            · have hcz := hnx.cell (hcell2 k hi) (fun h => h)
              have hwk := hwz k hi
              generalize zs.getD k 0 = z at hcz hwk
              obtain ⟨z0, z1⟩ := bounds_u8 hwk
              clear hwk
              by_cases hj5 : (j : Int) < z % 5
              · go_wp2_with fail
                refine (next_all _ x _ bx).mono ?_
                rintro e w6 ⟨rfl, u6, b6⟩
                go_wp2_with fail
                refine (refnext_all x _).mono ?_
                rintro e w7 ⟨rfl, q7⟩
                have hxn := nextR_size x
                go_wp2
                go_roundw
                case rel => exact ⟨j + 1, nextR x, by omega, by go_num, rfl, by omega, b6.q q7, (hnx.then (u6.trans (q7.upd _)) (by intro i hi h; omega))⟩
                case measure => simp [intOf]; omega
              · have hj5' : decide ((j : Int) < z % 5) = false := by simpa using hj5
                go_wp2_with fail
                refine (left_any _ x _ bx.cell).mono ?_
                rintro e w' ⟨rfl, rfl⟩
                go_wp2_with fail
                refine (bad_any _ x _ bx.cell).mono ?_
                rintro e w6 ⟨rfl, q6⟩
                go_wp2_with fail
                refine (refbad_any x _).mono ?_
                rintro e w7 ⟨rfl, q7⟩
                go_wp2
                go_roundw
                case rel => exact ⟨k + 1, x, by omega, by go_num, rfl, hx, (bx.q q6).q q7, (hnx.then ((q6.trans q7).upd _) (fun _ _ h => h))⟩
                case measure => simp [intOf]; omega
            · go_wp2_with fail
              refine (left_any _ x _ bx.cell).mono ?_
              rintro e w' ⟨rfl, rfl⟩
              go_wp2_with fail
              refine (bad_any _ x _ bx.cell).mono ?_
              rintro e w6 ⟨rfl, q6⟩
              go_wp2_with fail
              refine (refbad_any x _).mono ?_
              rintro e w7 ⟨rfl, q7⟩
              go_wp2
              go_roundw
              case rel => exact ⟨k + 1, x, by omega, by go_num, rfl, hx, (bx.q q6).q q7, (hnx.then ((q6.trans q7).upd _) (fun _ _ h => h))⟩
              case measure => simp [intOf]; omega
        | false =>
          have Hb := Lib.hid hbad
          clear hbad
          go_wp2_with fail
          refine (refbad_false r _ Hb.out).mono ?_
          rintro e w4 ⟨rfl, q4⟩
          have hc4 := q4.cell hc3
          have Hp := hide (push_ok _ r s w4 (b3.q q4) Hb.out hle)
          go_wp2_with fail
          refine (unhide Hp).mono ?_
          rintro e w5 ⟨rfl, u5, b5⟩
          have hn5 := hn3.then ((q4.upd _).trans u5) (by intro i hi h; omega)
          clear Hb Hp hc3 hc4 q4 b3 u5 hap2 hle hrs
          generalize r ++ s = y at *
          go_wp2_with fail
          go_loopw [6, 13] (fun rv jv wr => ∃ (j : Nat) (x : ByteArray), j ≤ 4 ∧ jv = .int .i64 j ∧ rv = .string x ∧ x.size ≤ 1500 * (k + 1) ∧ Spl wr w1.heap.size x ∧ New w wr) (fun _ jv _ => 5 - (intOf jv).toNat)
          case atStart => exact ⟨0, y, by omega, rfl, rfl, hap, b5, hn5⟩
          case round =>
            obtain ⟨j, x, hj, rfl, rfl, hx, bx, hnx⟩ := hrel
            by_cases hi : k < n2
            · have hcz := hnx.cell (hcell2 k hi) (fun h => h)
              have hwk := hwz k hi
              generalize zs.getD k 0 = z at hcz hwk
              obtain ⟨z0, z1⟩ := bounds_u8 hwk
              clear hwk
              by_cases hj5 : (j : Int) < z % 5
              · go_wp2_with fail
                refine (next_all _ x _ bx).mono ?_
                rintro e w6 ⟨rfl, u6, b6⟩
                go_wp2_with fail
                refine (refnext_all x _).mono ?_
                rintro e w7 ⟨rfl, q7⟩
                have hxn := nextR_size x
                go_wp2
                go_roundw
                case rel => exact ⟨j + 1, nextR x, by omega, by go_num, rfl, by omega, b6.q q7, (hnx.then (u6.trans (q7.upd _)) (by intro i hi h; omega))⟩
                case measure => simp [intOf]; omega
              · have hj5' : decide ((j : Int) < z % 5) = false := by simpa using hj5
                go_wp2_with fail
                refine (left_any _ x _ bx.cell).mono ?_
                rintro e w' ⟨rfl, rfl⟩
                go_wp2_with fail
                refine (bad_any _ x _ bx.cell).mono ?_
                rintro e w6 ⟨rfl, q6⟩
                go_wp2_with fail
                refine (refbad_any x _).mono ?_
                rintro e w7 ⟨rfl, q7⟩
                go_wp2
                go_roundw
                case rel => exact ⟨k + 1, x, by omega, by go_num, rfl, hx, (bx.q q6).q q7, (hnx.then ((q6.trans q7).upd _) (fun _ _ h => h))⟩
                case measure => simp [intOf]; omega
            · go_wp2_with fail
              refine (left_any _ x _ bx.cell).mono ?_
              rintro e w' ⟨rfl, rfl⟩
              go_wp2_with fail
              refine (bad_any _ x _ bx.cell).mono ?_
              rintro e w6 ⟨rfl, q6⟩
              go_wp2_with fail
              refine (refbad_any x _).mono ?_
              rintro e w7 ⟨rfl, q7⟩
              go_wp2
              go_roundw
              case rel => exact ⟨k + 1, x, by omega, by go_num, rfl, hx, (bx.q q6).q q7, (hnx.then ((q6.trans q7).upd _) (fun _ _ h => h))⟩
              case measure => simp [intOf]; omega
    · go_wp2_with fail
      refine (left_any _ r _ hb.cell).mono ?_
      rintro e w' ⟨rfl, rfl⟩
      go_wp2
      go_ret
      exact ⟨rfl, hn⟩

set_option maxHeartbeats 400000 in
theorem acts_none (a : Option Addr) (cap : Nat) (v2 : Value) (zs : List Int) (w : World) (h2 : IntRow .u8 w v2 zs) :
    Calls Try.prog 4 #[.slice a 0 cap, v2] w (Makes (.bool true) w) := by
  obtain ⟨a2, n2, cap2, hm2, rfl⟩ : ∃ a2 n2 cap2, n2 ≤ maxLen ∧ v2 = .slice a2 n2 cap2 := by
    rcases h2 with ⟨a, c, rfl, _⟩ | ⟨b, o, c, rfl, _, h1, h2, _⟩
    · exact ⟨_, _, _, Nat.zero_le _, rfl⟩
    · exact ⟨_, _, _, Nat.le_trans h1 h2, rfl⟩
  clear h2
  unfold maxLen at hm2
  by_cases h61 : 60 < n2
  · go_enter Try.func4, Try.ntmps4
    go_wp2_with fail
    refine (shown_any _).mono ?_
    rintro e w1 ⟨rfl, m1⟩
    go_wp2
    go_ret
    exact ⟨rfl, m1⟩
  · go_enter Try.func4, Try.ntmps4
    go_wp2_with fail
    refine (shown_any _).mono ?_
    rintro e w1 ⟨rfl, m1⟩
    go_wp2_with fail
    go_loopw [6, 7] (fun rv i wr => ∃ r, rv = .string r ∧ i = .int .i64 0 ∧ Spl wr w1.heap.size r ∧ New w wr) (fun _ _ _ => 0)
    case atStart => exact ⟨_, rfl, rfl, blk_alloc _ _, m1.alloc _⟩
    case round =>
      obtain ⟨r, rfl, rfl, hb, hn⟩ := hrel
      go_wp2_with fail
      refine (left_any _ r _ hb.cell).mono ?_
      rintro e w' ⟨rfl, rfl⟩
      go_wp2
      go_ret
      exact ⟨rfl, hn⟩

theorem acts_walk (v : Value) (ss : List ByteArray) (v2 : Value) (zs : List Int) (w : World) (hv : StrRow w v ss) (h2 : IntRow .u8 w v2 zs) :
    Calls Try.prog 4 #[v, v2] w (Makes (.bool true) w) := by
  rcases hv with ⟨a, cap, rfl, rfl⟩ | ⟨b, off, cap, rfl, _, hl, hm, hcell, hss⟩
  · exact acts_none a cap v2 zs w h2
  · rcases h2 with ⟨a2, cap2, rfl, rfl⟩ | ⟨b2, off2, cap2, rfl, _, hl2, hm2, hcell2, hz⟩
    · exact acts_empty b off cap ss a2 cap2 w hl hm hcell hss
    · exact acts_full b off cap ss b2 off2 cap2 zs w hl hm hcell hss (Nat.le_trans hl2 hm2) hcell2 (fun i hi => hz _ (getD_mem_int hi))

end Go.Proofs.Ytdmipaeolmcdgaa
