/-
  The statements of package frame: what each law's call does. First: shown, FrameLeft.
-/
import Derived.Test.YtdmipaeolmcdgaaFr1
import Derived.Test.YtdmipaeolmcdgaaArgs
namespace Go.Proofs.Ytdmipaeolmcdgaa
open Go.RowKit

/-- The end of a call that answers true and writes nothing that was there. -/
abbrev True1 (w : World) := Makes (.bool true) w

def r4 : ByteArray := ⟨#[0, 1, 97, 0]⟩
theorem r4_ready : Ready r4 := ⟨by decide, by decide, by decide⟩

set_option maxHeartbeats 400000 in
theorem shown_any (w : World) : Calls Try.prog 8 #[] w (Makes (.bool true) w) := by
  have e1 : r4.extract (2 + hd r4).toNat r4.size = ⟨#[0]⟩ := by decide +kernel
  have e2 : (r4.extract 0 (2 + hd r4).toNat).extract 2 (2 + hd r4).toNat = ⟨#[97]⟩ := by decide +kernel
  have e3 : (⟨#[]⟩ : ByteArray) ++ r4 = r4 := by decide +kernel
  have h1 := push_ok w.heap.size ⟨#[]⟩ r4 (w.alloc (.cells #[.string ⟨#[]⟩] 28)) (blk_alloc _ _) (by decide +kernel) (by decide +kernel)
  rw [e3] at h1
  have h2 := fun w1 (hb : Spl w1 w.heap.size r4) => next_ready w.heap.size r4 w1 hb r4_ready
  rw [e1, e2] at h2
  have H1 := hide h1
  have H2 := hide h2
  clear h1 h2 e1 e2 e3
  go_enter Try.func8, Try.ntmps8
  go_wp2_with fail
  refine (unhide H1).mono ?_
  rintro e w1 ⟨rfl, u1, b1⟩
  go_wp2_with fail
  refine (unhide H2 _ b1).mono ?_
  rintro e w2 ⟨rfl, u2, b2⟩
  go_wp2_with fail
  refine (left_any _ _ _ b2.cell).mono ?_
  rintro e w' ⟨rfl, rfl⟩
  go_wp2
  go_ret
  exact ⟨rfl, (((Upd.refl _ _).alloc _).then (u1.trans u2) (by intro i hi h; omega))⟩

theorem append_size (a b : ByteArray) : (a ++ b).size = a.size + b.size := ByteArray.size_append
theorem rest_size (r : ByteArray) (n : Nat) : (r.extract n r.size).size = r.size - n := by simp
theorem text_size (r : ByteArray) (n : Nat) (h : n ≤ r.size) : ((r.extract 0 n).extract 2 n).size = n - 2 := by simp; omega

set_option maxHeartbeats 1000000 in
theorem left_walk (v : Value) (ss : List ByteArray) (w : World) (hv : StrRow w v ss) :
    Calls Try.prog 3 #[v] w (Makes (.bool true) w) := by
  rcases hv with ⟨a, cap, rfl, rfl⟩ | ⟨b, off, cap, rfl, hpos, hl, hm, hcell, hss⟩
  · go_enter Try.func3, Try.ntmps3
    go_wp2_with fail
    refine (shown_any _).mono ?_
    rintro e w1 ⟨rfl, n1⟩
    go_wp2_with fail
    go_loopw [6] (fun i wr => i = .int .i64 0 ∧ New w wr) (fun _ _ => 0)
    case atStart => exact ⟨rfl, n1.alloc _⟩
    case round =>
      obtain ⟨rfl, hn⟩ := hrel
      go_wp2
      go_ret
      exact ⟨rfl, hn⟩
  · unfold maxLen at hm
    by_cases h40 : 40 < ss.length
    · go_enter Try.func3, Try.ntmps3
      go_wp2_with fail
      refine (shown_any _).mono ?_
      rintro e w1 ⟨rfl, n1⟩
      go_wp2
      go_ret
      exact ⟨rfl, n1⟩
    · go_enter Try.func3, Try.ntmps3
      go_wp2_with fail
      refine (shown_any _).mono ?_
      rintro e w1 ⟨rfl, n1⟩
      have hB := n1.size
      go_wp2_with fail
      go_loopw [4, 5, 6] (fun c t i wr => ∃ (k cm tl : Nat) (r : ByteArray), k ≤ ss.length ∧ i = .int .i64 k ∧ c = .int .i64 cm ∧ t = .int .i64 tl ∧ tl + r.size = cm ∧ cm ≤ 1500 * k ∧ Spl wr w1.heap.size r ∧ New w wr) (fun _ _ i _ => ss.length - (intOf i).toNat)
      case atStart => exact ⟨0, 0, 0, ⟨#[]⟩, Nat.zero_le _, rfl, rfl, rfl, rfl, Nat.le_refl _, blk_alloc _ _, n1.alloc _⟩
      case round =>
        obtain ⟨k, cm, tl, r, hk, rfl, rfl, rfl, hsum, hcm, hb, hn⟩ := hrel
        have htl : tl ≤ 1500 * k := by omega
        have hk40 : k ≤ 40 := by omega
        by_cases hlt : k < ss.length
        · have hc := hn.cell (hcell k hlt) (fun h => h)
          have hbl : b < w1.heap.size := by have := World.block_lt_of_cell? w _ (hcell k hlt); simp at this; omega
          have hsz := hss _ (getD_mem hlt)
          unfold maxLen at hsz
          generalize ss.getD k ByteArray.empty = s at hc hsz
          by_cases h15 : 1500 < s.size
          · go_wp2_with fail
            refine (shown_any _).mono ?_
            rintro e w2 ⟨rfl, n2⟩
            go_wp2
            go_ret
            exact ⟨rfl, hn.then n2 (fun _ _ h => h)⟩
          · cases hbad : badB r with
            | true =>
              have hnr : ¬ Ready r := fun h => by rw [h.2.1] at hbad; cases hbad
              have Hb := Lib.hid hbad
              clear hbad
              go_wp2_with fail
              refine (push_bad _ r s _ hb Hb.out).mono ?_
              rintro e w2 ⟨rfl, u2, b2⟩
              go_wp2_with fail
              refine (bad_true _ r _ b2.cell Hb.out).mono ?_
              rintro e w3 ⟨rfl, q3⟩
              have b3 := b2.q q3
              go_wp2_with fail
              refine (next_not _ r _ b3 hnr).mono ?_
              rintro e w4 ⟨rfl, u4, b4⟩
              have hd : ((r.size : Int) != (cm : Int) - (tl : Int)) = false := by simp; omega
              go_wp2_with fail
              refine (left_any _ r _ b4.cell).mono ?_
              rintro e w' ⟨rfl, rfl⟩
              go_wp2
              go_roundw
              case rel => exact ⟨k + 1, cm, tl, r, by omega, by go_num, rfl, rfl, hsum, by omega, b4, (hn.then (u2.trans ((q3.upd _).trans u4)) (by intro i hi h; omega))⟩
              case measure => simp [intOf]; omega
            | false =>
              have Hb := Lib.hid hbad
              clear hbad
              have hle : r.size + s.size ≤ 9223372036854775807 := by omega
              have hap := append_size r s
              by_cases hr : Ready (r ++ s)
              · have hr' := hr
                obtain ⟨g2, gb, g3⟩ := hr
                obtain ⟨g0, g1⟩ := hd_bd (r ++ s)
                have e1 := rest_size (r ++ s) (2 + hd (r ++ s)).toNat
                have e2 := text_size (r ++ s) (2 + hd (r ++ s)).toNat (by omega)
                have hnx := fun w3 b3 => next_ready w1.heap.size (r ++ s) w3 b3 hr'
                have hps := push_ok _ r s _ hb Hb.out hle
                clear gb hr'
                generalize (r ++ s).extract (2 + hd (r ++ s)).toNat (r ++ s).size = rest at e1 hnx
                generalize ((r ++ s).extract 0 (2 + hd (r ++ s)).toNat).extract 2 (2 + hd (r ++ s)).toNat = text at e2 hnx
                have Hn := hide hnx
                have Hp := hide hps
                have ht : (text.size : Int) + (rest.size : Int) + 2 = (r.size : Int) + (s.size : Int) := by omega
                clear hnx hps g2 g3 g0 g1 e1 e2 hap
                have h2 : text.size ≤ 1500 * (k + 1) := by omega
                have hx : (tl : Int) + 2 + text.size + rest.size = (cm : Int) + s.size := by omega
                have hd : ((rest.size : Int) != ((cm : Int) + (s.size : Int)) - ((tl : Int) + (2 + (text.size : Int)))) = false := by
                  rw [bne_eq_false_iff_eq]; omega
                have Hx := hide hx
                have Hs := hide hsum
                clear ht hx hsum
                go_wp2_with fail
                refine (unhide Hp).mono ?_
                rintro e w2 ⟨rfl, u2, b2⟩
                have hc2 := u2.cell hc (by show ¬ b = _; omega)
                go_wp2_with fail
                refine (unhide Hn _ b2).mono ?_
                rintro e w4 ⟨rfl, u4, b4⟩
                go_wp2_with fail
                refine (left_any _ rest _ b4.cell).mono ?_
                rintro e w' ⟨rfl, rfl⟩
                go_wp2_with fail
                refine (left_any _ rest _ b4.cell).mono ?_
                rintro e w' ⟨rfl, rfl⟩
                go_wp2
                go_roundw
                case rel => exact ⟨k + 1, cm + s.size, tl + (2 + text.size), rest, by omega, by go_num, by go_num, by go_num, by have := unhide Hx; omega, by omega, b4, (hn.then (u2.trans u4) (by intro i hi h; omega))⟩
                case measure => simp [intOf]; omega
              · have hps := push_ok _ r s _ hb Hb.out hle
                have Hp := hide hps
                have hx : tl + (r ++ s).size = cm + s.size := by omega
                have hnx := fun w3 b3 => next_not w1.heap.size (r ++ s) w3 b3 hr
                have Hn := hide hnx
                clear hps hap hnx hr
                generalize r ++ s = rest at *
                have hd : ((rest.size : Int) != ((cm : Int) + (s.size : Int)) - (tl : Int)) = false := by
                  rw [bne_eq_false_iff_eq]; omega
                have Hx := hide hx
                have Hs := hide hsum
                clear hx hsum
                go_wp2_with fail
                refine (unhide Hp).mono ?_
                rintro e w2 ⟨rfl, u2, b2⟩
                have hc2 := u2.cell hc (by show ¬ b = _; omega)
                go_wp2_with fail
                refine (unhide Hn _ b2).mono ?_
                rintro e w4 ⟨rfl, u4, b4⟩
                go_wp2_with fail
                refine (left_any _ rest _ b4.cell).mono ?_
                rintro e w' ⟨rfl, rfl⟩
                go_wp2
                go_roundw
                case rel => exact ⟨k + 1, cm + s.size, tl, rest, by omega, by go_num, by go_num, rfl, unhide Hx, by omega, b4, (hn.then (u2.trans u4) (by intro i hi h; omega))⟩
                case measure => simp [intOf]; omega
        · go_wp2
          go_ret
          exact ⟨rfl, hn⟩

end Go.Proofs.Ytdmipaeolmcdgaa
