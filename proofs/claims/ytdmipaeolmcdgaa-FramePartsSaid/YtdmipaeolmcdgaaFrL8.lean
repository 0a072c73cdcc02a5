/-
  FrameParts: the walk, for whatever came.
-/
import Derived.Test.YtdmipaeolmcdgaaFrL6
import Derived.Test.YtdmipaeolmcdgaaFrL7
namespace Go.Proofs.Ytdmipaeolmcdgaa
open Go.RowKit

set_option maxHeartbeats 1000000 in
theorem parts_none (a : Option Addr) (cap : Nat) (v2 : Value) (zs : List Int) (w : World) (h2 : IntRow .u8 w v2 zs) :
    Calls Try.prog 5 #[.slice a 0 cap, v2] w (Makes (.bool true) w) := by
  obtain ⟨a2, n2, cap2, hm2, rfl⟩ : ∃ a2 n2 cap2, n2 ≤ maxLen ∧ v2 = .slice a2 n2 cap2 := by
    rcases h2 with ⟨a, c, rfl, _⟩ | ⟨b, o, c, rfl, _, h1, h2, _⟩
    · exact ⟨_, _, _, Nat.zero_le _, rfl⟩
    · exact ⟨_, _, _, Nat.le_trans h1 h2, rfl⟩
  clear h2
  unfold maxLen at hm2
  have hL := left_any (r := ⟨#[]⟩)
  rw [show ((⟨#[]⟩ : ByteArray).size : Int) = 0 from rfl] at hL
  have hBd := bad_false (r := ⟨#[]⟩) (h := badB_short (by decide))
  have HL := hide hL
  have HB := hide hBd
  clear hL hBd
  by_cases h61 : 100 < n2
  · go_enter Try.func5, Try.ntmps5
    go_wp2_with fail
    refine (shown_any _).mono ?_
    rintro e w1 ⟨rfl, m1⟩
    go_wp2
    go_ret
    exact ⟨rfl, m1⟩
  · go_enter Try.func5, Try.ntmps5
    go_wp2_with fail
    refine (shown_any _).mono ?_
    rintro e w1 ⟨rfl, m1⟩
    go_wp2_with fail
    go_loopw [5, 6, 7] (fun sv wv i wr => i = .int .i64 0 ∧ (∃ r : ByteArray, sv = .string r ∧ Hid (r.size = 0)) ∧ (∃ a c, wv = .slice a 0 c) ∧ New w wr) (fun _ _ _ _ => 0)
    case atStart => exact ⟨rfl, ⟨⟨#[]⟩, rfl, hide rfl⟩, ⟨_, _, rfl⟩, m1.alloc _⟩
    case round =>
      obtain ⟨rfl, ⟨r0, rfl, hr0⟩, ⟨aw, cw, rfl⟩, hn⟩ := hrel
      obtain ⟨wo, rfl⟩ : ∃ wo : World, wo = wr := ⟨_, rfl⟩
      go_wp2_with fail
      go_loopw [5, 11, 12] (fun sv gv i wr => i = .int .i64 0 ∧ (∃ r : ByteArray, sv = .string r ∧ Hid (r.size = 0)) ∧ (∃ a c, gv = .slice a 0 c) ∧ Spl wr wo.heap.size ⟨#[]⟩ ∧ New w wr) (fun _ _ _ _ => 0)
      case atStart => exact ⟨rfl, ⟨r0, rfl, hr0⟩, ⟨_, _, rfl⟩, blk_alloc_old (blk_alloc _ _) _, (hn.alloc _).alloc _⟩
      case round =>
        obtain ⟨rfl, ⟨r, rfl, hr⟩, ⟨ag, cg, rfl⟩, hb, hn2⟩ := hrel
        have hr2 : r.size ≤ 0 := by have := unhide hr; omega
        have hr3 : decide (0 < r.size) = false := decide_eq_false (by omega)
        go_wp2_with fail
        refine (unhide HL _ _ hb.cell).mono ?_
        rintro e w' ⟨rfl, rfl⟩
        go_wp2_with fail
        refine (unhide HB _ _ hb.cell).mono ?_
        rintro e w5 ⟨rfl, q5⟩
        have HNEW : New w w5 := hn2.then (q5.upd _) (fun _ _ h => h)
        go_wp2_with fail
        go_loopw [16] (fun iv wq => iv = .int .i64 0 ∧ New w wq) (fun _ _ => 0)
        case atStart => exact ⟨rfl, HNEW⟩
        case round =>
          obtain ⟨rfl, hN⟩ := hrel
          go_wp2
          go_ret
          exact ⟨rfl, hN⟩

theorem parts_walk (v : Value) (ss : List ByteArray) (v2 : Value) (zs : List Int) (w : World) (hv : StrRow w v ss) (h2 : IntRow .u8 w v2 zs) :
    Calls Try.prog 5 #[v, v2] w (Makes (.bool true) w) := by
  rcases hv with ⟨a, cap, rfl, rfl⟩ | ⟨b, off, cap, rfl, _, hl, hm, hcell, hss⟩
  · exact parts_none a cap v2 zs w h2
  · rcases h2 with ⟨a2, cap2, rfl, rfl⟩ | ⟨b2, off2, cap2, rfl, _, hl2, hm2, hcell2, hz⟩
    · exact parts_empty b off cap ss a2 cap2 w hl hm hcell hss
    · exact parts_full b off cap ss b2 off2 cap2 zs w hl hm hcell hss (Nat.le_trans hl2 hm2) hcell2 (fun i hi => hz _ (getD_mem_int hi))

end Go.Proofs.Ytdmipaeolmcdgaa
