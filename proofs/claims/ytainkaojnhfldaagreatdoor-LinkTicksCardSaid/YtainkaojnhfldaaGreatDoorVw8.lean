/-
  view.After.
-/
import Derived.Test.YtainkaojnhfldaaGreatDoorMbe
set_option linter.unusedVariables false
set_option linter.unusedSimpArgs false
namespace Go.Proofs.YtainkaojnhfldaaGreatDoor
open Go.RowKit Go.Sort

attribute [local go_sem ↓ high] ld_live_fold st_live_fold
attribute [local go_sem] ld_live st_live

def aft (ev : Int) (x : Live) : Live := { x with state := nextSt x.state x.own ev }
def afterL (ev : Int) (xs : List Live) : List Live := xs.map (aft ev)

set_option maxRecDepth 100000 in
set_option maxHeartbeats 4000000 in
theorem after_anyN (v : Value) (xs : List Live) (ev : Int) (hl : xs.length ≤ 1048576) (w : World) (hG : Glob w) (hv : Lives w v xs) :
    Calls Tryz.prog 94 #[v, .int .i64 ev] w fun e w' => ∃ u, e = .returned u ∧ New w w' ∧ LivesN w.heap.size w' u (afterL ev xs) := by
  have hvs : ∃ a k c, v = .slice a k c := by
    rcases hv with ⟨_, _, rfl, _⟩ | ⟨g, off, cap, rfl, _⟩
    · exact ⟨_, _, _, rfl⟩
    · exact ⟨_, _, _, rfl⟩
  obtain ⟨va, vk, vc, rfl⟩ := hvs
  go_enter Tryz.func94, Tryz.ntmps94
  go_wp2_with fail
  refine (clone_any _ xs hl w hv).mono ?_
  rintro e w1 ⟨u, rfl, n1, ⟨ua, uc, rfl, rfl⟩ | ⟨g, cap, rfl, hg, hh⟩⟩
  · obtain ⟨wo, rfl⟩ : ∃ wo : World, wo = w1 := ⟨_, rfl⟩
    go_wp2_with fail
    go_loopw [12] (fun iv wr => iv = .int .i64 0 ∧ wr = wo) (fun _ _ => 0)
    case atStart => exact ⟨rfl, rfl⟩
    case round =>
      obtain ⟨rfl, rfl⟩ := hrel
      go_wp2
      first | go_ret2 | go_ret
      exact ⟨_, rfl, n1, .inl ⟨_, _, rfl, rfl⟩⟩
  · have hG1 := hG.new n1
    obtain ⟨wo, rfl⟩ : ∃ wo : World, wo = w1 := ⟨_, rfl⟩
    go_wp2_with fail
    go_loopw [12] (fun iv wr => ∃ n : Nat, iv = .int .i64 (n : Int) ∧ n ≤ xs.length ∧ Hid (HeldO wr g 0 (afterL ev (xs.take n) ++ xs.drop n)) ∧ New w wr) (fun iv _ => xs.length - (intOf iv).toNat)
    case atStart => exact ⟨0, rfl, Nat.zero_le _, hide (by simpa [afterL] using hh), n1⟩
    case round =>
      obtain ⟨n, rfl, hn, HH, nr⟩ := hrel
      by_cases hlt : n < xs.length
      · obtain ⟨x, hx⟩ : ∃ x, xs[n]? = some x := ⟨_, List.getElem?_eq_getElem hlt⟩
        have hxx : (afterL ev (xs.take n) ++ xs.drop n)[n]? = some x := by
          have hl1 : (afterL ev (xs.take n)).length = n := by simp [afterL]; omega
          rw [List.getElem?_append_right (by omega), hl1, Nat.sub_self, List.getElem?_drop, Nat.add_zero]; exact hx
        have hh0 := unhide HH
        have hrow := hh0.row hxx
        rw [Nat.zero_add] at hrow
        have hset := hh0.setState hxx (nextSt x.state x.own ev)
        obtain ⟨CC, TT, hbb, hss, hcc⟩ := id hh0
        have hnn : (n : Int) < (xs.length : Int) := by omega
        have hst : stOk (wr.alloc (.cells #[.int .u64 0, .int .u64 0, .int .u8 0, .int .u8 0, .int .u8 0, .int .u8 0, .int .u8 0, .int .u8 0, .int .u8 0, .int .u8 0, .int .u8 0, .int .u8 0, .int .u8 0, .int .u8 0, .int .u8 0, .int .u8 0, .int .u8 0, .int .u8 0, .int .u8 0, .int .u8 0, .int .u8 0, .int .u8 0, .int .u8 0, .int .u8 0, .int .u8 0, .int .u8 0, .int .u8 0, .int .u8 0, .int .u8 0, .int .u8 0, .int .u8 0, .int .u8 0, .int .u8 0, .int .u8 0, .int .i64 0, .bool false, .int .i64 0, .bool false] 128)) wr.heap.size 0 38 (liveCells x).toArray = true := stOk_blk (blk_alloc _ _) (by decide) (by rw [List.size_toArray, live_len]) (by rw [List.all_toArray, List.all_eq_true]; exact live_one x)
        have hlaid := laid_new wr #[.int .u64 0, .int .u64 0, .int .u8 0, .int .u8 0, .int .u8 0, .int .u8 0, .int .u8 0, .int .u8 0, .int .u8 0, .int .u8 0, .int .u8 0, .int .u8 0, .int .u8 0, .int .u8 0, .int .u8 0, .int .u8 0, .int .u8 0, .int .u8 0, .int .u8 0, .int .u8 0, .int .u8 0, .int .u8 0, .int .u8 0, .int .u8 0, .int .u8 0, .int .u8 0, .int .u8 0, .int .u8 0, .int .u8 0, .int .u8 0, .int .u8 0, .int .u8 0, .int .u8 0, .int .u8 0, .int .i64 0, .bool false, .int .i64 0, .bool false] 128 (liveCells x) (by rw [live_len]; rfl)
        have v35 := live_35 x
        have v36 := live_36 x
        have hlen := live_len x
        have HX := hide hx
        have HXX := hide hxx
        clear hx hxx hset hbb hss hcc hh0 hh
        generalize liveCells x = C at hrow hst hlaid v35 v36 hlen
        go_upto_region 5 with fail
        obtain ⟨hbx, nC⟩ := hlaid
        generalize (wr.alloc (.cells #[.int .u64 0, .int .u64 0, .int .u8 0, .int .u8 0, .int .u8 0, .int .u8 0, .int .u8 0, .int .u8 0, .int .u8 0, .int .u8 0, .int .u8 0, .int .u8 0, .int .u8 0, .int .u8 0, .int .u8 0, .int .u8 0, .int .u8 0, .int .u8 0, .int .u8 0, .int .u8 0, .int .u8 0, .int .u8 0, .int .u8 0, .int .u8 0, .int .u8 0, .int .u8 0, .int .u8 0, .int .u8 0, .int .u8 0, .int .u8 0, .int .u8 0, .int .u8 0, .int .u8 0, .int .u8 0, .int .i64 0, .bool false, .int .i64 0, .bool false] 128)).setCells wr.heap.size 0 C = wC at hbx nC ⊢
        have s35 : wC.cell? ⟨wr.heap.size, 35, none⟩ = some (.bool x.own) := by rw [blk_cell hbx, List.getElem?_toArray]; exact v35
        have s36 : wC.cell? ⟨wr.heap.size, 36, none⟩ = some (.int .i64 x.state) := by rw [blk_cell hbx, List.getElem?_toArray]; exact v36
        have hGC : Glob wC := hG.new (nr.trans nC)
        clear hst hrow
        go_wp2_with fail
        refine (next_any x.state ev x.own wC hGC).mono ?_
        rintro e w2 ⟨rfl, q2⟩
        have hh2 : HeldO w2 g 0 (afterL ev (xs.take n) ++ xs.drop n) := ((unhide HH).upd nC (fun h => h)).upd (q2.upd (fun _ => False)) (fun h => h)
        have hset := hh2.setState (unhide HXX) (nextSt x.state x.own ev)
        have hrow2 := hh2.row (unhide HXX)
        obtain ⟨CC, TT, hbb, hss, hcc⟩ := id hh2
        have t36 : w2.cell? ⟨g, n * 38 + 36, none⟩ = some (.int .i64 x.state) := by
          rw [blk_cell hbb]
          have := hcc n x (unhide HXX) 36 (by decide)
          rw [Nat.zero_add] at this
          rw [this, live_36]
        have z36 : w2.frozen? ⟨g, n * 38 + 36, none⟩ = false := blk_free hbb _
        rw [Nat.zero_add] at hset
        have HSET := hide hset
        have n2 : New w w2 := (nr.trans nC).then (q2.upd (fun _ => False)) (fun _ _ h => h.elim)
        clear hset hrow2 hbb hss hcc hh2 s35 s36 hbx nC
        go_wp2
        go_roundw
        case rel =>
          refine ⟨n + 1, by go_num, by omega, hide ?_, n2.setCell (fun h => by have h1 : g < w.heap.size := h; omega) _⟩
          have := unhide HSET
          have e : (afterL ev (xs.take n) ++ xs.drop n).set n { x with state := nextSt x.state x.own ev } = afterL ev (xs.take (n + 1)) ++ xs.drop (n + 1) := by
            have hl1 : (afterL ev (xs.take n)).length = n := by simp [afterL]; omega
            rw [List.set_append_right _ _ (by omega), hl1, Nat.sub_self, List.take_add_one, unhide HX]
            have hd : xs.drop n = x :: xs.drop (n + 1) := by
              rw [List.drop_eq_getElem_cons hlt]
              congr 1
              have := unhide HX
              rw [List.getElem?_eq_getElem hlt] at this
              exact Option.some.inj this
            rw [hd]
            simp [afterL, aft]
          rwa [e] at this
        case measure => simp [intOf]; omega
      · obtain rfl : n = xs.length := by omega
        have hf : HeldO wr g 0 (afterL ev xs) := by have := unhide HH; simpa using this
        have hlL : (afterL ev xs).length = xs.length := by simp [afterL]
        have HF := hide hf
        clear hf hh
        go_wp2
        first | go_ret2 | go_ret
        exact ⟨_, rfl, nr, .inr ⟨g, 0, _, by rw [hlL]; rfl, hg, (unhide HF).toL⟩⟩

end Go.Proofs.YtainkaojnhfldaaGreatDoor
