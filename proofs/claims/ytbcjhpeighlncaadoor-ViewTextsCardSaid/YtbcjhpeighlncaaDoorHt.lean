/-
  What each function of package htlc, and of its reference, does.
-/
import Derived.Test.YtbcjhpeighlncaaDoorRows
import Derived.Test.YtbcjhpeighlncaaDoorBase
import Derived.Deep.RegionHeld3
namespace Go.Proofs.YtbcjhpeighlncaaDoor
set_option linter.unusedVariables false
set_option linter.unusedSimpArgs false
open Go.RowKit

def spansL : List Int := [1, 7, 3, 5]
def eventsL : List Int := [3, 4, 1, 2, 0, 1, 2, 3, 4, 0, 1, 2, 3, 4, 0, 3, 4, 1, 2, 0]
/-- The table of spans of package htlc lies in its block. -/
structure Spans (w : World) : Prop where
  spans : ∀ i, i < 4 → w.cell? ⟨1, i, none⟩ = some (.int .i64 (spansL.getD i 0))
theorem Spans.q {w w' : World} (h : Spans w) (q : Q w w') : Spans w' := ⟨fun i hi => q.cell (h.spans i hi)⟩
theorem Spans.upd {S : Nat → Prop} {w w' : World} (h : Spans w) (u : Upd S w w') (h0 : ¬ S 1) : Spans w' := ⟨fun i hi => u.cell (h.spans i hi) h0⟩
theorem Spans.new {w w' : World} (h : Spans w) (u : New w w') : Spans w' := h.upd u (fun h => h)
/-- The table of events does. -/
structure Glob (w : World) : Prop where
  events : ∀ i, i < 20 → w.cell? ⟨0, i, none⟩ = some (.int .i64 (eventsL.getD i 0))
theorem Glob.q {w w' : World} (h : Glob w) (q : Q w w') : Glob w' := ⟨fun i hi => q.cell (h.events i hi)⟩
theorem Glob.upd {S : Nat → Prop} {w w' : World} (h : Glob w) (u : Upd S w w') (h1 : ¬ S 0) : Glob w' := ⟨fun i hi => u.cell (h.events i hi) h1⟩
theorem Glob.new {w w' : World} (h : Glob w) (u : New w w') : Glob w' := h.upd u (fun h => h)

def mayB (st : Int) : Bool := decide (0 ≤ st) && decide (st ≤ 9)
theorem may_yes {st : Int} (h0 : 0 ≤ st) (h1 : st ≤ 9) : mayB st = true := by unfold mayB; simp; omega
theorem may_no {st : Int} (h : st < 0 ∨ 9 < st) : mayB st = false := by unfold mayB; simp; omega
def rowI (own : Bool) : Int := if own then 1 else 0
def evAt (own : Bool) (n : Nat) : Int := eventsL.getD ((if own then 10 else 0) + n) 0
/-- The state behind an event. -/
def nextSt (st : Int) (own : Bool) (ev : Int) : Int := if mayB st = true ∧ ev ≠ 0 ∧ evAt own st.toNat = ev then st + 1 else st
def loI (own : Bool) : Int := if own then 3 else 1
def hiI (own : Bool) : Int := if own then 5 else 7
/-- Does our commitment have it? -/
def oursB (st : Int) (own : Bool) : Bool := decide (loI own ≤ st) && decide (st ≤ hiI own)
def outB (st : Int) (own : Bool) : Bool := mayB st && decide (hiI own < st)

set_option maxHeartbeats 400000 in
theorem may_any (st : Int) (w : World) : Calls Tryd.prog 51 #[.int .i64 st] w (Reads (.bool (mayB st)) w) := by
  by_cases h0 : 0 ≤ st
  · by_cases h1 : st ≤ 9
    · rw [may_yes h0 h1]
      go_enter Tryd.func51, Tryd.ntmps51
      go_wp2
      go_ret
      exact ⟨rfl, Q.refl _⟩
    · rw [may_no (by omega)]
      have h1' : decide (st ≤ 9) = false := by simpa using h1
      go_enter Tryd.func51, Tryd.ntmps51
      go_wp2
      go_ret
      exact ⟨rfl, Q.refl _⟩
  · rw [may_no (by omega)]
    go_enter Tryd.func51, Tryd.ntmps51
    go_wp2
    go_ret
    exact ⟨rfl, Q.refl _⟩

set_option maxHeartbeats 400000 in
theorem row_any (own : Bool) (w : World) : Calls Tryd.prog 52 #[.bool own] w (Reads (.int .i64 (rowI own)) w) := by
  cases own
  · go_enter Tryd.func52, Tryd.ntmps52
    go_wp2
    go_ret
    exact ⟨rfl, Q.refl _⟩
  · go_enter Tryd.func52, Tryd.ntmps52
    go_wp2
    go_ret
    exact ⟨rfl, Q.refl _⟩

theorem row_false (w : World) : Calls Tryd.prog 52 #[.bool false] w (Reads (.int .i64 0) w) := row_any false w
theorem row_true (w : World) : Calls Tryd.prog 52 #[.bool true] w (Reads (.int .i64 1) w) := row_any true w
theorem may_true {st : Int} (w : World) (h : mayB st = true) : Calls Tryd.prog 51 #[.int .i64 st] w (Reads (.bool true) w) := h ▸ may_any st w
theorem may_false {st : Int} (w : World) (h : mayB st = false) : Calls Tryd.prog 51 #[.int .i64 st] w (Reads (.bool false) w) := h ▸ may_any st w

set_option maxHeartbeats 400000 in
theorem next_any (st ev : Int) (own : Bool) (w : World) (hG : Glob w) : Calls Tryd.prog 34 #[.int .i64 st, .bool own, .int .i64 ev] w (Reads (.int .i64 (nextSt st own ev)) w) := by
  cases hm : mayB st with
  | false =>
    have e : nextSt st own ev = st := by unfold nextSt; rw [if_neg (by rw [hm]; simp)]
    rw [e]
    have Hm := hide hm
    clear e hm
    go_enter Tryd.func34, Tryd.ntmps34
    go_wp2_with fail
    refine (may_false _ (unhide Hm)).mono ?_
    rintro e w1 ⟨rfl, q1⟩
    go_wp2
    go_ret
    exact ⟨rfl, q1⟩
  | true =>
    obtain ⟨n, rfl, hn⟩ : ∃ n : Nat, st = n ∧ n ≤ 9 := by
      unfold mayB at hm
      simp at hm
      exact ⟨st.toNat, by omega, by omega⟩
    have Hm := hide hm
    clear hm
    by_cases h0 : ev = 0
    · subst h0
      have e : nextSt n own 0 = n := by unfold nextSt; rw [if_neg (by simp)]
      rw [e]
      clear e
      go_enter Tryd.func34, Tryd.ntmps34
      go_wp2_with fail
      refine (may_true _ (unhide Hm)).mono ?_
      rintro e w1 ⟨rfl, q1⟩
      go_wp2
      go_ret
      exact ⟨rfl, q1⟩
    · have h0' : (ev == 0) = false := by simpa using h0
      have hn0 : (0 : Int) ≤ (n : Int) := by omega
      have hn10 : (n : Int) < 10 := by omega
      have hcell : w.cell? ⟨0, (if own then 10 else 0) + n, none⟩ = some (.int .i64 (evAt own n)) := hG.events _ (by split <;> omega)
      by_cases he : evAt own n = ev
      · have e : nextSt n own ev = n + 1 := by unfold nextSt; rw [if_pos ⟨unhide Hm, h0, by simpa using he⟩]
        rw [e]
        clear e h0
        have he' : (evAt own n != ev) = false := by simpa using he
        clear he
        cases own <;> simp only [if_true, if_false, Bool.false_eq_true, Nat.zero_add] at hcell
        all_goals
          generalize evAt _ n = x at *
          go_enter Tryd.func34, Tryd.ntmps34
          go_wp2_with fail
          refine (may_true _ (unhide Hm)).mono ?_
          rintro e w1 ⟨rfl, q1⟩
          have hc1 := q1.cell hcell
          go_wp2_with fail
          refine (row_any _ _).mono ?_
          rintro e w2 ⟨rfl, q2⟩
          have hc2 := q2.cell hc1
          unfold rowI
          go_wp2
          go_ret
          exact ⟨rfl, q1.trans q2⟩
      · have e : nextSt n own ev = n := by unfold nextSt; rw [if_neg (by simp; intro _ _; simpa using he)]
        rw [e]
        clear e h0
        have he' : (evAt own n != ev) = true := by simpa using he
        clear he
        cases own <;> simp only [if_true, if_false, Bool.false_eq_true, Nat.zero_add] at hcell
        all_goals
          generalize evAt _ n = x at *
          go_enter Tryd.func34, Tryd.ntmps34
          go_wp2_with fail
          refine (may_true _ (unhide Hm)).mono ?_
          rintro e w1 ⟨rfl, q1⟩
          have hc1 := q1.cell hcell
          go_wp2_with fail
          refine (row_any _ _).mono ?_
          rintro e w2 ⟨rfl, q2⟩
          have hc2 := q2.cell hc1
          unfold rowI
          go_wp2
          go_ret
          exact ⟨rfl, q1.trans q2⟩

theorem ours_split (own : Bool) (n : Nat) (h : n < 2) : (if own then 2 else 0) + n < 4 := by split <;> omega

set_option maxHeartbeats 400000 in
theorem ours_any (st : Int) (own : Bool) (w : World) (hG : Spans w) : Calls Tryd.prog 47 #[.int .i64 st, .bool own] w (Makes (.bool (oursB st own)) w) := by
  have c0 := hG.spans 0 (by omega)
  have c1 := hG.spans 1 (by omega)
  have c2 := hG.spans 2 (by omega)
  have c3 := hG.spans 3 (by omega)
  simp only [spansL, List.getD_cons_zero, List.getD_cons_succ] at c0 c1 c2 c3
  cases own
  · have e : oursB st false = (decide (1 ≤ st) && decide (st ≤ 7)) := rfl
    rw [e]
    by_cases h1 : 1 ≤ st
    · have h1' : decide (1 ≤ st) = true := by simpa using h1
      rw [h1', Bool.true_and]
      clear e h1'
      go_enter Tryd.func47, Tryd.ntmps47
      go_wp2_with fail
      refine (row_any _ _).mono ?_
      rintro e w1 ⟨rfl, q1⟩
      have d0 := q1.cell c0
      have d1 := q1.cell c1
      unfold rowI
      go_wp2
      go_ret
      exact ⟨rfl, (q1.upd _).alloc _⟩
    · have h1' : decide (1 ≤ st) = false := by simpa using h1
      rw [h1', Bool.false_and]
      clear e h1
      go_enter Tryd.func47, Tryd.ntmps47
      go_wp2_with fail
      refine (row_any _ _).mono ?_
      rintro e w1 ⟨rfl, q1⟩
      have d0 := q1.cell c0
      have d1 := q1.cell c1
      unfold rowI
      go_wp2
      go_ret
      exact ⟨rfl, (q1.upd _).alloc _⟩
  · have e : oursB st true = (decide (3 ≤ st) && decide (st ≤ 5)) := rfl
    rw [e]
    by_cases h1 : 3 ≤ st
    · have h1' : decide (3 ≤ st) = true := by simpa using h1
      rw [h1', Bool.true_and]
      clear e h1'
      go_enter Tryd.func47, Tryd.ntmps47
      go_wp2_with fail
      refine (row_any _ _).mono ?_
      rintro e w1 ⟨rfl, q1⟩
      have d0 := q1.cell c2
      have d1 := q1.cell c3
      unfold rowI
      go_wp2
      go_ret
      exact ⟨rfl, (q1.upd _).alloc _⟩
    · have h1' : decide (3 ≤ st) = false := by simpa using h1
      rw [h1', Bool.false_and]
      clear e h1
      go_enter Tryd.func47, Tryd.ntmps47
      go_wp2_with fail
      refine (row_any _ _).mono ?_
      rintro e w1 ⟨rfl, q1⟩
      have d0 := q1.cell c2
      have d1 := q1.cell c3
      unfold rowI
      go_wp2
      go_ret
      exact ⟨rfl, (q1.upd _).alloc _⟩

set_option maxHeartbeats 400000 in
theorem theirs_any (st : Int) (own : Bool) (w : World) (hG : Spans w) : Calls Tryd.prog 48 #[.int .i64 st, .bool own] w (Makes (.bool (oursB st !own)) w) := by
  go_enter Tryd.func48, Tryd.ntmps48
  go_wp2_with fail
  refine (ours_any _ _ _ hG).mono ?_
  rintro e w1 ⟨rfl, n1⟩
  go_wp2
  go_ret
  exact ⟨rfl, n1⟩

set_option maxHeartbeats 400000 in
theorem above_any (st : Int) (own : Bool) (b : Nat) (w : World) (hG : Spans w) (hc : w.cell? ⟨b, 0, none⟩ = some (.int .i64 st)) :
    Calls Tryd.prog 57 #[.bool own, .pointer (some ⟨b, 0, none⟩)] w (Reads (.bool (outB st own)) w) := by
  have c1 := hG.spans 1 (by omega)
  have c3 := hG.spans 3 (by omega)
  simp only [spansL, List.getD_cons_zero, List.getD_cons_succ] at c1 c3
  cases hm : mayB st with
  | false =>
    have e : outB st own = false := by unfold outB; rw [hm]; rfl
    rw [e]
    have Hm := hide hm
    clear e hm
    go_enter Tryd.func57, Tryd.ntmps57
    go_wp2_with fail
    go_quiet ((go_at_call 51; exact Calls.quiet_of (may_false _ (unhide Hm))))
    go_wp2
    go_ret
    exact ⟨rfl, Q.drewN _ _⟩
  | true =>
    have e : outB st own = decide (hiI own < st) := by unfold outB; rw [hm]; rfl
    rw [e]
    have Hm := hide hm
    clear e hm
    cases own
    all_goals
      go_enter Tryd.func57, Tryd.ntmps57
      go_wp2_with fail
      go_quiet ((first | (go_at_call 51; exact Calls.quiet_of (may_true _ (unhide Hm))) | (go_at_call 52; exact Calls.quiet_of (row_false _)) | (go_at_call 52; exact Calls.quiet_of (row_true _))))
      go_wp2
      go_ret
      exact ⟨rfl, Q.drewN _ _⟩

set_option maxHeartbeats 400000 in
theorem settled_any (st : Int) (own : Bool) (w : World) (hG : Spans w) :
    Calls Tryd.prog 46 #[.int .i64 st, .bool own] w (Makes (.tuple #[.bool (outB st own), .bool (outB st !own)]) w) := by
  go_enter Tryd.func46, Tryd.ntmps46
  go_wp2_with fail
  refine (above_any st own w.heap.size _ (hG.new ((Upd.refl _ _).alloc _)) (blk_cell (blk_alloc _ _) 0)).mono ?_
  rintro e w1 ⟨rfl, q1⟩
  go_wp2_with fail
  refine (above_any st (!own) w.heap.size _ ((hG.new ((Upd.refl _ _).alloc _)).q q1) (q1.cell (blk_cell (blk_alloc _ _) 0))).mono ?_
  rintro e w2 ⟨rfl, q2⟩
  go_wp2
  go_ret2
  exact ⟨rfl, ((Upd.refl _ _).alloc _).trans ((q1.trans q2).upd _)⟩

/-! ### the reference -/
set_option maxHeartbeats 400000 in
theorem between_any (n a b : Int) (w : World) : Calls Tryd.prog 32 #[.int .i64 n, .int .i64 a, .int .i64 b] w (Reads (.bool (decide (a ≤ n) && decide (n ≤ b))) w) := by
  by_cases h : a ≤ n
  · have h' : decide (a ≤ n) = true := by simpa using h
    rw [h', Bool.true_and]
    clear h'
    go_enter Tryd.func32, Tryd.ntmps32
    go_wp2
    go_ret
    exact ⟨rfl, Q.refl _⟩
  · have h' : decide (a ≤ n) = false := by simpa using h
    rw [h', Bool.false_and]
    clear h
    go_enter Tryd.func32, Tryd.ntmps32
    go_wp2
    go_ret
    exact ⟨rfl, Q.refl _⟩

set_option maxHeartbeats 400000 in
theorem refours_any (st : Int) (own : Bool) (w : World) : Calls Tryd.prog 14 #[.int .i64 st, .bool own] w (Reads (.bool (oursB st own)) w) := by
  cases own
  all_goals
    go_enter Tryd.func14, Tryd.ntmps14
    go_wp2_with fail
    refine (between_any _ _ _ _).mono ?_
    rintro e w1 ⟨rfl, q1⟩
    go_wp2
    go_ret
    exact ⟨rfl, q1⟩

set_option maxHeartbeats 400000 in
theorem reftheirs_any (st : Int) (own : Bool) (w : World) : Calls Tryd.prog 13 #[.int .i64 st, .bool own] w (Reads (.bool (oursB st !own)) w) := by
  cases own
  all_goals
    go_enter Tryd.func13, Tryd.ntmps13
    go_wp2_with fail
    refine (between_any _ _ _ _).mono ?_
    rintro e w1 ⟨rfl, q1⟩
    go_wp2
    go_ret
    exact ⟨rfl, q1⟩

theorem out_eq (st : Int) (own : Bool) : outB st own = (decide (hiI own + 1 ≤ st) && decide (st ≤ 9)) := by
  unfold outB mayB hiI
  cases own <;> simp <;> rw [Bool.eq_iff_iff] <;> simp <;> omega

set_option maxHeartbeats 400000 in
theorem refsettled_any (st : Int) (own : Bool) (w : World) : Calls Tryd.prog 35 #[.int .i64 st, .bool own] w (Reads (.tuple #[.bool (outB st own), .bool (outB st !own)]) w) := by
  rw [out_eq, out_eq]
  cases own
  all_goals
    go_enter Tryd.func35, Tryd.ntmps35
    go_wp2_with fail
    refine (between_any _ _ _ _).mono ?_
    rintro e w1 ⟨rfl, q1⟩
    go_wp2_with fail
    refine (between_any _ _ _ _).mono ?_
    rintro e w2 ⟨rfl, q2⟩
    go_wp2
    go_ret2
    exact ⟨rfl, q1.trans q2⟩

end Go.Proofs.YtbcjhpeighlncaaDoor
