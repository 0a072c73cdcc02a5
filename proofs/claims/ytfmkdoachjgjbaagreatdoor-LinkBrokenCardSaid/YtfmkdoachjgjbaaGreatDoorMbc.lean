/-
  give, Counts, Closed.
-/
import Derived.Test.YtfmkdoachjgjbaaGreatDoorMaj
import Derived.Test.YtfmkdoachjgjbaaGreatDoorRows
import Derived.Test.YtfmkdoachjgjbaaGreatDoorMaa
import Derived.Deep.RegionHeld3
import Derived.Test.YtfmkdoachjgjbaaGreatDoorMai
import Derived.Sort.Grow
import Derived.BigRegion
set_option linter.unusedVariables false
set_option linter.unusedSimpArgs false
namespace Go.Proofs.YtfmkdoachjgjbaaGreatDoor
open Go.RowKit

/-- An amount put into the base. -/
def Ch.give (c : Ch) (us : Bool) (n : Int) : Ch := if us then { c with loc := IntKind.u64.wrap (c.loc + n) } else { c with rem := IntKind.u64.wrap (c.rem + n) }
theorem wrap_u64_ok (x : Int) : 0 ≤ IntKind.u64.wrap x ∧ IntKind.u64.wrap x < 18446744073709551616 := by rw [IntKind.wrap_u64]; omega
theorem Ch.Ok.give {c : Ch} (h : c.Ok) (us : Bool) (n : Int) : (c.give us n).Ok := by
  unfold Ch.give
  split
  · exact ⟨h.s, h.signed, h.heard, h.nextOwn, h.nextTheirs, wrap_u64_ok _, h.rem, h.xs, h.few, h.shelf, h.news, h.last, h.many⟩
  · exact ⟨h.s, h.signed, h.heard, h.nextOwn, h.nextTheirs, h.loc, wrap_u64_ok _, h.xs, h.few, h.shelf, h.news, h.last, h.many⟩
set_option maxHeartbeats 1000000 in
theorem giveC_any (g : Nat) (S : Nat → Prop) (c : Ch) (lv nv av : Value) (us : Bool) (n : Int) (w : World) (h : ChP w g S c lv nv av) :
    Calls Tryz.prog 111 #[.pointer (some ⟨g, 0, none⟩), .bool us, .int .u64 n] w fun e w' => e = .returned (.tuple #[]) ∧ ChP w' g S (c.give us n) lv nv av ∧ Upd (· = g) w w' := by
  cases us with
  | true =>
    have c45 : w.cell? ⟨g, 45, none⟩ = some (.int .u64 c.loc) := h.toR.loc
    have f45 : w.frozen? ⟨g, 45, none⟩ = false := blk_free h.at_ 45
    obtain ⟨x, hx⟩ : ∃ x, x = IntKind.u64.wrap (c.loc + n) := ⟨_, rfl⟩
    have hp := h.put (i := 45) (x := .int .u64 x) (c' := c.give true n) (by rw [hx]; exact set_loc c lv nv av h.ok.s.seed _) (h.ok.give true n) rfl rfl rfl
    have u : Upd (· = g) w (w.setCell ⟨g, 45, none⟩ (.int .u64 x)) := (Upd.refl _ _).set1 45 _
    have HP := hide hp
    have HU := hide u
    have hw : IntKind.u64.wrap (c.loc + n) = x := hx.symm
    clear h hp u hx
    go_enter Tryz.func111, Tryz.ntmps111
    go_wp2_with (with_reducible first | (first | refine' tw1 (ido ?_) ?_ | refine' tw2 (ido ?_) ?_); rotate_left | refine' tw3 (ido ?_) | rfl | apply tn | refine' tw4 ?_)
    go_end0
    exact ⟨rfl, unhide HP, unhide HU⟩
  | false =>
    have c46 : w.cell? ⟨g, 46, none⟩ = some (.int .u64 c.rem) := h.toR.rem
    have f46 : w.frozen? ⟨g, 46, none⟩ = false := blk_free h.at_ 46
    obtain ⟨x, hx⟩ : ∃ x, x = IntKind.u64.wrap (c.rem + n) := ⟨_, rfl⟩
    have hp := h.put (i := 46) (x := .int .u64 x) (c' := c.give false n) (by rw [hx]; exact set_rem c lv nv av h.ok.s.seed _) (h.ok.give false n) rfl rfl rfl
    have u : Upd (· = g) w (w.setCell ⟨g, 46, none⟩ (.int .u64 x)) := (Upd.refl _ _).set1 46 _
    have HP := hide hp
    have HU := hide u
    have hw : IntKind.u64.wrap (c.rem + n) = x := hx.symm
    clear h hp u hx
    go_enter Tryz.func111, Tryz.ntmps111
    go_wp2_with (with_reducible first | (first | refine' tw1 (ido ?_) ?_ | refine' tw2 (ido ?_) ?_); rotate_left | refine' tw3 (ido ?_) | rfl | apply tn | refine' tw4 ?_)
    go_end0
    exact ⟨rfl, unhide HP, unhide HU⟩

def spansL : List Int := [1, 7, 3, 5]
def eventsL : List Int := [3, 4, 1, 2, 0, 1, 2, 3, 4, 0, 1, 2, 3, 4, 0, 3, 4, 1, 2, 0]
/-- The table of spans of package htlc lies in its block. -/
structure Spans (w : World) : Prop where
  spans : ∀ i, i < 4 → w.cell? ⟨2, i, none⟩ = some (.int .i64 (spansL.getD i 0))
theorem Spans.q {w w' : World} (h : Spans w) (q : Q w w') : Spans w' := ⟨fun i hi => q.cell (h.spans i hi)⟩
theorem Spans.upd {S : Nat → Prop} {w w' : World} (h : Spans w) (u : Upd S w w') (h0 : ¬ S 2) : Spans w' := ⟨fun i hi => u.cell (h.spans i hi) h0⟩
theorem Spans.new {w w' : World} (h : Spans w) (u : New w w') : Spans w' := h.upd u (fun h => h)
/-- The table of events does. -/
structure Glob (w : World) : Prop where
  events : ∀ i, i < 20 → w.cell? ⟨0, i, none⟩ = some (.int .i64 (eventsL.getD i 0))
theorem Glob.q {w w' : World} (h : Glob w) (q : Q w w') : Glob w' := ⟨fun i hi => q.cell (h.events i hi)⟩
theorem Glob.upd {S : Nat → Prop} {w w' : World} (h : Glob w) (u : Upd S w w') (h1 : ¬ S 0) : Glob w' := ⟨fun i hi => u.cell (h.events i hi) h1⟩
theorem Glob.new {w w' : World} (h : Glob w) (u : New w w') : Glob w' := h.upd u (fun h => h)

def mayB (st : Int) : Bool := decide (0 ≤ st) && decide (st ≤ 9)
theorem may_yes {st : Int} (h0 : 0 ≤ st) (h1 : st ≤ 9) : mayB st = true := by unfold mayB; simp; omega
theorem may_no {st : Int} (h : st < 0 ∨ 9 < st) : mayB st = false := by unfold mayB; simp; omega
def rowI (own : Bool) : Int := if own then 1 else 0
def evAt (own : Bool) (n : Nat) : Int := eventsL.getD ((if own then 10 else 0) + n) 0
/-- The state behind an event. -/
def nextSt (st : Int) (own : Bool) (ev : Int) : Int := if mayB st = true ∧ ev ≠ 0 ∧ evAt own st.toNat = ev then st + 1 else st
def loI (own : Bool) : Int := if own then 3 else 1
def hiI (own : Bool) : Int := if own then 5 else 7
/-- Does our commitment have it? -/
def oursB (st : Int) (own : Bool) : Bool := decide (loI own ≤ st) && decide (st ≤ hiI own)
def outB (st : Int) (own : Bool) : Bool := mayB st && decide (hiI own < st)

set_option maxRecDepth 100000 in
set_option maxHeartbeats 400000 in
theorem may_any (st : Int) (w : World) : Calls Tryz.prog 185 #[.int .i64 st] w (Reads (.bool (mayB st)) w) := by
  by_cases h0 : 0 ≤ st
  · by_cases h1 : st ≤ 9
    · rw [may_yes h0 h1]
      go_enter Tryz.func185, Tryz.ntmps185
      go_wp2
      go_ret
      exact ⟨rfl, Q.refl _⟩
    · rw [may_no (by omega)]
      have h1' : decide (st ≤ 9) = false := by simpa using h1
      go_enter Tryz.func185, Tryz.ntmps185
      go_wp2
      go_ret
      exact ⟨rfl, Q.refl _⟩
  · rw [may_no (by omega)]
    go_enter Tryz.func185, Tryz.ntmps185
    go_wp2
    go_ret
    exact ⟨rfl, Q.refl _⟩

set_option maxRecDepth 100000 in
set_option maxHeartbeats 400000 in
theorem row_any (own : Bool) (w : World) : Calls Tryz.prog 186 #[.bool own] w (Reads (.int .i64 (rowI own)) w) := by
  cases own
  · go_enter Tryz.func186, Tryz.ntmps186
    go_wp2
    go_ret
    exact ⟨rfl, Q.refl _⟩
  · go_enter Tryz.func186, Tryz.ntmps186
    go_wp2
    go_ret
    exact ⟨rfl, Q.refl _⟩

theorem row_false (w : World) : Calls Tryz.prog 186 #[.bool false] w (Reads (.int .i64 0) w) := row_any false w
theorem row_true (w : World) : Calls Tryz.prog 186 #[.bool true] w (Reads (.int .i64 1) w) := row_any true w
theorem may_true {st : Int} (w : World) (h : mayB st = true) : Calls Tryz.prog 185 #[.int .i64 st] w (Reads (.bool true) w) := h ▸ may_any st w
theorem may_false {st : Int} (w : World) (h : mayB st = false) : Calls Tryz.prog 185 #[.int .i64 st] w (Reads (.bool false) w) := h ▸ may_any st w

set_option maxRecDepth 100000 in
set_option maxHeartbeats 400000 in
theorem next_any (st ev : Int) (own : Bool) (w : World) (hG : Glob w) : Calls Tryz.prog 154 #[.int .i64 st, .bool own, .int .i64 ev] w (Reads (.int .i64 (nextSt st own ev)) w) := by
  cases hm : mayB st with
  | false =>
    have e : nextSt st own ev = st := by unfold nextSt; rw [if_neg (by rw [hm]; simp)]
    rw [e]
    have Hm := hide hm
    clear e hm
    go_enter Tryz.func154, Tryz.ntmps154
    go_wp2_with fail
    refine (may_false _ (unhide Hm)).mono ?_
    rintro e w1 ⟨rfl, q1⟩
    go_wp2
    go_ret
    exact ⟨rfl, q1⟩
  | true =>
    obtain ⟨n, rfl, hn⟩ : ∃ n : Nat, st = n ∧ n ≤ 9 := by
      unfold mayB at hm
      simp at hm
      exact ⟨st.toNat, by omega, by omega⟩
    have Hm := hide hm
    clear hm
    by_cases h0 : ev = 0
    · subst h0
      have e : nextSt n own 0 = n := by unfold nextSt; rw [if_neg (by simp)]
      rw [e]
      clear e
      go_enter Tryz.func154, Tryz.ntmps154
      go_wp2_with fail
      refine (may_true _ (unhide Hm)).mono ?_
      rintro e w1 ⟨rfl, q1⟩
      go_wp2
      go_ret
      exact ⟨rfl, q1⟩
    · have h0' : (ev == 0) = false := by simpa using h0
      have hn0 : (0 : Int) ≤ (n : Int) := by omega
      have hn10 : (n : Int) < 10 := by omega
      have hcell : w.cell? ⟨0, (if own then 10 else 0) + n, none⟩ = some (.int .i64 (evAt own n)) := hG.events _ (by split <;> omega)
      by_cases he : evAt own n = ev
      · have e : nextSt n own ev = n + 1 := by unfold nextSt; rw [if_pos ⟨unhide Hm, h0, by simpa using he⟩]
        rw [e]
        clear e h0
        have he' : (evAt own n != ev) = false := by simpa using he
        clear he
        cases own <;> simp only [if_true, if_false, Bool.false_eq_true, Nat.zero_add] at hcell
        all_goals
          generalize evAt _ n = x at *
          go_enter Tryz.func154, Tryz.ntmps154
          go_wp2_with fail
          refine (may_true _ (unhide Hm)).mono ?_
          rintro e w1 ⟨rfl, q1⟩
          have hc1 := q1.cell hcell
          go_wp2_with fail
          refine (row_any _ _).mono ?_
          rintro e w2 ⟨rfl, q2⟩
          have hc2 := q2.cell hc1
          unfold rowI
          go_wp2
          go_ret
          exact ⟨rfl, q1.trans q2⟩
      · have e : nextSt n own ev = n := by unfold nextSt; rw [if_neg (by simp; intro _ _; simpa using he)]
        rw [e]
        clear e h0
        have he' : (evAt own n != ev) = true := by simpa using he
        clear he
        cases own <;> simp only [if_true, if_false, Bool.false_eq_true, Nat.zero_add] at hcell
        all_goals
          generalize evAt _ n = x at *
          go_enter Tryz.func154, Tryz.ntmps154
          go_wp2_with fail
          refine (may_true _ (unhide Hm)).mono ?_
          rintro e w1 ⟨rfl, q1⟩
          have hc1 := q1.cell hcell
          go_wp2_with fail
          refine (row_any _ _).mono ?_
          rintro e w2 ⟨rfl, q2⟩
          have hc2 := q2.cell hc1
          unfold rowI
          go_wp2
          go_ret
          exact ⟨rfl, q1.trans q2⟩

set_option maxRecDepth 100000 in
set_option maxHeartbeats 400000 in
theorem ours_any (st : Int) (own : Bool) (w : World) (hG : Spans w) : Calls Tryz.prog 191 #[.int .i64 st, .bool own] w (Makes (.bool (oursB st own)) w) := by
  have c0 := hG.spans 0 (by omega)
  have c1 := hG.spans 1 (by omega)
  have c2 := hG.spans 2 (by omega)
  have c3 := hG.spans 3 (by omega)
  simp only [spansL, List.getD_cons_zero, List.getD_cons_succ] at c0 c1 c2 c3
  cases own
  · have e : oursB st false = (decide (1 ≤ st) && decide (st ≤ 7)) := rfl
    rw [e]
    by_cases h1 : 1 ≤ st
    · have h1' : decide (1 ≤ st) = true := by simpa using h1
      rw [h1', Bool.true_and]
      clear e h1'
      go_enter Tryz.func191, Tryz.ntmps191
      go_wp2_with fail
      refine (row_any _ _).mono ?_
      rintro e w1 ⟨rfl, q1⟩
      have d0 := q1.cell c0
      have d1 := q1.cell c1
      unfold rowI
      go_wp2
      go_ret
      exact ⟨rfl, (q1.upd _).alloc _⟩
    · have h1' : decide (1 ≤ st) = false := by simpa using h1
      rw [h1', Bool.false_and]
      clear e h1
      go_enter Tryz.func191, Tryz.ntmps191
      go_wp2_with fail
      refine (row_any _ _).mono ?_
      rintro e w1 ⟨rfl, q1⟩
      have d0 := q1.cell c0
      have d1 := q1.cell c1
      unfold rowI
      go_wp2
      go_ret
      exact ⟨rfl, (q1.upd _).alloc _⟩
  · have e : oursB st true = (decide (3 ≤ st) && decide (st ≤ 5)) := rfl
    rw [e]
    by_cases h1 : 3 ≤ st
    · have h1' : decide (3 ≤ st) = true := by simpa using h1
      rw [h1', Bool.true_and]
      clear e h1'
      go_enter Tryz.func191, Tryz.ntmps191
      go_wp2_with fail
      refine (row_any _ _).mono ?_
      rintro e w1 ⟨rfl, q1⟩
      have d0 := q1.cell c2
      have d1 := q1.cell c3
      unfold rowI
      go_wp2
      go_ret
      exact ⟨rfl, (q1.upd _).alloc _⟩
    · have h1' : decide (3 ≤ st) = false := by simpa using h1
      rw [h1', Bool.false_and]
      clear e h1
      go_enter Tryz.func191, Tryz.ntmps191
      go_wp2_with fail
      refine (row_any _ _).mono ?_
      rintro e w1 ⟨rfl, q1⟩
      have d0 := q1.cell c2
      have d1 := q1.cell c3
      unfold rowI
      go_wp2
      go_ret
      exact ⟨rfl, (q1.upd _).alloc _⟩

set_option maxRecDepth 100000 in
set_option maxHeartbeats 400000 in
theorem theirs_any (st : Int) (own : Bool) (w : World) (hG : Spans w) : Calls Tryz.prog 192 #[.int .i64 st, .bool own] w (Makes (.bool (oursB st !own)) w) := by
  go_enter Tryz.func192, Tryz.ntmps192
  go_wp2_with fail
  refine (ours_any _ _ _ hG).mono ?_
  rintro e w1 ⟨rfl, n1⟩
  go_wp2
  go_ret
  exact ⟨rfl, n1⟩

set_option maxRecDepth 100000 in
set_option maxHeartbeats 400000 in
theorem above_any (st : Int) (own : Bool) (b : Nat) (w : World) (hG : Spans w) (hc : w.cell? ⟨b, 0, none⟩ = some (.int .i64 st)) :
    Calls Tryz.prog 208 #[.bool own, .pointer (some ⟨b, 0, none⟩)] w (Reads (.bool (outB st own)) w) := by
  have c1 := hG.spans 1 (by omega)
  have c3 := hG.spans 3 (by omega)
  simp only [spansL, List.getD_cons_zero, List.getD_cons_succ] at c1 c3
  cases hm : mayB st with
  | false =>
    have e : outB st own = false := by unfold outB; rw [hm]; rfl
    rw [e]
    have Hm := hide hm
    clear e hm
    go_enter Tryz.func208, Tryz.ntmps208
    go_wp2_with fail
    go_quiet ((go_at_call 185; exact Calls.quiet_of (may_false _ (unhide Hm))))
    go_wp2
    go_ret
    exact ⟨rfl, Q.drewN _ _⟩
  | true =>
    have e : outB st own = decide (hiI own < st) := by unfold outB; rw [hm]; rfl
    rw [e]
    have Hm := hide hm
    clear e hm
    cases own
    all_goals
      go_enter Tryz.func208, Tryz.ntmps208
      go_wp2_with fail
      go_quiet ((first | (go_at_call 185; exact Calls.quiet_of (may_true _ (unhide Hm))) | (go_at_call 186; exact Calls.quiet_of (row_false _)) | (go_at_call 186; exact Calls.quiet_of (row_true _))))
      go_wp2
      go_ret
      exact ⟨rfl, Q.drewN _ _⟩

set_option maxRecDepth 100000 in
set_option maxHeartbeats 400000 in
theorem settled_any (st : Int) (own : Bool) (w : World) (hG : Spans w) :
    Calls Tryz.prog 190 #[.int .i64 st, .bool own] w (Makes (.tuple #[.bool (outB st own), .bool (outB st !own)]) w) := by
  go_enter Tryz.func190, Tryz.ntmps190
  go_wp2_with fail
  refine (above_any st own w.heap.size _ (hG.new ((Upd.refl _ _).alloc _)) (blk_cell (blk_alloc _ _) 0)).mono ?_
  rintro e w1 ⟨rfl, q1⟩
  go_wp2_with fail
  refine (above_any st (!own) w.heap.size _ ((hG.new ((Upd.refl _ _).alloc _)).q q1) (q1.cell (blk_cell (blk_alloc _ _) 0))).mono ?_
  rintro e w2 ⟨rfl, q2⟩
  go_wp2
  go_ret2
  exact ⟨rfl, ((Upd.refl _ _).alloc _).trans ((q1.trans q2).upd _)⟩

/-- Has a commitment x? Was it taken out of it again? -/
def hasB (ours own : Bool) (st : Int) : Bool := if ours then oursB st own else oursB st !own
def goneB (ours own : Bool) (st : Int) : Bool := if ours then outB st own else outB st !own

set_option maxHeartbeats 400000 in
theorem place_any (ours own : Bool) (st : Int) (C : Array Value) (w : World) (hG : Spans w) (h35 : C[35]? = some (.bool own)) (h36 : C[36]? = some (.int .i64 st)) :
    Calls Tryz.prog 159 #[.bool ours, .agg C] w (Makes (.tuple #[.bool (hasB ours own st), .bool (goneB ours own st)]) w) := by
  have hG0 : Spans (w.alloc (.cells C 69)) := hG.new ((Upd.refl _ _).alloc _)
  have c5 : (w.alloc (.cells C 69)).cell? ⟨w.heap.size, 35, none⟩ = some (.bool own) := (blk_cell (blk_alloc _ _) 35).trans h35
  have c6 : (w.alloc (.cells C 69)).cell? ⟨w.heap.size, 36, none⟩ = some (.int .i64 st) := (blk_cell (blk_alloc _ _) 36).trans h36
  have n0 : New w (w.alloc (.cells C 69)) := (Upd.refl _ _).alloc _
  cases ours
  · go_enter Tryz.func159, Tryz.ntmps159
    go_wp2_with fail
    refine (settled_any st own _ hG0).mono ?_
    rintro e w1 ⟨rfl, n1⟩
    have d5 := n1.cell c5 (fun h => h)
    have d6 := n1.cell c6 (fun h => h)
    go_wp2_with fail
    refine (theirs_any st own _ (hG0.new n1)).mono ?_
    rintro e w2 ⟨rfl, n2⟩
    go_wp2
    go_ret2
    exact ⟨rfl, n0.trans (n1.trans n2)⟩
  · go_enter Tryz.func159, Tryz.ntmps159
    go_wp2_with fail
    refine (settled_any st own _ hG0).mono ?_
    rintro e w1 ⟨rfl, n1⟩
    have d5 := n1.cell c5 (fun h => h)
    have d6 := n1.cell c6 (fun h => h)
    go_wp2_with fail
    refine (ours_any st own _ (hG0.new n1)).mono ?_
    rintro e w2 ⟨rfl, n2⟩
    go_wp2
    go_ret2
    exact ⟨rfl, n0.trans (n1.trans n2)⟩

end Go.Proofs.YtfmkdoachjgjbaaGreatDoor
namespace Go.Proofs.YtfmkdoachjgjbaaGreatDoor
open Go.RowKit Go.Sort

/-- Draws, and new blocks, alone. -/
def G (w w' : World) : Prop := ∃ q os, w' = grow (w.drewN q) os
theorem G.refl (w : World) : G w w := ⟨0, #[], by rw [grow_empty]; rfl⟩
theorem grow_drewN (w : World) (os : Array Obj) (n : Nat) : (grow w os).drewN n = grow (w.drewN n) os := rfl
theorem G.trans {a b c : World} (h : G a b) (k : G b c) : G a c := by
  obtain ⟨q, os, rfl⟩ := h
  obtain ⟨r, ot, rfl⟩ := k
  exact ⟨q + r, os ++ ot, by rw [grow_drewN, World.drewN_drewN, grow_grow]⟩
theorem G.drewN {a b : World} (h : G a b) (n : Nat) : G a (b.drewN n) := h.trans ⟨n, #[], by rw [grow_empty]⟩
theorem G.drew {a b : World} (h : G a b) : G a b.drew := h.drewN 1
theorem G.alloc {a b : World} (h : G a b) (o : Obj) : G a (b.alloc o) := h.trans ⟨0, #[o], alloc_eq_grow b o⟩
theorem Q.g {a b : World} (h : Q a b) : G a b := by
  obtain ⟨n, rfl⟩ := h
  exact (G.refl a).drewN n
theorem G.new {a b : World} (h : G a b) : New a b := by
  obtain ⟨q, os, rfl⟩ := h
  refine ⟨rfl, rfl, rfl, by simp, fun k hk _ => ?_⟩
  show (a.heap ++ os)[k]? = _
  rw [Array.getElem?_append_left hk]
/-- The end of a call that may make blocks, and draws. -/
def Grows (v : Value) (w : World) (e : Ending) (w' : World) : Prop := e = .returned v ∧ G w w'

def cmpI (x y : Int) : Int := if x < y then -1 else if y < x then 1 else 0
theorem cmpI_lt {x y : Int} (h : x < y) : cmpI x y = -1 := by unfold cmpI; rw [if_pos h]
theorem cmpI_gt {x y : Int} (h : y < x) : cmpI x y = 1 := by unfold cmpI; rw [if_neg (by omega), if_pos h]
theorem cmpI_eq (x : Int) : cmpI x x = 0 := by unfold cmpI; rw [if_neg (by omega), if_neg (by omega)]

set_option maxHeartbeats 400000 in
theorem isnan_any (x : Int) (w : World) : Calls Tryz.prog 222 #[.int .u64 x] w (Reads (.bool false) w) := by
  go_enter Tryz.func222, Tryz.ntmps222
  go_wp2
  go_ret
  exact ⟨rfl, Q.refl _⟩

set_option maxHeartbeats 400000 in
theorem cmp_any (x y : Int) (w : World) : Calls Tryz.prog 211 #[.int .u64 x, .int .u64 y] w (Reads (.int .i64 (cmpI x y)) w) := by
  rcases (by omega : x < y ∨ y < x ∨ x = y) with h | h | h
  · rw [cmpI_lt h]
    go_enter Tryz.func211, Tryz.ntmps211
    go_wp2_with fail
    refine (isnan_any _ _).mono ?_
    rintro e w1 ⟨rfl, q1⟩
    go_wp2_with fail
    refine (isnan_any _ _).mono ?_
    rintro e w2 ⟨rfl, q2⟩
    go_wp2
    go_ret
    exact ⟨rfl, q1.trans q2⟩
  · rw [cmpI_gt h]
    go_enter Tryz.func211, Tryz.ntmps211
    go_wp2_with fail
    refine (isnan_any _ _).mono ?_
    rintro e w1 ⟨rfl, q1⟩
    go_wp2_with fail
    refine (isnan_any _ _).mono ?_
    rintro e w2 ⟨rfl, q2⟩
    go_wp2
    go_ret
    exact ⟨rfl, q1.trans q2⟩
  · subst h
    rw [cmpI_eq]
    go_enter Tryz.func211, Tryz.ntmps211
    go_wp2_with fail
    refine (isnan_any _ _).mono ?_
    rintro e w1 ⟨rfl, q1⟩
    go_wp2_with fail
    refine (isnan_any _ _).mono ?_
    rintro e w2 ⟨rfl, q2⟩
    go_wp2
    go_ret
    exact ⟨rfl, q1.trans q2⟩

/-- By the first pair whose numbers are not the same. -/
def cmp2 (a b c d : Int) : Int := if cmpI a b ≠ 0 then cmpI a b else cmpI c d

set_option maxHeartbeats 800000 in
theorem compare_any (a b c d : Int) (g : Nat) (w : World) (h0 : w.cell? ⟨g, 0, none⟩ = some (.int .u64 a)) (h1 : w.cell? ⟨g, 1, none⟩ = some (.int .u64 b)) (h2 : w.cell? ⟨g, 2, none⟩ = some (.int .u64 c)) (h3 : w.cell? ⟨g, 3, none⟩ = some (.int .u64 d)) :
    Calls Tryz.prog 194 #[.slice (some ⟨g, 0, none⟩) 2 2] w (Grows (.int .i64 (cmp2 a b c d)) w) := by
  go_enter Tryz.func194, Tryz.ntmps194
  go_wp2_with fail
  go_loopw [8] (fun i wr => ∃ k : Nat, i = .int .i64 k ∧ k ≤ 2 ∧ (1 ≤ k → Hid (cmpI a b = 0)) ∧ (2 ≤ k → Hid (cmpI c d = 0)) ∧ G w wr) (fun i _ => 2 - (intOf i).toNat)
  case atStart => exact ⟨0, rfl, by omega, by omega, by omega, G.refl _⟩
  case round =>
    obtain ⟨k, rfl, hk, z1, z2, hg⟩ := hrel
    have d0 := hg.new.cell h0 (fun h => h)
    have d1 := hg.new.cell h1 (fun h => h)
    have d2 := hg.new.cell h2 (fun h => h)
    have d3 := hg.new.cell h3 (fun h => h)
    rcases (by omega : k = 0 ∨ k = 1 ∨ k = 2) with rfl | rfl | rfl
    · clear z1 z2
      by_cases hz : cmpI a b = 0
      · have H := hide (cmp_any a b)
        have HZ := hide hz
        rw [hz] at H
        clear hz
        go_wp2_with fail
        refine (unhide H _).mono ?_
        rintro e w1 ⟨rfl, q1⟩
        go_wp2
        go_roundw
        case rel => exact ⟨1, by go_num, by omega, fun _ => HZ, by omega, (hg.alloc _).trans q1.g⟩
        case measure => simp [intOf]
      · have hz' : (cmpI a b != 0) = true := by simpa using hz
        have e2 : cmp2 a b c d = cmpI a b := by unfold cmp2; rw [if_pos hz]
        have E := hide e2
        clear hz e2
        go_wp2_with fail
        refine (cmp_any a b _).mono ?_
        rintro e w1 ⟨rfl, q1⟩
        go_wp2
        go_ret
        exact ⟨by rw [unhide E]; rfl, (hg.alloc _).trans q1.g⟩
    · have HZ1 := z1 (by omega)
      clear z1 z2
      have e2 : cmp2 a b c d = cmpI c d := by unfold cmp2; rw [if_neg (by simpa using unhide HZ1)]
      by_cases hz : cmpI c d = 0
      · have H := hide (cmp_any c d)
        have HZ := hide hz
        rw [hz] at H
        clear hz e2
        go_wp2_with fail
        refine (unhide H _).mono ?_
        rintro e w1 ⟨rfl, q1⟩
        go_wp2
        go_roundw
        case rel => exact ⟨2, by go_num, by omega, fun _ => HZ1, fun _ => HZ, (hg.alloc _).trans q1.g⟩
        case measure => simp [intOf]
      · have hz' : (cmpI c d != 0) = true := by simpa using hz
        have E := hide e2
        clear hz e2
        go_wp2_with fail
        refine (cmp_any c d _).mono ?_
        rintro e w1 ⟨rfl, q1⟩
        go_wp2
        go_ret
        exact ⟨by rw [unhide E]; rfl, (hg.alloc _).trans q1.g⟩
    · have HZ1 := z1 (by omega)
      have HZ2 := z2 (by omega)
      clear z1 z2
      have e2 : cmp2 a b c d = 0 := by unfold cmp2; rw [if_neg (by simpa using unhide HZ1)]; exact unhide HZ2
      have E := hide e2
      clear e2
      go_wp2
      go_ret
      exact ⟨by rw [unhide E]; rfl, hg⟩

def rankI (offered : Bool) : Int := if offered then 0 else 1
set_option maxHeartbeats 400000 in
theorem rank_any (o : Bool) (C : Array Value) (w : World) (h0 : C[0]? = some (.bool o)) : Calls Tryz.prog 188 #[.agg C] w (Grows (.int .u64 (rankI o)) w) := by
  have c0 : (w.alloc (.cells C 254)).cell? ⟨w.heap.size, 0, none⟩ = some (.bool o) := (blk_cell (blk_alloc _ _) 0).trans h0
  cases o
  all_goals
    go_enter Tryz.func188, Tryz.ntmps188
    go_wp2
    go_ret
    exact ⟨rfl, (G.refl _).alloc _⟩

theorem Tryz.infoItem : (Tryz.prog.info? 254).map (·.size) = some 36 := by kernel_rfl
/-- The load of an item, kept whole. -/
def ldItem (x : Value) : Sem Value := Instr.loadAt 254 x
theorem ld_item_fold (x : Value) : Instr.loadAt 254 x = ldItem x := rfl
theorem ld_item (b o : Nat) (w : World) : (ldItem (.pointer (some ⟨b, o, none⟩))).run Tryz.prog w = match rowN w b o 36 with | some A => .ok (.agg A) w | none => slowLd Tryz.prog 254 w b o :=
  run_loadAt_rowN 254 36 _ Tryz.underlying254 rfl Tryz.infoItem b o w
attribute [local go_sem ↓ high] ld_item_fold
attribute [local go_sem] ld_item

theorem rowN_g {w w' : World} {b o n : Nat} {A : Array Value} (h : rowN w b o n = some A) (g : G w w') : rowN w' b o n = some A := rowN_upd h g.new (fun h => h)
theorem carry_ord {w W W' : World} {a b : Nat} {A B : Array Value} {x y : Value} (h : rowN W a 0 36 = some A ∧ rowN W b 0 36 = some B ∧ W.cell? ⟨a, 1, none⟩ = some x ∧ W.cell? ⟨b, 1, none⟩ = some y ∧ G w W) (g : G W W') :
    rowN W' a 0 36 = some A ∧ rowN W' b 0 36 = some B ∧ W'.cell? ⟨a, 1, none⟩ = some x ∧ W'.cell? ⟨b, 1, none⟩ = some y ∧ G w W' :=
  ⟨rowN_g h.1 g, rowN_g h.2.1 g, g.new.cell h.2.2.1 (fun h => h), g.new.cell h.2.2.2.1 (fun h => h), h.2.2.2.2.trans g⟩
/-- What order tells of two items. -/
def ordI (oa ob : Bool) (ia ib : Int) : Int := cmp2 (rankI oa) (rankI ob) ia ib

set_option maxHeartbeats 1600000 in
theorem order_any (oa ob : Bool) (ia ib : Int) (A B : Array Value) (w : World) (hA : A.size = 36) (hB : B.size = 36)
    (a0 : A[0]? = some (.bool oa)) (a1 : A[1]? = some (.int .u64 ia)) (b0 : B[0]? = some (.bool ob)) (b1 : B[1]? = some (.int .u64 ib)) :
    Calls Tryz.prog 161 #[.agg A, .agg B] w (Grows (.int .i64 (ordI oa ob ia ib)) w) := by
  have ha : ((w.alloc (.cells A 254)).alloc (.cells B 254)).heap[w.heap.size]? = some (.cells A 254 (0, 0)) := blk_alloc_old (blk_alloc _ _) _
  have hb : ((w.alloc (.cells A 254)).alloc (.cells B 254)).heap[w.heap.size + 1]? = some (.cells B 254 (0, 0)) := by
    have := blk_alloc (w.alloc (.cells A 254)) (.cells B 254)
    rwa [World.size_alloc] at this
  have n0 : G w ((w.alloc (.cells A 254)).alloc (.cells B 254)) := ((G.refl w).alloc _).alloc _
  have ra := rowN_whole ha 36 hA
  have rb := rowN_whole hb 36 hB
  have ca := (blk_cell ha 1).trans a1
  have cb := (blk_cell hb 1).trans b1
  clear ha hb
  go_enter Tryz.func161, Tryz.ntmps161
  go_wp2_with fail
  generalize ((w.alloc (.cells A 254)).alloc (.cells B 254)) = wa at *
  go_region_held3 (fun w' => rowN w' w.heap.size 0 36 = some A ∧ rowN w' (w.heap.size + 1) 0 36 = some B ∧ w'.cell? ⟨w.heap.size, 1, none⟩ = some (.int .u64 ia) ∧ w'.cell? ⟨w.heap.size + 1, 1, none⟩ = some (.int .u64 ib) ∧ G w w')
    (first | exact ⟨ra, rb, ca, cb, n0.drew⟩ | (refine carry_ord ?_ (by assumption); first | assumption | exact ⟨by assumption, by assumption, by assumption, by assumption, by assumption⟩) | (refine carry_ord ?_ ((G.refl _).alloc _); first | assumption | exact ⟨by assumption, by assumption, by assumption, by assumption, by assumption⟩))
    (first
      | (go_at_call_of 188 (Value.agg A); refine (rank_any oa A _ a0).mono ?_; rintro e w2 ⟨rfl, g2⟩)
      | (go_at_call_of 188 (Value.agg B); refine (rank_any ob B _ b0).mono ?_; rintro e w3 ⟨rfl, g3⟩)
      | (go_at_call 194; refine (compare_any (rankI oa) (rankI ob) ia ib _ _ (blk_cell (blk_alloc _ _) 0) (blk_cell (blk_alloc _ _) 1) (blk_cell (blk_alloc _ _) 2) (blk_cell (blk_alloc _ _) 3)).mono ?_; rintro e w4 ⟨rfl, g4⟩))
  go_wp2
  go_ret
  have hS := ‹rowN _ _ _ _ = some A ∧ rowN _ _ _ _ = some B ∧ _›
  exact ⟨rfl, hS.2.2.2.2⟩

end Go.Proofs.YtfmkdoachjgjbaaGreatDoor
namespace Go.Proofs.YtfmkdoachjgjbaaGreatDoor
open Go.RowKit Go.Sort

instance : Inhabited Htlc := ⟨⟨0, 0, Vector.replicate 32 0, 0⟩⟩
instance : Inhabited Item := ⟨⟨false, default⟩⟩
/-- From off on, block g holds the items xs, and may be written. -/
def Held (w : World) (g off : Nat) (xs : List Item) : Prop :=
  ∃ C T, w.heap[g]? = some (.cells C T (0, 0)) ∧ off + xs.length * 36 ≤ C.size ∧ ∀ i, i < xs.length → ∀ j, j < 36 → C[off + i * 36 + j]? = (itemCells xs[i]!)[j]?
theorem Held.row {w : World} {g off : Nat} {xs : List Item} (h : Held w g off xs) {i : Nat} (hi : i < xs.length) : rowN w g (off + i * 36) 36 = some (itemCells xs[i]!).toArray := by
  obtain ⟨C, T, hb, hs, hc⟩ := h
  have hle : off + i * 36 + 36 ≤ C.size := by have := Nat.mul_le_mul_right 36 (show i + 1 ≤ xs.length from hi); omega
  rw [rowN_blk hb _ _ hle]
  congr 1
  apply Array.ext'
  apply List.ext_getElem?
  intro j
  rw [Array.getElem?_toList, Array.getElem?_extract]
  by_cases hj : j < 36
  · rw [if_pos (by omega), hc i hi j hj]
  · rw [if_neg (by omega), List.getElem?_eq_none (by rw [item_len]; omega)]
theorem Held.ok {w : World} {g off : Nat} {xs : List Item} (h : Held w g off xs) {i : Nat} (hi : i < xs.length) (y : Item) : stOk w g (off + i * 36) 36 (itemCells y).toArray = true := by
  obtain ⟨C, T, hb, hs, hc⟩ := h
  have hle : off + i * 36 + 36 ≤ C.size := by have := Nat.mul_le_mul_right 36 (show i + 1 ≤ xs.length from hi); omega
  exact stOk_blk hb hle (by rw [List.size_toArray, item_len]) (by rw [List.all_toArray, List.all_eq_true]; exact item_one y)
theorem Held.set {w : World} {g off : Nat} {xs : List Item} (h : Held w g off xs) {i : Nat} (hi : i < xs.length) (y : Item) : Held (w.setCells g (off + i * 36) (itemCells y)) g off (xs.set i y) := by
  obtain ⟨C, T, hb, hs, hc⟩ := h
  have hle : off + i * 36 + 36 ≤ C.size := by have := Nat.mul_le_mul_right 36 (show i + 1 ≤ xs.length from hi); omega
  refine ⟨_, T, blk_setCells hb _ _, by rw [layIn_size, List.length_set]; exact hs, fun k hk j hj => ?_⟩
  rw [List.length_set] at hk
  rw [layIn_get _ _ _ _ (by rw [item_len]; exact hle), item_len]
  by_cases e : i = k
  · subst e
    rw [if_pos (by omega), show off + i * 36 + j - (off + i * 36) = j by omega]
    simp [hk]
  · rw [if_neg ?_, hc k hk j hj]
    · rw [List.getElem!_eq_getElem?_getD, List.getElem!_eq_getElem?_getD, List.getElem?_set_ne e]
    · rcases Nat.lt_or_gt_of_ne e with h | h
      · have := Nat.mul_le_mul_right 36 (show i + 1 ≤ k from h); omega
      · have := Nat.mul_le_mul_right 36 (show k + 1 ≤ i from h); omega
theorem Held.upd {S : Nat → Prop} {w w' : World} {g off : Nat} {xs : List Item} (h : Held w g off xs) (u : Upd S w w') (hn : ¬ S g) : Held w' g off xs := by
  obtain ⟨C, T, hb, r⟩ := h
  exact ⟨C, T, u.old hb hn, r⟩
theorem Held.drewN {w : World} {g off : Nat} {xs : List Item} (h : Held w g off xs) (n : Nat) : Held (w.drewN n) g off xs := h
theorem Held.drew {w : World} {g off : Nat} {xs : List Item} (h : Held w g off xs) : Held w.drew g off xs := h
theorem Held.lt {w : World} {g off : Nat} {xs : List Item} (h : Held w g off xs) : g < w.heap.size := by
  obtain ⟨C, T, hb, r⟩ := h
  exact blk_lt hb
/-- Two of them change places. -/
def swapL (xs : List Item) (i j : Nat) : List Item := (xs.set i xs[j]!).set j xs[i]!
theorem Held.swap {w : World} {g off : Nat} {xs : List Item} (h : Held w g off xs) {i j : Nat} (hi : i < xs.length) (hj : j < xs.length) :
    Held ((w.setCells g (off + i * 36) (itemCells xs[j]!)).setCells g (off + j * 36) (itemCells xs[i]!)) g off (swapL xs i j) :=
  (h.set hi _).set (by rw [List.length_set]; exact hj) _

/-- The store of an item, kept whole. -/
def stItem (x v : Value) : Sem Unit := Instr.storeAt 254 x v
theorem st_item_fold (x v : Value) : Instr.storeAt 254 x v = stItem x v := rfl
theorem st_item (b o : Nat) (A : Array Value) (w : World) : (stItem (.pointer (some ⟨b, o, none⟩)) (.agg A)).run Tryz.prog w = if stOk w b o 36 A = true then .ok () (w.setCells b o A.toList) else slowSt Tryz.prog 254 w b o A :=
  run_storeAt_row 254 36 Tryz.infoItem b o A w
attribute [local go_sem ↓ high] ld_item_fold st_item_fold
attribute [local go_sem] ld_item st_item

end Go.Proofs.YtfmkdoachjgjbaaGreatDoor
namespace Go.Proofs.YtfmkdoachjgjbaaGreatDoor
open Go.RowKit Go.Sort

/-- What order tells of two items. -/
def cf (x y : Item) : Int := ordI x.offered y.offered x.h.id y.h.id
def kl (x y : Item) : Prop := rankI x.offered < rankI y.offered ∨ (rankI x.offered = rankI y.offered ∧ x.h.id < y.h.id)
theorem cf_lt (x y : Item) : cf x y < 0 ↔ kl x y := by
  unfold cf ordI cmp2 cmpI kl
  generalize rankI x.offered = a
  generalize rankI y.offered = b
  generalize x.h.id = c
  generalize y.h.id = d
  split <;> split <;> (try split) <;> (try split) <;> omega
/-- Strictly ahead of: by the order, then by the first places. -/
def lt' (p q : Item × Nat) : Prop := kl p.1 q.1 ∨ (¬ kl q.1 p.1 ∧ p.2 < q.2)
theorem lt'_trans {p q r : Item × Nat} (h : lt' p q) (k : lt' q r) : lt' p r := by unfold lt' kl at *; omega
theorem lt'_irrefl (p : Item × Nat) : ¬ lt' p p := by unfold lt' kl; omega
abbrev Srt (l : List (Item × Nat)) : Prop := l.Pairwise lt'
/-- All of A ahead of all of B. -/
def AllLt (A B : List (Item × Nat)) : Prop := ∀ p ∈ A, ∀ q ∈ B, lt' p q
theorem srt_append {A B : List (Item × Nat)} : Srt (A ++ B) ↔ Srt A ∧ Srt B ∧ AllLt A B := List.pairwise_append
theorem allLt_of_last {A B : List (Item × Nat)} (hA : Srt A) (hB : Srt B) (h : ∀ p q, A.getLast? = some p → B.head? = some q → lt' p q) : AllLt A B := by
  intro p hp q hq
  cases B with
  | nil => cases hq
  | cons b B =>
    obtain ⟨a, ha⟩ : ∃ a, A.getLast? = some a := by
      cases hl : A.getLast? with
      | none => rw [List.getLast?_eq_none_iff] at hl; subst hl; cases hp
      | some a => exact ⟨a, rfl⟩
    have hab := h a b ha rfl
    have h1 : p = a ∨ lt' p a := by
      obtain ⟨ys, rfl⟩ := List.getLast?_eq_some_iff.1 ha
      rcases List.mem_append.1 hp with hp | hp
      · exact .inr ((List.pairwise_append.1 hA).2.2 p hp a (List.mem_singleton.2 rfl))
      · exact .inl (List.mem_singleton.1 hp)
    have h2 : q = b ∨ lt' b q := by
      rcases List.mem_cons.1 hq with rfl | hq
      · exact .inl rfl
      · exact .inr ((List.pairwise_cons.1 hB).1 q hq)
    rcases h1 with rfl | h1 <;> rcases h2 with rfl | h2
    · exact hab
    · exact lt'_trans hab h2
    · exact lt'_trans h1 hab
    · exact lt'_trans h1 (lt'_trans hab h2)
/-- The first places of all of A are below those of all of B. -/
def Low (A B : List (Item × Nat)) : Prop := ∀ p ∈ A, ∀ q ∈ B, p.2 < q.2
/-- One behind many, laid in at its place. -/
theorem ins_right {y : Item × Nat} {A1 A2 : List (Item × Nat)} (hA : Srt (A1 ++ A2)) (hl : Low (A1 ++ A2) [y]) (h1 : ∀ p, A1.getLast? = some p → ¬ kl y.1 p.1) (h2 : ∀ q, A2.head? = some q → kl y.1 q.1) : Srt (A1 ++ (y :: A2)) := by
  obtain ⟨s1, s2, s3⟩ := srt_append.1 hA
  have hx : ∀ p ∈ A1, lt' p y := fun p hp => by
    have := allLt_of_last (A := A1) (B := [y]) s1 (List.pairwise_singleton _ _) (fun p q hp hq => by
      simp only [List.head?_cons, Option.some.injEq] at hq
      subst hq
      refine .inr ⟨h1 p hp, hl p ?_ y (List.mem_singleton.2 rfl)⟩
      exact List.mem_append_left _ (List.mem_of_getLast? hp))
    exact this p hp y (List.mem_singleton.2 rfl)
  have hy : ∀ q ∈ A2, lt' y q := fun q hq => by
    have := allLt_of_last (A := [y]) (B := A2) (List.pairwise_singleton _ _) s2 (fun p q hp hq => by
      simp only [List.getLast?_singleton, Option.some.injEq] at hp
      subst hp
      exact .inl (h2 q hq))
    exact this y (List.mem_singleton.2 rfl) q hq
  refine srt_append.2 ⟨s1, List.pairwise_cons.2 ⟨hy, s2⟩, fun p hp q hq => ?_⟩
  rcases List.mem_cons.1 hq with rfl | hq
  · exact hx p hp
  · exact s3 p hp q hq

end Go.Proofs.YtfmkdoachjgjbaaGreatDoor
