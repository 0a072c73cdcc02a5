/-
  give, Counts, Closed.
-/
import Derived.Test.YtainkaojnhfldaaGreatDoorMah
import Derived.Test.YtainkaojnhfldaaGreatDoorRows
import Derived.Test.YtainkaojnhfldaaGreatDoorMaa
import Derived.Deep.RegionHeld3
set_option linter.unusedVariables false
set_option linter.unusedSimpArgs false
namespace Go.Proofs.YtainkaojnhfldaaGreatDoor
open Go.RowKit

/-- An amount put into the base. -/
def Ch.give (c : Ch) (us : Bool) (n : Int) : Ch := if us then { c with loc := IntKind.u64.wrap (c.loc + n) } else { c with rem := IntKind.u64.wrap (c.rem + n) }
theorem wrap_u64_ok (x : Int) : 0 ≤ IntKind.u64.wrap x ∧ IntKind.u64.wrap x < 18446744073709551616 := by rw [IntKind.wrap_u64]; omega
theorem Ch.Ok.give {c : Ch} (h : c.Ok) (us : Bool) (n : Int) : (c.give us n).Ok := by
  unfold Ch.give
  split
  · exact ⟨h.s, h.signed, h.heard, h.nextOwn, h.nextTheirs, wrap_u64_ok _, h.rem, h.xs, h.few, h.shelf, h.news, h.last, h.many⟩
  · exact ⟨h.s, h.signed, h.heard, h.nextOwn, h.nextTheirs, h.loc, wrap_u64_ok _, h.xs, h.few, h.shelf, h.news, h.last, h.many⟩
set_option maxHeartbeats 1000000 in
theorem giveC_any (g : Nat) (S : Nat → Prop) (c : Ch) (lv nv av : Value) (us : Bool) (n : Int) (w : World) (h : ChP w g S c lv nv av) :
    Calls Tryz.prog 95 #[.pointer (some ⟨g, 0, none⟩), .bool us, .int .u64 n] w fun e w' => e = .returned (.tuple #[]) ∧ ChP w' g S (c.give us n) lv nv av ∧ Upd (· = g) w w' := by
  cases us with
  | true =>
    have c45 : w.cell? ⟨g, 45, none⟩ = some (.int .u64 c.loc) := h.toR.loc
    have f45 : w.frozen? ⟨g, 45, none⟩ = false := blk_free h.at_ 45
    obtain ⟨x, hx⟩ : ∃ x, x = IntKind.u64.wrap (c.loc + n) := ⟨_, rfl⟩
    have hp := h.put (i := 45) (x := .int .u64 x) (c' := c.give true n) (by rw [hx]; exact set_loc c lv nv av h.ok.s.seed _) (h.ok.give true n) rfl rfl rfl
    have u : Upd (· = g) w (w.setCell ⟨g, 45, none⟩ (.int .u64 x)) := (Upd.refl _ _).set1 45 _
    have HP := hide hp
    have HU := hide u
    have hw : IntKind.u64.wrap (c.loc + n) = x := hx.symm
    clear h hp u hx
    go_enter Tryz.func95, Tryz.ntmps95
    go_wp2_with (with_reducible first | (first | refine' tw1 (ido ?_) ?_ | refine' tw2 (ido ?_) ?_); rotate_left | refine' tw3 (ido ?_) | rfl | apply tn | refine' tw4 ?_)
    go_end0
    exact ⟨rfl, unhide HP, unhide HU⟩
  | false =>
    have c46 : w.cell? ⟨g, 46, none⟩ = some (.int .u64 c.rem) := h.toR.rem
    have f46 : w.frozen? ⟨g, 46, none⟩ = false := blk_free h.at_ 46
    obtain ⟨x, hx⟩ : ∃ x, x = IntKind.u64.wrap (c.rem + n) := ⟨_, rfl⟩
    have hp := h.put (i := 46) (x := .int .u64 x) (c' := c.give false n) (by rw [hx]; exact set_rem c lv nv av h.ok.s.seed _) (h.ok.give false n) rfl rfl rfl
    have u : Upd (· = g) w (w.setCell ⟨g, 46, none⟩ (.int .u64 x)) := (Upd.refl _ _).set1 46 _
    have HP := hide hp
    have HU := hide u
    have hw : IntKind.u64.wrap (c.rem + n) = x := hx.symm
    clear h hp u hx
    go_enter Tryz.func95, Tryz.ntmps95
    go_wp2_with (with_reducible first | (first | refine' tw1 (ido ?_) ?_ | refine' tw2 (ido ?_) ?_); rotate_left | refine' tw3 (ido ?_) | rfl | apply tn | refine' tw4 ?_)
    go_end0
    exact ⟨rfl, unhide HP, unhide HU⟩

theorem results_tmp3' {fn : Func} {t u v : Tmp} (h : fn.results = #[.tmp t, .tmp u, .tmp v]) (tmps : Array Value) (P : Program) (w : World) :
    (results fn tmps).run P w = .ok (.tuple #[tmps.getD t undef, tmps.getD u undef, tmps.getD v undef]) w := by
  simp [results, h]
set_option maxHeartbeats 1000000 in
theorem counts_any (g : Nat) (S : Nat → Prop) (c : Ch) (w : World) (h : ChS w g S c) :
    Calls Tryz.prog 19 #[.pointer (some ⟨g, 0, none⟩)] w (Reads (.tuple #[.int .i64 c.k.signed, .int .i64 c.k.heard, .bool c.k.awaits]) w) := by
  obtain ⟨lv, nv, av, h⟩ := h
  have c37 : w.cell? ⟨g, 37, none⟩ = some (.int .i64 c.k.signed) := h.toR.signed
  have c38 : w.cell? ⟨g, 38, none⟩ = some (.int .i64 c.k.heard) := h.toR.heard
  have c39 : w.cell? ⟨g, 39, none⟩ = some (.bool c.k.awaits) := h.toR.awaits
  clear h
  go_enter Tryz.func19, Tryz.ntmps19
  go_wp2_with (with_reducible first | (first | refine' tw1 (ido ?_) ?_ | refine' tw2 (ido ?_) ?_); rotate_left | refine' tw3 (ido ?_) | rfl | apply tn | refine' tw4 ?_)
  refine bodyPost_ret (results_tmp3' rfl _ _ _) rfl ?_
  exact ⟨rfl, (Q.refl w).drewN' 1⟩

end Go.Proofs.YtainkaojnhfldaaGreatDoor
namespace Go.Proofs.YtainkaojnhfldaaGreatDoor
open Go.RowKit

def spansL : List Int := [1, 7, 3, 5]
def eventsL : List Int := [3, 4, 1, 2, 0, 1, 2, 3, 4, 0, 1, 2, 3, 4, 0, 3, 4, 1, 2, 0]
/-- The table of spans of package htlc lies in its block. -/
structure Spans (w : World) : Prop where
  spans : ∀ i, i < 4 → w.cell? ⟨2, i, none⟩ = some (.int .i64 (spansL.getD i 0))
theorem Spans.q {w w' : World} (h : Spans w) (q : Q w w') : Spans w' := ⟨fun i hi => q.cell (h.spans i hi)⟩
theorem Spans.upd {S : Nat → Prop} {w w' : World} (h : Spans w) (u : Upd S w w') (h0 : ¬ S 2) : Spans w' := ⟨fun i hi => u.cell (h.spans i hi) h0⟩
theorem Spans.new {w w' : World} (h : Spans w) (u : New w w') : Spans w' := h.upd u (fun h => h)
/-- The table of events does. -/
structure Glob (w : World) : Prop where
  events : ∀ i, i < 20 → w.cell? ⟨0, i, none⟩ = some (.int .i64 (eventsL.getD i 0))
theorem Glob.q {w w' : World} (h : Glob w) (q : Q w w') : Glob w' := ⟨fun i hi => q.cell (h.events i hi)⟩
theorem Glob.upd {S : Nat → Prop} {w w' : World} (h : Glob w) (u : Upd S w w') (h1 : ¬ S 0) : Glob w' := ⟨fun i hi => u.cell (h.events i hi) h1⟩
theorem Glob.new {w w' : World} (h : Glob w) (u : New w w') : Glob w' := h.upd u (fun h => h)

def mayB (st : Int) : Bool := decide (0 ≤ st) && decide (st ≤ 9)
theorem may_yes {st : Int} (h0 : 0 ≤ st) (h1 : st ≤ 9) : mayB st = true := by unfold mayB; simp; omega
theorem may_no {st : Int} (h : st < 0 ∨ 9 < st) : mayB st = false := by unfold mayB; simp; omega
def rowI (own : Bool) : Int := if own then 1 else 0
def evAt (own : Bool) (n : Nat) : Int := eventsL.getD ((if own then 10 else 0) + n) 0
/-- The state behind an event. -/
def nextSt (st : Int) (own : Bool) (ev : Int) : Int := if mayB st = true ∧ ev ≠ 0 ∧ evAt own st.toNat = ev then st + 1 else st
def loI (own : Bool) : Int := if own then 3 else 1
def hiI (own : Bool) : Int := if own then 5 else 7
/-- Does our commitment have it? -/
def oursB (st : Int) (own : Bool) : Bool := decide (loI own ≤ st) && decide (st ≤ hiI own)
def outB (st : Int) (own : Bool) : Bool := mayB st && decide (hiI own < st)

set_option maxRecDepth 100000 in
set_option maxHeartbeats 400000 in
theorem may_any (st : Int) (w : World) : Calls Tryz.prog 129 #[.int .i64 st] w (Reads (.bool (mayB st)) w) := by
  by_cases h0 : 0 ≤ st
  · by_cases h1 : st ≤ 9
    · rw [may_yes h0 h1]
      go_enter Tryz.func129, Tryz.ntmps129
      go_wp2
      go_ret
      exact ⟨rfl, Q.refl _⟩
    · rw [may_no (by omega)]
      have h1' : decide (st ≤ 9) = false := by simpa using h1
      go_enter Tryz.func129, Tryz.ntmps129
      go_wp2
      go_ret
      exact ⟨rfl, Q.refl _⟩
  · rw [may_no (by omega)]
    go_enter Tryz.func129, Tryz.ntmps129
    go_wp2
    go_ret
    exact ⟨rfl, Q.refl _⟩

set_option maxRecDepth 100000 in
set_option maxHeartbeats 400000 in
theorem row_any (own : Bool) (w : World) : Calls Tryz.prog 130 #[.bool own] w (Reads (.int .i64 (rowI own)) w) := by
  cases own
  · go_enter Tryz.func130, Tryz.ntmps130
    go_wp2
    go_ret
    exact ⟨rfl, Q.refl _⟩
  · go_enter Tryz.func130, Tryz.ntmps130
    go_wp2
    go_ret
    exact ⟨rfl, Q.refl _⟩

theorem row_false (w : World) : Calls Tryz.prog 130 #[.bool false] w (Reads (.int .i64 0) w) := row_any false w
theorem row_true (w : World) : Calls Tryz.prog 130 #[.bool true] w (Reads (.int .i64 1) w) := row_any true w
theorem may_true {st : Int} (w : World) (h : mayB st = true) : Calls Tryz.prog 129 #[.int .i64 st] w (Reads (.bool true) w) := h ▸ may_any st w
theorem may_false {st : Int} (w : World) (h : mayB st = false) : Calls Tryz.prog 129 #[.int .i64 st] w (Reads (.bool false) w) := h ▸ may_any st w

set_option maxRecDepth 100000 in
set_option maxHeartbeats 400000 in
theorem next_any (st ev : Int) (own : Bool) (w : World) (hG : Glob w) : Calls Tryz.prog 93 #[.int .i64 st, .bool own, .int .i64 ev] w (Reads (.int .i64 (nextSt st own ev)) w) := by
  cases hm : mayB st with
  | false =>
    have e : nextSt st own ev = st := by unfold nextSt; rw [if_neg (by rw [hm]; simp)]
    rw [e]
    have Hm := hide hm
    clear e hm
    go_enter Tryz.func93, Tryz.ntmps93
    go_wp2_with fail
    refine (may_false _ (unhide Hm)).mono ?_
    rintro e w1 ⟨rfl, q1⟩
    go_wp2
    go_ret
    exact ⟨rfl, q1⟩
  | true =>
    obtain ⟨n, rfl, hn⟩ : ∃ n : Nat, st = n ∧ n ≤ 9 := by
      unfold mayB at hm
      simp at hm
      exact ⟨st.toNat, by omega, by omega⟩
    have Hm := hide hm
    clear hm
    by_cases h0 : ev = 0
    · subst h0
      have e : nextSt n own 0 = n := by unfold nextSt; rw [if_neg (by simp)]
      rw [e]
      clear e
      go_enter Tryz.func93, Tryz.ntmps93
      go_wp2_with fail
      refine (may_true _ (unhide Hm)).mono ?_
      rintro e w1 ⟨rfl, q1⟩
      go_wp2
      go_ret
      exact ⟨rfl, q1⟩
    · have h0' : (ev == 0) = false := by simpa using h0
      have hn0 : (0 : Int) ≤ (n : Int) := by omega
      have hn10 : (n : Int) < 10 := by omega
      have hcell : w.cell? ⟨0, (if own then 10 else 0) + n, none⟩ = some (.int .i64 (evAt own n)) := hG.events _ (by split <;> omega)
      by_cases he : evAt own n = ev
      · have e : nextSt n own ev = n + 1 := by unfold nextSt; rw [if_pos ⟨unhide Hm, h0, by simpa using he⟩]
        rw [e]
        clear e h0
        have he' : (evAt own n != ev) = false := by simpa using he
        clear he
        cases own <;> simp only [if_true, if_false, Bool.false_eq_true, Nat.zero_add] at hcell
        all_goals
          generalize evAt _ n = x at *
          go_enter Tryz.func93, Tryz.ntmps93
          go_wp2_with fail
          refine (may_true _ (unhide Hm)).mono ?_
          rintro e w1 ⟨rfl, q1⟩
          have hc1 := q1.cell hcell
          go_wp2_with fail
          refine (row_any _ _).mono ?_
          rintro e w2 ⟨rfl, q2⟩
          have hc2 := q2.cell hc1
          unfold rowI
          go_wp2
          go_ret
          exact ⟨rfl, q1.trans q2⟩
      · have e : nextSt n own ev = n := by unfold nextSt; rw [if_neg (by simp; intro _ _; simpa using he)]
        rw [e]
        clear e h0
        have he' : (evAt own n != ev) = true := by simpa using he
        clear he
        cases own <;> simp only [if_true, if_false, Bool.false_eq_true, Nat.zero_add] at hcell
        all_goals
          generalize evAt _ n = x at *
          go_enter Tryz.func93, Tryz.ntmps93
          go_wp2_with fail
          refine (may_true _ (unhide Hm)).mono ?_
          rintro e w1 ⟨rfl, q1⟩
          have hc1 := q1.cell hcell
          go_wp2_with fail
          refine (row_any _ _).mono ?_
          rintro e w2 ⟨rfl, q2⟩
          have hc2 := q2.cell hc1
          unfold rowI
          go_wp2
          go_ret
          exact ⟨rfl, q1.trans q2⟩

set_option maxRecDepth 100000 in
set_option maxHeartbeats 400000 in
theorem ours_any (st : Int) (own : Bool) (w : World) (hG : Spans w) : Calls Tryz.prog 136 #[.int .i64 st, .bool own] w (Makes (.bool (oursB st own)) w) := by
  have c0 := hG.spans 0 (by omega)
  have c1 := hG.spans 1 (by omega)
  have c2 := hG.spans 2 (by omega)
  have c3 := hG.spans 3 (by omega)
  simp only [spansL, List.getD_cons_zero, List.getD_cons_succ] at c0 c1 c2 c3
  cases own
  · have e : oursB st false = (decide (1 ≤ st) && decide (st ≤ 7)) := rfl
    rw [e]
    by_cases h1 : 1 ≤ st
    · have h1' : decide (1 ≤ st) = true := by simpa using h1
      rw [h1', Bool.true_and]
      clear e h1'
      go_enter Tryz.func136, Tryz.ntmps136
      go_wp2_with fail
      refine (row_any _ _).mono ?_
      rintro e w1 ⟨rfl, q1⟩
      have d0 := q1.cell c0
      have d1 := q1.cell c1
      unfold rowI
      go_wp2
      go_ret
      exact ⟨rfl, (q1.upd _).alloc _⟩
    · have h1' : decide (1 ≤ st) = false := by simpa using h1
      rw [h1', Bool.false_and]
      clear e h1
      go_enter Tryz.func136, Tryz.ntmps136
      go_wp2_with fail
      refine (row_any _ _).mono ?_
      rintro e w1 ⟨rfl, q1⟩
      have d0 := q1.cell c0
      have d1 := q1.cell c1
      unfold rowI
      go_wp2
      go_ret
      exact ⟨rfl, (q1.upd _).alloc _⟩
  · have e : oursB st true = (decide (3 ≤ st) && decide (st ≤ 5)) := rfl
    rw [e]
    by_cases h1 : 3 ≤ st
    · have h1' : decide (3 ≤ st) = true := by simpa using h1
      rw [h1', Bool.true_and]
      clear e h1'
      go_enter Tryz.func136, Tryz.ntmps136
      go_wp2_with fail
      refine (row_any _ _).mono ?_
      rintro e w1 ⟨rfl, q1⟩
      have d0 := q1.cell c2
      have d1 := q1.cell c3
      unfold rowI
      go_wp2
      go_ret
      exact ⟨rfl, (q1.upd _).alloc _⟩
    · have h1' : decide (3 ≤ st) = false := by simpa using h1
      rw [h1', Bool.false_and]
      clear e h1
      go_enter Tryz.func136, Tryz.ntmps136
      go_wp2_with fail
      refine (row_any _ _).mono ?_
      rintro e w1 ⟨rfl, q1⟩
      have d0 := q1.cell c2
      have d1 := q1.cell c3
      unfold rowI
      go_wp2
      go_ret
      exact ⟨rfl, (q1.upd _).alloc _⟩

set_option maxRecDepth 100000 in
set_option maxHeartbeats 400000 in
theorem theirs_any (st : Int) (own : Bool) (w : World) (hG : Spans w) : Calls Tryz.prog 137 #[.int .i64 st, .bool own] w (Makes (.bool (oursB st !own)) w) := by
  go_enter Tryz.func137, Tryz.ntmps137
  go_wp2_with fail
  refine (ours_any _ _ _ hG).mono ?_
  rintro e w1 ⟨rfl, n1⟩
  go_wp2
  go_ret
  exact ⟨rfl, n1⟩

set_option maxRecDepth 100000 in
set_option maxHeartbeats 400000 in
theorem above_any (st : Int) (own : Bool) (b : Nat) (w : World) (hG : Spans w) (hc : w.cell? ⟨b, 0, none⟩ = some (.int .i64 st)) :
    Calls Tryz.prog 168 #[.bool own, .pointer (some ⟨b, 0, none⟩)] w (Reads (.bool (outB st own)) w) := by
  have c1 := hG.spans 1 (by omega)
  have c3 := hG.spans 3 (by omega)
  simp only [spansL, List.getD_cons_zero, List.getD_cons_succ] at c1 c3
  cases hm : mayB st with
  | false =>
    have e : outB st own = false := by unfold outB; rw [hm]; rfl
    rw [e]
    have Hm := hide hm
    clear e hm
    go_enter Tryz.func168, Tryz.ntmps168
    go_wp2_with fail
    go_quiet ((go_at_call 129; exact Calls.quiet_of (may_false _ (unhide Hm))))
    go_wp2
    go_ret
    exact ⟨rfl, Q.drewN _ _⟩
  | true =>
    have e : outB st own = decide (hiI own < st) := by unfold outB; rw [hm]; rfl
    rw [e]
    have Hm := hide hm
    clear e hm
    cases own
    all_goals
      go_enter Tryz.func168, Tryz.ntmps168
      go_wp2_with fail
      go_quiet ((first | (go_at_call 129; exact Calls.quiet_of (may_true _ (unhide Hm))) | (go_at_call 130; exact Calls.quiet_of (row_false _)) | (go_at_call 130; exact Calls.quiet_of (row_true _))))
      go_wp2
      go_ret
      exact ⟨rfl, Q.drewN _ _⟩

set_option maxRecDepth 100000 in
set_option maxHeartbeats 400000 in
theorem settled_any (st : Int) (own : Bool) (w : World) (hG : Spans w) :
    Calls Tryz.prog 135 #[.int .i64 st, .bool own] w (Makes (.tuple #[.bool (outB st own), .bool (outB st !own)]) w) := by
  go_enter Tryz.func135, Tryz.ntmps135
  go_wp2_with fail
  refine (above_any st own w.heap.size _ (hG.new ((Upd.refl _ _).alloc _)) (blk_cell (blk_alloc _ _) 0)).mono ?_
  rintro e w1 ⟨rfl, q1⟩
  go_wp2_with fail
  refine (above_any st (!own) w.heap.size _ ((hG.new ((Upd.refl _ _).alloc _)).q q1) (q1.cell (blk_cell (blk_alloc _ _) 0))).mono ?_
  rintro e w2 ⟨rfl, q2⟩
  go_wp2
  go_ret2
  exact ⟨rfl, ((Upd.refl _ _).alloc _).trans ((q1.trans q2).upd _)⟩

end Go.Proofs.YtainkaojnhfldaaGreatDoor
