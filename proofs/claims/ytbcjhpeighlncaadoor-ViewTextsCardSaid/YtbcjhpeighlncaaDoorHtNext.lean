/-
  The reference's Next, state by state.
-/
import Derived.Test.YtbcjhpeighlncaaDoorHt
namespace Go.Proofs.YtbcjhpeighlncaaDoor
set_option linter.unusedVariables false
set_option linter.unusedSimpArgs false
open Go.RowKit

set_option maxHeartbeats 400000 in
theorem refnext_0_t (ev : Int) (w : World) : Calls Tryd.prog 36 #[.int .i64 0, .bool false, .int .i64 ev] w (Reads (.int .i64 (nextSt 0 false ev)) w) := by
  by_cases h : ev = 3
  · subst h
    have e : nextSt 0 false 3 = 1 := by decide
    rw [e]
    clear e
    go_enter Tryd.func36, Tryd.ntmps36
    go_wp2
    go_ret
    exact ⟨rfl, Q.refl _⟩
  · have h' : (ev == 3) = false := by simpa using h
    have e : nextSt 0 false ev = 0 := by
      unfold nextSt
      rw [if_neg]
      rintro ⟨_, _, h2⟩
      exact h (h2.symm.trans rfl)
    rw [e]
    clear e h
    go_enter Tryd.func36, Tryd.ntmps36
    go_wp2
    go_ret
    exact ⟨rfl, Q.refl _⟩

set_option maxHeartbeats 400000 in
theorem refnext_1_t (ev : Int) (w : World) : Calls Tryd.prog 36 #[.int .i64 1, .bool false, .int .i64 ev] w (Reads (.int .i64 (nextSt 1 false ev)) w) := by
  by_cases h : ev = 4
  · subst h
    have e : nextSt 1 false 4 = 2 := by decide
    rw [e]
    clear e
    go_enter Tryd.func36, Tryd.ntmps36
    go_wp2
    go_ret
    exact ⟨rfl, Q.refl _⟩
  · have h' : (ev == 4) = false := by simpa using h
    have e : nextSt 1 false ev = 1 := by
      unfold nextSt
      rw [if_neg]
      rintro ⟨_, _, h2⟩
      exact h (h2.symm.trans rfl)
    rw [e]
    clear e h
    go_enter Tryd.func36, Tryd.ntmps36
    go_wp2
    go_ret
    exact ⟨rfl, Q.refl _⟩

set_option maxHeartbeats 400000 in
theorem refnext_2_t (ev : Int) (w : World) : Calls Tryd.prog 36 #[.int .i64 2, .bool false, .int .i64 ev] w (Reads (.int .i64 (nextSt 2 false ev)) w) := by
  by_cases h : ev = 1
  · subst h
    have e : nextSt 2 false 1 = 3 := by decide
    rw [e]
    clear e
    go_enter Tryd.func36, Tryd.ntmps36
    go_wp2
    go_ret
    exact ⟨rfl, Q.refl _⟩
  · have h' : (ev == 1) = false := by simpa using h
    have e : nextSt 2 false ev = 2 := by
      unfold nextSt
      rw [if_neg]
      rintro ⟨_, _, h2⟩
      exact h (h2.symm.trans rfl)
    rw [e]
    clear e h
    go_enter Tryd.func36, Tryd.ntmps36
    go_wp2
    go_ret
    exact ⟨rfl, Q.refl _⟩

set_option maxHeartbeats 400000 in
theorem refnext_3_t (ev : Int) (w : World) : Calls Tryd.prog 36 #[.int .i64 3, .bool false, .int .i64 ev] w (Reads (.int .i64 (nextSt 3 false ev)) w) := by
  by_cases h : ev = 2
  · subst h
    have e : nextSt 3 false 2 = 4 := by decide
    rw [e]
    clear e
    go_enter Tryd.func36, Tryd.ntmps36
    go_wp2
    go_ret
    exact ⟨rfl, Q.refl _⟩
  · have h' : (ev == 2) = false := by simpa using h
    have e : nextSt 3 false ev = 3 := by
      unfold nextSt
      rw [if_neg]
      rintro ⟨_, _, h2⟩
      exact h (h2.symm.trans rfl)
    rw [e]
    clear e h
    go_enter Tryd.func36, Tryd.ntmps36
    go_wp2
    go_ret
    exact ⟨rfl, Q.refl _⟩

set_option maxHeartbeats 400000 in
theorem refnext_4_t (ev : Int) (w : World) : Calls Tryd.prog 36 #[.int .i64 4, .bool false, .int .i64 ev] w (Reads (.int .i64 (nextSt 4 false ev)) w) := by
  have e : nextSt 4 false ev = 4 := by
    unfold nextSt
    rw [if_neg]
    rintro ⟨_, h1, h2⟩
    exact h1 (h2.symm.trans rfl)
  rw [e]
  clear e
  go_enter Tryd.func36, Tryd.ntmps36
  go_wp2
  go_ret
  exact ⟨rfl, Q.refl _⟩

set_option maxHeartbeats 400000 in
theorem refnext_5_t (ev : Int) (w : World) : Calls Tryd.prog 36 #[.int .i64 5, .bool false, .int .i64 ev] w (Reads (.int .i64 (nextSt 5 false ev)) w) := by
  by_cases h : ev = 1
  · subst h
    have e : nextSt 5 false 1 = 6 := by decide
    rw [e]
    clear e
    go_enter Tryd.func36, Tryd.ntmps36
    go_wp2
    go_ret
    exact ⟨rfl, Q.refl _⟩
  · have h' : (ev == 1) = false := by simpa using h
    have e : nextSt 5 false ev = 5 := by
      unfold nextSt
      rw [if_neg]
      rintro ⟨_, _, h2⟩
      exact h (h2.symm.trans rfl)
    rw [e]
    clear e h
    go_enter Tryd.func36, Tryd.ntmps36
    go_wp2
    go_ret
    exact ⟨rfl, Q.refl _⟩

set_option maxHeartbeats 400000 in
theorem refnext_6_t (ev : Int) (w : World) : Calls Tryd.prog 36 #[.int .i64 6, .bool false, .int .i64 ev] w (Reads (.int .i64 (nextSt 6 false ev)) w) := by
  by_cases h : ev = 2
  · subst h
    have e : nextSt 6 false 2 = 7 := by decide
    rw [e]
    clear e
    go_enter Tryd.func36, Tryd.ntmps36
    go_wp2
    go_ret
    exact ⟨rfl, Q.refl _⟩
  · have h' : (ev == 2) = false := by simpa using h
    have e : nextSt 6 false ev = 6 := by
      unfold nextSt
      rw [if_neg]
      rintro ⟨_, _, h2⟩
      exact h (h2.symm.trans rfl)
    rw [e]
    clear e h
    go_enter Tryd.func36, Tryd.ntmps36
    go_wp2
    go_ret
    exact ⟨rfl, Q.refl _⟩

set_option maxHeartbeats 400000 in
theorem refnext_7_t (ev : Int) (w : World) : Calls Tryd.prog 36 #[.int .i64 7, .bool false, .int .i64 ev] w (Reads (.int .i64 (nextSt 7 false ev)) w) := by
  by_cases h : ev = 3
  · subst h
    have e : nextSt 7 false 3 = 8 := by decide
    rw [e]
    clear e
    go_enter Tryd.func36, Tryd.ntmps36
    go_wp2
    go_ret
    exact ⟨rfl, Q.refl _⟩
  · have h' : (ev == 3) = false := by simpa using h
    have e : nextSt 7 false ev = 7 := by
      unfold nextSt
      rw [if_neg]
      rintro ⟨_, _, h2⟩
      exact h (h2.symm.trans rfl)
    rw [e]
    clear e h
    go_enter Tryd.func36, Tryd.ntmps36
    go_wp2
    go_ret
    exact ⟨rfl, Q.refl _⟩

set_option maxHeartbeats 400000 in
theorem refnext_8_t (ev : Int) (w : World) : Calls Tryd.prog 36 #[.int .i64 8, .bool false, .int .i64 ev] w (Reads (.int .i64 (nextSt 8 false ev)) w) := by
  by_cases h : ev = 4
  · subst h
    have e : nextSt 8 false 4 = 9 := by decide
    rw [e]
    clear e
    go_enter Tryd.func36, Tryd.ntmps36
    go_wp2
    go_ret
    exact ⟨rfl, Q.refl _⟩
  · have h' : (ev == 4) = false := by simpa using h
    have e : nextSt 8 false ev = 8 := by
      unfold nextSt
      rw [if_neg]
      rintro ⟨_, _, h2⟩
      exact h (h2.symm.trans rfl)
    rw [e]
    clear e h
    go_enter Tryd.func36, Tryd.ntmps36
    go_wp2
    go_ret
    exact ⟨rfl, Q.refl _⟩

set_option maxHeartbeats 400000 in
theorem refnext_9_t (ev : Int) (w : World) : Calls Tryd.prog 36 #[.int .i64 9, .bool false, .int .i64 ev] w (Reads (.int .i64 (nextSt 9 false ev)) w) := by
  have e : nextSt 9 false ev = 9 := by
    unfold nextSt
    rw [if_neg]
    rintro ⟨_, h1, h2⟩
    exact h1 (h2.symm.trans rfl)
  rw [e]
  clear e
  go_enter Tryd.func36, Tryd.ntmps36
  go_wp2
  go_ret
  exact ⟨rfl, Q.refl _⟩

set_option maxHeartbeats 400000 in
theorem refnext_0_o (ev : Int) (w : World) : Calls Tryd.prog 36 #[.int .i64 0, .bool true, .int .i64 ev] w (Reads (.int .i64 (nextSt 0 true ev)) w) := by
  by_cases h : ev = 1
  · subst h
    have e : nextSt 0 true 1 = 1 := by decide
    rw [e]
    clear e
    go_enter Tryd.func36, Tryd.ntmps36
    go_wp2
    go_ret
    exact ⟨rfl, Q.refl _⟩
  · have h' : (ev == 1) = false := by simpa using h
    have e : nextSt 0 true ev = 0 := by
      unfold nextSt
      rw [if_neg]
      rintro ⟨_, _, h2⟩
      exact h (h2.symm.trans rfl)
    rw [e]
    clear e h
    go_enter Tryd.func36, Tryd.ntmps36
    go_wp2
    go_ret
    exact ⟨rfl, Q.refl _⟩

set_option maxHeartbeats 400000 in
theorem refnext_1_o (ev : Int) (w : World) : Calls Tryd.prog 36 #[.int .i64 1, .bool true, .int .i64 ev] w (Reads (.int .i64 (nextSt 1 true ev)) w) := by
  by_cases h : ev = 2
  · subst h
    have e : nextSt 1 true 2 = 2 := by decide
    rw [e]
    clear e
    go_enter Tryd.func36, Tryd.ntmps36
    go_wp2
    go_ret
    exact ⟨rfl, Q.refl _⟩
  · have h' : (ev == 2) = false := by simpa using h
    have e : nextSt 1 true ev = 1 := by
      unfold nextSt
      rw [if_neg]
      rintro ⟨_, _, h2⟩
      exact h (h2.symm.trans rfl)
    rw [e]
    clear e h
    go_enter Tryd.func36, Tryd.ntmps36
    go_wp2
    go_ret
    exact ⟨rfl, Q.refl _⟩

set_option maxHeartbeats 400000 in
theorem refnext_2_o (ev : Int) (w : World) : Calls Tryd.prog 36 #[.int .i64 2, .bool true, .int .i64 ev] w (Reads (.int .i64 (nextSt 2 true ev)) w) := by
  by_cases h : ev = 3
  · subst h
    have e : nextSt 2 true 3 = 3 := by decide
    rw [e]
    clear e
    go_enter Tryd.func36, Tryd.ntmps36
    go_wp2
    go_ret
    exact ⟨rfl, Q.refl _⟩
  · have h' : (ev == 3) = false := by simpa using h
    have e : nextSt 2 true ev = 2 := by
      unfold nextSt
      rw [if_neg]
      rintro ⟨_, _, h2⟩
      exact h (h2.symm.trans rfl)
    rw [e]
    clear e h
    go_enter Tryd.func36, Tryd.ntmps36
    go_wp2
    go_ret
    exact ⟨rfl, Q.refl _⟩

set_option maxHeartbeats 400000 in
theorem refnext_3_o (ev : Int) (w : World) : Calls Tryd.prog 36 #[.int .i64 3, .bool true, .int .i64 ev] w (Reads (.int .i64 (nextSt 3 true ev)) w) := by
  by_cases h : ev = 4
  · subst h
    have e : nextSt 3 true 4 = 4 := by decide
    rw [e]
    clear e
    go_enter Tryd.func36, Tryd.ntmps36
    go_wp2
    go_ret
    exact ⟨rfl, Q.refl _⟩
  · have h' : (ev == 4) = false := by simpa using h
    have e : nextSt 3 true ev = 3 := by
      unfold nextSt
      rw [if_neg]
      rintro ⟨_, _, h2⟩
      exact h (h2.symm.trans rfl)
    rw [e]
    clear e h
    go_enter Tryd.func36, Tryd.ntmps36
    go_wp2
    go_ret
    exact ⟨rfl, Q.refl _⟩

set_option maxHeartbeats 400000 in
theorem refnext_4_o (ev : Int) (w : World) : Calls Tryd.prog 36 #[.int .i64 4, .bool true, .int .i64 ev] w (Reads (.int .i64 (nextSt 4 true ev)) w) := by
  have e : nextSt 4 true ev = 4 := by
    unfold nextSt
    rw [if_neg]
    rintro ⟨_, h1, h2⟩
    exact h1 (h2.symm.trans rfl)
  rw [e]
  clear e
  go_enter Tryd.func36, Tryd.ntmps36
  go_wp2
  go_ret
  exact ⟨rfl, Q.refl _⟩

set_option maxHeartbeats 400000 in
theorem refnext_5_o (ev : Int) (w : World) : Calls Tryd.prog 36 #[.int .i64 5, .bool true, .int .i64 ev] w (Reads (.int .i64 (nextSt 5 true ev)) w) := by
  by_cases h : ev = 3
  · subst h
    have e : nextSt 5 true 3 = 6 := by decide
    rw [e]
    clear e
    go_enter Tryd.func36, Tryd.ntmps36
    go_wp2
    go_ret
    exact ⟨rfl, Q.refl _⟩
  · have h' : (ev == 3) = false := by simpa using h
    have e : nextSt 5 true ev = 5 := by
      unfold nextSt
      rw [if_neg]
      rintro ⟨_, _, h2⟩
      exact h (h2.symm.trans rfl)
    rw [e]
    clear e h
    go_enter Tryd.func36, Tryd.ntmps36
    go_wp2
    go_ret
    exact ⟨rfl, Q.refl _⟩

set_option maxHeartbeats 400000 in
theorem refnext_6_o (ev : Int) (w : World) : Calls Tryd.prog 36 #[.int .i64 6, .bool true, .int .i64 ev] w (Reads (.int .i64 (nextSt 6 true ev)) w) := by
  by_cases h : ev = 4
  · subst h
    have e : nextSt 6 true 4 = 7 := by decide
    rw [e]
    clear e
    go_enter Tryd.func36, Tryd.ntmps36
    go_wp2
    go_ret
    exact ⟨rfl, Q.refl _⟩
  · have h' : (ev == 4) = false := by simpa using h
    have e : nextSt 6 true ev = 6 := by
      unfold nextSt
      rw [if_neg]
      rintro ⟨_, _, h2⟩
      exact h (h2.symm.trans rfl)
    rw [e]
    clear e h
    go_enter Tryd.func36, Tryd.ntmps36
    go_wp2
    go_ret
    exact ⟨rfl, Q.refl _⟩

set_option maxHeartbeats 400000 in
theorem refnext_7_o (ev : Int) (w : World) : Calls Tryd.prog 36 #[.int .i64 7, .bool true, .int .i64 ev] w (Reads (.int .i64 (nextSt 7 true ev)) w) := by
  by_cases h : ev = 1
  · subst h
    have e : nextSt 7 true 1 = 8 := by decide
    rw [e]
    clear e
    go_enter Tryd.func36, Tryd.ntmps36
    go_wp2
    go_ret
    exact ⟨rfl, Q.refl _⟩
  · have h' : (ev == 1) = false := by simpa using h
    have e : nextSt 7 true ev = 7 := by
      unfold nextSt
      rw [if_neg]
      rintro ⟨_, _, h2⟩
      exact h (h2.symm.trans rfl)
    rw [e]
    clear e h
    go_enter Tryd.func36, Tryd.ntmps36
    go_wp2
    go_ret
    exact ⟨rfl, Q.refl _⟩

set_option maxHeartbeats 400000 in
theorem refnext_8_o (ev : Int) (w : World) : Calls Tryd.prog 36 #[.int .i64 8, .bool true, .int .i64 ev] w (Reads (.int .i64 (nextSt 8 true ev)) w) := by
  by_cases h : ev = 2
  · subst h
    have e : nextSt 8 true 2 = 9 := by decide
    rw [e]
    clear e
    go_enter Tryd.func36, Tryd.ntmps36
    go_wp2
    go_ret
    exact ⟨rfl, Q.refl _⟩
  · have h' : (ev == 2) = false := by simpa using h
    have e : nextSt 8 true ev = 8 := by
      unfold nextSt
      rw [if_neg]
      rintro ⟨_, _, h2⟩
      exact h (h2.symm.trans rfl)
    rw [e]
    clear e h
    go_enter Tryd.func36, Tryd.ntmps36
    go_wp2
    go_ret
    exact ⟨rfl, Q.refl _⟩

set_option maxHeartbeats 400000 in
theorem refnext_9_o (ev : Int) (w : World) : Calls Tryd.prog 36 #[.int .i64 9, .bool true, .int .i64 ev] w (Reads (.int .i64 (nextSt 9 true ev)) w) := by
  have e : nextSt 9 true ev = 9 := by
    unfold nextSt
    rw [if_neg]
    rintro ⟨_, h1, h2⟩
    exact h1 (h2.symm.trans rfl)
  rw [e]
  clear e
  go_enter Tryd.func36, Tryd.ntmps36
  go_wp2
  go_ret
  exact ⟨rfl, Q.refl _⟩

set_option maxHeartbeats 400000 in
theorem refnext_far (st ev : Int) (own : Bool) (w : World) (h : st < 0 ∨ 9 < st) : Calls Tryd.prog 36 #[.int .i64 st, .bool own, .int .i64 ev] w (Reads (.int .i64 (nextSt st own ev)) w) := by
  have e : nextSt st own ev = st := by
    unfold nextSt
    rw [if_neg]
    rintro ⟨h1, _⟩
    rw [may_no h] at h1
    cases h1
  rw [e]
  have h0 : (st == 0) = false := beq_eq_false_iff_ne.2 (by omega)
  have h7 : (st == 7) = false := beq_eq_false_iff_ne.2 (by omega)
  have h1 : (st == 1) = false := beq_eq_false_iff_ne.2 (by omega)
  have h8 : (st == 8) = false := beq_eq_false_iff_ne.2 (by omega)
  have h2 : (st == 2) = false := beq_eq_false_iff_ne.2 (by omega)
  have h5 : (st == 5) = false := beq_eq_false_iff_ne.2 (by omega)
  have h3 : (st == 3) = false := beq_eq_false_iff_ne.2 (by omega)
  have h6 : (st == 6) = false := beq_eq_false_iff_ne.2 (by omega)
  clear e h
  cases own
  all_goals
    go_enter Tryd.func36, Tryd.ntmps36
    go_wp2
    go_ret
    exact ⟨rfl, Q.refl _⟩

theorem refnext_any (st ev : Int) (own : Bool) (w : World) : Calls Tryd.prog 36 #[.int .i64 st, .bool own, .int .i64 ev] w (Reads (.int .i64 (nextSt st own ev)) w) := by
  by_cases h : st < 0 ∨ 9 < st
  · exact refnext_far st ev own w h
  · rcases (by omega : st = 0 ∨ st = 1 ∨ st = 2 ∨ st = 3 ∨ st = 4 ∨ st = 5 ∨ st = 6 ∨ st = 7 ∨ st = 8 ∨ st = 9) with rfl | rfl | rfl | rfl | rfl | rfl | rfl | rfl | rfl | rfl <;> cases own
    · exact refnext_0_t ev w
    · exact refnext_0_o ev w
    · exact refnext_1_t ev w
    · exact refnext_1_o ev w
    · exact refnext_2_t ev w
    · exact refnext_2_o ev w
    · exact refnext_3_t ev w
    · exact refnext_3_o ev w
    · exact refnext_4_t ev w
    · exact refnext_4_o ev w
    · exact refnext_5_t ev w
    · exact refnext_5_o ev w
    · exact refnext_6_t ev w
    · exact refnext_6_o ev w
    · exact refnext_7_t ev w
    · exact refnext_7_o ev w
    · exact refnext_8_t ev w
    · exact refnext_8_o ev w
    · exact refnext_9_t ev w
    · exact refnext_9_o ev w

end Go.Proofs.YtbcjhpeighlncaaDoor
