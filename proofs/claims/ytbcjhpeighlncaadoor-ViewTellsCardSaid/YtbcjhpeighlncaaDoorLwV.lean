/-
  The law ViewTells, walked.
-/
import Derived.Test.YtbcjhpeighlncaaDoorLwS
import Derived.Test.YtbcjhpeighlncaaDoorRf6
import Derived.Test.YtbcjhpeighlncaaDoorDag2
namespace Go.Proofs.YtbcjhpeighlncaaDoor
open Go.RowKit Go.Sort
set_option linter.unusedVariables false

/-- A block of a view of the reference, whatever it holds. -/
def V3 (w : World) (b : Nat) : Prop := ∃ x y z, w.heap[b]? = some (.cells #[x, y, z] 36 (0, 0))
def AtVr (A B : Int) (I : List Item) (b : Nat) (w : World) : Prop := ∃ u, w.heap[b]? = some (.cells #[.int .u64 A, .int .u64 B, u] 36 (0, 0)) ∧ ItemsR w u (viewL I) ∧ IsView I (viewL I)
theorem AtVr.new {A B : Int} {I : List Item} {b : Nat} {w w' : World} (h : AtVr A B I b w) (n : New w w') : AtVr A B I b w' := by
  obtain ⟨u, h1, h2, h3⟩ := h
  exact ⟨u, n.old h1 (fun h => h), h2.new n, h3⟩
theorem V3.new {b : Nat} {w w' : World} (h : V3 w b) (n : New w w') : V3 w' b := by
  obtain ⟨x, y, z, h⟩ := h
  exact ⟨x, y, z, n.old h (fun h => h)⟩
theorem lives_v3 {S : Nat → Prop} {w w' : World} {v : Value} {xs : List Live} (h : Lives w v xs) (u : Upd (fun k => S k ∧ V3 w k) w w') : Lives w' v xs := by
  rcases h with h | ⟨g, off, cap, e, hh⟩
  · exact .inl h
  · cases xs with
    | nil => exact .inl ⟨_, _, e, rfl⟩
    | cons x xs =>
      refine .inr ⟨g, off, cap, e, hh.upd u ?_⟩
      rintro ⟨_, a, b, c, h3⟩
      obtain ⟨C, T, fz, hb, hs, _⟩ := hh
      rw [h3] at hb
      cases hb
      simp at hs
      omega
theorem items_v3 {S : Nat → Prop} {w w' : World} {v : Value} {X : List Item} (h : ItemsR w v X) (u : Upd (fun k => S k ∧ V3 w k) w w') : ItemsR w' v X := by
  rcases h with h | ⟨g, off, cap, e, hh⟩
  · exact .inl h
  · cases X with
    | nil => exact .inl ⟨_, _, e, rfl⟩
    | cons x X =>
      refine .inr ⟨g, off, cap, e, hh.upd u ?_⟩
      rintro ⟨_, a, b, c, h3⟩
      obtain ⟨C, T, fz, hb, hs, _⟩ := hh
      rw [h3] at hb
      cases hb
      simp at hs
      omega
theorem vr_v3 {S : Nat → Prop} {A B : Int} {I : List Item} {w w' : World} {v : Value} (h : VrP A B I v w) (u : Upd (fun k => S k ∧ V3 w k) w w') : VrP A B I v w' := by
  obtain ⟨x, e, h1, h2⟩ := h
  exact ⟨x, e, items_v3 h1 u, h2⟩
def telPhi (l r A B : Int) (x : Value) (I : List Item) (xs : List Live) (N : Nat) : Nat → (Nat → Value) → World → Prop
  | 0, v, _ => v 0 = .agg #[.int .u64 l, .int .u64 r]
  | 1, v, _ => v 1 = x
  | 2, v, w => Lives w (v 2) xs
  | 3, v, w => VrP A B I (v 3) w
  | 4, v, w => ∃ b, v 4 = .pointer (some ⟨b, 0, none⟩) ∧ N ≤ b ∧ V3 w b
  | 5, v, w => ∃ b, v 4 = .pointer (some ⟨b, 0, none⟩) ∧ N ≤ b ∧ AtVr A B I b w
  | _, _, _ => True
def telR (N : Nat) : Nat → World → World → Prop
  | 5, w, w' => Upd (fun k => N ≤ k ∧ V3 w k) w w' ∧ ∀ k, V3 w k → V3 w' k
  | _, w, w' => New w w'
theorem telR_refl (N i : Nat) (w : World) : telR N i w w := by
  rcases i with _ | _ | _ | _ | _ | _ | i
  all_goals first | exact Upd.refl _ _ | exact ⟨Upd.refl _ _, fun _ h => h⟩
theorem telPhi_loc {l r A B : Int} {x : Value} {I : List Item} {xs : List Live} {N : Nat} (i k : Nat) (vals : Nat → Value) (v : Value) (w : World) (hne : k ≠ i) (hl : ∀ p ∈ (([[], [], [(1, 26)], [(0, 25), (2, 27)], [], [(4, 9), (3, 28)]] : List (List (Nat × Nat))).getD i []), p.1 ≠ k) (h : telPhi l r A B x I xs N i vals w) : telPhi l r A B x I xs N i (upV vals k v) w := by
  rcases i with _ | _ | _ | _ | _ | _ | i
  all_goals first | trivial | (simp only [telPhi, upV_other vals v (Ne.symm hne)] at h ⊢; exact h) | skip
  have h4 : (4 : Nat) ≠ k := hl (4, 9) (by simp)
  simp only [telPhi, upV_other vals v h4] at h ⊢
  exact h
theorem telPhi_loc2 {l r A B : Int} {x : Value} {I : List Item} {xs : List Live} {N : Nat} (i k : Nat) (vals : Nat → Value) (v : Value) (w : World) (hne : k ≠ i) (hl : ∀ p ∈ (([[], [], [(1, 30)], [(0, 29), (2, 31)], [], [(4, 10), (3, 32)]] : List (List (Nat × Nat))).getD i []), p.1 ≠ k) (h : telPhi l r A B x I xs N i vals w) : telPhi l r A B x I xs N i (upV vals k v) w := by
  rcases i with _ | _ | _ | _ | _ | _ | i
  all_goals first | trivial | (simp only [telPhi, upV_other vals v (Ne.symm hne)] at h ⊢; exact h) | skip
  have h4 : (4 : Nat) ≠ k := hl (4, 10) (by simp)
  simp only [telPhi, upV_other vals v h4] at h ⊢
  exact h
theorem telPhi_new {l r A B : Int} {x : Value} {I : List Item} {xs : List Live} {N : Nat} (i : Nat) (vals : Nat → Value) {w w' : World} (n : New w w') (h : telPhi l r A B x I xs N i vals w) : telPhi l r A B x I xs N i vals w' := by
  rcases i with _ | _ | _ | _ | _ | _ | i
  · exact h
  · exact h
  · exact Lives.new h n
  · exact VrP.new h n
  · obtain ⟨b, e, h1, h2⟩ := h; exact ⟨b, e, h1, h2.new n⟩
  · obtain ⟨b, e, h1, h2⟩ := h; exact ⟨b, e, h1, h2.new n⟩
  · exact h
theorem telPhi_stable {l r A B : Int} {x : Value} {I : List Item} {xs : List Live} {N : Nat} (i j : Nat) (vals : Nat → Value) (w w' : World) (hne : i ≠ j) (hR : telR N j w w') (h : telPhi l r A B x I xs N i vals w) : telPhi l r A B x I xs N i vals w' := by
  by_cases hj : j = 5
  · subst hj
    obtain ⟨u, hv⟩ := hR
    rcases i with _ | _ | _ | _ | _ | _ | i
    · exact h
    · exact h
    · exact lives_v3 h u
    · exact vr_v3 h u
    · obtain ⟨b, e, h1, h2⟩ := h; exact ⟨b, e, h1, hv b h2⟩
    · exact absurd rfl hne
    · exact h
  · have n : New w w' := by
      rcases j with _ | _ | _ | _ | _ | _ | j
      all_goals first | exact hR | exact absurd rfl hj
    exact telPhi_new i vals n h
theorem after_ok {ev : Int} {xs : List Live} (h : ∀ x ∈ xs, LiveOk x) : ∀ x ∈ afterL ev xs, LiveOk x := by
  intro x hx
  unfold afterL at hx
  rw [List.mem_map] at hx
  obtain ⟨y, hy, rfl⟩ := hx
  have hk := h y hy
  refine ⟨hk.h, ?_⟩
  show -9223372036854775808 ≤ nextSt y.state y.own ev ∧ nextSt y.state y.own ev ≤ 9223372036854775807
  have := hk.state
  unfold nextSt
  split
  · rename_i hh
    have := hh.1
    unfold mayB at this
    simp at this
    omega
  · exact this
theorem total_vw {A B : Int} {I : List Item} {v : Value} {w : World} (h : VwP A B I v w) (hl : I.length ≤ 1048576) :
    Calls Tryd.prog 16 #[v] w fun e w' => ∃ v', e = .returned v' ∧ New w w' ∧ v' = .int .u64 (totalI A B (viewL I)) := by
  obtain ⟨u, rfl, h1, h2⟩ := h
  refine (total_any A B u (viewL I) (by rw [(viewL_perm h2).length_eq]; exact hl) w h1).mono ?_
  rintro e w' ⟨he, n⟩
  exact ⟨_, he, n, rfl⟩
theorem reftotal_vr {A B : Int} {I : List Item} {v : Value} {w : World} (h : VrP A B I v w) (hl : I.length ≤ 1048576) :
    Calls Tryd.prog 19 #[v] w fun e w' => ∃ v', e = .returned v' ∧ New w w' ∧ v' = .int .u64 (totalI A B (viewL I)) := by
  obtain ⟨u, rfl, h1, h2⟩ := h
  refine (reftotal_any A B u (viewL I) (by rw [(viewL_perm h2).length_eq]; exact hl) w h1).mono ?_
  rintro e w' ⟨he, n⟩
  exact ⟨_, he, n, rfl⟩
theorem samelive_lv {X : List Live} {u1 u2 : Value} {w : World} (h1 : Lives w u1 X) (h2 : Lives w u2 X) (hl : X.length ≤ 1048576) (hok : ∀ x ∈ X, LiveOk x) :
    Calls Tryd.prog 20 #[u1, u2] w fun e w' => ∃ v', e = .returned v' ∧ New w w' ∧ v' = .bool true := by
  refine (samelive_true u1 u2 X hl hok w h1 h2).mono ?_
  rintro e w' ⟨he, n⟩
  exact ⟨_, he, n, rfl⟩
theorem chg_lv (v : Value) (xs : List Live) (ev : Int) (hl : xs.length ≤ 1048576) (w : World) (hG : Glob w) (hv : Lives w v xs) :
    Calls Tryd.prog 22 #[v, .int .i64 ev] w fun e w' => ∃ v', e = .returned v' ∧ New w w' ∧ v' = .bool (changesB ev xs) := by
  refine (changes_any v xs ev hl w hG hv).mono ?_
  rintro e w' ⟨he, n⟩
  exact ⟨_, he, n, rfl⟩
theorem rchg_lv (v : Value) (xs : List Live) (ev : Int) (hl : xs.length ≤ 1048576) (w : World) (hv : Lives w v xs) :
    Calls Tryd.prog 23 #[v, .int .i64 ev] w fun e w' => ∃ v', e = .returned v' ∧ New w w' ∧ v' = .bool (changesB ev xs) := by
  refine (refchanges_any v xs ev hl w hv).mono ?_
  rintro e w' ⟨he, n⟩
  exact ⟨_, he, n, rfl⟩
theorem after_lv (v : Value) (xs : List Live) (ev : Int) (hl : xs.length ≤ 1048576) (w : World) (hG : Glob w) (hv : Lives w v xs) :
    Calls Tryd.prog 15 #[v, .int .i64 ev] w fun e w' => ∃ v', e = .returned v' ∧ New w w' ∧ Lives w' v' (afterL ev xs) := after_any v xs ev hl w hG hv
theorem refof_vr_true (l r : Int) (v : Value) (xs : List Live) (hl : xs.length ≤ 60) (w : World) (hv : Lives w v xs) :
    Calls Tryd.prog 17 #[.bool true, .agg #[.int .u64 l, .int .u64 r], v] w fun e w' => ∃ v', e = .returned v' ∧ New w w' ∧ VrP (sumsOf true l r xs).1 (sumsOf true l r xs).2 (itemsOf true xs) v' w' := by
  refine (refof_any true l r v xs hl w hv).mono ?_
  rintro e w' ⟨u, he, n, h1, h2⟩
  simp only [if_true] at he
  exact ⟨_, he, n, u, rfl, h1, h2⟩
theorem refof_vr_false (l r : Int) (v : Value) (xs : List Live) (hl : xs.length ≤ 60) (w : World) (hv : Lives w v xs) :
    Calls Tryd.prog 17 #[.bool false, .agg #[.int .u64 l, .int .u64 r], v] w fun e w' => ∃ v', e = .returned v' ∧ New w w' ∧ VrP (sumsOf false l r xs).2 (sumsOf false l r xs).1 (itemsOf false xs) v' w' := by
  refine (refof_any false l r v xs hl w hv).mono ?_
  rintro e w' ⟨u, he, n, h1, h2⟩
  simp only [Bool.false_eq_true, if_false] at he
  exact ⟨_, he, n, u, rfl, h1, h2⟩
def tel7 (A1 B1 A2 B2 T1 T2 ev : Int) (x : Value) (I1 I2 : List Item) (xs : List Live) : Nat → Value → World → Prop
  | 0, v, w => VwP A1 B1 I1 v w
  | 1, v, w => VrP A1 B1 I1 v w
  | 2, v, w => VrP A1 B1 I1 v w
  | 3, v, w => v = .bool true
  | 4, v, w => v = .bool true
  | 5, v, w => VwP A2 B2 I2 v w
  | 6, v, w => VrP A2 B2 I2 v w
  | 7, v, w => VrP A2 B2 I2 v w
  | 8, v, w => v = .bool true
  | 9, v, w => v = .bool true
  | 10, v, w => v = .bool true
  | 11, v, w => VwP A1 B1 I1 v w
  | 12, v, w => v = .int .u64 T1
  | 13, v, w => VrP A1 B1 I1 v w
  | 14, v, w => v = .int .u64 T1
  | 15, v, w => v = .bool true
  | 16, v, w => v = .bool true
  | 17, v, w => v = .bool true
  | 18, v, w => VwP A2 B2 I2 v w
  | 19, v, w => v = .int .u64 T2
  | 20, v, w => VrP A2 B2 I2 v w
  | 21, v, w => v = .int .u64 T2
  | 22, v, w => v = .bool true
  | 23, v, w => v = .bool true
  | 24, v, w => v = .bool true
  | 25, v, w => v = x
  | 26, v, w => v = .int .i64 ev
  | 27, v, w => Lives w v (afterL ev xs)
  | 28, v, w => Lives w v (afterL ev xs)
  | 29, v, w => v = x
  | 30, v, w => Lives w v xs
  | 31, v, w => v = .int .i64 ev
  | 32, v, w => Lives w v (afterL ev xs)
  | 33, v, w => v = .bool true
  | 34, v, w => v = .bool true
  | 35, v, w => v = .bool true
  | 36, v, w => v = x
  | 37, v, w => v = .int .i64 ev
  | 38, v, w => v = .bool (changesB ev xs)
  | 39, v, w => v = x
  | 40, v, w => Lives w v xs
  | 41, v, w => v = .int .i64 ev
  | 42, v, w => v = .bool (changesB ev xs)
  | 43, v, w => v = .bool true
  | 44, v, w => v = .bool true
  | 45, v, w => v = .bool true
  | _, v, w => v = .bool true
theorem tel7_new {A1 B1 A2 B2 T1 T2 ev : Int} {x : Value} {I1 I2 : List Item} {xs : List Live} (i : Nat) (v : Value) {w w' : World} (k : New w w') (h : tel7 A1 B1 A2 B2 T1 T2 ev x I1 I2 xs i v w) : tel7 A1 B1 A2 B2 T1 T2 ev x I1 I2 xs i v w' := by
  rcases i with _ | _ | _ | _ | _ | _ | _ | _ | _ | _ | _ | _ | _ | _ | _ | _ | _ | _ | _ | _ | _ | _ | _ | _ | _ | _ | _ | _ | _ | _ | _ | _ | _ | _ | _ | _ | _ | _ | _ | _ | _ | _ | _ | _ | _ | _ | i
  all_goals first | exact h | exact VwP.new h k | exact VrP.new h k | exact Lives.new h k

set_option maxRecDepth 100000 in
set_option maxHeartbeats 1000000 in
theorem tells_early (l r ev : Int) (va : Option Addr) (vc n : Nat) (w : World) (hS : Spans w) (h1 : 60 < n) :
    Calls Tryd.prog 7 #[.agg #[.int .u64 l, .int .u64 r], .slice va n vc, .int .i64 ev] w (Makes (.bool true) w) := by
  have n0 : New w (w.alloc (.cells #[.int .u64 l, .int .u64 r] 24)) := (Upd.refl _ _).alloc _
  have hS0 := hS.new n0
  go_enter Tryd.func7, Tryd.ntmps7
  go_wp2_with fail
  refine (shown_any _ hS0).mono ?_
  rintro e w1 ⟨rfl, n1⟩
  go_wp2
  go_ret
  exact ⟨rfl, n0.trans n1⟩

set_option maxRecDepth 100000 in
set_option maxHeartbeats 8000000 in
theorem tells_walk (l r : Int) (v : Value) (xs : List Live) (ev : Int) (w : World) (hok : ∀ x ∈ xs, LiveOk x) (hv : Lives w v xs) (hS : Spans w) (hG : Glob w) :
    Calls Tryd.prog 7 #[.agg #[.int .u64 l, .int .u64 r], v, .int .i64 ev] w (Makes (.bool true) w) := by
  obtain ⟨va, vc, rfl⟩ := hv.slice
  by_cases h : 60 < xs.length
  · exact tells_early l r ev va vc _ w hS h
  have hlen : xs.length ≤ 60 := by omega
  have hlx : xs.length ≤ 1048576 := by omega
  have n0 : New w (w.alloc (.cells #[.int .u64 l, .int .u64 r] 24)) := (Upd.refl _ _).alloc _
  have hS0 := hS.new n0
  have b0 : (w.alloc (.cells #[.int .u64 l, .int .u64 r] 24)).heap[w.heap.size]? = some (.cells #[.int .u64 l, .int .u64 r] 24 (0, 0)) := blk_alloc _ _
  go_enter Tryd.func7, Tryd.ntmps7
  go_wp2_with fail
  generalize w.alloc (.cells #[.int .u64 l, .int .u64 r] 24) = wa at n0 hS0 b0 ⊢
  refine (shown_any _ hS0).mono ?_
  rintro e w1 ⟨rfl, n1⟩
  have b1 := n1.old b0 (fun h => h)
  have nw := n0.trans n1
  have hl1 := hv.new nw
  have hS1 := hS.new nw
  have hG1 := hG.new nw
  have c0 := blk_cell b1 0
  have c1 := blk_cell b1 1
  simp at c0 c1
  have O3 := hide (fun W (n : New w1 W) => of_vw_true l r (.slice va xs.length vc) xs hlx W (hS1.new n) (hl1.new n))
  have O4 := hide (fun W (n : New w1 W) => of_vw_false l r (.slice va xs.length vc) xs hlx W (hS1.new n) (hl1.new n))
  have O5 := hide (fun W v (h : Lives W v xs) => refof_vr_true l r v xs hlen W h)
  have O6 := hide (fun W v (h : Lives W v xs) => refof_vr_false l r v xs hlen W h)
  have i1 : (itemsOf true xs).length ≤ 1048576 := Nat.le_trans (items_le true xs) hlx
  have i2 : (itemsOf false xs).length ≤ 1048576 := Nat.le_trans (items_le false xs) hlx
  have k1 := items_ok (ours := true) hok
  have k2 := items_ok (ours := false) hok
  generalize (sumsOf true l r xs).1 = A1 at O3 O5
  generalize (sumsOf true l r xs).2 = B1 at O3 O5
  generalize (sumsOf false l r xs).1 = B2 at O4 O6
  generalize (sumsOf false l r xs).2 = A2 at O4 O6
  generalize itemsOf true xs = I1 at O3 O5 i1 k1
  generalize itemsOf false xs = I2 at O4 O6 i2 k2
  have K1 := hide k1
  have K2 := hide k2
  have KA := hide (after_ok (ev := ev) hok)
  have HAL := hide (after_len ev xs)
  have HL1 := hide hl1
  have HB1 := hide b1
  have hlt1 := blk_lt b1
  clear k1 k2 b0 n0 n1 hS0 hok hl1 hv b1
  go_wp2_with fail
  refine (unhide O3 w1 (Upd.refl _ _)).mono ?_
  rintro e w2 ⟨v2, rfl, n2, u2, rfl, hi2, hvw2⟩
  obtain ⟨a2, c2, rfl⟩ := hi2.slice
  clear c0 c1
  go_upto_region 4 with fail
  have t3 := blk_alloc w2 (.cells #[.int .u64 A1, .int .u64 B1, .slice a2 (viewL I1).length c2] 40)
  have n3 : New w2 (w2.alloc (.cells #[.int .u64 A1, .int .u64 B1, .slice a2 (viewL I1).length c2] 40)) := (Upd.refl _ _).alloc _
  generalize w2.alloc (.cells #[.int .u64 A1, .int .u64 B1, .slice a2 (viewL I1).length c2] 40) = w3 at t3 n3 ⊢
  have at3 : AtV A1 B1 I1 w2.heap.size w3 := ⟨_, _, t3, hi2.new n3, hvw2⟩
  have m3 := n2.trans n3
  have b3 := m3.old (unhide HB1) (fun h => h)
  have c0 := blk_cell b3 0
  have c1 := blk_cell b3 1
  simp at c0 c1
  clear t3 hi2 hvw2 b3 n2 n3 O3
  go_wp2_with fail
  refine (unhide O4 w3 m3).mono ?_
  rintro e w4 ⟨v4, rfl, n4, u4, rfl, hi4, hvw4⟩
  obtain ⟨a4, c4, rfl⟩ := hi4.slice
  clear c0 c1 O4
  go_upto_region 5 with fail
  have t5 := blk_alloc w4 (.cells #[.int .u64 A2, .int .u64 B2, .slice a4 (viewL I2).length c4] 40)
  have n5 : New w4 (w4.alloc (.cells #[.int .u64 A2, .int .u64 B2, .slice a4 (viewL I2).length c4] 40)) := (Upd.refl _ _).alloc _
  generalize w4.alloc (.cells #[.int .u64 A2, .int .u64 B2, .slice a4 (viewL I2).length c4] 40) = w5 at t5 n5 ⊢
  have at8 : AtV A2 B2 I2 w4.heap.size w5 := ⟨_, _, t5, hi4.new n5, hvw4⟩
  have at7 := at3.new (n4.trans n5)
  have m5 := m3.trans (n4.trans n5)
  clear t5 hi4 hvw4 n4 n5 m3 at3
  -- the reference's views
  have q0 : ∀ {w' : World}, New w1 w' → w'.cell? ⟨w.heap.size, 0, none⟩ = some (.int .u64 l) := fun n => n.cell (blk_cell (unhide HB1) 0) (fun h => h)
  have q1 : ∀ {w' : World}, New w1 w' → w'.cell? ⟨w.heap.size, 1, none⟩ = some (.int .u64 r) := fun n => n.cell (blk_cell (unhide HB1) 1) (fun h => h)
  have hS5 : Upd (fun k => w5.heap.size ≤ k) w5 w5.drew := (Upd.refl _ _).drew
  refine wp_dagG (by kernel_rfl) [[], [], [(1, 26)], [(0, 25), (2, 27)], [], [(4, 9), (3, 28)]] 78 (by rfl) (by kernel_rfl)
    [(0, 25), (1, 26), (2, 27), (3, 28), (4, 9)] (by kernel_rfl) (fun w' => Upd (fun k => w5.heap.size ≤ k) w5 w') (telR w5.heap.size) (telPhi l r A1 B1 (.slice va xs.length vc) I1 xs w5.heap.size) hS5 (telR_refl _) telPhi_loc (fun i j vals w w' hne _ _ hR h => telPhi_stable i j vals w w' hne hR h) ?_ ?_
  · refine DagStepsG.plain rfl ?_ (DagStepsG.plain rfl ?_ (DagStepsG.plain rfl ?_ (DagStepsG.plain rfl ?_ (DagStepsG.plain rfl ?_ (DagStepsG.plain rfl ?_ DagStepsG.nil)))))
    · intro vals w' hS _
      have nS : New w5 w' := hS.mono (fun i h e => absurd e (by omega))
      have q0 := q0 (m5.trans nS)
      have q1 := q1 (m5.trans nS)
      unfold opRun; simp only [putL]; go_simp
      first | exact ⟨Upd.refl _ _, hS, upV_same _ _ _⟩ | exact ⟨Upd.refl _ _, upV_same _ _ _⟩ | exact ⟨hS, upV_same _ _ _⟩ | exact upV_same _ _ _
    · intro vals w' hS _
      unfold opRun; simp only [putL]; go_simp
      first | exact ⟨Upd.refl _ _, hS, upV_same _ _ _⟩ | exact ⟨Upd.refl _ _, upV_same _ _ _⟩ | exact ⟨hS, upV_same _ _ _⟩ | exact upV_same _ _ _
    · rintro vals w' hS ⟨h0, -⟩
      replace h0 : vals 1 = _ := h0
      have nS : New w5 w' := hS.mono (fun i h e => absurd e (by omega))
      have HSS := hide hS
      clear hS
      unfold opRun; simp only [putL]; go_simp
      refine (live_any _ xs hlx w' ((unhide HL1).new (m5.trans nS))).mono ?_
      rintro e w2 ⟨v', rfl, n, h⟩
      exact ⟨_, rfl, n, (unhide HSS).trans (n.mono (fun _ _ h => h.elim)), by show Lives w2 (upV vals 2 v' 2) xs; rw [upV_same]; exact h⟩
    · rintro vals w' hS ⟨h0, h1, -⟩
      replace h0 : vals 0 = _ := h0
      have HSS := hide hS
      clear hS
      unfold opRun; simp only [putL]; go_simp
      refine (unhide O5 w' _ h1).mono ?_
      rintro e w2 ⟨v', rfl, n, h⟩
      exact ⟨_, rfl, n, (unhide HSS).trans (n.mono (fun _ _ h => h.elim)), by show VrP _ _ _ (upV vals 3 v' 3) w2; rw [upV_same]; exact h⟩
    · intro vals w' hS _
      have hsz := hS.size
      have HSS := hide hS
      clear hS
      unfold opRun; simp only [putL]; go_simp
      exact ⟨(Upd.refl _ _).alloc _, (unhide HSS).alloc _, w'.heap.size, upV_same _ _ _, hsz, _, _, _, blk_alloc _ _⟩
    · rintro vals w' hS ⟨⟨b, e4, hN, x, y, z, hb⟩, ⟨u, e3, hi, hv⟩, -⟩
      replace e4 : vals 4 = _ := e4
      replace e3 : vals 3 = _ := e3
      obtain ⟨ua, uc, rfl⟩ := hi.slice
      have r0 := blk_cell hb 0
      have r1 := blk_cell hb 1
      have r2 := blk_cell hb 2
      have z0 := blk_free hb 0
      have z1 := blk_free hb 1
      have z2 := blk_free hb 2
      simp at r0 r1 r2
      have HSS := hide hS
      have HI := hide hi
      have HVV := hide hv
      clear hS hi hv
      unfold opRun; simp only [putL]; go_simp
      have uL : Upd (fun k => w5.heap.size ≤ k ∧ V3 w' k) w' (laid3 w' b (.int .u64 A1) (.int .u64 B1) (.slice ua (viewL I1).length uc)) := (laid3_upd w' b (.int .u64 A1) (.int .u64 B1) (.slice ua (viewL I1).length uc)).mono (fun i _ e => by subst e; exact ⟨hN, _, _, _, hb⟩)
      refine ⟨⟨uL, ?_⟩, (unhide HSS).trans (uL.mono (fun _ _ h => h.1)), b, by rw [upV_other _ _ (by decide)]; exact e4, hN, _, laid3_blk _ _ _ hb, items_v3 (unhide HI) uL, unhide HVV⟩
      rintro k ⟨x', y', z', hk⟩
      by_cases e : k = b
      · subst e; exact ⟨_, _, _, laid3_blk _ _ _ hb⟩
      · exact ⟨x', y', z', (laid3_upd w' b _ _ _).old hk e⟩
  · intro vals w6 hS hΦ
    obtain ⟨b9, e9, hN9, at9⟩ : ∃ b, vals 4 = .pointer (some ⟨b, 0, none⟩) ∧ w5.heap.size ≤ b ∧ AtVr A1 B1 I1 b w6 := hΦ 5 (by decide)
    have n6 : New w5 w6 := hS.mono (fun i h e => absurd e (by omega))
    have m6 := m5.trans n6
    have at7 := at7.new n6
    have at8 := at8.new n6
    clear hΦ hS n6 hS5 O5
    simp only [putL, e9]
    go_simp
    go_upto_region 6 with fail
    have hS6 : Upd (fun k => w6.heap.size ≤ k) w6 w6.drew := (Upd.refl _ _).drew
    refine wp_dagG (by kernel_rfl) [[], [], [(1, 30)], [(0, 29), (2, 31)], [], [(4, 10), (3, 32)]] 78 (by rfl) (by kernel_rfl)
      [(0, 29), (1, 30), (2, 31), (3, 32), (4, 10)] (by kernel_rfl) (fun w' => Upd (fun k => w6.heap.size ≤ k) w6 w') (telR w6.heap.size) (telPhi l r A2 B2 (.slice va xs.length vc) I2 xs w6.heap.size) hS6 (telR_refl _) telPhi_loc2 (fun i j vals w w' hne _ _ hR h => telPhi_stable i j vals w w' hne hR h) ?_ ?_
    · refine DagStepsG.plain rfl ?_ (DagStepsG.plain rfl ?_ (DagStepsG.plain rfl ?_ (DagStepsG.plain rfl ?_ (DagStepsG.plain rfl ?_ (DagStepsG.plain rfl ?_ DagStepsG.nil)))))
      · intro vals w' hS _
        have nS : New w6 w' := hS.mono (fun i h e => absurd e (by omega))
        have q0 := q0 (m6.trans nS)
        have q1 := q1 (m6.trans nS)
        unfold opRun; simp only [putL]; go_simp
        first | exact ⟨Upd.refl _ _, hS, upV_same _ _ _⟩ | exact ⟨Upd.refl _ _, upV_same _ _ _⟩ | exact ⟨hS, upV_same _ _ _⟩ | exact upV_same _ _ _
      · intro vals w' hS _
        unfold opRun; simp only [putL]; go_simp
        first | exact ⟨Upd.refl _ _, hS, upV_same _ _ _⟩ | exact ⟨Upd.refl _ _, upV_same _ _ _⟩ | exact ⟨hS, upV_same _ _ _⟩ | exact upV_same _ _ _
      · rintro vals w' hS ⟨h0, -⟩
        replace h0 : vals 1 = _ := h0
        have nS : New w6 w' := hS.mono (fun i h e => absurd e (by omega))
        have HSS := hide hS
        clear hS
        unfold opRun; simp only [putL]; go_simp
        refine (live_any _ xs hlx w' ((unhide HL1).new (m6.trans nS))).mono ?_
        rintro e w2 ⟨v', rfl, n, h⟩
        exact ⟨_, rfl, n, (unhide HSS).trans (n.mono (fun _ _ h => h.elim)), by show Lives w2 (upV vals 2 v' 2) xs; rw [upV_same]; exact h⟩
      · rintro vals w' hS ⟨h0, h1, -⟩
        replace h0 : vals 0 = _ := h0
        have HSS := hide hS
        clear hS
        unfold opRun; simp only [putL]; go_simp
        refine (unhide O6 w' _ h1).mono ?_
        rintro e w2 ⟨v', rfl, n, h⟩
        exact ⟨_, rfl, n, (unhide HSS).trans (n.mono (fun _ _ h => h.elim)), by show VrP _ _ _ (upV vals 3 v' 3) w2; rw [upV_same]; exact h⟩
      · intro vals w' hS _
        have hsz := hS.size
        have HSS := hide hS
        clear hS
        unfold opRun; simp only [putL]; go_simp
        exact ⟨(Upd.refl _ _).alloc _, (unhide HSS).alloc _, w'.heap.size, upV_same _ _ _, hsz, _, _, _, blk_alloc _ _⟩
      · rintro vals w' hS ⟨⟨b, e4, hN, x, y, z, hb⟩, ⟨u, e3, hi, hv⟩, -⟩
        replace e4 : vals 4 = _ := e4
        replace e3 : vals 3 = _ := e3
        obtain ⟨ua, uc, rfl⟩ := hi.slice
        have r0 := blk_cell hb 0
        have r1 := blk_cell hb 1
        have r2 := blk_cell hb 2
        have z0 := blk_free hb 0
        have z1 := blk_free hb 1
        have z2 := blk_free hb 2
        simp at r0 r1 r2
        have HSS := hide hS
        have HI := hide hi
        have HVV := hide hv
        clear hS hi hv
        unfold opRun; simp only [putL]; go_simp
        have uL : Upd (fun k => w6.heap.size ≤ k ∧ V3 w' k) w' (laid3 w' b (.int .u64 A2) (.int .u64 B2) (.slice ua (viewL I2).length uc)) := (laid3_upd w' b (.int .u64 A2) (.int .u64 B2) (.slice ua (viewL I2).length uc)).mono (fun i _ e => by subst e; exact ⟨hN, _, _, _, hb⟩)
        refine ⟨⟨uL, ?_⟩, (unhide HSS).trans (uL.mono (fun _ _ h => h.1)), b, by rw [upV_other _ _ (by decide)]; exact e4, hN, _, laid3_blk _ _ _ hb, items_v3 (unhide HI) uL, unhide HVV⟩
        rintro k ⟨x', y', z', hk⟩
        by_cases e : k = b
        · subst e; exact ⟨_, _, _, laid3_blk _ _ _ hb⟩
        · exact ⟨x', y', z', (laid3_upd w' b _ _ _).old hk e⟩
    · intro vals2 w7 hS hΦ
      obtain ⟨b10, e10, hN10, at10⟩ : ∃ b, vals2 4 = .pointer (some ⟨b, 0, none⟩) ∧ w6.heap.size ≤ b ∧ AtVr A2 B2 I2 b w7 := hΦ 5 (by decide)
      have n7 : New w6 w7 := hS.mono (fun i h e => absurd e (by omega))
      have m7 := m6.trans n7
      have at7 := at7.new n7
      have at8 := at8.new n7
      have at9 := at9.new n7
      have hl7 := (unhide HL1).new m7
      have hG7 := hG1.new m7
      have nw7 := nw.trans m7
      clear hΦ hS n7 hS6 O6 q0 q1 m5 m6 hG1 hS1
      simp only [putL, e10]
      go_simp
      go_upto_region 7 with fail
      refine wp_dag (by kernel_rfl) [[], [(0, 33)], [], [(1, 34), (2, 35)], [(3, 36)], [(4, 37)], [(5, 38), (4, 37)], [(4, 37)], [(6, 39), (7, 40), (4, 37)], [(4, 37), (8, 41)], [(9, 42)], [(10, 43)], [(11, 44), (10, 43)], [(10, 43)], [(13, 46), (10, 43)], [(12, 45), (14, 47), (10, 43)], [(10, 43), (15, 48)], [(16, 49)], [(17, 50)], [(18, 51), (17, 50)], [(17, 50)], [(20, 53), (17, 50)], [(19, 52), (21, 54), (17, 50)], [(17, 50), (22, 55)], [(23, 56)], [(24, 57)], [(24, 57)], [(25, 58), (26, 59), (24, 57)], [(27, 60), (24, 57)], [(24, 57)], [(29, 62), (24, 57)], [(24, 57)], [(30, 63), (31, 64), (24, 57)], [(28, 61), (32, 65), (24, 57)], [(24, 57), (33, 66)], [(34, 67)], [(35, 68)], [(35, 68)], [(36, 69), (37, 70), (35, 68)], [(35, 68)], [(39, 72), (35, 68)], [(35, 68)], [(40, 73), (41, 74), (35, 68)], [(38, 71), (42, 75), (35, 68)], [(35, 68), (43, 76)], [(44, 77)]] 78 (by rfl) (by kernel_rfl)
        [(0, 33), (1, 34), (2, 35), (3, 36), (4, 37), (5, 38), (6, 39), (7, 40), (8, 41), (9, 42), (10, 43), (11, 44), (12, 45), (13, 46), (14, 47), (15, 48), (16, 49), (17, 50), (18, 51), (19, 52), (20, 53), (21, 54), (22, 55), (23, 56), (24, 57), (25, 58), (26, 59), (27, 60), (28, 61), (29, 62), (30, 63), (31, 64), (32, 65), (33, 66), (34, 67), (35, 68), (36, 69), (37, 70), (38, 71), (39, 72), (40, 73), (41, 74), (42, 75), (43, 76), (44, 77), (45, 6)] (by kernel_rfl) (fun w' => New w7 w') New
        (tel7 A1 B1 A2 B2 (totalI A1 B1 (viewL I1)) (totalI A2 B2 (viewL I2)) ev (.slice va xs.length vc) I1 I2 xs) ((Upd.refl _ _).drew) (fun w => Upd.refl _ w) (fun i v w w' _ _ n h => tel7_new i v n h) ?_ ?_
      · refine DagSteps.plain rfl ?_ (DagSteps.plain rfl ?_ (DagSteps.plain rfl ?_ (DagSteps.plain rfl ?_ (DagSteps.plain rfl ?_ (DagSteps.guarded rfl (fun _ _ h => h) ?_ (DagSteps.guarded rfl (fun _ _ h => h) ?_ (DagSteps.guarded rfl (fun _ _ h => h) ?_ (DagSteps.guarded rfl (fun _ _ h => h) ?_ (DagSteps.plain rfl ?_ (DagSteps.plain rfl ?_ (DagSteps.guarded rfl (fun _ _ h => h) ?_ (DagSteps.guarded rfl (fun _ _ h => h) ?_ (DagSteps.guarded rfl (fun _ _ h => h) ?_ (DagSteps.guarded rfl (fun _ _ h => h) ?_ (DagSteps.guarded rfl (fun _ _ h => h) ?_ (DagSteps.plain rfl ?_ (DagSteps.plain rfl ?_ (DagSteps.guarded rfl (fun _ _ h => h) ?_ (DagSteps.guarded rfl (fun _ _ h => h) ?_ (DagSteps.guarded rfl (fun _ _ h => h) ?_ (DagSteps.guarded rfl (fun _ _ h => h) ?_ (DagSteps.guarded rfl (fun _ _ h => h) ?_ (DagSteps.plain rfl ?_ (DagSteps.plain rfl ?_ (DagSteps.guarded rfl (fun _ _ h => h) ?_ (DagSteps.guarded rfl (fun _ _ h => h) ?_ (DagSteps.guarded rfl (fun _ _ h => h) ?_ (DagSteps.guarded rfl (fun _ _ h => h) ?_ (DagSteps.guarded rfl (fun _ _ h => h) ?_ (DagSteps.guarded rfl (fun _ _ h => h) ?_ (DagSteps.guarded rfl (fun _ _ h => h) ?_ (DagSteps.guarded rfl (fun _ _ h => h) ?_ (DagSteps.guarded rfl (fun _ _ h => h) ?_ (DagSteps.plain rfl ?_ (DagSteps.plain rfl ?_ (DagSteps.guarded rfl (fun _ _ h => h) ?_ (DagSteps.guarded rfl (fun _ _ h => h) ?_ (DagSteps.guarded rfl (fun _ _ h => h) ?_ (DagSteps.guarded rfl (fun _ _ h => h) ?_ (DagSteps.guarded rfl (fun _ _ h => h) ?_ (DagSteps.guarded rfl (fun _ _ h => h) ?_ (DagSteps.guarded rfl (fun _ _ h => h) ?_ (DagSteps.guarded rfl (fun _ _ h => h) ?_ (DagSteps.plain rfl ?_ (DagSteps.plain rfl ?_ (DagSteps.nil))))))))))))))))))))))))))))))))))))))))))))))
        · rintro vals w' hS -
          obtain ⟨u, T, e, h1, h2⟩ := at7.new hS
          obtain ⟨ax, cx, rfl⟩ := h1.slice
          have r0 := blk_cell e 0
          have r1 := blk_cell e 1
          have r2 := blk_cell e 2
          simp at r0 r1 r2
          unfold opRun; simp only [putL]; go_simp
          exact ⟨Upd.refl _ _, _, rfl, h1, h2⟩
        · rintro vals w' hS ⟨h0, -⟩
          unfold opRun; simp only [putL]; go_simp
          refine (its_vw h0 (by assumption)).mono ?_
          rintro e w2 ⟨v', rfl, n, h⟩
          exact ⟨_, rfl, n, hS.trans n, h⟩
        · rintro vals w' hS -
          obtain ⟨u, e, h1, h2⟩ := at9.new hS
          obtain ⟨ax, cx, rfl⟩ := h1.slice
          have r0 := blk_cell e 0
          have r1 := blk_cell e 1
          have r2 := blk_cell e 2
          simp at r0 r1 r2
          unfold opRun; simp only [putL]; go_simp
          exact ⟨Upd.refl _ _, _, rfl, h1, h2⟩
        · rintro vals w' hS ⟨h0, h1, -⟩
          unfold opRun; simp only [putL]; go_simp
          refine (same_vr h0 h1 (by assumption) (unhide K1)).mono ?_
          rintro e w2 ⟨v', rfl, n, h⟩
          exact ⟨_, rfl, n, hS.trans n, h⟩
        · rintro vals w' hS ⟨h0, -⟩
          replace h0 : vals 3 = _ := h0
          unfold opRun; simp only [putL]; go_simp
          exact ⟨Upd.refl _ _, rfl⟩
        · rintro vals w' hS ⟨h0, -⟩
          obtain ⟨u, T, e, h1, h2⟩ := at8.new hS
          obtain ⟨ax, cx, rfl⟩ := h1.slice
          have r0 := blk_cell e 0
          have r1 := blk_cell e 1
          have r2 := blk_cell e 2
          simp at r0 r1 r2
          unfold opRun; simp only [putL]; go_simp
          exact ⟨Upd.refl _ _, _, rfl, h1, h2⟩
        · rintro vals w' hS ⟨h0, h1, -⟩
          unfold opRun; simp only [putL]; go_simp
          refine (its_vw h0 (by assumption)).mono ?_
          rintro e w2 ⟨v', rfl, n, h⟩
          exact ⟨_, rfl, n, hS.trans n, h⟩
        · rintro vals w' hS ⟨h0, -⟩
          obtain ⟨u, e, h1, h2⟩ := at10.new hS
          obtain ⟨ax, cx, rfl⟩ := h1.slice
          have r0 := blk_cell e 0
          have r1 := blk_cell e 1
          have r2 := blk_cell e 2
          simp at r0 r1 r2
          unfold opRun; simp only [putL]; go_simp
          exact ⟨Upd.refl _ _, _, rfl, h1, h2⟩
        · rintro vals w' hS ⟨h0, h1, h2, -⟩
          unfold opRun; simp only [putL]; go_simp
          refine (same_vr h0 h1 (by assumption) (unhide K2)).mono ?_
          rintro e w2 ⟨v', rfl, n, h⟩
          exact ⟨_, rfl, n, hS.trans n, h⟩
        · rintro vals w' hS ⟨h0, h1, -⟩
          replace h0 : vals 4 = _ := h0
          replace h1 : vals 8 = _ := h1
          unfold opRun; simp only [putL]; go_simp
          exact ⟨Upd.refl _ _, rfl⟩
        · rintro vals w' hS ⟨h0, -⟩
          replace h0 : vals 9 = _ := h0
          unfold opRun; simp only [putL]; go_simp
          exact ⟨Upd.refl _ _, rfl⟩
        · rintro vals w' hS ⟨h0, -⟩
          obtain ⟨u, T, e, h1, h2⟩ := at7.new hS
          obtain ⟨ax, cx, rfl⟩ := h1.slice
          have r0 := blk_cell e 0
          have r1 := blk_cell e 1
          have r2 := blk_cell e 2
          simp at r0 r1 r2
          unfold opRun; simp only [putL]; go_simp
          exact ⟨Upd.refl _ _, _, rfl, h1, h2⟩
        · rintro vals w' hS ⟨h0, h1, -⟩
          unfold opRun; simp only [putL]; go_simp
          refine (total_vw h0 (by assumption)).mono ?_
          rintro e w2 ⟨v', rfl, n, h⟩
          exact ⟨_, rfl, n, hS.trans n, h⟩
        · rintro vals w' hS ⟨h0, -⟩
          obtain ⟨u, e, h1, h2⟩ := at9.new hS
          obtain ⟨ax, cx, rfl⟩ := h1.slice
          have r0 := blk_cell e 0
          have r1 := blk_cell e 1
          have r2 := blk_cell e 2
          simp at r0 r1 r2
          unfold opRun; simp only [putL]; go_simp
          exact ⟨Upd.refl _ _, _, rfl, h1, h2⟩
        · rintro vals w' hS ⟨h0, h1, -⟩
          unfold opRun; simp only [putL]; go_simp
          refine (reftotal_vr h0 (by assumption)).mono ?_
          rintro e w2 ⟨v', rfl, n, h⟩
          exact ⟨_, rfl, n, hS.trans n, h⟩
        · rintro vals w' hS ⟨h0, h1, h2, -⟩
          replace h0 : vals 12 = _ := h0
          replace h1 : vals 14 = _ := h1
          unfold opRun; simp only [putL]; go_simp
          exact ⟨Upd.refl _ _, rfl⟩
        · rintro vals w' hS ⟨h0, h1, -⟩
          replace h0 : vals 10 = _ := h0
          replace h1 : vals 15 = _ := h1
          unfold opRun; simp only [putL]; go_simp
          exact ⟨Upd.refl _ _, rfl⟩
        · rintro vals w' hS ⟨h0, -⟩
          replace h0 : vals 16 = _ := h0
          unfold opRun; simp only [putL]; go_simp
          exact ⟨Upd.refl _ _, rfl⟩
        · rintro vals w' hS ⟨h0, -⟩
          obtain ⟨u, T, e, h1, h2⟩ := at8.new hS
          obtain ⟨ax, cx, rfl⟩ := h1.slice
          have r0 := blk_cell e 0
          have r1 := blk_cell e 1
          have r2 := blk_cell e 2
          simp at r0 r1 r2
          unfold opRun; simp only [putL]; go_simp
          exact ⟨Upd.refl _ _, _, rfl, h1, h2⟩
        · rintro vals w' hS ⟨h0, h1, -⟩
          unfold opRun; simp only [putL]; go_simp
          refine (total_vw h0 (by assumption)).mono ?_
          rintro e w2 ⟨v', rfl, n, h⟩
          exact ⟨_, rfl, n, hS.trans n, h⟩
        · rintro vals w' hS ⟨h0, -⟩
          obtain ⟨u, e, h1, h2⟩ := at10.new hS
          obtain ⟨ax, cx, rfl⟩ := h1.slice
          have r0 := blk_cell e 0
          have r1 := blk_cell e 1
          have r2 := blk_cell e 2
          simp at r0 r1 r2
          unfold opRun; simp only [putL]; go_simp
          exact ⟨Upd.refl _ _, _, rfl, h1, h2⟩
        · rintro vals w' hS ⟨h0, h1, -⟩
          unfold opRun; simp only [putL]; go_simp
          refine (reftotal_vr h0 (by assumption)).mono ?_
          rintro e w2 ⟨v', rfl, n, h⟩
          exact ⟨_, rfl, n, hS.trans n, h⟩
        · rintro vals w' hS ⟨h0, h1, h2, -⟩
          replace h0 : vals 19 = _ := h0
          replace h1 : vals 21 = _ := h1
          unfold opRun; simp only [putL]; go_simp
          exact ⟨Upd.refl _ _, rfl⟩
        · rintro vals w' hS ⟨h0, h1, -⟩
          replace h0 : vals 17 = _ := h0
          replace h1 : vals 22 = _ := h1
          unfold opRun; simp only [putL]; go_simp
          exact ⟨Upd.refl _ _, rfl⟩
        · rintro vals w' hS ⟨h0, -⟩
          replace h0 : vals 23 = _ := h0
          unfold opRun; simp only [putL]; go_simp
          exact ⟨Upd.refl _ _, rfl⟩
        · rintro vals w' hS ⟨h0, -⟩
          unfold opRun; simp only [putL]; go_simp
          exact ⟨Upd.refl _ _, rfl⟩
        · rintro vals w' hS ⟨h0, -⟩
          unfold opRun; simp only [putL]; go_simp
          exact ⟨Upd.refl _ _, rfl⟩
        · rintro vals w' hS ⟨h0, h1, h2, -⟩
          replace h0 : vals 25 = _ := h0
          replace h1 : vals 26 = _ := h1
          unfold opRun; simp only [putL]; go_simp
          refine (after_lv _ xs ev hlx w' (hG7.new hS) (hl7.new hS)).mono ?_
          rintro e w2 ⟨v', rfl, n, h⟩
          exact ⟨_, rfl, n, hS.trans n, h⟩
        · rintro vals w' hS ⟨h0, h1, -⟩
          unfold opRun; simp only [putL]; go_simp
          refine (live_any _ (afterL ev xs) (by rw [unhide HAL]; exact hlx) w' h0).mono ?_
          rintro e w2 ⟨v', rfl, n, h⟩
          exact ⟨_, rfl, n, hS.trans n, h⟩
        · rintro vals w' hS ⟨h0, -⟩
          unfold opRun; simp only [putL]; go_simp
          exact ⟨Upd.refl _ _, rfl⟩
        · rintro vals w' hS ⟨h0, h1, -⟩
          replace h0 : vals 29 = _ := h0
          unfold opRun; simp only [putL]; go_simp
          refine (live_any _ xs hlx w' (hl7.new hS)).mono ?_
          rintro e w2 ⟨v', rfl, n, h⟩
          exact ⟨_, rfl, n, hS.trans n, h⟩
        · rintro vals w' hS ⟨h0, -⟩
          unfold opRun; simp only [putL]; go_simp
          exact ⟨Upd.refl _ _, rfl⟩
        · rintro vals w' hS ⟨h0, h1, h2, -⟩
          replace h1 : vals 31 = _ := h1
          unfold opRun; simp only [putL]; go_simp
          refine (refafter_any _ xs ev hlx w' h0).mono ?_
          rintro e w2 ⟨v', rfl, n, h⟩
          exact ⟨_, rfl, n, hS.trans n, h⟩
        · rintro vals w' hS ⟨h0, h1, h2, -⟩
          unfold opRun; simp only [putL]; go_simp
          refine (samelive_lv h0 h1 (by rw [unhide HAL]; exact hlx) (unhide KA)).mono ?_
          rintro e w2 ⟨v', rfl, n, h⟩
          exact ⟨_, rfl, n, hS.trans n, h⟩
        · rintro vals w' hS ⟨h0, h1, -⟩
          replace h0 : vals 24 = _ := h0
          replace h1 : vals 33 = _ := h1
          unfold opRun; simp only [putL]; go_simp
          exact ⟨Upd.refl _ _, rfl⟩
        · rintro vals w' hS ⟨h0, -⟩
          replace h0 : vals 34 = _ := h0
          unfold opRun; simp only [putL]; go_simp
          exact ⟨Upd.refl _ _, rfl⟩
        · rintro vals w' hS ⟨h0, -⟩
          unfold opRun; simp only [putL]; go_simp
          exact ⟨Upd.refl _ _, rfl⟩
        · rintro vals w' hS ⟨h0, -⟩
          unfold opRun; simp only [putL]; go_simp
          exact ⟨Upd.refl _ _, rfl⟩
        · rintro vals w' hS ⟨h0, h1, h2, -⟩
          replace h0 : vals 36 = _ := h0
          replace h1 : vals 37 = _ := h1
          unfold opRun; simp only [putL]; go_simp
          refine (chg_lv _ xs ev hlx w' (hG7.new hS) (hl7.new hS)).mono ?_
          rintro e w2 ⟨v', rfl, n, h⟩
          exact ⟨_, rfl, n, hS.trans n, h⟩
        · rintro vals w' hS ⟨h0, -⟩
          unfold opRun; simp only [putL]; go_simp
          exact ⟨Upd.refl _ _, rfl⟩
        · rintro vals w' hS ⟨h0, h1, -⟩
          replace h0 : vals 39 = _ := h0
          unfold opRun; simp only [putL]; go_simp
          refine (live_any _ xs hlx w' (hl7.new hS)).mono ?_
          rintro e w2 ⟨v', rfl, n, h⟩
          exact ⟨_, rfl, n, hS.trans n, h⟩
        · rintro vals w' hS ⟨h0, -⟩
          unfold opRun; simp only [putL]; go_simp
          exact ⟨Upd.refl _ _, rfl⟩
        · rintro vals w' hS ⟨h0, h1, h2, -⟩
          replace h1 : vals 41 = _ := h1
          unfold opRun; simp only [putL]; go_simp
          refine (rchg_lv _ xs ev hlx w' h0).mono ?_
          rintro e w2 ⟨v', rfl, n, h⟩
          exact ⟨_, rfl, n, hS.trans n, h⟩
        · rintro vals w' hS ⟨h0, h1, h2, -⟩
          replace h0 : vals 38 = _ := h0
          replace h1 : vals 42 = _ := h1
          unfold opRun; simp only [putL]; go_simp
          exact ⟨Upd.refl _ _, rfl⟩
        · rintro vals w' hS ⟨h0, h1, -⟩
          replace h0 : vals 35 = _ := h0
          replace h1 : vals 43 = _ := h1
          unfold opRun; simp only [putL]; go_simp
          exact ⟨Upd.refl _ _, rfl⟩
        · rintro vals w' hS ⟨h0, -⟩
          replace h0 : vals 44 = _ := h0
          unfold opRun; simp only [putL]; go_simp
          exact ⟨Upd.refl _ _, rfl⟩
      · intro vals3 w8 hS hP
        have h45 : vals3 45 = .bool true := hP 45 (by decide)
        clear hP
        have nn := nw7.trans hS
        simp only [putL, h45]
        go_simp
        go_wp2_with fail
        go_ret
        exact ⟨rfl, nn⟩

theorem tells_said (l r : Int) (v : Value) (xs : List Live) (ev : Int) (w : World) (hok : ∀ x ∈ xs, LiveOk x) (hv : Lives w v xs) (_ : (Lit.int .i64 ev).wf = true) (hS : Spans w) (hG : Glob w) :
    Calls Tryd.prog 7 #[.agg #[.int .u64 l, .int .u64 r], v, .int .i64 ev] w (Makes (.bool true) w) := tells_walk l r v xs ev w hok hv hS hG

end Go.Proofs.YtbcjhpeighlncaaDoor
