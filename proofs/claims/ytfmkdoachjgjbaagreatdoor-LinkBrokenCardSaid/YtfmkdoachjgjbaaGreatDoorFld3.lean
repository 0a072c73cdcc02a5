/-
  wire.fields (printed by tools/mk_fld.py).
-/
import Derived.Test.YtfmkdoachjgjbaaGreatDoorMcc
set_option linter.unusedVariables false
set_option linter.unusedSimpArgs false
namespace Go.Proofs.YtfmkdoachjgjbaaGreatDoor
open Go.RowKit

def fieldsOf (kind : Int) : Option (List Fld) :=
  if kind = 1 then some [.ch, .amount] else if kind = 2 then some [.ch] else if kind = 3 then some [.ch, .id, .amount, .hash, .expiry] else if kind = 4 then some [.ch, .id, .hash] else if kind = 5 then some [.ch, .id, .number]
  else if kind = 6 then some [.ch, .number, .hash] else if kind = 7 then some [.ch, .number, .hash] else if kind = 8 then some [.ch] else if kind = 9 then some [.ch, .number, .id] else none
theorem own_low {w : World} {a b : Nat} {e : TypeId} {size : Nat} {v : Value} {n : Nat} {xs : List Value} (h : w.ownsRow b e size v n xs) (ab : a ≤ b) : w.ownsRow a e size v n xs := by
  refine ⟨h.1, ?_⟩
  rcases h.2 with h | ⟨g, cap, cur, e1, e2, r⟩
  · exact .inl h
  · exact .inr ⟨g, cap, cur, e1, by omega, r⟩
def FieldsR (xs : List Fld) (w : World) (e : Ending) (w' : World) : Prop := ∃ v, e = .returned (.tuple #[v, .bool true]) ∧ New w w' ∧ FldsO w.heap.size w' v xs

set_option maxRecDepth 100000 in
set_option maxHeartbeats 1000000 in
theorem fields_1 (w : World) : Calls Tryz.prog 137 #[.int .i64 1] w (FieldsR [.ch, .amount] w) := by
  go_enter Tryz.func137, Tryz.ntmps137
  go_wp2_with fail
  refine (number64_any 8 169 w).mono ?_
  rintro e w1 ⟨_, rfl, n1, p1, q1, rfl, hp1, hq1, cp1, cq1⟩
  go_wp2_with fail
  refine (number64_any 8 170 w1).mono ?_
  rintro e w2 ⟨_, rfl, n2, p2, q2, rfl, hp2, hq2, cp2, cq2⟩
  have hz1 := n1.size
  replace cp1 := n2.cell cp1 (fun h => h)
  replace cq1 := n2.cell cq1 (fun h => h)
  replace n1 := n1.trans n2
  clear n2
  go_wp2_with fail
  refine (numberI_any 4 172 w2).mono ?_
  rintro e w3 ⟨_, rfl, n3, p3, q3, rfl, hp3, hq3, cp3, cq3⟩
  have hz2 := n1.size
  replace cp1 := n3.cell cp1 (fun h => h)
  replace cq1 := n3.cell cq1 (fun h => h)
  replace cp2 := n3.cell cp2 (fun h => h)
  replace cq2 := n3.cell cq2 (fun h => h)
  replace n1 := n1.trans n3
  clear n3
  go_wp2_with fail
  refine (numberI_any 2 173 w3).mono ?_
  rintro e w4 ⟨_, rfl, n4, p4, q4, rfl, hp4, hq4, cp4, cq4⟩
  have hz3 := n1.size
  replace cp1 := n4.cell cp1 (fun h => h)
  replace cq1 := n4.cell cq1 (fun h => h)
  replace cp2 := n4.cell cp2 (fun h => h)
  replace cq2 := n4.cell cq2 (fun h => h)
  replace cp3 := n4.cell cp3 (fun h => h)
  replace cq3 := n4.cell cq3 (fun h => h)
  replace n1 := n1.trans n4
  have hz4 := n1.size
  clear n4
  go_wp2_with fail
  have hal : New w4 (w4.alloc (.cells #[(.func (.func 200) #[] #[.pointer (some ⟨p2, 0, none⟩), .pointer (some ⟨q2, 0, none⟩)])] 271)) := (Upd.refl _ _).alloc _
  refine (list_any w4.heap.size [(.func (.func 200) #[] #[.pointer (some ⟨p2, 0, none⟩), .pointer (some ⟨q2, 0, none⟩)])] _ (blk_alloc w4 (.cells #[(.func (.func 200) #[] #[.pointer (some ⟨p2, 0, none⟩), .pointer (some ⟨q2, 0, none⟩)])] 271)) ?one (by show 1 ≤ 100; decide)).mono ?_
  case one => intro v hv; simp only [List.mem_cons, List.not_mem_nil, or_false] at hv; rcases hv with rfl <;> rfl
  rintro e w5 ⟨v, c, rfl, n5, ho, hc⟩
  have hz5 := hal.size
  have n6 := hal.trans n5
  have HO := hide (own_low ho (show w.heap.size ≤ _ by omega))
  have HC := hide (hc.later (show w.heap.size ≤ _ by omega))
  replace cp1 := n6.cell cp1 (fun h => h)
  replace cq1 := n6.cell cq1 (fun h => h)
  replace cp2 := n6.cell cp2 (fun h => h)
  replace cq2 := n6.cell cq2 (fun h => h)
  replace cp3 := n6.cell cp3 (fun h => h)
  replace cq3 := n6.cell cq3 (fun h => h)
  replace cp4 := n6.cell cp4 (fun h => h)
  replace cq4 := n6.cell cq4 (fun h => h)
  have HN := hide (n1.trans n6)
  clear n1 n5 n6 hal ho hc
  go_wp2_with fail
  go_ret2
  refine ⟨v, rfl, unhide HN, ⟨_, unhide HO, rfl, ?_⟩⟩
  intro i x u hx hu
  rcases i with _ | _ | _
  · obtain rfl : _ = x := Option.some.inj hx
    obtain rfl : _ = u := Option.some.inj hu
    exact unhide HC
  · obtain rfl : _ = x := Option.some.inj hx
    obtain rfl : _ = u := Option.some.inj hu
    exact ⟨p2, q2, rfl, by omega, by omega, cp2, cq2⟩
  · cases hx

set_option maxRecDepth 100000 in
set_option maxHeartbeats 1000000 in
theorem fields_2 (w : World) : Calls Tryz.prog 137 #[.int .i64 2] w (FieldsR [.ch] w) := by
  go_enter Tryz.func137, Tryz.ntmps137
  go_wp2_with fail
  refine (number64_any 8 169 w).mono ?_
  rintro e w1 ⟨_, rfl, n1, p1, q1, rfl, hp1, hq1, cp1, cq1⟩
  go_wp2_with fail
  refine (number64_any 8 170 w1).mono ?_
  rintro e w2 ⟨_, rfl, n2, p2, q2, rfl, hp2, hq2, cp2, cq2⟩
  have hz1 := n1.size
  replace cp1 := n2.cell cp1 (fun h => h)
  replace cq1 := n2.cell cq1 (fun h => h)
  replace n1 := n1.trans n2
  clear n2
  go_wp2_with fail
  refine (numberI_any 4 172 w2).mono ?_
  rintro e w3 ⟨_, rfl, n3, p3, q3, rfl, hp3, hq3, cp3, cq3⟩
  have hz2 := n1.size
  replace cp1 := n3.cell cp1 (fun h => h)
  replace cq1 := n3.cell cq1 (fun h => h)
  replace cp2 := n3.cell cp2 (fun h => h)
  replace cq2 := n3.cell cq2 (fun h => h)
  replace n1 := n1.trans n3
  clear n3
  go_wp2_with fail
  refine (numberI_any 2 173 w3).mono ?_
  rintro e w4 ⟨_, rfl, n4, p4, q4, rfl, hp4, hq4, cp4, cq4⟩
  have hz3 := n1.size
  replace cp1 := n4.cell cp1 (fun h => h)
  replace cq1 := n4.cell cq1 (fun h => h)
  replace cp2 := n4.cell cp2 (fun h => h)
  replace cq2 := n4.cell cq2 (fun h => h)
  replace cp3 := n4.cell cp3 (fun h => h)
  replace cq3 := n4.cell cq3 (fun h => h)
  replace n1 := n1.trans n4
  have hz4 := n1.size
  clear n4
  go_wp2_with fail
  have hal : New w4 w4 := Upd.refl _ _
  refine (list0_any w4).mono ?_
  rintro e w5 ⟨v, c, rfl, n5, ho, hc⟩
  have hz5 := hal.size
  have n6 := hal.trans n5
  have HO := hide (own_low ho (show w.heap.size ≤ _ by omega))
  have HC := hide (hc.later (show w.heap.size ≤ _ by omega))
  replace cp1 := n6.cell cp1 (fun h => h)
  replace cq1 := n6.cell cq1 (fun h => h)
  replace cp2 := n6.cell cp2 (fun h => h)
  replace cq2 := n6.cell cq2 (fun h => h)
  replace cp3 := n6.cell cp3 (fun h => h)
  replace cq3 := n6.cell cq3 (fun h => h)
  replace cp4 := n6.cell cp4 (fun h => h)
  replace cq4 := n6.cell cq4 (fun h => h)
  have HN := hide (n1.trans n6)
  clear n1 n5 n6 hal ho hc
  go_wp2_with fail
  go_ret2
  refine ⟨v, rfl, unhide HN, ⟨_, unhide HO, rfl, ?_⟩⟩
  intro i x u hx hu
  rcases i with _ | _
  · obtain rfl : _ = x := Option.some.inj hx
    obtain rfl : _ = u := Option.some.inj hu
    exact unhide HC
  · cases hx

set_option maxRecDepth 100000 in
set_option maxHeartbeats 1000000 in
theorem fields_3 (w : World) : Calls Tryz.prog 137 #[.int .i64 3] w (FieldsR [.ch, .id, .amount, .hash, .expiry] w) := by
  go_enter Tryz.func137, Tryz.ntmps137
  go_wp2_with fail
  refine (number64_any 8 169 w).mono ?_
  rintro e w1 ⟨_, rfl, n1, p1, q1, rfl, hp1, hq1, cp1, cq1⟩
  go_wp2_with fail
  refine (number64_any 8 170 w1).mono ?_
  rintro e w2 ⟨_, rfl, n2, p2, q2, rfl, hp2, hq2, cp2, cq2⟩
  have hz1 := n1.size
  replace cp1 := n2.cell cp1 (fun h => h)
  replace cq1 := n2.cell cq1 (fun h => h)
  replace n1 := n1.trans n2
  clear n2
  go_wp2_with fail
  refine (numberI_any 4 172 w2).mono ?_
  rintro e w3 ⟨_, rfl, n3, p3, q3, rfl, hp3, hq3, cp3, cq3⟩
  have hz2 := n1.size
  replace cp1 := n3.cell cp1 (fun h => h)
  replace cq1 := n3.cell cq1 (fun h => h)
  replace cp2 := n3.cell cp2 (fun h => h)
  replace cq2 := n3.cell cq2 (fun h => h)
  replace n1 := n1.trans n3
  clear n3
  go_wp2_with fail
  refine (numberI_any 2 173 w3).mono ?_
  rintro e w4 ⟨_, rfl, n4, p4, q4, rfl, hp4, hq4, cp4, cq4⟩
  have hz3 := n1.size
  replace cp1 := n4.cell cp1 (fun h => h)
  replace cq1 := n4.cell cq1 (fun h => h)
  replace cp2 := n4.cell cp2 (fun h => h)
  replace cq2 := n4.cell cq2 (fun h => h)
  replace cp3 := n4.cell cp3 (fun h => h)
  replace cq3 := n4.cell cq3 (fun h => h)
  replace n1 := n1.trans n4
  have hz4 := n1.size
  clear n4
  go_wp2_with fail
  have hal : New w4 (w4.alloc (.cells #[(.func (.func 200) #[] #[.pointer (some ⟨p1, 0, none⟩), .pointer (some ⟨q1, 0, none⟩)]), (.func (.func 200) #[] #[.pointer (some ⟨p2, 0, none⟩), .pointer (some ⟨q2, 0, none⟩)]), (.func (.func 175) #[] #[]), (.func (.func 201) #[] #[.pointer (some ⟨p3, 0, none⟩), .pointer (some ⟨q3, 0, none⟩)])] 271)) := (Upd.refl _ _).alloc _
  refine (list_any w4.heap.size [(.func (.func 200) #[] #[.pointer (some ⟨p1, 0, none⟩), .pointer (some ⟨q1, 0, none⟩)]), (.func (.func 200) #[] #[.pointer (some ⟨p2, 0, none⟩), .pointer (some ⟨q2, 0, none⟩)]), (.func (.func 175) #[] #[]), (.func (.func 201) #[] #[.pointer (some ⟨p3, 0, none⟩), .pointer (some ⟨q3, 0, none⟩)])] _ (blk_alloc w4 (.cells #[(.func (.func 200) #[] #[.pointer (some ⟨p1, 0, none⟩), .pointer (some ⟨q1, 0, none⟩)]), (.func (.func 200) #[] #[.pointer (some ⟨p2, 0, none⟩), .pointer (some ⟨q2, 0, none⟩)]), (.func (.func 175) #[] #[]), (.func (.func 201) #[] #[.pointer (some ⟨p3, 0, none⟩), .pointer (some ⟨q3, 0, none⟩)])] 271)) ?one (by show 4 ≤ 100; decide)).mono ?_
  case one => intro v hv; simp only [List.mem_cons, List.not_mem_nil, or_false] at hv; rcases hv with rfl | rfl | rfl | rfl <;> rfl
  rintro e w5 ⟨v, c, rfl, n5, ho, hc⟩
  have hz5 := hal.size
  have n6 := hal.trans n5
  have HO := hide (own_low ho (show w.heap.size ≤ _ by omega))
  have HC := hide (hc.later (show w.heap.size ≤ _ by omega))
  replace cp1 := n6.cell cp1 (fun h => h)
  replace cq1 := n6.cell cq1 (fun h => h)
  replace cp2 := n6.cell cp2 (fun h => h)
  replace cq2 := n6.cell cq2 (fun h => h)
  replace cp3 := n6.cell cp3 (fun h => h)
  replace cq3 := n6.cell cq3 (fun h => h)
  replace cp4 := n6.cell cp4 (fun h => h)
  replace cq4 := n6.cell cq4 (fun h => h)
  have HN := hide (n1.trans n6)
  clear n1 n5 n6 hal ho hc
  go_wp2_with fail
  go_ret2
  refine ⟨v, rfl, unhide HN, ⟨_, unhide HO, rfl, ?_⟩⟩
  intro i x u hx hu
  rcases i with _ | _ | _ | _ | _ | _
  · obtain rfl : _ = x := Option.some.inj hx
    obtain rfl : _ = u := Option.some.inj hu
    exact unhide HC
  · obtain rfl : _ = x := Option.some.inj hx
    obtain rfl : _ = u := Option.some.inj hu
    exact ⟨p1, q1, rfl, by omega, by omega, cp1, cq1⟩
  · obtain rfl : _ = x := Option.some.inj hx
    obtain rfl : _ = u := Option.some.inj hu
    exact ⟨p2, q2, rfl, by omega, by omega, cp2, cq2⟩
  · obtain rfl : _ = x := Option.some.inj hx
    obtain rfl : _ = u := Option.some.inj hu
    exact rfl
  · obtain rfl : _ = x := Option.some.inj hx
    obtain rfl : _ = u := Option.some.inj hu
    exact ⟨p3, q3, rfl, by omega, by omega, cp3, cq3⟩
  · cases hx

set_option maxRecDepth 100000 in
set_option maxHeartbeats 1000000 in
theorem fields_4 (w : World) : Calls Tryz.prog 137 #[.int .i64 4] w (FieldsR [.ch, .id, .hash] w) := by
  go_enter Tryz.func137, Tryz.ntmps137
  go_wp2_with fail
  refine (number64_any 8 169 w).mono ?_
  rintro e w1 ⟨_, rfl, n1, p1, q1, rfl, hp1, hq1, cp1, cq1⟩
  go_wp2_with fail
  refine (number64_any 8 170 w1).mono ?_
  rintro e w2 ⟨_, rfl, n2, p2, q2, rfl, hp2, hq2, cp2, cq2⟩
  have hz1 := n1.size
  replace cp1 := n2.cell cp1 (fun h => h)
  replace cq1 := n2.cell cq1 (fun h => h)
  replace n1 := n1.trans n2
  clear n2
  go_wp2_with fail
  refine (numberI_any 4 172 w2).mono ?_
  rintro e w3 ⟨_, rfl, n3, p3, q3, rfl, hp3, hq3, cp3, cq3⟩
  have hz2 := n1.size
  replace cp1 := n3.cell cp1 (fun h => h)
  replace cq1 := n3.cell cq1 (fun h => h)
  replace cp2 := n3.cell cp2 (fun h => h)
  replace cq2 := n3.cell cq2 (fun h => h)
  replace n1 := n1.trans n3
  clear n3
  go_wp2_with fail
  refine (numberI_any 2 173 w3).mono ?_
  rintro e w4 ⟨_, rfl, n4, p4, q4, rfl, hp4, hq4, cp4, cq4⟩
  have hz3 := n1.size
  replace cp1 := n4.cell cp1 (fun h => h)
  replace cq1 := n4.cell cq1 (fun h => h)
  replace cp2 := n4.cell cp2 (fun h => h)
  replace cq2 := n4.cell cq2 (fun h => h)
  replace cp3 := n4.cell cp3 (fun h => h)
  replace cq3 := n4.cell cq3 (fun h => h)
  replace n1 := n1.trans n4
  have hz4 := n1.size
  clear n4
  go_wp2_with fail
  have hal : New w4 (w4.alloc (.cells #[(.func (.func 200) #[] #[.pointer (some ⟨p1, 0, none⟩), .pointer (some ⟨q1, 0, none⟩)]), (.func (.func 175) #[] #[])] 271)) := (Upd.refl _ _).alloc _
  refine (list_any w4.heap.size [(.func (.func 200) #[] #[.pointer (some ⟨p1, 0, none⟩), .pointer (some ⟨q1, 0, none⟩)]), (.func (.func 175) #[] #[])] _ (blk_alloc w4 (.cells #[(.func (.func 200) #[] #[.pointer (some ⟨p1, 0, none⟩), .pointer (some ⟨q1, 0, none⟩)]), (.func (.func 175) #[] #[])] 271)) ?one (by show 2 ≤ 100; decide)).mono ?_
  case one => intro v hv; simp only [List.mem_cons, List.not_mem_nil, or_false] at hv; rcases hv with rfl | rfl <;> rfl
  rintro e w5 ⟨v, c, rfl, n5, ho, hc⟩
  have hz5 := hal.size
  have n6 := hal.trans n5
  have HO := hide (own_low ho (show w.heap.size ≤ _ by omega))
  have HC := hide (hc.later (show w.heap.size ≤ _ by omega))
  replace cp1 := n6.cell cp1 (fun h => h)
  replace cq1 := n6.cell cq1 (fun h => h)
  replace cp2 := n6.cell cp2 (fun h => h)
  replace cq2 := n6.cell cq2 (fun h => h)
  replace cp3 := n6.cell cp3 (fun h => h)
  replace cq3 := n6.cell cq3 (fun h => h)
  replace cp4 := n6.cell cp4 (fun h => h)
  replace cq4 := n6.cell cq4 (fun h => h)
  have HN := hide (n1.trans n6)
  clear n1 n5 n6 hal ho hc
  go_wp2_with fail
  go_ret2
  refine ⟨v, rfl, unhide HN, ⟨_, unhide HO, rfl, ?_⟩⟩
  intro i x u hx hu
  rcases i with _ | _ | _ | _
  · obtain rfl : _ = x := Option.some.inj hx
    obtain rfl : _ = u := Option.some.inj hu
    exact unhide HC
  · obtain rfl : _ = x := Option.some.inj hx
    obtain rfl : _ = u := Option.some.inj hu
    exact ⟨p1, q1, rfl, by omega, by omega, cp1, cq1⟩
  · obtain rfl : _ = x := Option.some.inj hx
    obtain rfl : _ = u := Option.some.inj hu
    exact rfl
  · cases hx

set_option maxRecDepth 100000 in
set_option maxHeartbeats 1000000 in
theorem fields_5 (w : World) : Calls Tryz.prog 137 #[.int .i64 5] w (FieldsR [.ch, .id, .number] w) := by
  go_enter Tryz.func137, Tryz.ntmps137
  go_wp2_with fail
  refine (number64_any 8 169 w).mono ?_
  rintro e w1 ⟨_, rfl, n1, p1, q1, rfl, hp1, hq1, cp1, cq1⟩
  go_wp2_with fail
  refine (number64_any 8 170 w1).mono ?_
  rintro e w2 ⟨_, rfl, n2, p2, q2, rfl, hp2, hq2, cp2, cq2⟩
  have hz1 := n1.size
  replace cp1 := n2.cell cp1 (fun h => h)
  replace cq1 := n2.cell cq1 (fun h => h)
  replace n1 := n1.trans n2
  clear n2
  go_wp2_with fail
  refine (numberI_any 4 172 w2).mono ?_
  rintro e w3 ⟨_, rfl, n3, p3, q3, rfl, hp3, hq3, cp3, cq3⟩
  have hz2 := n1.size
  replace cp1 := n3.cell cp1 (fun h => h)
  replace cq1 := n3.cell cq1 (fun h => h)
  replace cp2 := n3.cell cp2 (fun h => h)
  replace cq2 := n3.cell cq2 (fun h => h)
  replace n1 := n1.trans n3
  clear n3
  go_wp2_with fail
  refine (numberI_any 2 173 w3).mono ?_
  rintro e w4 ⟨_, rfl, n4, p4, q4, rfl, hp4, hq4, cp4, cq4⟩
  have hz3 := n1.size
  replace cp1 := n4.cell cp1 (fun h => h)
  replace cq1 := n4.cell cq1 (fun h => h)
  replace cp2 := n4.cell cp2 (fun h => h)
  replace cq2 := n4.cell cq2 (fun h => h)
  replace cp3 := n4.cell cp3 (fun h => h)
  replace cq3 := n4.cell cq3 (fun h => h)
  replace n1 := n1.trans n4
  have hz4 := n1.size
  clear n4
  go_wp2_with fail
  have hal : New w4 (w4.alloc (.cells #[(.func (.func 200) #[] #[.pointer (some ⟨p1, 0, none⟩), .pointer (some ⟨q1, 0, none⟩)]), (.func (.func 201) #[] #[.pointer (some ⟨p4, 0, none⟩), .pointer (some ⟨q4, 0, none⟩)])] 271)) := (Upd.refl _ _).alloc _
  refine (list_any w4.heap.size [(.func (.func 200) #[] #[.pointer (some ⟨p1, 0, none⟩), .pointer (some ⟨q1, 0, none⟩)]), (.func (.func 201) #[] #[.pointer (some ⟨p4, 0, none⟩), .pointer (some ⟨q4, 0, none⟩)])] _ (blk_alloc w4 (.cells #[(.func (.func 200) #[] #[.pointer (some ⟨p1, 0, none⟩), .pointer (some ⟨q1, 0, none⟩)]), (.func (.func 201) #[] #[.pointer (some ⟨p4, 0, none⟩), .pointer (some ⟨q4, 0, none⟩)])] 271)) ?one (by show 2 ≤ 100; decide)).mono ?_
  case one => intro v hv; simp only [List.mem_cons, List.not_mem_nil, or_false] at hv; rcases hv with rfl | rfl <;> rfl
  rintro e w5 ⟨v, c, rfl, n5, ho, hc⟩
  have hz5 := hal.size
  have n6 := hal.trans n5
  have HO := hide (own_low ho (show w.heap.size ≤ _ by omega))
  have HC := hide (hc.later (show w.heap.size ≤ _ by omega))
  replace cp1 := n6.cell cp1 (fun h => h)
  replace cq1 := n6.cell cq1 (fun h => h)
  replace cp2 := n6.cell cp2 (fun h => h)
  replace cq2 := n6.cell cq2 (fun h => h)
  replace cp3 := n6.cell cp3 (fun h => h)
  replace cq3 := n6.cell cq3 (fun h => h)
  replace cp4 := n6.cell cp4 (fun h => h)
  replace cq4 := n6.cell cq4 (fun h => h)
  have HN := hide (n1.trans n6)
  clear n1 n5 n6 hal ho hc
  go_wp2_with fail
  go_ret2
  refine ⟨v, rfl, unhide HN, ⟨_, unhide HO, rfl, ?_⟩⟩
  intro i x u hx hu
  rcases i with _ | _ | _ | _
  · obtain rfl : _ = x := Option.some.inj hx
    obtain rfl : _ = u := Option.some.inj hu
    exact unhide HC
  · obtain rfl : _ = x := Option.some.inj hx
    obtain rfl : _ = u := Option.some.inj hu
    exact ⟨p1, q1, rfl, by omega, by omega, cp1, cq1⟩
  · obtain rfl : _ = x := Option.some.inj hx
    obtain rfl : _ = u := Option.some.inj hu
    exact ⟨p4, q4, rfl, by omega, by omega, cp4, cq4⟩
  · cases hx

set_option maxRecDepth 100000 in
set_option maxHeartbeats 1000000 in
theorem fields_6 (w : World) : Calls Tryz.prog 137 #[.int .i64 6] w (FieldsR [.ch, .number, .hash] w) := by
  go_enter Tryz.func137, Tryz.ntmps137
  go_wp2_with fail
  refine (number64_any 8 169 w).mono ?_
  rintro e w1 ⟨_, rfl, n1, p1, q1, rfl, hp1, hq1, cp1, cq1⟩
  go_wp2_with fail
  refine (number64_any 8 170 w1).mono ?_
  rintro e w2 ⟨_, rfl, n2, p2, q2, rfl, hp2, hq2, cp2, cq2⟩
  have hz1 := n1.size
  replace cp1 := n2.cell cp1 (fun h => h)
  replace cq1 := n2.cell cq1 (fun h => h)
  replace n1 := n1.trans n2
  clear n2
  go_wp2_with fail
  refine (numberI_any 4 172 w2).mono ?_
  rintro e w3 ⟨_, rfl, n3, p3, q3, rfl, hp3, hq3, cp3, cq3⟩
  have hz2 := n1.size
  replace cp1 := n3.cell cp1 (fun h => h)
  replace cq1 := n3.cell cq1 (fun h => h)
  replace cp2 := n3.cell cp2 (fun h => h)
  replace cq2 := n3.cell cq2 (fun h => h)
  replace n1 := n1.trans n3
  clear n3
  go_wp2_with fail
  refine (numberI_any 2 173 w3).mono ?_
  rintro e w4 ⟨_, rfl, n4, p4, q4, rfl, hp4, hq4, cp4, cq4⟩
  have hz3 := n1.size
  replace cp1 := n4.cell cp1 (fun h => h)
  replace cq1 := n4.cell cq1 (fun h => h)
  replace cp2 := n4.cell cp2 (fun h => h)
  replace cq2 := n4.cell cq2 (fun h => h)
  replace cp3 := n4.cell cp3 (fun h => h)
  replace cq3 := n4.cell cq3 (fun h => h)
  replace n1 := n1.trans n4
  have hz4 := n1.size
  clear n4
  go_wp2_with fail
  have hal : New w4 (w4.alloc (.cells #[(.func (.func 201) #[] #[.pointer (some ⟨p4, 0, none⟩), .pointer (some ⟨q4, 0, none⟩)]), (.func (.func 175) #[] #[])] 271)) := (Upd.refl _ _).alloc _
  refine (list_any w4.heap.size [(.func (.func 201) #[] #[.pointer (some ⟨p4, 0, none⟩), .pointer (some ⟨q4, 0, none⟩)]), (.func (.func 175) #[] #[])] _ (blk_alloc w4 (.cells #[(.func (.func 201) #[] #[.pointer (some ⟨p4, 0, none⟩), .pointer (some ⟨q4, 0, none⟩)]), (.func (.func 175) #[] #[])] 271)) ?one (by show 2 ≤ 100; decide)).mono ?_
  case one => intro v hv; simp only [List.mem_cons, List.not_mem_nil, or_false] at hv; rcases hv with rfl | rfl <;> rfl
  rintro e w5 ⟨v, c, rfl, n5, ho, hc⟩
  have hz5 := hal.size
  have n6 := hal.trans n5
  have HO := hide (own_low ho (show w.heap.size ≤ _ by omega))
  have HC := hide (hc.later (show w.heap.size ≤ _ by omega))
  replace cp1 := n6.cell cp1 (fun h => h)
  replace cq1 := n6.cell cq1 (fun h => h)
  replace cp2 := n6.cell cp2 (fun h => h)
  replace cq2 := n6.cell cq2 (fun h => h)
  replace cp3 := n6.cell cp3 (fun h => h)
  replace cq3 := n6.cell cq3 (fun h => h)
  replace cp4 := n6.cell cp4 (fun h => h)
  replace cq4 := n6.cell cq4 (fun h => h)
  have HN := hide (n1.trans n6)
  clear n1 n5 n6 hal ho hc
  go_wp2_with fail
  go_ret2
  refine ⟨v, rfl, unhide HN, ⟨_, unhide HO, rfl, ?_⟩⟩
  intro i x u hx hu
  rcases i with _ | _ | _ | _
  · obtain rfl : _ = x := Option.some.inj hx
    obtain rfl : _ = u := Option.some.inj hu
    exact unhide HC
  · obtain rfl : _ = x := Option.some.inj hx
    obtain rfl : _ = u := Option.some.inj hu
    exact ⟨p4, q4, rfl, by omega, by omega, cp4, cq4⟩
  · obtain rfl : _ = x := Option.some.inj hx
    obtain rfl : _ = u := Option.some.inj hu
    exact rfl
  · cases hx

set_option maxRecDepth 100000 in
set_option maxHeartbeats 1000000 in
theorem fields_7 (w : World) : Calls Tryz.prog 137 #[.int .i64 7] w (FieldsR [.ch, .number, .hash] w) := by
  go_enter Tryz.func137, Tryz.ntmps137
  go_wp2_with fail
  refine (number64_any 8 169 w).mono ?_
  rintro e w1 ⟨_, rfl, n1, p1, q1, rfl, hp1, hq1, cp1, cq1⟩
  go_wp2_with fail
  refine (number64_any 8 170 w1).mono ?_
  rintro e w2 ⟨_, rfl, n2, p2, q2, rfl, hp2, hq2, cp2, cq2⟩
  have hz1 := n1.size
  replace cp1 := n2.cell cp1 (fun h => h)
  replace cq1 := n2.cell cq1 (fun h => h)
  replace n1 := n1.trans n2
  clear n2
  go_wp2_with fail
  refine (numberI_any 4 172 w2).mono ?_
  rintro e w3 ⟨_, rfl, n3, p3, q3, rfl, hp3, hq3, cp3, cq3⟩
  have hz2 := n1.size
  replace cp1 := n3.cell cp1 (fun h => h)
  replace cq1 := n3.cell cq1 (fun h => h)
  replace cp2 := n3.cell cp2 (fun h => h)
  replace cq2 := n3.cell cq2 (fun h => h)
  replace n1 := n1.trans n3
  clear n3
  go_wp2_with fail
  refine (numberI_any 2 173 w3).mono ?_
  rintro e w4 ⟨_, rfl, n4, p4, q4, rfl, hp4, hq4, cp4, cq4⟩
  have hz3 := n1.size
  replace cp1 := n4.cell cp1 (fun h => h)
  replace cq1 := n4.cell cq1 (fun h => h)
  replace cp2 := n4.cell cp2 (fun h => h)
  replace cq2 := n4.cell cq2 (fun h => h)
  replace cp3 := n4.cell cp3 (fun h => h)
  replace cq3 := n4.cell cq3 (fun h => h)
  replace n1 := n1.trans n4
  have hz4 := n1.size
  clear n4
  go_wp2_with fail
  have hal : New w4 (w4.alloc (.cells #[(.func (.func 201) #[] #[.pointer (some ⟨p4, 0, none⟩), .pointer (some ⟨q4, 0, none⟩)]), (.func (.func 175) #[] #[])] 271)) := (Upd.refl _ _).alloc _
  refine (list_any w4.heap.size [(.func (.func 201) #[] #[.pointer (some ⟨p4, 0, none⟩), .pointer (some ⟨q4, 0, none⟩)]), (.func (.func 175) #[] #[])] _ (blk_alloc w4 (.cells #[(.func (.func 201) #[] #[.pointer (some ⟨p4, 0, none⟩), .pointer (some ⟨q4, 0, none⟩)]), (.func (.func 175) #[] #[])] 271)) ?one (by show 2 ≤ 100; decide)).mono ?_
  case one => intro v hv; simp only [List.mem_cons, List.not_mem_nil, or_false] at hv; rcases hv with rfl | rfl <;> rfl
  rintro e w5 ⟨v, c, rfl, n5, ho, hc⟩
  have hz5 := hal.size
  have n6 := hal.trans n5
  have HO := hide (own_low ho (show w.heap.size ≤ _ by omega))
  have HC := hide (hc.later (show w.heap.size ≤ _ by omega))
  replace cp1 := n6.cell cp1 (fun h => h)
  replace cq1 := n6.cell cq1 (fun h => h)
  replace cp2 := n6.cell cp2 (fun h => h)
  replace cq2 := n6.cell cq2 (fun h => h)
  replace cp3 := n6.cell cp3 (fun h => h)
  replace cq3 := n6.cell cq3 (fun h => h)
  replace cp4 := n6.cell cp4 (fun h => h)
  replace cq4 := n6.cell cq4 (fun h => h)
  have HN := hide (n1.trans n6)
  clear n1 n5 n6 hal ho hc
  go_wp2_with fail
  go_ret2
  refine ⟨v, rfl, unhide HN, ⟨_, unhide HO, rfl, ?_⟩⟩
  intro i x u hx hu
  rcases i with _ | _ | _ | _
  · obtain rfl : _ = x := Option.some.inj hx
    obtain rfl : _ = u := Option.some.inj hu
    exact unhide HC
  · obtain rfl : _ = x := Option.some.inj hx
    obtain rfl : _ = u := Option.some.inj hu
    exact ⟨p4, q4, rfl, by omega, by omega, cp4, cq4⟩
  · obtain rfl : _ = x := Option.some.inj hx
    obtain rfl : _ = u := Option.some.inj hu
    exact rfl
  · cases hx

set_option maxRecDepth 100000 in
set_option maxHeartbeats 1000000 in
theorem fields_8 (w : World) : Calls Tryz.prog 137 #[.int .i64 8] w (FieldsR [.ch] w) := by
  go_enter Tryz.func137, Tryz.ntmps137
  go_wp2_with fail
  refine (number64_any 8 169 w).mono ?_
  rintro e w1 ⟨_, rfl, n1, p1, q1, rfl, hp1, hq1, cp1, cq1⟩
  go_wp2_with fail
  refine (number64_any 8 170 w1).mono ?_
  rintro e w2 ⟨_, rfl, n2, p2, q2, rfl, hp2, hq2, cp2, cq2⟩
  have hz1 := n1.size
  replace cp1 := n2.cell cp1 (fun h => h)
  replace cq1 := n2.cell cq1 (fun h => h)
  replace n1 := n1.trans n2
  clear n2
  go_wp2_with fail
  refine (numberI_any 4 172 w2).mono ?_
  rintro e w3 ⟨_, rfl, n3, p3, q3, rfl, hp3, hq3, cp3, cq3⟩
  have hz2 := n1.size
  replace cp1 := n3.cell cp1 (fun h => h)
  replace cq1 := n3.cell cq1 (fun h => h)
  replace cp2 := n3.cell cp2 (fun h => h)
  replace cq2 := n3.cell cq2 (fun h => h)
  replace n1 := n1.trans n3
  clear n3
  go_wp2_with fail
  refine (numberI_any 2 173 w3).mono ?_
  rintro e w4 ⟨_, rfl, n4, p4, q4, rfl, hp4, hq4, cp4, cq4⟩
  have hz3 := n1.size
  replace cp1 := n4.cell cp1 (fun h => h)
  replace cq1 := n4.cell cq1 (fun h => h)
  replace cp2 := n4.cell cp2 (fun h => h)
  replace cq2 := n4.cell cq2 (fun h => h)
  replace cp3 := n4.cell cp3 (fun h => h)
  replace cq3 := n4.cell cq3 (fun h => h)
  replace n1 := n1.trans n4
  have hz4 := n1.size
  clear n4
  go_wp2_with fail
  have hal : New w4 w4 := Upd.refl _ _
  refine (list0_any w4).mono ?_
  rintro e w5 ⟨v, c, rfl, n5, ho, hc⟩
  have hz5 := hal.size
  have n6 := hal.trans n5
  have HO := hide (own_low ho (show w.heap.size ≤ _ by omega))
  have HC := hide (hc.later (show w.heap.size ≤ _ by omega))
  replace cp1 := n6.cell cp1 (fun h => h)
  replace cq1 := n6.cell cq1 (fun h => h)
  replace cp2 := n6.cell cp2 (fun h => h)
  replace cq2 := n6.cell cq2 (fun h => h)
  replace cp3 := n6.cell cp3 (fun h => h)
  replace cq3 := n6.cell cq3 (fun h => h)
  replace cp4 := n6.cell cp4 (fun h => h)
  replace cq4 := n6.cell cq4 (fun h => h)
  have HN := hide (n1.trans n6)
  clear n1 n5 n6 hal ho hc
  go_wp2_with fail
  go_ret2
  refine ⟨v, rfl, unhide HN, ⟨_, unhide HO, rfl, ?_⟩⟩
  intro i x u hx hu
  rcases i with _ | _
  · obtain rfl : _ = x := Option.some.inj hx
    obtain rfl : _ = u := Option.some.inj hu
    exact unhide HC
  · cases hx

set_option maxRecDepth 100000 in
set_option maxHeartbeats 1000000 in
theorem fields_9 (w : World) : Calls Tryz.prog 137 #[.int .i64 9] w (FieldsR [.ch, .number, .id] w) := by
  go_enter Tryz.func137, Tryz.ntmps137
  go_wp2_with fail
  refine (number64_any 8 169 w).mono ?_
  rintro e w1 ⟨_, rfl, n1, p1, q1, rfl, hp1, hq1, cp1, cq1⟩
  go_wp2_with fail
  refine (number64_any 8 170 w1).mono ?_
  rintro e w2 ⟨_, rfl, n2, p2, q2, rfl, hp2, hq2, cp2, cq2⟩
  have hz1 := n1.size
  replace cp1 := n2.cell cp1 (fun h => h)
  replace cq1 := n2.cell cq1 (fun h => h)
  replace n1 := n1.trans n2
  clear n2
  go_wp2_with fail
  refine (numberI_any 4 172 w2).mono ?_
  rintro e w3 ⟨_, rfl, n3, p3, q3, rfl, hp3, hq3, cp3, cq3⟩
  have hz2 := n1.size
  replace cp1 := n3.cell cp1 (fun h => h)
  replace cq1 := n3.cell cq1 (fun h => h)
  replace cp2 := n3.cell cp2 (fun h => h)
  replace cq2 := n3.cell cq2 (fun h => h)
  replace n1 := n1.trans n3
  clear n3
  go_wp2_with fail
  refine (numberI_any 2 173 w3).mono ?_
  rintro e w4 ⟨_, rfl, n4, p4, q4, rfl, hp4, hq4, cp4, cq4⟩
  have hz3 := n1.size
  replace cp1 := n4.cell cp1 (fun h => h)
  replace cq1 := n4.cell cq1 (fun h => h)
  replace cp2 := n4.cell cp2 (fun h => h)
  replace cq2 := n4.cell cq2 (fun h => h)
  replace cp3 := n4.cell cp3 (fun h => h)
  replace cq3 := n4.cell cq3 (fun h => h)
  replace n1 := n1.trans n4
  have hz4 := n1.size
  clear n4
  go_wp2_with fail
  have hal : New w4 (w4.alloc (.cells #[(.func (.func 201) #[] #[.pointer (some ⟨p4, 0, none⟩), .pointer (some ⟨q4, 0, none⟩)]), (.func (.func 200) #[] #[.pointer (some ⟨p1, 0, none⟩), .pointer (some ⟨q1, 0, none⟩)])] 271)) := (Upd.refl _ _).alloc _
  refine (list_any w4.heap.size [(.func (.func 201) #[] #[.pointer (some ⟨p4, 0, none⟩), .pointer (some ⟨q4, 0, none⟩)]), (.func (.func 200) #[] #[.pointer (some ⟨p1, 0, none⟩), .pointer (some ⟨q1, 0, none⟩)])] _ (blk_alloc w4 (.cells #[(.func (.func 201) #[] #[.pointer (some ⟨p4, 0, none⟩), .pointer (some ⟨q4, 0, none⟩)]), (.func (.func 200) #[] #[.pointer (some ⟨p1, 0, none⟩), .pointer (some ⟨q1, 0, none⟩)])] 271)) ?one (by show 2 ≤ 100; decide)).mono ?_
  case one => intro v hv; simp only [List.mem_cons, List.not_mem_nil, or_false] at hv; rcases hv with rfl | rfl <;> rfl
  rintro e w5 ⟨v, c, rfl, n5, ho, hc⟩
  have hz5 := hal.size
  have n6 := hal.trans n5
  have HO := hide (own_low ho (show w.heap.size ≤ _ by omega))
  have HC := hide (hc.later (show w.heap.size ≤ _ by omega))
  replace cp1 := n6.cell cp1 (fun h => h)
  replace cq1 := n6.cell cq1 (fun h => h)
  replace cp2 := n6.cell cp2 (fun h => h)
  replace cq2 := n6.cell cq2 (fun h => h)
  replace cp3 := n6.cell cp3 (fun h => h)
  replace cq3 := n6.cell cq3 (fun h => h)
  replace cp4 := n6.cell cp4 (fun h => h)
  replace cq4 := n6.cell cq4 (fun h => h)
  have HN := hide (n1.trans n6)
  clear n1 n5 n6 hal ho hc
  go_wp2_with fail
  go_ret2
  refine ⟨v, rfl, unhide HN, ⟨_, unhide HO, rfl, ?_⟩⟩
  intro i x u hx hu
  rcases i with _ | _ | _ | _
  · obtain rfl : _ = x := Option.some.inj hx
    obtain rfl : _ = u := Option.some.inj hu
    exact unhide HC
  · obtain rfl : _ = x := Option.some.inj hx
    obtain rfl : _ = u := Option.some.inj hu
    exact ⟨p4, q4, rfl, by omega, by omega, cp4, cq4⟩
  · obtain rfl : _ = x := Option.some.inj hx
    obtain rfl : _ = u := Option.some.inj hu
    exact ⟨p1, q1, rfl, by omega, by omega, cp1, cq1⟩
  · cases hx

set_option maxRecDepth 100000 in
set_option maxHeartbeats 1000000 in
theorem fields_none (k : Int) (hk : fieldsOf k = none) (w : World) : Calls Tryz.prog 137 #[.int .i64 k] w (Makes (.tuple #[nilV, .bool false]) w) := by
  have hne : ¬ k = 1 ∧ ¬ k = 2 ∧ ¬ k = 3 ∧ ¬ k = 4 ∧ ¬ k = 5 ∧ ¬ k = 6 ∧ ¬ k = 7 ∧ ¬ k = 8 ∧ ¬ k = 9 := by
    refine ⟨?_, ?_, ?_, ?_, ?_, ?_, ?_, ?_, ?_⟩ <;> (rintro rfl; cases hk)
  obtain ⟨e1, e2, e3, e4, e5, e6, e7, e8, e9⟩ := hne
  clear hk
  go_enter Tryz.func137, Tryz.ntmps137
  go_wp2_with fail
  refine (number64_any 8 169 w).mono ?_
  rintro e w1 ⟨_, rfl, n1, p1, q1, rfl, hp1, hq1, cp1, cq1⟩
  go_wp2_with fail
  refine (number64_any 8 170 w1).mono ?_
  rintro e w2 ⟨_, rfl, n2, p2, q2, rfl, hp2, hq2, cp2, cq2⟩
  have hz1 := n1.size
  replace cp1 := n2.cell cp1 (fun h => h)
  replace cq1 := n2.cell cq1 (fun h => h)
  replace n1 := n1.trans n2
  clear n2
  go_wp2_with fail
  refine (numberI_any 4 172 w2).mono ?_
  rintro e w3 ⟨_, rfl, n3, p3, q3, rfl, hp3, hq3, cp3, cq3⟩
  have hz2 := n1.size
  replace cp1 := n3.cell cp1 (fun h => h)
  replace cq1 := n3.cell cq1 (fun h => h)
  replace cp2 := n3.cell cp2 (fun h => h)
  replace cq2 := n3.cell cq2 (fun h => h)
  replace n1 := n1.trans n3
  clear n3
  go_wp2_with fail
  refine (numberI_any 2 173 w3).mono ?_
  rintro e w4 ⟨_, rfl, n4, p4, q4, rfl, hp4, hq4, cp4, cq4⟩
  have hz3 := n1.size
  replace cp1 := n4.cell cp1 (fun h => h)
  replace cq1 := n4.cell cq1 (fun h => h)
  replace cp2 := n4.cell cp2 (fun h => h)
  replace cq2 := n4.cell cq2 (fun h => h)
  replace cp3 := n4.cell cp3 (fun h => h)
  replace cq3 := n4.cell cq3 (fun h => h)
  replace n1 := n1.trans n4
  have hz4 := n1.size
  clear n4
  go_wp2_with fail
  go_ret2
  exact ⟨rfl, n1⟩
theorem fields_any (k : Int) (xs : List Fld) (hk : fieldsOf k = some xs) (w : World) : Calls Tryz.prog 137 #[.int .i64 k] w (FieldsR xs w) := by
  unfold fieldsOf at hk
  by_cases h1 : k = 1
  · subst h1
    obtain rfl : _ = xs := Option.some.inj hk
    exact fields_1 w
  rw [if_neg h1] at hk
  by_cases h2 : k = 2
  · subst h2
    obtain rfl : _ = xs := Option.some.inj hk
    exact fields_2 w
  rw [if_neg h2] at hk
  by_cases h3 : k = 3
  · subst h3
    obtain rfl : _ = xs := Option.some.inj hk
    exact fields_3 w
  rw [if_neg h3] at hk
  by_cases h4 : k = 4
  · subst h4
    obtain rfl : _ = xs := Option.some.inj hk
    exact fields_4 w
  rw [if_neg h4] at hk
  by_cases h5 : k = 5
  · subst h5
    obtain rfl : _ = xs := Option.some.inj hk
    exact fields_5 w
  rw [if_neg h5] at hk
  by_cases h6 : k = 6
  · subst h6
    obtain rfl : _ = xs := Option.some.inj hk
    exact fields_6 w
  rw [if_neg h6] at hk
  by_cases h7 : k = 7
  · subst h7
    obtain rfl : _ = xs := Option.some.inj hk
    exact fields_7 w
  rw [if_neg h7] at hk
  by_cases h8 : k = 8
  · subst h8
    obtain rfl : _ = xs := Option.some.inj hk
    exact fields_8 w
  rw [if_neg h8] at hk
  by_cases h9 : k = 9
  · subst h9
    obtain rfl : _ = xs := Option.some.inj hk
    exact fields_9 w
  rw [if_neg h9] at hk
  cases hk

end Go.Proofs.YtfmkdoachjgjbaaGreatDoor
