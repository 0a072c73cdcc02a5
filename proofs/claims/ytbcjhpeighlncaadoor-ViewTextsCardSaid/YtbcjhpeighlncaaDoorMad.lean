/-
  Amounts in flight as rows of cells; place, order, and what is near them.
-/
import Derived.Test.YtbcjhpeighlncaaDoorHtNext
import Derived.Sort.Grow
namespace Go.Proofs.YtbcjhpeighlncaaDoor
set_option linter.unusedVariables false
set_option linter.unusedSimpArgs false
open Go.RowKit

structure Htlc where
  id : Int
  amount : Int
  hash : Vector Int 32
  expiry : Int
structure Live where
  h : Htlc
  own : Bool
  state : Int
  paid : Bool
structure Item where
  offered : Bool
  h : Htlc
def htlcCells (h : Htlc) : List Value := .int .u64 h.id :: .int .u64 h.amount :: (h.hash.toList.map (Value.int .u8) ++ [.int .i64 h.expiry])
def liveCells (x : Live) : List Value := htlcCells x.h ++ [.bool x.own, .int .i64 x.state, .bool x.paid]
def itemCells (x : Item) : List Value := .bool x.offered :: htlcCells x.h
/-- Numbers that fit. -/
structure HtlcOk (h : Htlc) : Prop where
  id : 0 ≤ h.id ∧ h.id ≤ 18446744073709551615
  amount : 0 ≤ h.amount ∧ h.amount ≤ 18446744073709551615
  hash : ∀ n ∈ h.hash.toList, 0 ≤ n ∧ n ≤ 255
  expiry : -9223372036854775808 ≤ h.expiry ∧ h.expiry ≤ 9223372036854775807
structure LiveOk (x : Live) : Prop where
  h : HtlcOk x.h
  state : -9223372036854775808 ≤ x.state ∧ x.state ≤ 9223372036854775807
theorem htlc_len (h : Htlc) : (htlcCells h).length = 35 := by simp [htlcCells]
theorem live_len (x : Live) : (liveCells x).length = 38 := by simp [liveCells, htlc_len]
theorem item_len (x : Item) : (itemCells x).length = 36 := by simp [itemCells, htlc_len]
theorem live_0 (x : Live) : (liveCells x)[0]? = some (.int .u64 x.h.id) := rfl
theorem live_1 (x : Live) : (liveCells x)[1]? = some (.int .u64 x.h.amount) := rfl
theorem live_35 (x : Live) : (liveCells x)[35]? = some (.bool x.own) := by
  unfold liveCells; rw [List.getElem?_append_right (by rw [htlc_len]; omega), htlc_len]; rfl
theorem live_36 (x : Live) : (liveCells x)[36]? = some (.int .i64 x.state) := by
  unfold liveCells; rw [List.getElem?_append_right (by rw [htlc_len]; omega), htlc_len]; rfl
theorem live_37 (x : Live) : (liveCells x)[37]? = some (.bool x.paid) := by
  unfold liveCells; rw [List.getElem?_append_right (by rw [htlc_len]; omega), htlc_len]; rfl
theorem item_0 (x : Item) : (itemCells x)[0]? = some (.bool x.offered) := rfl
theorem item_1 (x : Item) : (itemCells x)[1]? = some (.int .u64 x.h.id) := rfl
theorem htlc_one (h : Htlc) : ∀ v ∈ htlcCells h, v.oneCell' = true := by
  intro v hv
  simp only [htlcCells, List.mem_cons, List.mem_append, List.mem_map, List.not_mem_nil, or_false] at hv
  rcases hv with rfl | rfl | ⟨n, _, rfl⟩ | rfl <;> rfl
theorem item_one (x : Item) : ∀ v ∈ itemCells x, v.oneCell' = true := by
  intro v hv
  rcases List.mem_cons.1 hv with rfl | hv
  · rfl
  · exact htlc_one _ v hv

/-- Has a commitment x? Was it taken out of it again? -/
def hasB (ours own : Bool) (st : Int) : Bool := if ours then oursB st own else oursB st !own
def goneB (ours own : Bool) (st : Int) : Bool := if ours then outB st own else outB st !own

set_option maxHeartbeats 400000 in
theorem place_any (ours own : Bool) (st : Int) (C : Array Value) (w : World) (hG : Spans w) (h35 : C[35]? = some (.bool own)) (h36 : C[36]? = some (.int .i64 st)) :
    Calls Tryd.prog 29 #[.bool ours, .agg C] w (Makes (.tuple #[.bool (hasB ours own st), .bool (goneB ours own st)]) w) := by
  have hG0 : Spans (w.alloc (.cells C 32)) := hG.new ((Upd.refl _ _).alloc _)
  have c5 : (w.alloc (.cells C 32)).cell? ⟨w.heap.size, 35, none⟩ = some (.bool own) := (blk_cell (blk_alloc _ _) 35).trans h35
  have c6 : (w.alloc (.cells C 32)).cell? ⟨w.heap.size, 36, none⟩ = some (.int .i64 st) := (blk_cell (blk_alloc _ _) 36).trans h36
  have n0 : New w (w.alloc (.cells C 32)) := (Upd.refl _ _).alloc _
  cases ours
  · go_enter Tryd.func29, Tryd.ntmps29
    go_wp2_with fail
    refine (settled_any st own _ hG0).mono ?_
    rintro e w1 ⟨rfl, n1⟩
    have d5 := n1.cell c5 (fun h => h)
    have d6 := n1.cell c6 (fun h => h)
    go_wp2_with fail
    refine (theirs_any st own _ (hG0.new n1)).mono ?_
    rintro e w2 ⟨rfl, n2⟩
    go_wp2
    go_ret2
    exact ⟨rfl, n0.trans (n1.trans n2)⟩
  · go_enter Tryd.func29, Tryd.ntmps29
    go_wp2_with fail
    refine (settled_any st own _ hG0).mono ?_
    rintro e w1 ⟨rfl, n1⟩
    have d5 := n1.cell c5 (fun h => h)
    have d6 := n1.cell c6 (fun h => h)
    go_wp2_with fail
    refine (ours_any st own _ (hG0.new n1)).mono ?_
    rintro e w2 ⟨rfl, n2⟩
    go_wp2
    go_ret2
    exact ⟨rfl, n0.trans (n1.trans n2)⟩

end Go.Proofs.YtbcjhpeighlncaaDoor

/-
  rank, compare, order: what the sort is given.
-/
namespace Go.Proofs.YtbcjhpeighlncaaDoor
set_option linter.unusedVariables false
set_option linter.unusedSimpArgs false
open Go.RowKit Go.Sort

/-- Draws, and new blocks, alone. -/
def G (w w' : World) : Prop := ∃ q os, w' = grow (w.drewN q) os
theorem G.refl (w : World) : G w w := ⟨0, #[], by rw [grow_empty]; rfl⟩
theorem grow_drewN (w : World) (os : Array Obj) (n : Nat) : (grow w os).drewN n = grow (w.drewN n) os := rfl
theorem G.trans {a b c : World} (h : G a b) (k : G b c) : G a c := by
  obtain ⟨q, os, rfl⟩ := h
  obtain ⟨r, ot, rfl⟩ := k
  exact ⟨q + r, os ++ ot, by rw [grow_drewN, World.drewN_drewN, grow_grow]⟩
theorem G.drewN {a b : World} (h : G a b) (n : Nat) : G a (b.drewN n) := h.trans ⟨n, #[], by rw [grow_empty]⟩
theorem G.drew {a b : World} (h : G a b) : G a b.drew := h.drewN 1
theorem G.alloc {a b : World} (h : G a b) (o : Obj) : G a (b.alloc o) := h.trans ⟨0, #[o], alloc_eq_grow b o⟩
theorem Q.g {a b : World} (h : Q a b) : G a b := by
  obtain ⟨n, rfl⟩ := h
  exact (G.refl a).drewN n
theorem G.new {a b : World} (h : G a b) : New a b := by
  obtain ⟨q, os, rfl⟩ := h
  refine ⟨rfl, rfl, rfl, by simp, fun k hk _ => ?_⟩
  show (a.heap ++ os)[k]? = _
  rw [Array.getElem?_append_left hk]
/-- The end of a call that may make blocks, and draws. -/
def Grows (v : Value) (w : World) (e : Ending) (w' : World) : Prop := e = .returned v ∧ G w w'

def cmpI (x y : Int) : Int := if x < y then -1 else if y < x then 1 else 0
theorem cmpI_lt {x y : Int} (h : x < y) : cmpI x y = -1 := by unfold cmpI; rw [if_pos h]
theorem cmpI_gt {x y : Int} (h : y < x) : cmpI x y = 1 := by unfold cmpI; rw [if_neg (by omega), if_pos h]
theorem cmpI_eq (x : Int) : cmpI x x = 0 := by unfold cmpI; rw [if_neg (by omega), if_neg (by omega)]

set_option maxHeartbeats 400000 in
theorem isnan_any (x : Int) (w : World) : Calls Tryd.prog 68 #[.int .u64 x] w (Reads (.bool false) w) := by
  go_enter Tryd.func68, Tryd.ntmps68
  go_wp2
  go_ret
  exact ⟨rfl, Q.refl _⟩

set_option maxHeartbeats 400000 in
theorem cmp_any (x y : Int) (w : World) : Calls Tryd.prog 60 #[.int .u64 x, .int .u64 y] w (Reads (.int .i64 (cmpI x y)) w) := by
  rcases (by omega : x < y ∨ y < x ∨ x = y) with h | h | h
  · rw [cmpI_lt h]
    go_enter Tryd.func60, Tryd.ntmps60
    go_wp2_with fail
    refine (isnan_any _ _).mono ?_
    rintro e w1 ⟨rfl, q1⟩
    go_wp2_with fail
    refine (isnan_any _ _).mono ?_
    rintro e w2 ⟨rfl, q2⟩
    go_wp2
    go_ret
    exact ⟨rfl, q1.trans q2⟩
  · rw [cmpI_gt h]
    go_enter Tryd.func60, Tryd.ntmps60
    go_wp2_with fail
    refine (isnan_any _ _).mono ?_
    rintro e w1 ⟨rfl, q1⟩
    go_wp2_with fail
    refine (isnan_any _ _).mono ?_
    rintro e w2 ⟨rfl, q2⟩
    go_wp2
    go_ret
    exact ⟨rfl, q1.trans q2⟩
  · subst h
    rw [cmpI_eq]
    go_enter Tryd.func60, Tryd.ntmps60
    go_wp2_with fail
    refine (isnan_any _ _).mono ?_
    rintro e w1 ⟨rfl, q1⟩
    go_wp2_with fail
    refine (isnan_any _ _).mono ?_
    rintro e w2 ⟨rfl, q2⟩
    go_wp2
    go_ret
    exact ⟨rfl, q1.trans q2⟩

/-- By the first pair whose numbers are not the same. -/
def cmp2 (a b c d : Int) : Int := if cmpI a b ≠ 0 then cmpI a b else cmpI c d

set_option maxHeartbeats 800000 in
theorem compare_any (a b c d : Int) (g : Nat) (w : World) (h0 : w.cell? ⟨g, 0, none⟩ = some (.int .u64 a)) (h1 : w.cell? ⟨g, 1, none⟩ = some (.int .u64 b)) (h2 : w.cell? ⟨g, 2, none⟩ = some (.int .u64 c)) (h3 : w.cell? ⟨g, 3, none⟩ = some (.int .u64 d)) :
    Calls Tryd.prog 50 #[.slice (some ⟨g, 0, none⟩) 2 2] w (Grows (.int .i64 (cmp2 a b c d)) w) := by
  go_enter Tryd.func50, Tryd.ntmps50
  go_wp2_with fail
  go_loopw [8] (fun i wr => ∃ k : Nat, i = .int .i64 k ∧ k ≤ 2 ∧ (1 ≤ k → Hid (cmpI a b = 0)) ∧ (2 ≤ k → Hid (cmpI c d = 0)) ∧ G w wr) (fun i _ => 2 - (intOf i).toNat)
  case atStart => exact ⟨0, rfl, by omega, by omega, by omega, G.refl _⟩
  case round =>
    obtain ⟨k, rfl, hk, z1, z2, hg⟩ := hrel
    have d0 := hg.new.cell h0 (fun h => h)
    have d1 := hg.new.cell h1 (fun h => h)
    have d2 := hg.new.cell h2 (fun h => h)
    have d3 := hg.new.cell h3 (fun h => h)
    rcases (by omega : k = 0 ∨ k = 1 ∨ k = 2) with rfl | rfl | rfl
    · clear z1 z2
      by_cases hz : cmpI a b = 0
      · have H := hide (cmp_any a b)
        have HZ := hide hz
        rw [hz] at H
        clear hz
        go_wp2_with fail
        refine (unhide H _).mono ?_
        rintro e w1 ⟨rfl, q1⟩
        go_wp2
        go_roundw
        case rel => exact ⟨1, by go_num, by omega, fun _ => HZ, by omega, (hg.alloc _).trans q1.g⟩
        case measure => simp [intOf]
      · have hz' : (cmpI a b != 0) = true := by simpa using hz
        have e2 : cmp2 a b c d = cmpI a b := by unfold cmp2; rw [if_pos hz]
        have E := hide e2
        clear hz e2
        go_wp2_with fail
        refine (cmp_any a b _).mono ?_
        rintro e w1 ⟨rfl, q1⟩
        go_wp2
        go_ret
        exact ⟨by rw [unhide E]; rfl, (hg.alloc _).trans q1.g⟩
    · have HZ1 := z1 (by omega)
      clear z1 z2
      have e2 : cmp2 a b c d = cmpI c d := by unfold cmp2; rw [if_neg (by simpa using unhide HZ1)]
      by_cases hz : cmpI c d = 0
      · have H := hide (cmp_any c d)
        have HZ := hide hz
        rw [hz] at H
        clear hz e2
        go_wp2_with fail
        refine (unhide H _).mono ?_
        rintro e w1 ⟨rfl, q1⟩
        go_wp2
        go_roundw
        case rel => exact ⟨2, by go_num, by omega, fun _ => HZ1, fun _ => HZ, (hg.alloc _).trans q1.g⟩
        case measure => simp [intOf]
      · have hz' : (cmpI c d != 0) = true := by simpa using hz
        have E := hide e2
        clear hz e2
        go_wp2_with fail
        refine (cmp_any c d _).mono ?_
        rintro e w1 ⟨rfl, q1⟩
        go_wp2
        go_ret
        exact ⟨by rw [unhide E]; rfl, (hg.alloc _).trans q1.g⟩
    · have HZ1 := z1 (by omega)
      have HZ2 := z2 (by omega)
      clear z1 z2
      have e2 : cmp2 a b c d = 0 := by unfold cmp2; rw [if_neg (by simpa using unhide HZ1)]; exact unhide HZ2
      have E := hide e2
      clear e2
      go_wp2
      go_ret
      exact ⟨by rw [unhide E]; rfl, hg⟩

def rankI (offered : Bool) : Int := if offered then 0 else 1
set_option maxHeartbeats 400000 in
theorem rank_any (o : Bool) (C : Array Value) (w : World) (h0 : C[0]? = some (.bool o)) : Calls Tryd.prog 38 #[.agg C] w (Grows (.int .u64 (rankI o)) w) := by
  have c0 : (w.alloc (.cells C 45)).cell? ⟨w.heap.size, 0, none⟩ = some (.bool o) := (blk_cell (blk_alloc _ _) 0).trans h0
  cases o
  all_goals
    go_enter Tryd.func38, Tryd.ntmps38
    go_wp2
    go_ret
    exact ⟨rfl, (G.refl _).alloc _⟩

end Go.Proofs.YtbcjhpeighlncaaDoor
