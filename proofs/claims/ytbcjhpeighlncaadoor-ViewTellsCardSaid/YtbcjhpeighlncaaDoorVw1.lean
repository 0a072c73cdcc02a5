/-
  Amounts in flight as rows of cells; place, order, and what is near them.
-/
import Derived.Test.YtbcjhpeighlncaaDoorHtNext
namespace Go.Proofs.YtbcjhpeighlncaaDoor
open Go.RowKit

structure Htlc where
  id : Int
  amount : Int
  hash : Vector Int 32
  expiry : Int
structure Live where
  h : Htlc
  own : Bool
  state : Int
  paid : Bool
structure Item where
  offered : Bool
  h : Htlc
def htlcCells (h : Htlc) : List Value := .int .u64 h.id :: .int .u64 h.amount :: (h.hash.toList.map (Value.int .u8) ++ [.int .i64 h.expiry])
def liveCells (x : Live) : List Value := htlcCells x.h ++ [.bool x.own, .int .i64 x.state, .bool x.paid]
def itemCells (x : Item) : List Value := .bool x.offered :: htlcCells x.h
/-- Numbers that fit. -/
structure HtlcOk (h : Htlc) : Prop where
  id : 0 ≤ h.id ∧ h.id ≤ 18446744073709551615
  amount : 0 ≤ h.amount ∧ h.amount ≤ 18446744073709551615
  hash : ∀ n ∈ h.hash.toList, 0 ≤ n ∧ n ≤ 255
  expiry : -9223372036854775808 ≤ h.expiry ∧ h.expiry ≤ 9223372036854775807
structure LiveOk (x : Live) : Prop where
  h : HtlcOk x.h
  state : -9223372036854775808 ≤ x.state ∧ x.state ≤ 9223372036854775807
theorem htlc_len (h : Htlc) : (htlcCells h).length = 35 := by simp [htlcCells]
theorem live_len (x : Live) : (liveCells x).length = 38 := by simp [liveCells, htlc_len]
theorem item_len (x : Item) : (itemCells x).length = 36 := by simp [itemCells, htlc_len]
theorem live_0 (x : Live) : (liveCells x)[0]? = some (.int .u64 x.h.id) := rfl
theorem live_1 (x : Live) : (liveCells x)[1]? = some (.int .u64 x.h.amount) := rfl
theorem live_35 (x : Live) : (liveCells x)[35]? = some (.bool x.own) := by
  unfold liveCells; rw [List.getElem?_append_right (by rw [htlc_len]; omega), htlc_len]; rfl
theorem live_36 (x : Live) : (liveCells x)[36]? = some (.int .i64 x.state) := by
  unfold liveCells; rw [List.getElem?_append_right (by rw [htlc_len]; omega), htlc_len]; rfl
theorem live_37 (x : Live) : (liveCells x)[37]? = some (.bool x.paid) := by
  unfold liveCells; rw [List.getElem?_append_right (by rw [htlc_len]; omega), htlc_len]; rfl
theorem item_0 (x : Item) : (itemCells x)[0]? = some (.bool x.offered) := rfl
theorem item_1 (x : Item) : (itemCells x)[1]? = some (.int .u64 x.h.id) := rfl
theorem htlc_one (h : Htlc) : ∀ v ∈ htlcCells h, v.oneCell' = true := by
  intro v hv
  simp only [htlcCells, List.mem_cons, List.mem_append, List.mem_map, List.not_mem_nil, or_false] at hv
  rcases hv with rfl | rfl | ⟨n, _, rfl⟩ | rfl <;> rfl
theorem item_one (x : Item) : ∀ v ∈ itemCells x, v.oneCell' = true := by
  intro v hv
  rcases List.mem_cons.1 hv with rfl | hv
  · rfl
  · exact htlc_one _ v hv

/-- Has a commitment x? Was it taken out of it again? -/
def hasB (ours own : Bool) (st : Int) : Bool := if ours then oursB st own else oursB st !own
def goneB (ours own : Bool) (st : Int) : Bool := if ours then outB st own else outB st !own

set_option maxHeartbeats 400000 in
theorem place_any (ours own : Bool) (st : Int) (C : Array Value) (w : World) (hG : Spans w) (h35 : C[35]? = some (.bool own)) (h36 : C[36]? = some (.int .i64 st)) :
    Calls Tryd.prog 29 #[.bool ours, .agg C] w (Makes (.tuple #[.bool (hasB ours own st), .bool (goneB ours own st)]) w) := by
  have hG0 : Spans (w.alloc (.cells C 32)) := hG.new ((Upd.refl _ _).alloc _)
  have c5 : (w.alloc (.cells C 32)).cell? ⟨w.heap.size, 35, none⟩ = some (.bool own) := (blk_cell (blk_alloc _ _) 35).trans h35
  have c6 : (w.alloc (.cells C 32)).cell? ⟨w.heap.size, 36, none⟩ = some (.int .i64 st) := (blk_cell (blk_alloc _ _) 36).trans h36
  have n0 : New w (w.alloc (.cells C 32)) := (Upd.refl _ _).alloc _
  cases ours
  · go_enter Tryd.func29, Tryd.ntmps29
    go_wp2_with fail
    refine (settled_any st own _ hG0).mono ?_
    rintro e w1 ⟨rfl, n1⟩
    have d5 := n1.cell c5 (fun h => h)
    have d6 := n1.cell c6 (fun h => h)
    go_wp2_with fail
    refine (theirs_any st own _ (hG0.new n1)).mono ?_
    rintro e w2 ⟨rfl, n2⟩
    go_wp2
    go_ret2
    exact ⟨rfl, n0.trans (n1.trans n2)⟩
  · go_enter Tryd.func29, Tryd.ntmps29
    go_wp2_with fail
    refine (settled_any st own _ hG0).mono ?_
    rintro e w1 ⟨rfl, n1⟩
    have d5 := n1.cell c5 (fun h => h)
    have d6 := n1.cell c6 (fun h => h)
    go_wp2_with fail
    refine (ours_any st own _ (hG0.new n1)).mono ?_
    rintro e w2 ⟨rfl, n2⟩
    go_wp2
    go_ret2
    exact ⟨rfl, n0.trans (n1.trans n2)⟩

end Go.Proofs.YtbcjhpeighlncaaDoor
