/-
  circuit.New, relay.New, node.New.
-/
import Derived.Test.YtehdhnckfdiioaaDoorNd2
namespace Go.Proofs.YtehdhnckfdiioaaDoor
open Go.RowKit

structure RelV where
  ci : Nat
  peers : Value
  invoices : Value
  known : Value
  routes : Value
  payments : Value
  drains : Bool
  /-- No block of the peers' row lies below this. -/
  bs : Nat
def RelV.cells (r : RelV) : List Value := [ptrV r.ci, r.peers, r.invoices, r.known, r.routes, r.payments, .bool r.drains]
def ReR (w : World) (g : Nat) (r : RelV) : Prop := w.heap[g]? = some (.cells r.cells.toArray 65 (0, 0))
structure NodeV where
  re : Nat
  funds : Int
  drains : Bool
  shut : List Bool
  swept : List Bool
def NodeV.cells (n : NodeV) : List Value := ptrV n.re :: .int .u64 n.funds :: .bool n.drains :: (n.shut.map Value.bool ++ n.swept.map Value.bool)
def NoR (w : World) (g : Nat) (n : NodeV) : Prop := w.heap[g]? = some (.cells n.cells.toArray 40 (0, 0))

def mapV (b : Nat) : Value := .map (some b)
def EmM (w : World) (b : Nat) : Prop := w.heap[b]? = some (.map #[] 0)
set_option maxHeartbeats 1000000 in
theorem newCi_any (a b : Int) (w : World) : Calls Tryd.prog 19 #[.int .u64 a, .int .u64 b] w fun e w' => ∃ g, e = .returned (.pointer (some ⟨g, 0, none⟩)) ∧ w.heap.size ≤ g ∧ g < w'.heap.size ∧ New w w' := by
  have hmm := @run_makeMap Tryd.prog
  go_enter Tryd.func19, Tryd.ntmps19
  go_wp2_with fail
  go_ret
  refine ⟨w.heap.size + 2, rfl, by omega, ?_, (((Upd.refl _ _).alloc _).alloc _).alloc _⟩
  rw [World.size_alloc, World.size_alloc, World.size_alloc]
  omega

/-- A relay that is new. -/
structure NewR (w : World) (B g : Nat) (r : RelV) : Prop where
  at_ : ReR w g r
  peers : r.peers = nilV
  drains : r.drains = false
  bs : r.bs = B
  maps : ∃ m1 m2 m3 m4, r.invoices = mapV m1 ∧ r.known = mapV m2 ∧ r.routes = mapV m3 ∧ r.payments = mapV m4 ∧ EmM w m1 ∧ EmM w m2 ∧ EmM w m3 ∧ EmM w m4 ∧ B ≤ m1 ∧ m1 < m2 ∧ m2 < m3 ∧ m3 < m4 ∧ m4 < g
theorem NewR.lt {w : World} {B g : Nat} {r : RelV} (h : NewR w B g r) : g < w.heap.size := blk_lt h.at_
theorem NewR.new {w w' : World} {B g : Nat} {r : RelV} (h : NewR w B g r) (n : New w w') : NewR w' B g r := by
  obtain ⟨a, p, d, bb, m1, m2, m3, m4, i1, i2, i3, i4, e1, e2, e3, e4, l⟩ := h
  have n' (x : False) : False := x
  exact ⟨n.old a n', p, d, bb, m1, m2, m3, m4, i1, i2, i3, i4, n.old e1 n', n.old e2 n', n.old e3 n', n.old e4 n', l⟩
set_option maxHeartbeats 1000000 in
theorem newR_any (a b : Int) (w : World) : Calls Tryd.prog 9 #[.int .u64 a, .int .u64 b] w fun e w' => ∃ g r, e = .returned (.pointer (some ⟨g, 0, none⟩)) ∧ w.heap.size ≤ g ∧ NewR w' w.heap.size g r ∧ New w w' := by
  have hmm := @run_makeMap Tryd.prog
  go_enter Tryd.func9, Tryd.ntmps9
  go_wp2_with fail
  refine (newCi_any a b w).mono ?_
  rintro e w1 ⟨c, rfl, hc, hc', n1⟩
  go_wp2_with fail
  go_ret
  have s1 := n1.size
  obtain ⟨w2, h2⟩ : ∃ w2, w2 = w1.alloc (.map #[] 0) := ⟨_, rfl⟩
  obtain ⟨w3, h3⟩ : ∃ w3, w3 = w2.alloc (.map #[] 0) := ⟨_, rfl⟩
  obtain ⟨w4, h4⟩ : ∃ w4, w4 = w3.alloc (.map #[] 0) := ⟨_, rfl⟩
  obtain ⟨w5, h5⟩ : ∃ w5, w5 = w4.alloc (.map #[] 0) := ⟨_, rfl⟩
  have z2 : w2.heap.size = w1.heap.size + 1 := by rw [h2]; exact World.size_alloc _ _
  have z3 : w3.heap.size = w1.heap.size + 2 := by rw [h3, World.size_alloc, z2]
  have z4 : w4.heap.size = w1.heap.size + 3 := by rw [h4, World.size_alloc, z3]
  have z5 : w5.heap.size = w1.heap.size + 4 := by rw [h5, World.size_alloc, z4]
  have e2 : EmM w2 w1.heap.size := by rw [h2]; exact blk_alloc _ _
  have e3 : EmM w3 (w1.heap.size + 1) := by rw [h3, ← z2]; exact blk_alloc _ _
  have e4 : EmM w4 (w1.heap.size + 2) := by rw [h4, ← z3]; exact blk_alloc _ _
  have e5 : EmM w5 (w1.heap.size + 3) := by rw [h5, ← z4]; exact blk_alloc _ _
  have n2 : New w1 w2 := by rw [h2]; exact (Upd.refl _ _).alloc _
  have n3 : New w2 w3 := by rw [h3]; exact (Upd.refl _ _).alloc _
  have n4 : New w3 w4 := by rw [h4]; exact (Upd.refl _ _).alloc _
  have n5 : New w4 w5 := by rw [h5]; exact (Upd.refl _ _).alloc _
  rw [← h2, ← h3, ← h4, ← h5]
  obtain ⟨r, hr⟩ : ∃ r : RelV, r = ⟨c, nilV, mapV w1.heap.size, mapV (w1.heap.size + 1), mapV (w1.heap.size + 2), mapV (w1.heap.size + 3), false, w.heap.size⟩ := ⟨_, rfl⟩
  have h6 : ReR (w5.alloc (.cells r.cells.toArray 65)) (w1.heap.size + 4) r := by
    have := blk_alloc w5 (.cells r.cells.toArray 65)
    rwa [z5] at this
  have n6 : New w5 (w5.alloc (.cells r.cells.toArray 65)) := (Upd.refl _ _).alloc _
  subst hr
  have n (x : False) : False := x
  exact ⟨w1.heap.size + 4, _, rfl, by omega, ⟨h6, rfl, rfl, rfl, _, _, _, _, rfl, rfl, rfl, rfl, (n3.trans (n4.trans (n5.trans n6))).old e2 n, (n4.trans (n5.trans n6)).old e3 n, (n5.trans n6).old e4 n, n6.old e5 n, s1, by omega, by omega, by omega, by omega⟩, n1.trans (n2.trans (n3.trans (n4.trans (n5.trans n6))))⟩

def NodeV.new (re : Nat) (funds : Int) : NodeV := ⟨re, funds, false, List.replicate 8 false, List.replicate 8 false⟩
set_option maxHeartbeats 1000000 in
theorem newN_any (f a b : Int) (hf : 0 ≤ f ∧ f < 18446744073709551616) (w : World) : Calls Tryd.prog 4 #[.int .u64 f, .int .u64 a, .int .u64 b] w fun e w' =>
    (f ≤ 1125899906842624 ∧ ∃ g r R, e = .returned (.pointer (some ⟨g, 0, none⟩)) ∧ w.heap.size ≤ r ∧ r < g ∧ NoR w' g (.new r f) ∧ NewR w' w.heap.size r R ∧ New w w') ∨ (1125899906842624 < f ∧ e = .returned (.pointer none) ∧ New w w') := by
  go_enter Tryd.func4, Tryd.ntmps4
  by_cases h1 : 1125899906842624 < f
  · go_wp2_with fail
    go_ret
    exact .inr ⟨h1, rfl, Upd.refl _ _⟩
  · go_wp2_with fail
    refine (newR_any a b w).mono ?_
    rintro e w1 ⟨r, R, rfl, hr, hR, n1⟩
    go_wp2_with fail
    go_ret
    have n2 : New w1 (w1.alloc (.cells (NodeV.new r f).cells.toArray 40)) := (Upd.refl _ _).alloc _
    have hn : NoR (w1.alloc (.cells (NodeV.new r f).cells.toArray 40)) w1.heap.size (.new r f) := blk_alloc _ _
    exact .inl ⟨by omega, w1.heap.size, r, R, rfl, hr, hR.lt, hn, hR.new n2, n1.trans n2⟩

end Go.Proofs.YtehdhnckfdiioaaDoor
