/-
  order: what the sort is given.
-/
import Derived.Test.YtbcjhpeighlncaaDoorVw2
import Derived.Test.YtbcjhpeighlncaaDoorRN
namespace Go.Proofs.YtbcjhpeighlncaaDoor
open Go.RowKit Go.Sort

theorem Tryd.infoItem : (Tryd.prog.info? 45).map (·.size) = some 36 := by kernel_rfl
/-- The load of an item, kept whole. -/
def ldItem (x : Value) : Sem Value := Instr.loadAt 45 x
theorem ld_item_fold (x : Value) : Instr.loadAt 45 x = ldItem x := rfl
theorem ld_item (b o : Nat) (w : World) : (ldItem (.pointer (some ⟨b, o, none⟩))).run Tryd.prog w = match rowN w b o 36 with | some A => .ok (.agg A) w | none => slowLd Tryd.prog 45 w b o :=
  run_loadAt_rowN 45 36 _ Tryd.underlying45 rfl Tryd.infoItem b o w
attribute [local go_sem ↓ high] ld_item_fold
attribute [local go_sem] ld_item

theorem rowN_g {w w' : World} {b o n : Nat} {A : Array Value} (h : rowN w b o n = some A) (g : G w w') : rowN w' b o n = some A := rowN_upd h g.new (fun h => h)
theorem carry_ord {w W W' : World} {a b : Nat} {A B : Array Value} {x y : Value} (h : rowN W a 0 36 = some A ∧ rowN W b 0 36 = some B ∧ W.cell? ⟨a, 1, none⟩ = some x ∧ W.cell? ⟨b, 1, none⟩ = some y ∧ G w W) (g : G W W') :
    rowN W' a 0 36 = some A ∧ rowN W' b 0 36 = some B ∧ W'.cell? ⟨a, 1, none⟩ = some x ∧ W'.cell? ⟨b, 1, none⟩ = some y ∧ G w W' :=
  ⟨rowN_g h.1 g, rowN_g h.2.1 g, g.new.cell h.2.2.1 (fun h => h), g.new.cell h.2.2.2.1 (fun h => h), h.2.2.2.2.trans g⟩
/-- What order tells of two items. -/
def ordI (oa ob : Bool) (ia ib : Int) : Int := cmp2 (rankI oa) (rankI ob) ia ib

set_option maxHeartbeats 1600000 in
theorem order_any (oa ob : Bool) (ia ib : Int) (A B : Array Value) (w : World) (hA : A.size = 36) (hB : B.size = 36)
    (a0 : A[0]? = some (.bool oa)) (a1 : A[1]? = some (.int .u64 ia)) (b0 : B[0]? = some (.bool ob)) (b1 : B[1]? = some (.int .u64 ib)) :
    Calls Tryd.prog 31 #[.agg A, .agg B] w (Grows (.int .i64 (ordI oa ob ia ib)) w) := by
  have ha : ((w.alloc (.cells A 45)).alloc (.cells B 45)).heap[w.heap.size]? = some (.cells A 45 (0, 0)) := blk_alloc_old (blk_alloc _ _) _
  have hb : ((w.alloc (.cells A 45)).alloc (.cells B 45)).heap[w.heap.size + 1]? = some (.cells B 45 (0, 0)) := by
    have := blk_alloc (w.alloc (.cells A 45)) (.cells B 45)
    rwa [World.size_alloc] at this
  have n0 : G w ((w.alloc (.cells A 45)).alloc (.cells B 45)) := ((G.refl w).alloc _).alloc _
  have ra := rowN_whole ha 36 hA
  have rb := rowN_whole hb 36 hB
  have ca := (blk_cell ha 1).trans a1
  have cb := (blk_cell hb 1).trans b1
  clear ha hb
  go_enter Tryd.func31, Tryd.ntmps31
  go_wp2_with fail
  generalize ((w.alloc (.cells A 45)).alloc (.cells B 45)) = wa at *
  go_region_held3 (fun w' => rowN w' w.heap.size 0 36 = some A ∧ rowN w' (w.heap.size + 1) 0 36 = some B ∧ w'.cell? ⟨w.heap.size, 1, none⟩ = some (.int .u64 ia) ∧ w'.cell? ⟨w.heap.size + 1, 1, none⟩ = some (.int .u64 ib) ∧ G w w')
    (first | exact ⟨ra, rb, ca, cb, n0.drew⟩ | (refine carry_ord ?_ (by assumption); first | assumption | exact ⟨by assumption, by assumption, by assumption, by assumption, by assumption⟩) | (refine carry_ord ?_ ((G.refl _).alloc _); first | assumption | exact ⟨by assumption, by assumption, by assumption, by assumption, by assumption⟩))
    (first
      | (go_at_call_of 38 (Value.agg A); refine (rank_any oa A _ a0).mono ?_; rintro e w2 ⟨rfl, g2⟩)
      | (go_at_call_of 38 (Value.agg B); refine (rank_any ob B _ b0).mono ?_; rintro e w3 ⟨rfl, g3⟩)
      | (go_at_call 50; refine (compare_any (rankI oa) (rankI ob) ia ib _ _ (blk_cell (blk_alloc _ _) 0) (blk_cell (blk_alloc _ _) 1) (blk_cell (blk_alloc _ _) 2) (blk_cell (blk_alloc _ _) 3)).mono ?_; rintro e w4 ⟨rfl, g4⟩))
  go_wp2
  go_ret
  have hS := ‹rowN _ _ _ _ = some A ∧ rowN _ _ _ _ = some B ∧ _›
  exact ⟨rfl, hS.2.2.2.2⟩

end Go.Proofs.YtbcjhpeighlncaaDoor
