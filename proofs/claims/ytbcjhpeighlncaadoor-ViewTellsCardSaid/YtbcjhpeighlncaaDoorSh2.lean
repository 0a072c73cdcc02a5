/-
  shown.
-/
import Derived.Test.YtbcjhpeighlncaaDoorSh
namespace Go.Proofs.YtbcjhpeighlncaaDoor
open Go.RowKit Go.Sort

attribute [local go_sem ↓ high] bd_htlc_fold bd_live_fold bs_live_fold
attribute [local go_sem] bd_htlc bd_live0 bd_live1 bs_live

theorem items_nil {w : World} {u : Value} (h : Items w u []) : ∃ a c, u = .slice a 0 c := by
  rcases h with ⟨_, _, rfl, _⟩ | ⟨g, cap, rfl, _⟩
  · exact ⟨_, _, rfl⟩
  · exact ⟨_, _, rfl⟩
theorem ex0 : sumsOf true 5 2 [l0] = (8, 2) := by rfl
theorem ex0i : itemsOf true [l0] = [] := by rfl
theorem ex1 : sumsOf false 5 2 [l1] = (5, 2) := by rfl
theorem ex1i : itemsOf false [l1] = [⟨false, hz3⟩] := by rfl
set_option maxRecDepth 100000 in
set_option maxHeartbeats 4000000 in
theorem shown_any (w : World) (hG : Spans w) : Calls Tryd.prog 9 #[] w (Makes (.bool true) w) := by
  have hl0 := live_len l0
  have hl1 := live_len l1
  go_enter Tryd.func9, Tryd.ntmps9
  go_wp2_with fail
  have b0 : (w.alloc (.cells (liveCells l0).toArray 32)).heap[w.heap.size]? = some (.cells (liveCells l0).toArray 32 (0, 0)) := blk_alloc _ _
  have n0 : New w (w.alloc (.cells (liveCells l0).toArray 32)) := (Upd.refl _ _).alloc _
  generalize w.alloc (.cells (liveCells l0).toArray 32) = w1 at b0 n0 ⊢
  refine (of_any true 5 2 _ [l0] (by decide) w1 (hG.new n0) (.inr ⟨_, 0, 1, rfl, heldL_one b0⟩)).mono ?_
  rintro e w2 ⟨u, X, rfl, n2, hi, M, pM, sM, eX⟩
  rw [ex0i] at pM
  obtain rfl : M = [] := List.Perm.eq_nil pM
  subst eX
  obtain ⟨ua, uc, rfl⟩ := items_nil hi
  rw [ex0]
  have nw2 := n0.trans n2
  clear hi pM sM n2 b0
  go_wp2_with fail
  obtain ⟨w3, hw3⟩ : ∃ w3 : World, w3 = w2.alloc (.cells #[.int .u64 8, .int .u64 2, .slice ua 0 uc] 40) := ⟨_, rfl⟩
  have s3 : w3.heap.size = w2.heap.size + 1 := by rw [hw3]; simp
  have v3 : w3.heap[w2.heap.size]? = some (.cells #[.int .u64 8, .int .u64 2, .slice ua 0 uc] 40 (0, 0)) := by rw [hw3]; exact blk_alloc _ _
  have n3 : New w w3 := by rw [hw3]; exact nw2.alloc _
  rw [← hw3, ← s3]
  clear hw3
  have b4 : (w3.alloc (.cells (liveCells l1).toArray 32)).heap[w3.heap.size]? = some (.cells (liveCells l1).toArray 32 (0, 0)) := blk_alloc _ _
  have n4 : New w3 (w3.alloc (.cells (liveCells l1).toArray 32)) := (Upd.refl _ _).alloc _
  generalize w3.alloc (.cells (liveCells l1).toArray 32) = w4 at b4 n4 ⊢
  refine (of_any false 5 2 _ [l1] (by decide) w4 (hG.new (n3.trans n4)) (.inr ⟨_, 0, 1, rfl, heldL_one b4⟩)).mono ?_
  rintro e w5 ⟨u, X, rfl, n5, hi, M, pM, sM, eX⟩
  rw [ex1i] at pM
  obtain rfl : M = [(⟨false, hz3⟩, 0)] := List.perm_singleton.1 pM
  subst eX
  rw [ex1]
  rcases hi with ⟨_, _, _, e⟩ | ⟨g, cap, rfl, hh⟩
  · cases e
  have v5 := (n4.trans n5).old v3 (fun h => h)
  have nw5 := n3.trans (n4.trans n5)
  have hrow := hh.row (i := 0) (by simp)
  have hcell : w5.cell? ⟨g, 0, none⟩ = some (.bool false) := by
    obtain ⟨C, T, hb, hs, hc⟩ := hh
    rw [blk_cell hb]
    have := hc 0 (by simp) 0 (by decide)
    simp only [Nat.zero_mul, Nat.add_zero] at this
    rw [this]
    rfl
  clear hrow hh pM sM n5 b4 n4 v3 n3 s3
  go_upto_region 3 with fail
  have v6 := blk_alloc_old v5 (.cells #[.int .u64 2, .int .u64 5, .slice (some ⟨g, 0, none⟩) 1 cap] 40)
  have x6 := blk_alloc w5 (.cells #[.int .u64 2, .int .u64 5, .slice (some ⟨g, 0, none⟩) 1 cap] 40)
  have g6 := ((Upd.refl (fun _ => False) w5).alloc (.cells #[.int .u64 2, .int .u64 5, .slice (some ⟨g, 0, none⟩) 1 cap] 40)).cell hcell (fun h => h)
  have n6 : New w (w5.alloc (.cells #[.int .u64 2, .int .u64 5, .slice (some ⟨g, 0, none⟩) 1 cap] 40)) := nw5.alloc _
  generalize w5.alloc (.cells #[.int .u64 2, .int .u64 5, .slice (some ⟨g, 0, none⟩) 1 cap] 40) = w6 at v6 x6 g6 n6 ⊢
  have c0 := blk_cell v6 0
  have c1 := blk_cell v6 1
  have c2 := blk_cell v6 2
  have d0 := blk_cell x6 0
  have d1 := blk_cell x6 1
  have d2 := blk_cell x6 2
  simp at c0 c1 c2 d0 d1 d2
  go_wp2
  first | go_ret2 | go_ret
  exact ⟨rfl, n6⟩

end Go.Proofs.YtbcjhpeighlncaaDoor
