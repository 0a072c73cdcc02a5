/-
  journal.Recover of nothing, link.New.
-/
import Derived.Test.YtehdhnckfdiioaaDoorCn2
namespace Go.Proofs.YtehdhnckfdiioaaDoor
open Go.RowKit

theorem results_tmp4 {fn : Func} {t u v x : Tmp} (h : fn.results = #[.tmp t, .tmp u, .tmp v, .tmp x]) (tmps : Array Value) (P : Program) (w : World) :
    (results fn tmps).run P w = .ok (.tuple #[tmps.getD t undef, tmps.getD u undef, tmps.getD v undef, tmps.getD x undef]) w := by
  simp [results, h]
set_option maxHeartbeats 1000000 in
theorem get_nil (w : World) : Calls Tryd.prog 27 #[.string ⟨#[]⟩] w (Reads (.tuple #[.int .u64 0, .string ⟨#[]⟩, .int .i64 0, .int .i64 3]) w) := by
  go_enter Tryd.func27, Tryd.ntmps27
  go_wp2_with fail
  refine bodyPost_ret (results_tmp4 rfl _ _ _) rfl ?_
  exact ⟨rfl, Q.refl _⟩

structure JourV where
  addr : Value
  buf : Value
  many : Int
  fused : Bool
  fuse : Int
  off : Bool
def JourV.cells (j : JourV) : List Value := [j.addr, j.buf, .int .i64 j.many, .bool j.fused, .int .i64 j.fuse, .bool j.off]
def JourV.new : JourV := ⟨.pointer none, nilV, 0, false, 0, false⟩
def JoR (w : World) (g : Nat) (j : JourV) : Prop := w.heap[g]? = some (.cells j.cells.toArray 112 (0, 0))

set_option maxHeartbeats 1000000 in
theorem recover_nil (w : World) : Calls Tryd.prog 25 #[.string ⟨#[]⟩] w fun e w' => ∃ g, e = .returned (.tuple #[.pointer (some ⟨g, 0, none⟩), nilV]) ∧ w.heap.size ≤ g ∧ JoR w' g .new ∧ New w w' := by
  go_enter Tryd.func25, Tryd.ntmps25
  go_wp2_with fail
  have hj : JoR (w.alloc (.cells #[.pointer none, .slice none 0 0, .int .i64 0, .bool false, .int .i64 0, .bool false] 112)) w.heap.size .new := blk_alloc _ _
  have n0 : New w (w.alloc (.cells #[.pointer none, .slice none 0 0, .int .i64 0, .bool false, .int .i64 0, .bool false] 112)) := (Upd.refl _ _).alloc _
  generalize w.alloc _ = w1 at hj n0 ⊢
  go_loopw [0, 5] (fun sv lv wr => sv = .string ⟨#[]⟩ ∧ lv = .slice none 0 0 ∧ wr = w1) (fun _ _ _ => 0)
  case atStart => exact ⟨rfl, rfl, rfl⟩
  case round =>
    obtain ⟨rfl, rfl, rfl⟩ := hrel
    go_wp2_with fail
    refine (get_nil _).mono ?_
    rintro e w2 ⟨rfl, q2⟩
    have hj' : JoR w2 w.heap.size .new := q2.old hj
    have n2 := n0.trans (q2.upd _)
    clear q2 hj n0
    go_wp2_with fail
    go_ret2
    exact ⟨_, rfl, Nat.le_refl _, hj', n2⟩


end Go.Proofs.YtehdhnckfdiioaaDoor
