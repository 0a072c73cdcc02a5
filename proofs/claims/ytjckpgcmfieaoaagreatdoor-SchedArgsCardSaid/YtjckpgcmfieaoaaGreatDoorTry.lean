/-
  wire.try, where no step goes wrong.
-/
import Derived.Test.YtjckpgcmfieaoaaGreatDoorMcj
import Derived.Defers
import Derived.Recover
set_option linter.unusedVariables false
set_option linter.unusedSimpArgs false
namespace Go.Proofs.YtjckpgcmfieaoaaGreatDoor
open Go.RowKit

def taF (x : Value) : Sem Value := Instr.typeAssert x 20 398 true
theorem ta_fold (x : Value) : Instr.typeAssert x 20 398 true = taF x := rfl
theorem ta_nil (w : World) : (taF .nilIface).run Tryz.prog w = .ok (.tuple #[.agg #[.int .i64 0], .bool false]) w := by kernel_rfl
attribute [local go_sem ↓ high] ta_fold
attribute [local go_sem] ta_nil
set_option maxHeartbeats 1000000 in
theorem try_idle (p : Addr) (w : World) :
    CallsD Tryz.prog 292 #[.pointer (some p)] .returning w fun e u' w' => e = .returned (.tuple #[]) ∧ u' = .returning ∧ New w w' := by
  refine callsD_of_wpS Tryz.func292 rfl fun c₀ cs hu => ?_
  apply wpS_seq
  apply wpS_region
  simp [wpOpsS, go_sem, recoverD, hu, Tryz.ntmps292, Exit.thenS]
  have n1 : New w (w.alloc (.cells #[.int .i64 0] 398)) := (Upd.refl _ _).alloc _
  generalize w.alloc (.cells #[.int .i64 0] 398) = w1 at n1 ⊢
  generalize w.heap.size = B
  apply wpS_seq
  apply wpS_region
  simp [wpOpsS, go_sem, Exit.thenS]
  refine wpS_cond (t := false) (by simp [Act.eval, Array.replicate]) ?_
  simp only [Bool.false_eq_true, if_false]
  refine wpS_of_wp (wp_skip ?_)
  cases c₀
  simp_all [bodyPostS, results, Tryz.results292]
end Go.Proofs.YtjckpgcmfieaoaaGreatDoor
