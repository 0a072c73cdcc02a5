/-
  The laws' own example.
-/
import Derived.Test.YtbcjhpeighlncaaDoorVwA
namespace Go.Proofs.YtbcjhpeighlncaaDoor
open Go.RowKit Go.Sort

def hz3 : Htlc := ⟨0, 3, Vector.replicate 32 0, 0⟩
def l0 : Live := ⟨hz3, true, 0, false⟩
def l1 : Live := ⟨hz3, true, 1, false⟩
def bdHtlc (p : Array (Nat × Value)) : Sem Value := Instr.build 30 p
theorem bd_htlc_fold (p : Array (Nat × Value)) : Instr.build 30 p = bdHtlc p := rfl
theorem bd_htlc (w : World) : (bdHtlc #[(1, .int .u64 3)]).run Tryd.prog w = .ok (.agg (htlcCells hz3).toArray) w := run_build w _ _ _ (by kernel_rfl)
def bdLive (p : Array (Nat × Value)) : Sem Value := Instr.build 32 p
theorem bd_live_fold (p : Array (Nat × Value)) : Instr.build 32 p = bdLive p := rfl
theorem bd_live0 (w : World) : (bdLive #[(0, .agg (htlcCells hz3).toArray), (1, .bool true)]).run Tryd.prog w = .ok (.agg (liveCells l0).toArray) w := run_build w _ _ _ (by kernel_rfl)
theorem bd_live1 (w : World) : (bdLive #[(0, .agg (htlcCells hz3).toArray), (1, .bool true), (2, .int .i64 1)]).run Tryd.prog w = .ok (.agg (liveCells l1).toArray) w := run_build w _ _ _ (by kernel_rfl)
theorem Tryd.zeroLive : ((Tryd.prog.info? 32).map fun i => i.zero.map fun z => z.cells.toList) = some (some (.int .u64 0 :: .int .u64 0 :: (List.replicate 32 (.int .u8 0) ++ [.int .i64 0, .bool false, .int .i64 0, .bool false]))) := by kernel_rfl
theorem live_zero : ∃ i z, Tryd.prog.info? 32 = some i ∧ i.zero = some z ∧ z.cells = (.int .u64 0 :: .int .u64 0 :: (List.replicate 32 (.int .u8 0) ++ [.int .i64 0, .bool false, .int .i64 0, .bool false])).toArray := by
  have h := Tryd.zeroLive
  cases hi : Tryd.prog.info? 32 with
  | none => rw [hi] at h; simp at h
  | some i =>
    rw [hi, Option.map_some, Option.some.injEq] at h
    cases hz : i.zero with
    | none => rw [hz] at h; simp at h
    | some z =>
      rw [hz, Option.map_some, Option.some.injEq] at h
      exact ⟨i, z, rfl, hz, by rw [← h]⟩
theorem row_live (A : List Value) (h : A.length = 38) (w : World) : (Instr.buildSlice 25 1 #[(0, .agg A.toArray)]).run Tryd.prog w = .ok (.slice (some ⟨w.heap.size, 0, none⟩) 1 1) (w.alloc (.cells A.toArray 32)) := by
  obtain ⟨i, z, hi, hz, hc⟩ := live_zero
  have hsz : i.size = 38 := by have := Tryd.infoLive; rw [hi] at this; simpa using this
  refine run_buildSlice w _ _ 1 _ _ i z Tryd.underlying25 hi hz (by rw [hsz]; decide) (by rw [hsz]; decide) ?_
  rw [hsz, hc]
  generalize hW : Array.map _ _ = W
  have hWs : W.toList.length = A.length := by rw [← hW, h]; simp
  have hf := fill_all W.toList A [] hWs
  have hWs2 : W.size = 38 := by rw [← h, ← hWs]; simp
  simp [Instr.fill, Value.cells, h, hWs2] at hf ⊢
  exact hf
def bsLive (n : Nat) (p : Array (Nat × Value)) : Sem Value := Instr.buildSlice 25 n p
theorem bs_live_fold (n : Nat) (p : Array (Nat × Value)) : Instr.buildSlice 25 n p = bsLive n p := rfl
theorem bs_live (A : List Value) (w : World) : (bsLive 1 #[(0, .agg A.toArray)]).run Tryd.prog w = if A.length = 38 then .ok (.slice (some ⟨w.heap.size, 0, none⟩) 1 1) (w.alloc (.cells A.toArray 32)) else (Instr.buildSlice 25 1 #[(0, .agg A.toArray)]).run Tryd.prog w := by
  by_cases h : A.length = 38
  · rw [if_pos h]; exact row_live A h w
  · rw [if_neg h]; rfl
theorem heldL_one {w : World} {g : Nat} {T : TypeId} {x : Live} (h : w.heap[g]? = some (.cells (liveCells x).toArray T (0, 0))) : HeldL w g 0 [x] := by
  refine ⟨_, T, _, h, by simp [live_len], fun i y hi j hj => ?_⟩
  cases i with
  | zero => simp only [List.getElem?_cons_zero, Option.some.injEq] at hi; subst hi; simp
  | succ i => simp at hi

end Go.Proofs.YtbcjhpeighlncaaDoor
