/-
  The stable sort of less than twenty.
-/
import Derived.Test.YtfmkdoachjgjbaaGreatDoorSo3
import Derived.Great.BuildSlice
set_option linter.unusedVariables false
set_option linter.unusedSimpArgs false
namespace Go.Proofs.YtfmkdoachjgjbaaGreatDoor
open Go.RowKit Go.Sort

theorem fill_all (Z : List Value) : ∀ (A : List Value) (L : List Value), Z.length = A.length → (A.zipIdx).foldl (fun (cs : Array Value) (c, j) => cs.setIfInBounds (L.length + j) c) (L ++ Z).toArray = (L ++ A).toArray := by
  intro A L h
  have key : ∀ (A : List Value) (k : Nat) (P Z : List Value), Z.length = A.length → P.length = L.length + k → (A.zipIdx k).foldl (fun (cs : Array Value) (c, j) => cs.setIfInBounds (L.length + j) c) (P ++ Z).toArray = (P ++ A).toArray := by
    intro A
    induction A with
    | nil => intro k P Z hz _; rw [List.length_eq_zero_iff.1 hz]; rfl
    | cons a A ih =>
      intro k P Z hz hp
      cases Z with
      | nil => simp at hz
      | cons z Z =>
        rw [List.zipIdx_cons, List.foldl_cons]
        have e : (P ++ z :: Z).toArray.setIfInBounds (L.length + k) a = ((P ++ [a]) ++ Z).toArray := by
          rw [← hp]; simp
        show List.foldl _ ((P ++ z :: Z).toArray.setIfInBounds (L.length + k) a) _ = _
        rw [e, ih (k + 1) (P ++ [a]) Z (by simpa using hz) (by simp [hp]; omega)]
        simp
  have := key A 0 L Z h rfl
  exact this
theorem Tryz.zeroItem : ((Tryz.prog.info? 254).map fun i => i.zero.map fun z => z.cells.toList) = some (some (.bool false :: .int .u64 0 :: .int .u64 0 :: (List.replicate 32 (.int .u8 0) ++ [.int .i64 0]))) := by kernel_rfl
theorem item_zero : ∃ i z, Tryz.prog.info? 254 = some i ∧ i.zero = some z ∧ z.cells = (.bool false :: .int .u64 0 :: .int .u64 0 :: (List.replicate 32 (.int .u8 0) ++ [.int .i64 0])).toArray := by
  have h := Tryz.zeroItem
  cases hi : Tryz.prog.info? 254 with
  | none => rw [hi] at h; simp at h
  | some i =>
    rw [hi, Option.map_some, Option.some.injEq] at h
    cases hz : i.zero with
    | none => rw [hz] at h; simp at h
    | some z =>
      rw [hz, Option.map_some, Option.some.injEq] at h
      exact ⟨i, z, rfl, hz, by rw [← h]⟩
theorem built_struct {P : Program} {t : TypeId} {it : TypeInfo} {z : Value} {fields : Array Field} {places : List (Nat × Nat)} (hi : P.info? t = some it) (hu : P.underlying t = some (.struct fields)) (hz : it.zero = some z)
    (hp : fields.toList.mapM (fun f => (P.info? f.type).map fun i => (f.offset, i.size)) = some places) (parts : List (Nat × Value)) : P.built t parts = Instr.fill (places.toArray[·]?) z.cells parts := by
  unfold Program.built
  rw [hi, hu]
  simp only [hz, hp]
theorem built_item (b : Bool) (A : List Value) (h : A.length = 35) : Tryz.prog.built 254 [(0, .bool b), (1, .agg A.toArray)] = some (.bool b :: A).toArray := by
  obtain ⟨i, z, hi, hz, hc⟩ := item_zero
  rw [built_struct (places := [(0, 1), (1, 35)]) hi Tryz.underlying254 hz (by kernel_rfl), hc]
  have hf := fill_all (.int .u64 0 :: .int .u64 0 :: (List.replicate 32 (.int .u8 0) ++ [.int .i64 0])) A [.bool b] (by rw [h]; rfl)
  have hZ : (.int .u64 0 :: .int .u64 0 :: (List.replicate 32 (.int .u8 0) ++ [.int .i64 0]) : List Value).length = 35 := rfl
  generalize (.int .u64 0 :: .int .u64 0 :: (List.replicate 32 (.int .u8 0) ++ [.int .i64 0]) : List Value) = Z at hf hZ ⊢
  simp [Instr.fill, Value.cells, h, hZ]
  exact hf
theorem row_item (A : List Value) (h : A.length = 36) (w : World) : (Instr.buildSlice 199 1 #[(0, .agg A.toArray)]).run Tryz.prog w = .ok (.slice (some ⟨w.heap.size, 0, none⟩) 1 1) (w.alloc (.cells A.toArray 254)) := by
  obtain ⟨i, z, hi, hz, hc⟩ := item_zero
  have hsz : i.size = 36 := by have := Tryz.infoItem; rw [hi] at this; simpa using this
  refine run_buildSlice w _ _ 1 _ _ i z Tryz.underlying199 hi hz (by rw [hsz]; decide) (by rw [hsz]; decide) ?_
  rw [hsz, hc]
  generalize hW : Array.map _ _ = W
  have hWs : W.toList.length = A.length := by rw [← hW, h]; simp
  have hf := fill_all W.toList A [] hWs
  have hWs2 : W.size = 36 := by rw [← h, ← hWs]; simp
  simp [Instr.fill, Value.cells, h, hWs2] at hf ⊢
  exact hf
/-- The same, kept whole. -/
def bdItem (p : Array (Nat × Value)) : Sem Value := Instr.build 254 p
theorem bd_item_fold (p : Array (Nat × Value)) : Instr.build 254 p = bdItem p := rfl
theorem bd_item (b : Bool) (A : List Value) (w : World) : (bdItem #[(0, .bool b), (1, .agg A.toArray)]).run Tryz.prog w = if A.length = 35 then .ok (.agg (.bool b :: A).toArray) w else (Instr.build 254 #[(0, .bool b), (1, .agg A.toArray)]).run Tryz.prog w := by
  by_cases h : A.length = 35
  · rw [if_pos h]; exact run_build w _ _ _ (built_item b A h)
  · rw [if_neg h]; rfl
def bsItem (n : Nat) (p : Array (Nat × Value)) : Sem Value := Instr.buildSlice 199 n p
theorem bs_item_fold (n : Nat) (p : Array (Nat × Value)) : Instr.buildSlice 199 n p = bsItem n p := rfl
theorem bs_item (A : List Value) (w : World) : (bsItem 1 #[(0, .agg A.toArray)]).run Tryz.prog w = if A.length = 36 then .ok (.slice (some ⟨w.heap.size, 0, none⟩) 1 1) (w.alloc (.cells A.toArray 254)) else (Instr.buildSlice 199 1 #[(0, .agg A.toArray)]).run Tryz.prog w := by
  by_cases h : A.length = 36
  · rw [if_pos h]; exact row_item A h w
  · rw [if_neg h]; rfl

end Go.Proofs.YtfmkdoachjgjbaaGreatDoor
