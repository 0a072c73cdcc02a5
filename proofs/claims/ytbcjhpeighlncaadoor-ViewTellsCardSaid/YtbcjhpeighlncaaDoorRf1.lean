/-
  Items and lives of the reference: the same laws over its own types (printed by tools/mk_rf1.py).
-/
import Derived.Test.YtbcjhpeighlncaaDoorVwA
namespace Go.Proofs.YtbcjhpeighlncaaDoor
open Go.RowKit Go.Sort

theorem Tryd.infoItemR : (Tryd.prog.info? 67).map (·.size) = some 36 := by kernel_rfl
/-- The load of an item, kept whole. -/
def ldItemR (x : Value) : Sem Value := Instr.loadAt 67 x
theorem ld_item_foldR (x : Value) : Instr.loadAt 67 x = ldItemR x := rfl
theorem ld_itemR (b o : Nat) (w : World) : (ldItemR (.pointer (some ⟨b, o, none⟩))).run Tryd.prog w = match rowN w b o 36 with | some A => .ok (.agg A) w | none => slowLd Tryd.prog 67 w b o :=
  run_loadAt_rowN 67 36 _ Tryd.underlying67 rfl Tryd.infoItemR b o w

theorem held_of_ownsR {w : World} {base : Nat} {v : Value} {n : Nat} {X : List Item} (h : w.ownsRow base 67 36 v n (X.flatMap itemCells)) :
    n = X.length ∧ ((v = .slice none 0 0 ∧ X = []) ∨ ∃ g cap, v = .slice (some ⟨g, 0, none⟩) X.length cap ∧ base ≤ g ∧ Held w g 0 X) := by
  have hn : n = X.length := by have := h.1; rw [flat_len] at this; omega
  refine ⟨hn, ?_⟩
  subst hn
  rcases h.2 with ⟨e, e0⟩ | ⟨g, cap, cur, e, hb, hg, hc, _, hs, ht⟩
  · exact .inl ⟨e, List.length_eq_zero_iff.1 e0⟩
  · refine .inr ⟨g, cap, e, hb, cur, _, hg, by have := Nat.mul_le_mul_right 36 hc; omega, fun i hi j hj => ?_⟩
    rw [Nat.zero_add, ← flat_get X i j hi hj, ← ht, List.getElem?_take, if_pos (by have := Nat.mul_le_mul_right 36 (show i + 1 ≤ X.length from hi); omega), Array.getElem?_toList]


theorem Tryd.zeroItemR : ((Tryd.prog.info? 67).map fun i => i.zero.map fun z => z.cells.toList) = some (some (.bool false :: .int .u64 0 :: .int .u64 0 :: (List.replicate 32 (.int .u8 0) ++ [.int .i64 0]))) := by kernel_rfl
theorem item_zeroR : ∃ i z, Tryd.prog.info? 67 = some i ∧ i.zero = some z ∧ z.cells = (.bool false :: .int .u64 0 :: .int .u64 0 :: (List.replicate 32 (.int .u8 0) ++ [.int .i64 0])).toArray := by
  have h := Tryd.zeroItemR
  cases hi : Tryd.prog.info? 67 with
  | none => rw [hi] at h; simp at h
  | some i =>
    rw [hi, Option.map_some, Option.some.injEq] at h
    cases hz : i.zero with
    | none => rw [hz] at h; simp at h
    | some z =>
      rw [hz, Option.map_some, Option.some.injEq] at h
      exact ⟨i, z, rfl, hz, by rw [← h]⟩

theorem built_itemR (b : Bool) (A : List Value) (h : A.length = 35) : Tryd.prog.built 67 [(0, .bool b), (1, .agg A.toArray)] = some (.bool b :: A).toArray := by
  obtain ⟨i, z, hi, hz, hc⟩ := item_zeroR
  rw [built_struct (places := [(0, 1), (1, 35)]) hi Tryd.underlying67 hz (by kernel_rfl), hc]
  have hf := fill_all (.int .u64 0 :: .int .u64 0 :: (List.replicate 32 (.int .u8 0) ++ [.int .i64 0])) A [.bool b] (by rw [h]; rfl)
  have hZ : (.int .u64 0 :: .int .u64 0 :: (List.replicate 32 (.int .u8 0) ++ [.int .i64 0]) : List Value).length = 35 := rfl
  generalize (.int .u64 0 :: .int .u64 0 :: (List.replicate 32 (.int .u8 0) ++ [.int .i64 0]) : List Value) = Z at hf hZ ⊢
  simp [Instr.fill, Value.cells, h, hZ]
  exact hf
theorem row_itemR (A : List Value) (h : A.length = 36) (w : World) : (Instr.buildSlice 34 1 #[(0, .agg A.toArray)]).run Tryd.prog w = .ok (.slice (some ⟨w.heap.size, 0, none⟩) 1 1) (w.alloc (.cells A.toArray 67)) := by
  obtain ⟨i, z, hi, hz, hc⟩ := item_zeroR
  have hsz : i.size = 36 := by have := Tryd.infoItemR; rw [hi] at this; simpa using this
  refine run_buildSlice w _ _ 1 _ _ i z Tryd.underlying34 hi hz (by rw [hsz]; decide) (by rw [hsz]; decide) ?_
  rw [hsz, hc]
  generalize hW : Array.map _ _ = W
  have hWs : W.toList.length = A.length := by rw [← hW, h]; simp
  have hf := fill_all W.toList A [] hWs
  have hWs2 : W.size = 36 := by rw [← h, ← hWs]; simp
  simp [Instr.fill, Value.cells, h, hWs2] at hf ⊢
  exact hf
/-- The same, kept whole. -/
def bdItemR (p : Array (Nat × Value)) : Sem Value := Instr.build 67 p
theorem bd_item_foldR (p : Array (Nat × Value)) : Instr.build 67 p = bdItemR p := rfl
theorem bd_itemR (b : Bool) (A : List Value) (w : World) : (bdItemR #[(0, .bool b), (1, .agg A.toArray)]).run Tryd.prog w = if A.length = 35 then .ok (.agg (.bool b :: A).toArray) w else (Instr.build 67 #[(0, .bool b), (1, .agg A.toArray)]).run Tryd.prog w := by
  by_cases h : A.length = 35
  · rw [if_pos h]; exact run_build w _ _ _ (built_itemR b A h)
  · rw [if_neg h]; rfl
def bsItemR (n : Nat) (p : Array (Nat × Value)) : Sem Value := Instr.buildSlice 34 n p
theorem bs_item_foldR (n : Nat) (p : Array (Nat × Value)) : Instr.buildSlice 34 n p = bsItemR n p := rfl
theorem bs_itemR (A : List Value) (w : World) : (bsItemR 1 #[(0, .agg A.toArray)]).run Tryd.prog w = if A.length = 36 then .ok (.slice (some ⟨w.heap.size, 0, none⟩) 1 1) (w.alloc (.cells A.toArray 67)) else (Instr.buildSlice 34 1 #[(0, .agg A.toArray)]).run Tryd.prog w := by
  by_cases h : A.length = 36
  · rw [if_pos h]; exact row_itemR A h w
  · rw [if_neg h]; rfl


theorem Tryd.infoLiveR : (Tryd.prog.info? 76).map (·.size) = some 38 := by kernel_rfl

def ldLiveR (x : Value) : Sem Value := Instr.loadAt 76 x
theorem ld_live_foldR (x : Value) : Instr.loadAt 76 x = ldLiveR x := rfl
theorem ld_liveR (b o : Nat) (w : World) : (ldLiveR (.pointer (some ⟨b, o, none⟩))).run Tryd.prog w = match rowN w b o 38 with | some A => .ok (.agg A) w | none => slowLd Tryd.prog 76 w b o :=
  run_loadAt_rowN 76 38 _ Tryd.underlying76 rfl Tryd.infoLiveR b o w

def stLiveR (x v : Value) : Sem Unit := Instr.storeAt 76 x v
theorem st_live_foldR (x v : Value) : Instr.storeAt 76 x v = stLiveR x v := rfl
theorem st_liveR (b o : Nat) (A : Array Value) (w : World) : (stLiveR (.pointer (some ⟨b, o, none⟩)) (.agg A)).run Tryd.prog w = if stOk w b o 38 A = true then .ok () (w.setCells b o A.toList) else slowSt Tryd.prog 76 w b o A :=
  run_storeAt_row 76 38 Tryd.infoLiveR b o A w

theorem Tryd.infoItemBR : (Tryd.prog.info? 67).map (fun i => (i.size, i.bytes, i.zero.map (·.cells.size))) = some (36, 64, some 36) := by kernel_rfl
theorem item_infoR : ∃ i z, Tryd.prog.info? 67 = some i ∧ i.zero = some z ∧ i.size = 36 ∧ i.bytes = 64 ∧ z.cells.size = 36 := by
  have h := Tryd.infoItemBR
  cases hi : Tryd.prog.info? 67 with
  | none => rw [hi] at h; simp at h
  | some i =>
    rw [hi] at h
    simp only [Option.map_some, Option.some.injEq, Prod.mk.injEq] at h
    obtain ⟨h1, h2, h3⟩ := h
    cases hz : i.zero with
    | none => rw [hz] at h3; simp at h3
    | some z => rw [hz] at h3; simp at h3; exact ⟨i, z, rfl, hz, h1, h2, h3⟩

theorem heldL_of_ownsR {w : World} {base : Nat} {v : Value} {n : Nat} {X : List Live} (h : w.ownsRow base 76 38 v n (X.flatMap liveCells)) :
    n = X.length ∧ ((v = .slice none 0 0 ∧ X = []) ∨ ∃ g cap, v = .slice (some ⟨g, 0, none⟩) X.length cap ∧ base ≤ g ∧ HeldO w g 0 X) := by
  have hn : n = X.length := by have := h.1; rw [flatL_len] at this; omega
  refine ⟨hn, ?_⟩
  subst hn
  rcases h.2 with ⟨e, e0⟩ | ⟨g, cap, cur, e, hb, hg, hc, _, hs, ht⟩
  · exact .inl ⟨e, List.length_eq_zero_iff.1 e0⟩
  · refine .inr ⟨g, cap, e, hb, cur, _, hg, by have := Nat.mul_le_mul_right 38 hc; omega, fun i x hi j hj => ?_⟩
    have hlt := (List.getElem?_eq_some_iff.1 hi).1
    rw [Nat.zero_add, ← flatL_get X i j x hi hj, ← ht, List.getElem?_take, if_pos (by have := Nat.mul_le_mul_right 38 (show i + 1 ≤ X.length from hlt); omega), Array.getElem?_toList]


theorem Tryd.infoLiveBR : (Tryd.prog.info? 76).map (fun i => (i.size, i.bytes, i.zero.map (·.cells.size))) = some (38, 80, some 38) := by kernel_rfl
theorem live_infoR : ∃ i z, Tryd.prog.info? 76 = some i ∧ i.zero = some z ∧ i.size = 38 ∧ i.bytes = 80 ∧ z.cells.size = 38 := by
  have h := Tryd.infoLiveBR
  cases hi : Tryd.prog.info? 76 with
  | none => rw [hi] at h; simp at h
  | some i =>
    rw [hi] at h
    simp only [Option.map_some, Option.some.injEq, Prod.mk.injEq] at h
    obtain ⟨h1, h2, h3⟩ := h
    cases hz : i.zero with
    | none => rw [hz] at h3; simp at h3
    | some z => rw [hz] at h3; simp at h3; exact ⟨i, z, rfl, hz, h1, h2, h3⟩


end Go.Proofs.YtbcjhpeighlncaaDoor
