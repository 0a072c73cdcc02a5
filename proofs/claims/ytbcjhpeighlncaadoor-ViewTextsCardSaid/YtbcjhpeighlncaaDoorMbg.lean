/-
  Items and lives of the reference: the same laws over its own types (printed by tools/mk_rf1.py).
-/
import Derived.Test.YtbcjhpeighlncaaDoorMbf
namespace Go.Proofs.YtbcjhpeighlncaaDoor
set_option linter.unusedVariables false
set_option linter.unusedSimpArgs false
open Go.RowKit Go.Sort

theorem Tryd.infoItemR : (Tryd.prog.info? 67).map (·.size) = some 36 := by kernel_rfl
/-- The load of an item, kept whole. -/
def ldItemR (x : Value) : Sem Value := Instr.loadAt 67 x
theorem ld_item_foldR (x : Value) : Instr.loadAt 67 x = ldItemR x := rfl
theorem ld_itemR (b o : Nat) (w : World) : (ldItemR (.pointer (some ⟨b, o, none⟩))).run Tryd.prog w = match rowN w b o 36 with | some A => .ok (.agg A) w | none => slowLd Tryd.prog 67 w b o :=
  run_loadAt_rowN 67 36 _ Tryd.underlying67 rfl Tryd.infoItemR b o w

theorem held_of_ownsR {w : World} {base : Nat} {v : Value} {n : Nat} {X : List Item} (h : w.ownsRow base 67 36 v n (X.flatMap itemCells)) :
    n = X.length ∧ ((v = .slice none 0 0 ∧ X = []) ∨ ∃ g cap, v = .slice (some ⟨g, 0, none⟩) X.length cap ∧ base ≤ g ∧ Held w g 0 X) := by
  have hn : n = X.length := by have := h.1; rw [flat_len] at this; omega
  refine ⟨hn, ?_⟩
  subst hn
  rcases h.2 with ⟨e, e0⟩ | ⟨g, cap, cur, e, hb, hg, hc, _, hs, ht⟩
  · exact .inl ⟨e, List.length_eq_zero_iff.1 e0⟩
  · refine .inr ⟨g, cap, e, hb, cur, _, hg, by have := Nat.mul_le_mul_right 36 hc; omega, fun i hi j hj => ?_⟩
    rw [Nat.zero_add, ← flat_get X i j hi hj, ← ht, List.getElem?_take, if_pos (by have := Nat.mul_le_mul_right 36 (show i + 1 ≤ X.length from hi); omega), Array.getElem?_toList]


theorem Tryd.zeroItemR : ((Tryd.prog.info? 67).map fun i => i.zero.map fun z => z.cells.toList) = some (some (.bool false :: .int .u64 0 :: .int .u64 0 :: (List.replicate 32 (.int .u8 0) ++ [.int .i64 0]))) := by kernel_rfl
theorem item_zeroR : ∃ i z, Tryd.prog.info? 67 = some i ∧ i.zero = some z ∧ z.cells = (.bool false :: .int .u64 0 :: .int .u64 0 :: (List.replicate 32 (.int .u8 0) ++ [.int .i64 0])).toArray := by
  have h := Tryd.zeroItemR
  cases hi : Tryd.prog.info? 67 with
  | none => rw [hi] at h; simp at h
  | some i =>
    rw [hi, Option.map_some, Option.some.injEq] at h
    cases hz : i.zero with
    | none => rw [hz] at h; simp at h
    | some z =>
      rw [hz, Option.map_some, Option.some.injEq] at h
      exact ⟨i, z, rfl, hz, by rw [← h]⟩

theorem built_itemR (b : Bool) (A : List Value) (h : A.length = 35) : Tryd.prog.built 67 [(0, .bool b), (1, .agg A.toArray)] = some (.bool b :: A).toArray := by
  obtain ⟨i, z, hi, hz, hc⟩ := item_zeroR
  rw [built_struct (places := [(0, 1), (1, 35)]) hi Tryd.underlying67 hz (by kernel_rfl), hc]
  have hf := fill_all (.int .u64 0 :: .int .u64 0 :: (List.replicate 32 (.int .u8 0) ++ [.int .i64 0])) A [.bool b] (by rw [h]; rfl)
  have hZ : (.int .u64 0 :: .int .u64 0 :: (List.replicate 32 (.int .u8 0) ++ [.int .i64 0]) : List Value).length = 35 := rfl
  generalize (.int .u64 0 :: .int .u64 0 :: (List.replicate 32 (.int .u8 0) ++ [.int .i64 0]) : List Value) = Z at hf hZ ⊢
  simp [Instr.fill, Value.cells, h, hZ]
  exact hf
theorem row_itemR (A : List Value) (h : A.length = 36) (w : World) : (Instr.buildSlice 34 1 #[(0, .agg A.toArray)]).run Tryd.prog w = .ok (.slice (some ⟨w.heap.size, 0, none⟩) 1 1) (w.alloc (.cells A.toArray 67)) := by
  obtain ⟨i, z, hi, hz, hc⟩ := item_zeroR
  have hsz : i.size = 36 := by have := Tryd.infoItemR; rw [hi] at this; simpa using this
  refine run_buildSlice w _ _ 1 _ _ i z Tryd.underlying34 hi hz (by rw [hsz]; decide) (by rw [hsz]; decide) ?_
  rw [hsz, hc]
  generalize hW : Array.map _ _ = W
  have hWs : W.toList.length = A.length := by rw [← hW, h]; simp
  have hf := fill_all W.toList A [] hWs
  have hWs2 : W.size = 36 := by rw [← h, ← hWs]; simp
  simp [Instr.fill, Value.cells, h, hWs2] at hf ⊢
  exact hf
/-- The same, kept whole. -/
def bdItemR (p : Array (Nat × Value)) : Sem Value := Instr.build 67 p
theorem bd_item_foldR (p : Array (Nat × Value)) : Instr.build 67 p = bdItemR p := rfl
theorem bd_itemR (b : Bool) (A : List Value) (w : World) : (bdItemR #[(0, .bool b), (1, .agg A.toArray)]).run Tryd.prog w = if A.length = 35 then .ok (.agg (.bool b :: A).toArray) w else (Instr.build 67 #[(0, .bool b), (1, .agg A.toArray)]).run Tryd.prog w := by
  by_cases h : A.length = 35
  · rw [if_pos h]; exact run_build w _ _ _ (built_itemR b A h)
  · rw [if_neg h]; rfl
def bsItemR (n : Nat) (p : Array (Nat × Value)) : Sem Value := Instr.buildSlice 34 n p
theorem bs_item_foldR (n : Nat) (p : Array (Nat × Value)) : Instr.buildSlice 34 n p = bsItemR n p := rfl
theorem bs_itemR (A : List Value) (w : World) : (bsItemR 1 #[(0, .agg A.toArray)]).run Tryd.prog w = if A.length = 36 then .ok (.slice (some ⟨w.heap.size, 0, none⟩) 1 1) (w.alloc (.cells A.toArray 67)) else (Instr.buildSlice 34 1 #[(0, .agg A.toArray)]).run Tryd.prog w := by
  by_cases h : A.length = 36
  · rw [if_pos h]; exact row_itemR A h w
  · rw [if_neg h]; rfl


theorem Tryd.infoLiveR : (Tryd.prog.info? 76).map (·.size) = some 38 := by kernel_rfl

def ldLiveR (x : Value) : Sem Value := Instr.loadAt 76 x
theorem ld_live_foldR (x : Value) : Instr.loadAt 76 x = ldLiveR x := rfl
theorem ld_liveR (b o : Nat) (w : World) : (ldLiveR (.pointer (some ⟨b, o, none⟩))).run Tryd.prog w = match rowN w b o 38 with | some A => .ok (.agg A) w | none => slowLd Tryd.prog 76 w b o :=
  run_loadAt_rowN 76 38 _ Tryd.underlying76 rfl Tryd.infoLiveR b o w

def stLiveR (x v : Value) : Sem Unit := Instr.storeAt 76 x v
theorem st_live_foldR (x v : Value) : Instr.storeAt 76 x v = stLiveR x v := rfl
theorem st_liveR (b o : Nat) (A : Array Value) (w : World) : (stLiveR (.pointer (some ⟨b, o, none⟩)) (.agg A)).run Tryd.prog w = if stOk w b o 38 A = true then .ok () (w.setCells b o A.toList) else slowSt Tryd.prog 76 w b o A :=
  run_storeAt_row 76 38 Tryd.infoLiveR b o A w

theorem Tryd.infoItemBR : (Tryd.prog.info? 67).map (fun i => (i.size, i.bytes, i.zero.map (·.cells.size))) = some (36, 64, some 36) := by kernel_rfl
theorem item_infoR : ∃ i z, Tryd.prog.info? 67 = some i ∧ i.zero = some z ∧ i.size = 36 ∧ i.bytes = 64 ∧ z.cells.size = 36 := by
  have h := Tryd.infoItemBR
  cases hi : Tryd.prog.info? 67 with
  | none => rw [hi] at h; simp at h
  | some i =>
    rw [hi] at h
    simp only [Option.map_some, Option.some.injEq, Prod.mk.injEq] at h
    obtain ⟨h1, h2, h3⟩ := h
    cases hz : i.zero with
    | none => rw [hz] at h3; simp at h3
    | some z => rw [hz] at h3; simp at h3; exact ⟨i, z, rfl, hz, h1, h2, h3⟩

theorem heldL_of_ownsR {w : World} {base : Nat} {v : Value} {n : Nat} {X : List Live} (h : w.ownsRow base 76 38 v n (X.flatMap liveCells)) :
    n = X.length ∧ ((v = .slice none 0 0 ∧ X = []) ∨ ∃ g cap, v = .slice (some ⟨g, 0, none⟩) X.length cap ∧ base ≤ g ∧ HeldO w g 0 X) := by
  have hn : n = X.length := by have := h.1; rw [flatL_len] at this; omega
  refine ⟨hn, ?_⟩
  subst hn
  rcases h.2 with ⟨e, e0⟩ | ⟨g, cap, cur, e, hb, hg, hc, _, hs, ht⟩
  · exact .inl ⟨e, List.length_eq_zero_iff.1 e0⟩
  · refine .inr ⟨g, cap, e, hb, cur, _, hg, by have := Nat.mul_le_mul_right 38 hc; omega, fun i x hi j hj => ?_⟩
    have hlt := (List.getElem?_eq_some_iff.1 hi).1
    rw [Nat.zero_add, ← flatL_get X i j x hi hj, ← ht, List.getElem?_take, if_pos (by have := Nat.mul_le_mul_right 38 (show i + 1 ≤ X.length from hlt); omega), Array.getElem?_toList]


theorem Tryd.infoLiveBR : (Tryd.prog.info? 76).map (fun i => (i.size, i.bytes, i.zero.map (·.cells.size))) = some (38, 80, some 38) := by kernel_rfl
theorem live_infoR : ∃ i z, Tryd.prog.info? 76 = some i ∧ i.zero = some z ∧ i.size = 38 ∧ i.bytes = 80 ∧ z.cells.size = 38 := by
  have h := Tryd.infoLiveBR
  cases hi : Tryd.prog.info? 76 with
  | none => rw [hi] at h; simp at h
  | some i =>
    rw [hi] at h
    simp only [Option.map_some, Option.some.injEq, Prod.mk.injEq] at h
    obtain ⟨h1, h2, h3⟩ := h
    cases hz : i.zero with
    | none => rw [hz] at h3; simp at h3
    | some z => rw [hz] at h3; simp at h3; exact ⟨i, z, rfl, hz, h1, h2, h3⟩


end Go.Proofs.YtbcjhpeighlncaaDoor

/-
  The laws' own example.
-/
namespace Go.Proofs.YtbcjhpeighlncaaDoor
set_option linter.unusedVariables false
set_option linter.unusedSimpArgs false
open Go.RowKit Go.Sort

def hz3 : Htlc := ⟨0, 3, Vector.replicate 32 0, 0⟩
def l0 : Live := ⟨hz3, true, 0, false⟩
def l1 : Live := ⟨hz3, true, 1, false⟩
def bdHtlc (p : Array (Nat × Value)) : Sem Value := Instr.build 30 p
theorem bd_htlc_fold (p : Array (Nat × Value)) : Instr.build 30 p = bdHtlc p := rfl
theorem bd_htlc (w : World) : (bdHtlc #[(1, .int .u64 3)]).run Tryd.prog w = .ok (.agg (htlcCells hz3).toArray) w := run_build w _ _ _ (by kernel_rfl)
def bdLive (p : Array (Nat × Value)) : Sem Value := Instr.build 32 p
theorem bd_live_fold (p : Array (Nat × Value)) : Instr.build 32 p = bdLive p := rfl
theorem bd_live0 (w : World) : (bdLive #[(0, .agg (htlcCells hz3).toArray), (1, .bool true)]).run Tryd.prog w = .ok (.agg (liveCells l0).toArray) w := run_build w _ _ _ (by kernel_rfl)
theorem bd_live1 (w : World) : (bdLive #[(0, .agg (htlcCells hz3).toArray), (1, .bool true), (2, .int .i64 1)]).run Tryd.prog w = .ok (.agg (liveCells l1).toArray) w := run_build w _ _ _ (by kernel_rfl)
theorem Tryd.zeroLive : ((Tryd.prog.info? 32).map fun i => i.zero.map fun z => z.cells.toList) = some (some (.int .u64 0 :: .int .u64 0 :: (List.replicate 32 (.int .u8 0) ++ [.int .i64 0, .bool false, .int .i64 0, .bool false]))) := by kernel_rfl
theorem live_zero : ∃ i z, Tryd.prog.info? 32 = some i ∧ i.zero = some z ∧ z.cells = (.int .u64 0 :: .int .u64 0 :: (List.replicate 32 (.int .u8 0) ++ [.int .i64 0, .bool false, .int .i64 0, .bool false])).toArray := by
  have h := Tryd.zeroLive
  cases hi : Tryd.prog.info? 32 with
  | none => rw [hi] at h; simp at h
  | some i =>
    rw [hi, Option.map_some, Option.some.injEq] at h
    cases hz : i.zero with
    | none => rw [hz] at h; simp at h
    | some z =>
      rw [hz, Option.map_some, Option.some.injEq] at h
      exact ⟨i, z, rfl, hz, by rw [← h]⟩
theorem row_live (A : List Value) (h : A.length = 38) (w : World) : (Instr.buildSlice 25 1 #[(0, .agg A.toArray)]).run Tryd.prog w = .ok (.slice (some ⟨w.heap.size, 0, none⟩) 1 1) (w.alloc (.cells A.toArray 32)) := by
  obtain ⟨i, z, hi, hz, hc⟩ := live_zero
  have hsz : i.size = 38 := by have := Tryd.infoLive; rw [hi] at this; simpa using this
  refine run_buildSlice w _ _ 1 _ _ i z Tryd.underlying25 hi hz (by rw [hsz]; decide) (by rw [hsz]; decide) ?_
  rw [hsz, hc]
  generalize hW : Array.map _ _ = W
  have hWs : W.toList.length = A.length := by rw [← hW, h]; simp
  have hf := fill_all W.toList A [] hWs
  have hWs2 : W.size = 38 := by rw [← h, ← hWs]; simp
  simp [Instr.fill, Value.cells, h, hWs2] at hf ⊢
  exact hf
def bsLive (n : Nat) (p : Array (Nat × Value)) : Sem Value := Instr.buildSlice 25 n p
theorem bs_live_fold (n : Nat) (p : Array (Nat × Value)) : Instr.buildSlice 25 n p = bsLive n p := rfl
theorem bs_live (A : List Value) (w : World) : (bsLive 1 #[(0, .agg A.toArray)]).run Tryd.prog w = if A.length = 38 then .ok (.slice (some ⟨w.heap.size, 0, none⟩) 1 1) (w.alloc (.cells A.toArray 32)) else (Instr.buildSlice 25 1 #[(0, .agg A.toArray)]).run Tryd.prog w := by
  by_cases h : A.length = 38
  · rw [if_pos h]; exact row_live A h w
  · rw [if_neg h]; rfl
theorem heldL_one {w : World} {g : Nat} {T : TypeId} {x : Live} (h : w.heap[g]? = some (.cells (liveCells x).toArray T (0, 0))) : HeldL w g 0 [x] := by
  refine ⟨_, T, _, h, by simp [live_len], fun i y hi j hj => ?_⟩
  cases i with
  | zero => simp only [List.getElem?_cons_zero, Option.some.injEq] at hi; subst hi; simp
  | succ i => simp at hi

end Go.Proofs.YtbcjhpeighlncaaDoor

/-
  shown.
-/
namespace Go.Proofs.YtbcjhpeighlncaaDoor
set_option linter.unusedVariables false
set_option linter.unusedSimpArgs false
open Go.RowKit Go.Sort

attribute [local go_sem ↓ high] bd_htlc_fold bd_live_fold bs_live_fold
attribute [local go_sem] bd_htlc bd_live0 bd_live1 bs_live

theorem items_nil {w : World} {u : Value} (h : Items w u []) : ∃ a c, u = .slice a 0 c := by
  rcases h with ⟨_, _, rfl, _⟩ | ⟨g, cap, rfl, _⟩
  · exact ⟨_, _, rfl⟩
  · exact ⟨_, _, rfl⟩
theorem ex0 : sumsOf true 5 2 [l0] = (8, 2) := by rfl
theorem ex0i : itemsOf true [l0] = [] := by rfl
theorem ex1 : sumsOf false 5 2 [l1] = (5, 2) := by rfl
theorem ex1i : itemsOf false [l1] = [⟨false, hz3⟩] := by rfl
set_option maxRecDepth 100000 in
set_option maxHeartbeats 4000000 in
theorem shown_any (w : World) (hG : Spans w) : Calls Tryd.prog 9 #[] w (Makes (.bool true) w) := by
  have hl0 := live_len l0
  have hl1 := live_len l1
  go_enter Tryd.func9, Tryd.ntmps9
  go_wp2_with fail
  have b0 : (w.alloc (.cells (liveCells l0).toArray 32)).heap[w.heap.size]? = some (.cells (liveCells l0).toArray 32 (0, 0)) := blk_alloc _ _
  have n0 : New w (w.alloc (.cells (liveCells l0).toArray 32)) := (Upd.refl _ _).alloc _
  generalize w.alloc (.cells (liveCells l0).toArray 32) = w1 at b0 n0 ⊢
  refine (of_any true 5 2 _ [l0] (by decide) w1 (hG.new n0) (.inr ⟨_, 0, 1, rfl, heldL_one b0⟩)).mono ?_
  rintro e w2 ⟨u, X, rfl, n2, hi, M, pM, sM, eX⟩
  rw [ex0i] at pM
  obtain rfl : M = [] := List.Perm.eq_nil pM
  subst eX
  obtain ⟨ua, uc, rfl⟩ := items_nil hi
  rw [ex0]
  have nw2 := n0.trans n2
  clear hi pM sM n2 b0
  go_wp2_with fail
  obtain ⟨w3, hw3⟩ : ∃ w3 : World, w3 = w2.alloc (.cells #[.int .u64 8, .int .u64 2, .slice ua 0 uc] 40) := ⟨_, rfl⟩
  have s3 : w3.heap.size = w2.heap.size + 1 := by rw [hw3]; simp
  have v3 : w3.heap[w2.heap.size]? = some (.cells #[.int .u64 8, .int .u64 2, .slice ua 0 uc] 40 (0, 0)) := by rw [hw3]; exact blk_alloc _ _
  have n3 : New w w3 := by rw [hw3]; exact nw2.alloc _
  rw [← hw3, ← s3]
  clear hw3
  have b4 : (w3.alloc (.cells (liveCells l1).toArray 32)).heap[w3.heap.size]? = some (.cells (liveCells l1).toArray 32 (0, 0)) := blk_alloc _ _
  have n4 : New w3 (w3.alloc (.cells (liveCells l1).toArray 32)) := (Upd.refl _ _).alloc _
  generalize w3.alloc (.cells (liveCells l1).toArray 32) = w4 at b4 n4 ⊢
  refine (of_any false 5 2 _ [l1] (by decide) w4 (hG.new (n3.trans n4)) (.inr ⟨_, 0, 1, rfl, heldL_one b4⟩)).mono ?_
  rintro e w5 ⟨u, X, rfl, n5, hi, M, pM, sM, eX⟩
  rw [ex1i] at pM
  obtain rfl : M = [(⟨false, hz3⟩, 0)] := List.perm_singleton.1 pM
  subst eX
  rw [ex1]
  rcases hi with ⟨_, _, _, e⟩ | ⟨g, cap, rfl, hh⟩
  · cases e
  have v5 := (n4.trans n5).old v3 (fun h => h)
  have nw5 := n3.trans (n4.trans n5)
  have hrow := hh.row (i := 0) (by simp)
  have hcell : w5.cell? ⟨g, 0, none⟩ = some (.bool false) := by
    obtain ⟨C, T, hb, hs, hc⟩ := hh
    rw [blk_cell hb]
    have := hc 0 (by simp) 0 (by decide)
    simp only [Nat.zero_mul, Nat.add_zero] at this
    rw [this]
    rfl
  clear hrow hh pM sM n5 b4 n4 v3 n3 s3
  go_upto_region 3 with fail
  have v6 := blk_alloc_old v5 (.cells #[.int .u64 2, .int .u64 5, .slice (some ⟨g, 0, none⟩) 1 cap] 40)
  have x6 := blk_alloc w5 (.cells #[.int .u64 2, .int .u64 5, .slice (some ⟨g, 0, none⟩) 1 cap] 40)
  have g6 := ((Upd.refl (fun _ => False) w5).alloc (.cells #[.int .u64 2, .int .u64 5, .slice (some ⟨g, 0, none⟩) 1 cap] 40)).cell hcell (fun h => h)
  have n6 : New w (w5.alloc (.cells #[.int .u64 2, .int .u64 5, .slice (some ⟨g, 0, none⟩) 1 cap] 40)) := nw5.alloc _
  generalize w5.alloc (.cells #[.int .u64 2, .int .u64 5, .slice (some ⟨g, 0, none⟩) 1 cap] 40) = w6 at v6 x6 g6 n6 ⊢
  have c0 := blk_cell v6 0
  have c1 := blk_cell v6 1
  have c2 := blk_cell v6 2
  have d0 := blk_cell x6 0
  have d1 := blk_cell x6 1
  have d2 := blk_cell x6 2
  simp at c0 c1 c2 d0 d1 d2
  go_wp2
  first | go_ret2 | go_ret
  exact ⟨rfl, n6⟩

end Go.Proofs.YtbcjhpeighlncaaDoor
