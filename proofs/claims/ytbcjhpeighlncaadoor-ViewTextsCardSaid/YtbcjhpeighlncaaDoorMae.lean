/-
  Structs and arrays by value, out of and into the middle of a block: 'rowN'; rules for the walk that take such a load, or store, whole.
-/
import Derived.Test.YtbcjhpeighlncaaDoorBase
import Derived.Deep.MidRow
import Derived.Test.YtbcjhpeighlncaaDoorMad
import Derived.BigRegion
namespace Go.Proofs.YtbcjhpeighlncaaDoor
set_option linter.unusedVariables false
set_option linter.unusedSimpArgs false
open Go.RowKit

/-- The n cells of block b from o on. -/
def rowN (w : World) (b o n : Nat) : Option (Array Value) :=
  match w.heap[b]? with
  | some (.cells C _ _) => if o + n ≤ C.size then some (C.extract o (o + n)) else none
  | _ => none
/-- What a load of a row comes to that is not there whole: nobody looks. -/
def slowLd (P : Program) (ty : TypeId) (w : World) (b o : Nat) : Result Value := (loadVar ty ⟨b, o, none⟩).run P w
theorem rowN_cell {w : World} {b o n : Nat} {A : Array Value} (h : rowN w b o n = some A) : A.size = n ∧ ∀ j, j < n → w.cell? ⟨b, o + j, none⟩ = A[j]? := by
  unfold rowN at h
  cases hb : w.heap[b]? with
  | none => rw [hb] at h; cases h
  | some ob =>
    rw [hb] at h
    cases ob with
    | cells C T fz =>
      simp only at h
      split at h
      · rename_i hle
        injection h with h
        subst h
        refine ⟨by simp; omega, fun j hj => ?_⟩
        rw [blk_cell hb, Array.getElem?_extract, if_pos (by omega)]
      · cases h
    | _ => cases h
theorem rowN_rangeAt {w : World} {b o n : Nat} {A : Array Value} (h : rowN w b o n = some A) : w.rangeAt b o A.toList := by
  obtain ⟨hs, hc⟩ := rowN_cell h
  intro j v hv
  rw [Array.getElem?_toList] at hv
  have hj : j < n := by
    have := (Array.getElem?_eq_some_iff.1 hv).1
    omega
  rw [hc j hj, hv]
theorem rowN_blk {w : World} {b : Nat} {C : Array Value} {T : TypeId} {fz : Nat × Nat} (h : w.heap[b]? = some (.cells C T fz)) (o n : Nat) (hn : o + n ≤ C.size) : rowN w b o n = some (C.extract o (o + n)) := by
  unfold rowN
  rw [h]
  simp only
  rw [if_pos hn]
theorem rowN_whole {w : World} {b : Nat} {C : Array Value} {T : TypeId} {fz : Nat × Nat} (h : w.heap[b]? = some (.cells C T fz)) (n : Nat) (hn : C.size = n) : rowN w b 0 n = some C := by
  rw [rowN_blk h 0 n (by omega)]
  simp [← hn]
theorem rowN_heap {w w' : World} (b : Nat) (h : w'.heap[b]? = w.heap[b]?) (o n : Nat) : rowN w' b o n = rowN w b o n := by unfold rowN; rw [h]
theorem rowN_upd {S : Nat → Prop} {w w' : World} {b o n : Nat} {A : Array Value} (h : rowN w b o n = some A) (u : Upd S w w') (hn : ¬ S b) : rowN w' b o n = some A := by
  rw [rowN_heap b (u.block b ?_ hn)]
  · exact h
  · by_cases hb : b < w.heap.size
    · exact hb
    · have e : w.heap[b]? = none := by simp; omega
      unfold rowN at h
      rw [e] at h
      cases h
theorem rowN_q {w w' : World} {b o n : Nat} {A : Array Value} (h : rowN w b o n = some A) (q : Q w w') : rowN w' b o n = some A := by
  rw [rowN_heap (w := w) b (by rw [q.heap])]
  exact h
theorem rowN_lt {w : World} {b o n : Nat} {A : Array Value} (h : rowN w b o n = some A) : b < w.heap.size := by
  by_cases hb : b < w.heap.size
  · exact hb
  · have e : w.heap[b]? = none := by simp; omega
    unfold rowN at h
    rw [e] at h
    cases h

/-- THE LOAD, whole: a rule for the walk ('attribute [local go_sem ↓]' at a type of your own). -/
theorem run_loadAt_rowN {P : Program} (ty n : Nat) (d : TypeDesc) (hu : P.underlying ty = some d) (hd : d.isRow = true) (hi : (P.info? ty).map (·.size) = some n) (b o : Nat) (w : World) :
    (Instr.loadAt ty (.pointer (some ⟨b, o, none⟩))).run P w = match rowN w b o n with | some A => .ok (.agg A) w | none => slowLd P ty w b o := by
  cases h : rowN w b o n with
  | none =>
    simp only [Instr.loadAt, Instr.sureAddr, Sem.run_bind, Sem.run_pure, Result.andThen_ok, slowLd]
  | some A =>
    simp only
    rw [run_loadAt_mid w b o ty A.toList d (rowN_rangeAt h) hu hd (by rw [hi, Array.length_toList, (rowN_cell h).1])]

/-! ### Stores -/
/-- May a row of n cells be stored there? -/
def stOk (w : World) (b o n : Nat) (A : Array Value) : Bool :=
  (match w.heap[b]? with | some (.cells C _ fz) => decide (o + n ≤ C.size) && decide (fz = (0, 0)) | _ => false) && decide (A.size = n) && A.all (·.oneCell')
def slowSt (P : Program) (ty : TypeId) (w : World) (b o : Nat) (A : Array Value) : Result Unit := (Instr.storeAt ty (.pointer (some ⟨b, o, none⟩)) (.agg A)).run P w
theorem stOk_blk {w : World} {b : Nat} {C : Array Value} {T : TypeId} (h : w.heap[b]? = some (.cells C T (0, 0))) {o n : Nat} (hn : o + n ≤ C.size) {A : Array Value} (hA : A.size = n) (h1 : A.all (·.oneCell') = true) : stOk w b o n A = true := by
  unfold stOk
  rw [h]
  simp only [h1, Bool.and_true]
  simp [hn, hA]
theorem stOk_there {w : World} {b o n : Nat} {A : Array Value} (h : stOk w b o n A = true) : w.there b o A.size ∧ A.size = n ∧ A.all (·.oneCell') = true := by
  unfold stOk at h
  cases hb : w.heap[b]? with
  | none => rw [hb] at h; simp at h
  | some ob =>
    rw [hb] at h
    cases ob with
    | cells C T fz =>
      simp only [Bool.and_eq_true, decide_eq_true_eq] at h
      obtain ⟨⟨⟨h1, rfl⟩, h3⟩, h4⟩ := h
      refine ⟨fun j hj => ⟨?_, blk_free hb _⟩, h3, h4⟩
      rw [blk_cell hb, Array.getElem?_eq_getElem (by omega)]
      rfl
    | _ => simp at h
/-- THE STORE, whole. -/
theorem run_storeAt_row {P : Program} (ty n : Nat) (hi : (P.info? ty).map (·.size) = some n) (b o : Nat) (A : Array Value) (w : World) :
    (Instr.storeAt ty (.pointer (some ⟨b, o, none⟩)) (.agg A)).run P w = if stOk w b o n A = true then .ok () (w.setCells b o A.toList) else slowSt P ty w b o A := by
  by_cases h : stOk w b o n A = true
  · rw [if_pos h]
    obtain ⟨h1, h2, h3⟩ := stOk_there h
    exact run_storeAt_mid w b o ty A h1 (by rw [hi, h2]) h3
  · rw [if_neg h]
    rfl
/-- Cells laid into an array. -/
def layIn (C : Array Value) (o : Nat) : List Value → Array Value
  | [] => C
  | v :: r => layIn (C.setIfInBounds o v) (o + 1) r
theorem blk_setCells {w : World} {b : Nat} {C : Array Value} {T : TypeId} {fz : Nat × Nat} (h : w.heap[b]? = some (.cells C T fz)) (o : Nat) (vs : List Value) : (w.setCells b o vs).heap[b]? = some (.cells (layIn C o vs) T fz) := by
  induction vs generalizing w C o with
  | nil => exact h
  | cons v r ih => exact ih (blk_set h o v) (o + 1)
theorem layIn_size (C : Array Value) (o : Nat) (vs : List Value) : (layIn C o vs).size = C.size := by
  induction vs generalizing C o with
  | nil => rfl
  | cons v r ih => rw [layIn, ih, Array.size_setIfInBounds]
theorem layIn_get (C : Array Value) (o : Nat) (vs : List Value) (i : Nat) (h : o + vs.length ≤ C.size) : (layIn C o vs)[i]? = if o ≤ i ∧ i < o + vs.length then vs[i - o]? else C[i]? := by
  induction vs generalizing C o with
  | nil => simp [layIn]; intro h1 h2; omega
  | cons v r ih =>
    rw [layIn, ih _ _ (by simp only [List.length_cons] at h; rw [Array.size_setIfInBounds]; omega)]
    simp only [List.length_cons] at h ⊢
    by_cases h1 : o + 1 ≤ i ∧ i < o + 1 + r.length
    · rw [if_pos h1, if_pos (by omega)]
      obtain ⟨k, rfl⟩ : ∃ k, i = o + 1 + k := ⟨i - (o + 1), by omega⟩
      rw [show o + 1 + k - (o + 1) = k by omega, show o + 1 + k - o = k + 1 by omega, List.getElem?_cons_succ]
    · rw [if_neg h1, Array.getElem?_setIfInBounds]
      by_cases h2 : o = i
      · subst h2
        rw [if_pos rfl, if_pos (by omega), if_pos (by omega)]
        simp
      · rw [if_neg h2, if_neg (by omega)]
theorem Upd.setCells {w w' : World} {b : Nat} (h : Upd (· = b) w w') (o : Nat) (vs : List Value) : Upd (· = b) w (w'.setCells b o vs) := by
  induction vs generalizing w' o with
  | nil => exact h
  | cons v r ih => exact ih (h.set1 o v) (o + 1)

end Go.Proofs.YtbcjhpeighlncaaDoor

/-
  order: what the sort is given.
-/
namespace Go.Proofs.YtbcjhpeighlncaaDoor
set_option linter.unusedVariables false
set_option linter.unusedSimpArgs false
open Go.RowKit Go.Sort

theorem Tryd.infoItem : (Tryd.prog.info? 45).map (·.size) = some 36 := by kernel_rfl
/-- The load of an item, kept whole. -/
def ldItem (x : Value) : Sem Value := Instr.loadAt 45 x
theorem ld_item_fold (x : Value) : Instr.loadAt 45 x = ldItem x := rfl
theorem ld_item (b o : Nat) (w : World) : (ldItem (.pointer (some ⟨b, o, none⟩))).run Tryd.prog w = match rowN w b o 36 with | some A => .ok (.agg A) w | none => slowLd Tryd.prog 45 w b o :=
  run_loadAt_rowN 45 36 _ Tryd.underlying45 rfl Tryd.infoItem b o w
attribute [local go_sem ↓ high] ld_item_fold
attribute [local go_sem] ld_item

theorem rowN_g {w w' : World} {b o n : Nat} {A : Array Value} (h : rowN w b o n = some A) (g : G w w') : rowN w' b o n = some A := rowN_upd h g.new (fun h => h)
theorem carry_ord {w W W' : World} {a b : Nat} {A B : Array Value} {x y : Value} (h : rowN W a 0 36 = some A ∧ rowN W b 0 36 = some B ∧ W.cell? ⟨a, 1, none⟩ = some x ∧ W.cell? ⟨b, 1, none⟩ = some y ∧ G w W) (g : G W W') :
    rowN W' a 0 36 = some A ∧ rowN W' b 0 36 = some B ∧ W'.cell? ⟨a, 1, none⟩ = some x ∧ W'.cell? ⟨b, 1, none⟩ = some y ∧ G w W' :=
  ⟨rowN_g h.1 g, rowN_g h.2.1 g, g.new.cell h.2.2.1 (fun h => h), g.new.cell h.2.2.2.1 (fun h => h), h.2.2.2.2.trans g⟩
/-- What order tells of two items. -/
def ordI (oa ob : Bool) (ia ib : Int) : Int := cmp2 (rankI oa) (rankI ob) ia ib

set_option maxHeartbeats 1600000 in
theorem order_any (oa ob : Bool) (ia ib : Int) (A B : Array Value) (w : World) (hA : A.size = 36) (hB : B.size = 36)
    (a0 : A[0]? = some (.bool oa)) (a1 : A[1]? = some (.int .u64 ia)) (b0 : B[0]? = some (.bool ob)) (b1 : B[1]? = some (.int .u64 ib)) :
    Calls Tryd.prog 31 #[.agg A, .agg B] w (Grows (.int .i64 (ordI oa ob ia ib)) w) := by
  have ha : ((w.alloc (.cells A 45)).alloc (.cells B 45)).heap[w.heap.size]? = some (.cells A 45 (0, 0)) := blk_alloc_old (blk_alloc _ _) _
  have hb : ((w.alloc (.cells A 45)).alloc (.cells B 45)).heap[w.heap.size + 1]? = some (.cells B 45 (0, 0)) := by
    have := blk_alloc (w.alloc (.cells A 45)) (.cells B 45)
    rwa [World.size_alloc] at this
  have n0 : G w ((w.alloc (.cells A 45)).alloc (.cells B 45)) := ((G.refl w).alloc _).alloc _
  have ra := rowN_whole ha 36 hA
  have rb := rowN_whole hb 36 hB
  have ca := (blk_cell ha 1).trans a1
  have cb := (blk_cell hb 1).trans b1
  clear ha hb
  go_enter Tryd.func31, Tryd.ntmps31
  go_wp2_with fail
  generalize ((w.alloc (.cells A 45)).alloc (.cells B 45)) = wa at *
  go_region_held3 (fun w' => rowN w' w.heap.size 0 36 = some A ∧ rowN w' (w.heap.size + 1) 0 36 = some B ∧ w'.cell? ⟨w.heap.size, 1, none⟩ = some (.int .u64 ia) ∧ w'.cell? ⟨w.heap.size + 1, 1, none⟩ = some (.int .u64 ib) ∧ G w w')
    (first | exact ⟨ra, rb, ca, cb, n0.drew⟩ | (refine carry_ord ?_ (by assumption); first | assumption | exact ⟨by assumption, by assumption, by assumption, by assumption, by assumption⟩) | (refine carry_ord ?_ ((G.refl _).alloc _); first | assumption | exact ⟨by assumption, by assumption, by assumption, by assumption, by assumption⟩))
    (first
      | (go_at_call_of 38 (Value.agg A); refine (rank_any oa A _ a0).mono ?_; rintro e w2 ⟨rfl, g2⟩)
      | (go_at_call_of 38 (Value.agg B); refine (rank_any ob B _ b0).mono ?_; rintro e w3 ⟨rfl, g3⟩)
      | (go_at_call 50; refine (compare_any (rankI oa) (rankI ob) ia ib _ _ (blk_cell (blk_alloc _ _) 0) (blk_cell (blk_alloc _ _) 1) (blk_cell (blk_alloc _ _) 2) (blk_cell (blk_alloc _ _) 3)).mono ?_; rintro e w4 ⟨rfl, g4⟩))
  go_wp2
  go_ret
  have hS := ‹rowN _ _ _ _ = some A ∧ rowN _ _ _ _ = some B ∧ _›
  exact ⟨rfl, hS.2.2.2.2⟩

end Go.Proofs.YtbcjhpeighlncaaDoor

/-
  A row of items in a block; two of them change places.
-/
namespace Go.Proofs.YtbcjhpeighlncaaDoor
set_option linter.unusedVariables false
set_option linter.unusedSimpArgs false
open Go.RowKit Go.Sort

instance : Inhabited Htlc := ⟨⟨0, 0, Vector.replicate 32 0, 0⟩⟩
instance : Inhabited Item := ⟨⟨false, default⟩⟩
/-- From off on, block g holds the items xs, and may be written. -/
def Held (w : World) (g off : Nat) (xs : List Item) : Prop :=
  ∃ C T, w.heap[g]? = some (.cells C T (0, 0)) ∧ off + xs.length * 36 ≤ C.size ∧ ∀ i, i < xs.length → ∀ j, j < 36 → C[off + i * 36 + j]? = (itemCells xs[i]!)[j]?
theorem Held.row {w : World} {g off : Nat} {xs : List Item} (h : Held w g off xs) {i : Nat} (hi : i < xs.length) : rowN w g (off + i * 36) 36 = some (itemCells xs[i]!).toArray := by
  obtain ⟨C, T, hb, hs, hc⟩ := h
  have hle : off + i * 36 + 36 ≤ C.size := by have := Nat.mul_le_mul_right 36 (show i + 1 ≤ xs.length from hi); omega
  rw [rowN_blk hb _ _ hle]
  congr 1
  apply Array.ext'
  apply List.ext_getElem?
  intro j
  rw [Array.getElem?_toList, Array.getElem?_extract]
  by_cases hj : j < 36
  · rw [if_pos (by omega), hc i hi j hj]
  · rw [if_neg (by omega), List.getElem?_eq_none (by rw [item_len]; omega)]
theorem Held.ok {w : World} {g off : Nat} {xs : List Item} (h : Held w g off xs) {i : Nat} (hi : i < xs.length) (y : Item) : stOk w g (off + i * 36) 36 (itemCells y).toArray = true := by
  obtain ⟨C, T, hb, hs, hc⟩ := h
  have hle : off + i * 36 + 36 ≤ C.size := by have := Nat.mul_le_mul_right 36 (show i + 1 ≤ xs.length from hi); omega
  exact stOk_blk hb hle (by rw [List.size_toArray, item_len]) (by rw [List.all_toArray, List.all_eq_true]; exact item_one y)
theorem Held.set {w : World} {g off : Nat} {xs : List Item} (h : Held w g off xs) {i : Nat} (hi : i < xs.length) (y : Item) : Held (w.setCells g (off + i * 36) (itemCells y)) g off (xs.set i y) := by
  obtain ⟨C, T, hb, hs, hc⟩ := h
  have hle : off + i * 36 + 36 ≤ C.size := by have := Nat.mul_le_mul_right 36 (show i + 1 ≤ xs.length from hi); omega
  refine ⟨_, T, blk_setCells hb _ _, by rw [layIn_size, List.length_set]; exact hs, fun k hk j hj => ?_⟩
  rw [List.length_set] at hk
  rw [layIn_get _ _ _ _ (by rw [item_len]; exact hle), item_len]
  by_cases e : i = k
  · subst e
    rw [if_pos (by omega), show off + i * 36 + j - (off + i * 36) = j by omega]
    simp [hk]
  · rw [if_neg ?_, hc k hk j hj]
    · rw [List.getElem!_eq_getElem?_getD, List.getElem!_eq_getElem?_getD, List.getElem?_set_ne e]
    · rcases Nat.lt_or_gt_of_ne e with h | h
      · have := Nat.mul_le_mul_right 36 (show i + 1 ≤ k from h); omega
      · have := Nat.mul_le_mul_right 36 (show k + 1 ≤ i from h); omega
theorem Held.upd {S : Nat → Prop} {w w' : World} {g off : Nat} {xs : List Item} (h : Held w g off xs) (u : Upd S w w') (hn : ¬ S g) : Held w' g off xs := by
  obtain ⟨C, T, hb, r⟩ := h
  exact ⟨C, T, u.old hb hn, r⟩
theorem Held.drewN {w : World} {g off : Nat} {xs : List Item} (h : Held w g off xs) (n : Nat) : Held (w.drewN n) g off xs := h
theorem Held.drew {w : World} {g off : Nat} {xs : List Item} (h : Held w g off xs) : Held w.drew g off xs := h
theorem Held.lt {w : World} {g off : Nat} {xs : List Item} (h : Held w g off xs) : g < w.heap.size := by
  obtain ⟨C, T, hb, r⟩ := h
  exact blk_lt hb
/-- Two of them change places. -/
def swapL (xs : List Item) (i j : Nat) : List Item := (xs.set i xs[j]!).set j xs[i]!
theorem swapL_len (xs : List Item) (i j : Nat) : (swapL xs i j).length = xs.length := by simp [swapL]
theorem Held.swap {w : World} {g off : Nat} {xs : List Item} (h : Held w g off xs) {i j : Nat} (hi : i < xs.length) (hj : j < xs.length) :
    Held ((w.setCells g (off + i * 36) (itemCells xs[j]!)).setCells g (off + j * 36) (itemCells xs[i]!)) g off (swapL xs i j) :=
  (h.set hi _).set (by rw [List.length_set]; exact hj) _

/-- The store of an item, kept whole. -/
def stItem (x v : Value) : Sem Unit := Instr.storeAt 45 x v
theorem st_item_fold (x v : Value) : Instr.storeAt 45 x v = stItem x v := rfl
theorem st_item (b o : Nat) (A : Array Value) (w : World) : (stItem (.pointer (some ⟨b, o, none⟩)) (.agg A)).run Tryd.prog w = if stOk w b o 36 A = true then .ok () (w.setCells b o A.toList) else slowSt Tryd.prog 45 w b o A :=
  run_storeAt_row 45 36 Tryd.infoItem b o A w
attribute [local go_sem ↓ high] ld_item_fold st_item_fold
attribute [local go_sem] ld_item st_item

/-- n times, from a and from b on. -/
def swapN (xs : List Item) (a b : Nat) : Nat → List Item
  | 0 => xs
  | n + 1 => swapL (swapN xs a b n) (a + n) (b + n)
theorem swapN_len (xs : List Item) (a b n : Nat) : (swapN xs a b n).length = xs.length := by
  induction n with
  | zero => rfl
  | succ n ih => rw [swapN, swapL_len, ih]

set_option maxHeartbeats 1000000 in
theorem swaprange_any (g off cap a b n : Nat) (xs : List Item) (fv : Value) (w : World) (h : Held w g off xs) (ha : a + n ≤ xs.length) (hb : b + n ≤ xs.length) (hm : xs.length ≤ 4611686018427387904) :
    Calls Tryd.prog 73 #[.slice (some ⟨g, off, none⟩) xs.length cap, .int .i64 a, .int .i64 b, .int .i64 n, fv] w fun e w' => e = .returned (.tuple #[]) ∧ Upd (· = g) w w' ∧ Held w' g off (swapN xs a b n) := by
  go_enter Tryd.func73, Tryd.ntmps73
  go_wp2_with fail
  go_loopw [10] (fun iv wr => ∃ i : Nat, iv = .int .i64 i ∧ i ≤ n ∧ Upd (· = g) w wr ∧ Held wr g off (swapN xs a b i)) (fun iv _ => n - (intOf iv).toNat)
  case atStart => exact ⟨0, rfl, Nat.zero_le _, Upd.refl _ _, h⟩
  case round =>
    obtain ⟨i, rfl, hi, hu, hh⟩ := hrel
    by_cases hlt : i < n
    · have hl := swapN_len xs a b i
      have hia : a + i < (swapN xs a b i).length := by omega
      have hib : b + i < (swapN xs a b i).length := by omega
      have hd := hh.drew
      have l1 := hd.row hia
      have l2 := hd.row hib
      have s1 := hd.ok hia (swapN xs a b i)[b + i]!
      have s2 := (hd.set hia (swapN xs a b i)[b + i]!).ok (by rw [List.length_set]; exact hib) (swapN xs a b i)[a + i]!
      have hsw := hide (show Held _ g off (swapN xs a b (i + 1)) from hd.swap hia hib)
      generalize swapN xs a b i = ys at *
      generalize ys[a + i]! = x at *
      generalize ys[b + i]! = y at *
      generalize itemCells x = cx at *
      generalize itemCells y = cy at *
      have Hl := hide hl
      clear hl hh hd
      go_wp2_with fail
      go_region
      go_wp2
      go_roundw
      case rel => exact ⟨i + 1, by go_num, by omega, (hu.drew.setCells _ _).setCells _ _, unhide hsw⟩
      case measure => simp [intOf]; omega
    · obtain rfl : i = n := by omega
      go_wp2
      go_end0
      exact ⟨rfl, hu, hh⟩

end Go.Proofs.YtbcjhpeighlncaaDoor
