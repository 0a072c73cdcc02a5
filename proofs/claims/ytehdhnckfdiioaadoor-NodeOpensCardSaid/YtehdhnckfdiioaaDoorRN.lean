/-
  Structs and arrays by value, out of and into the middle of a block: 'rowN'; rules for the walk that take such a load, or store, whole.
-/
import Derived.Test.YtehdhnckfdiioaaDoorBase
import Derived.Deep.MidRow
namespace Go.Proofs.YtehdhnckfdiioaaDoor
open Go.RowKit

/-- The n cells of block b from o on. -/
def rowN (w : World) (b o n : Nat) : Option (Array Value) :=
  match w.heap[b]? with
  | some (.cells C _ _) => if o + n ≤ C.size then some (C.extract o (o + n)) else none
  | _ => none
/-- What a load of a row comes to that is not there whole: nobody looks. -/
def slowLd (P : Program) (ty : TypeId) (w : World) (b o : Nat) : Result Value := (loadVar ty ⟨b, o, none⟩).run P w
theorem rowN_cell {w : World} {b o n : Nat} {A : Array Value} (h : rowN w b o n = some A) : A.size = n ∧ ∀ j, j < n → w.cell? ⟨b, o + j, none⟩ = A[j]? := by
  unfold rowN at h
  cases hb : w.heap[b]? with
  | none => rw [hb] at h; cases h
  | some ob =>
    rw [hb] at h
    cases ob with
    | cells C T fz =>
      simp only at h
      split at h
      · rename_i hle
        injection h with h
        subst h
        refine ⟨by simp; omega, fun j hj => ?_⟩
        rw [blk_cell hb, Array.getElem?_extract, if_pos (by omega)]
      · cases h
    | _ => cases h
theorem rowN_rangeAt {w : World} {b o n : Nat} {A : Array Value} (h : rowN w b o n = some A) : w.rangeAt b o A.toList := by
  obtain ⟨hs, hc⟩ := rowN_cell h
  intro j v hv
  rw [Array.getElem?_toList] at hv
  have hj : j < n := by
    have := (Array.getElem?_eq_some_iff.1 hv).1
    omega
  rw [hc j hj, hv]
theorem rowN_blk {w : World} {b : Nat} {C : Array Value} {T : TypeId} {fz : Nat × Nat} (h : w.heap[b]? = some (.cells C T fz)) (o n : Nat) (hn : o + n ≤ C.size) : rowN w b o n = some (C.extract o (o + n)) := by
  unfold rowN
  rw [h]
  simp only
  rw [if_pos hn]
theorem rowN_whole {w : World} {b : Nat} {C : Array Value} {T : TypeId} {fz : Nat × Nat} (h : w.heap[b]? = some (.cells C T fz)) (n : Nat) (hn : C.size = n) : rowN w b 0 n = some C := by
  rw [rowN_blk h 0 n (by omega)]
  simp [← hn]
theorem rowN_heap {w w' : World} (b : Nat) (h : w'.heap[b]? = w.heap[b]?) (o n : Nat) : rowN w' b o n = rowN w b o n := by unfold rowN; rw [h]
theorem rowN_upd {S : Nat → Prop} {w w' : World} {b o n : Nat} {A : Array Value} (h : rowN w b o n = some A) (u : Upd S w w') (hn : ¬ S b) : rowN w' b o n = some A := by
  rw [rowN_heap b (u.block b ?_ hn)]
  · exact h
  · by_cases hb : b < w.heap.size
    · exact hb
    · have e : w.heap[b]? = none := by simp; omega
      unfold rowN at h
      rw [e] at h
      cases h
theorem rowN_q {w w' : World} {b o n : Nat} {A : Array Value} (h : rowN w b o n = some A) (q : Q w w') : rowN w' b o n = some A := by
  rw [rowN_heap (w := w) b (by rw [q.heap])]
  exact h
theorem rowN_lt {w : World} {b o n : Nat} {A : Array Value} (h : rowN w b o n = some A) : b < w.heap.size := by
  by_cases hb : b < w.heap.size
  · exact hb
  · have e : w.heap[b]? = none := by simp; omega
    unfold rowN at h
    rw [e] at h
    cases h

/-- THE LOAD, whole: a rule for the walk ('attribute [local go_sem ↓]' at a type of your own). -/
theorem run_loadAt_rowN {P : Program} (ty n : Nat) (d : TypeDesc) (hu : P.underlying ty = some d) (hd : d.isRow = true) (hi : (P.info? ty).map (·.size) = some n) (b o : Nat) (w : World) :
    (Instr.loadAt ty (.pointer (some ⟨b, o, none⟩))).run P w = match rowN w b o n with | some A => .ok (.agg A) w | none => slowLd P ty w b o := by
  cases h : rowN w b o n with
  | none =>
    simp only [Instr.loadAt, Instr.sureAddr, Sem.run_bind, Sem.run_pure, Result.andThen_ok, slowLd]
  | some A =>
    simp only
    rw [run_loadAt_mid w b o ty A.toList d (rowN_rangeAt h) hu hd (by rw [hi, Array.length_toList, (rowN_cell h).1])]

/-! ### Stores -/
/-- May a row of n cells be stored there? -/
def stOk (w : World) (b o n : Nat) (A : Array Value) : Bool :=
  (match w.heap[b]? with | some (.cells C _ fz) => decide (o + n ≤ C.size) && decide (fz = (0, 0)) | _ => false) && decide (A.size = n) && A.all (·.oneCell')
def slowSt (P : Program) (ty : TypeId) (w : World) (b o : Nat) (A : Array Value) : Result Unit := (Instr.storeAt ty (.pointer (some ⟨b, o, none⟩)) (.agg A)).run P w
theorem stOk_blk {w : World} {b : Nat} {C : Array Value} {T : TypeId} (h : w.heap[b]? = some (.cells C T (0, 0))) {o n : Nat} (hn : o + n ≤ C.size) {A : Array Value} (hA : A.size = n) (h1 : A.all (·.oneCell') = true) : stOk w b o n A = true := by
  unfold stOk
  rw [h]
  simp only [h1, Bool.and_true]
  simp [hn, hA]
theorem stOk_there {w : World} {b o n : Nat} {A : Array Value} (h : stOk w b o n A = true) : w.there b o A.size ∧ A.size = n ∧ A.all (·.oneCell') = true := by
  unfold stOk at h
  cases hb : w.heap[b]? with
  | none => rw [hb] at h; simp at h
  | some ob =>
    rw [hb] at h
    cases ob with
    | cells C T fz =>
      simp only [Bool.and_eq_true, decide_eq_true_eq] at h
      obtain ⟨⟨⟨h1, rfl⟩, h3⟩, h4⟩ := h
      refine ⟨fun j hj => ⟨?_, blk_free hb _⟩, h3, h4⟩
      rw [blk_cell hb, Array.getElem?_eq_getElem (by omega)]
      rfl
    | _ => simp at h
/-- THE STORE, whole. -/
theorem run_storeAt_row {P : Program} (ty n : Nat) (hi : (P.info? ty).map (·.size) = some n) (b o : Nat) (A : Array Value) (w : World) :
    (Instr.storeAt ty (.pointer (some ⟨b, o, none⟩)) (.agg A)).run P w = if stOk w b o n A = true then .ok () (w.setCells b o A.toList) else slowSt P ty w b o A := by
  by_cases h : stOk w b o n A = true
  · rw [if_pos h]
    obtain ⟨h1, h2, h3⟩ := stOk_there h
    exact run_storeAt_mid w b o ty A h1 (by rw [hi, h2]) h3
  · rw [if_neg h]
    rfl
/-- Cells laid into an array. -/
def layIn (C : Array Value) (o : Nat) : List Value → Array Value
  | [] => C
  | v :: r => layIn (C.setIfInBounds o v) (o + 1) r
theorem blk_setCells {w : World} {b : Nat} {C : Array Value} {T : TypeId} {fz : Nat × Nat} (h : w.heap[b]? = some (.cells C T fz)) (o : Nat) (vs : List Value) : (w.setCells b o vs).heap[b]? = some (.cells (layIn C o vs) T fz) := by
  induction vs generalizing w C o with
  | nil => exact h
  | cons v r ih => exact ih (blk_set h o v) (o + 1)
theorem layIn_size (C : Array Value) (o : Nat) (vs : List Value) : (layIn C o vs).size = C.size := by
  induction vs generalizing C o with
  | nil => rfl
  | cons v r ih => rw [layIn, ih, Array.size_setIfInBounds]
theorem layIn_get (C : Array Value) (o : Nat) (vs : List Value) (i : Nat) (h : o + vs.length ≤ C.size) : (layIn C o vs)[i]? = if o ≤ i ∧ i < o + vs.length then vs[i - o]? else C[i]? := by
  induction vs generalizing C o with
  | nil => simp [layIn]; intro h1 h2; omega
  | cons v r ih =>
    rw [layIn, ih _ _ (by simp only [List.length_cons] at h; rw [Array.size_setIfInBounds]; omega)]
    simp only [List.length_cons] at h ⊢
    by_cases h1 : o + 1 ≤ i ∧ i < o + 1 + r.length
    · rw [if_pos h1, if_pos (by omega)]
      obtain ⟨k, rfl⟩ : ∃ k, i = o + 1 + k := ⟨i - (o + 1), by omega⟩
      rw [show o + 1 + k - (o + 1) = k by omega, show o + 1 + k - o = k + 1 by omega, List.getElem?_cons_succ]
    · rw [if_neg h1, Array.getElem?_setIfInBounds]
      by_cases h2 : o = i
      · subst h2
        rw [if_pos rfl, if_pos (by omega), if_pos (by omega)]
        simp
      · rw [if_neg h2, if_neg (by omega)]
theorem Upd.setCells {w w' : World} {b : Nat} (h : Upd (· = b) w w') (o : Nat) (vs : List Value) : Upd (· = b) w (w'.setCells b o vs) := by
  induction vs generalizing w' o with
  | nil => exact h
  | cons v r ih => exact ih (h.set1 o v) (o + 1)

end Go.Proofs.YtehdhnckfdiioaaDoor
