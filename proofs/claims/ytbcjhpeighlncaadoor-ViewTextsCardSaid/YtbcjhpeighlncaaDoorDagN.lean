/-
  XDag2's law at a common form: one operation makes a block, one stores a row into it, all others yield values that are known beforehand; nothing that was there is written.
-/
import Derived.Test.YtbcjhpeighlncaaDoorDag2
import Derived.Test.YtbcjhpeighlncaaDoorDagP
import Derived.Test.YtbcjhpeighlncaaDoorMae
namespace Go.Proofs.YtbcjhpeighlncaaDoor
set_option linter.unusedVariables false
set_option linter.unusedSimpArgs false
open Go.RowKit

/-- Blocks from B on keep their shape. -/
def ShapeB (B : Nat) (w w' : World) : Prop := Upd (fun k => B ≤ k) w w' ∧ ∀ (g : Nat) (T : TypeId) (cs : Array Value), w.heap[g]? = some (.cells cs T (0, 0)) → ∃ cs' : Array Value, cs'.size = cs.size ∧ w'.heap[g]? = some (.cells cs' T (0, 0))
def RN (B st j : Nat) (w w' : World) : Prop := if j = st then ShapeB B w w' else New w w'
theorem RN.refl (B st j : Nat) (w : World) : RN B st j w w := by
  unfold RN
  split
  · exact ⟨Upd.refl _ _, fun g T cs h => ⟨cs, rfl, h⟩⟩
  · exact Upd.refl _ _
/-- What is known of each operation. -/
def isN (B al st n : Nat) (r : Array Value) (xs : List Value) (i : Nat) (vals : Nat → Value) (w : World) : Prop :=
  if i = al then ∃ (g : Nat) (T : TypeId) (cs : Array Value), vals al = .pointer (some ⟨g, 0, none⟩) ∧ B ≤ g ∧ w.heap[g]? = some (.cells cs T (0, 0)) ∧ cs.size = n
  else if i = st then ∃ (g : Nat) (T : TypeId), vals al = .pointer (some ⟨g, 0, none⟩) ∧ B ≤ g ∧ w.heap[g]? = some (.cells r T (0, 0))
  else vals i = xs.getD i undef
theorem isN_val {B al st n : Nat} {r : Array Value} {xs : List Value} {i : Nat} {vals : Nat → Value} {w : World} (h1 : i ≠ al) (h2 : i ≠ st) (h : isN B al st n r xs i vals w) : vals i = xs.getD i undef := by
  unfold isN at h
  rwa [if_neg h1, if_neg h2] at h
theorem isN_of {B al st n : Nat} {r : Array Value} {xs : List Value} {i : Nat} {vals : Nat → Value} {v : Value} {w : World} (h1 : i ≠ al) (h2 : i ≠ st) (h : v = xs.getD i undef) : isN B al st n r xs i (upV vals i v) w := by
  unfold isN
  rw [if_neg h1, if_neg h2, upV_same]
  exact h
def isX (xs : List Value) (i : Nat) (v : Value) : Prop := v = xs.getD i undef
section
variable {P : Program} {l : List Oper} {A : List (Nat × Nat)} {L : List (List (Nat × Nat))} {n : Nat}
theorem wp_dagN {id : Nat} {a : Act} {w : World} {Q : Exit → Act → World → Prop} (hm : P.follows .mixedOrders = true) (L : List (List (Nat × Nat))) (n : Nat) (hn : a.tmps.size = n) (hL : dagB l (ancL l []) L n = true) (A : List (Nat × Nat)) (hA : allSlots l = A)
    (al st m : Nat) (hne : (al == st) = false) (hal : decide (al < l.length) = true) (hsl : decide (st < l.length) = true) (hLa : ((L.getD st []).any fun p => p.1 == al) = true) (r : Array Value) (xs : List Value)
    (steps : DagStepsG P a (fun w' => New w w') (RN w.heap.size st) (isN w.heap.size al st m r xs) 0 l L)
    (fin : ∀ (vals : Nat → Value) (w' : World) (g : Nat) (T : TypeId), New w w' → vals al = .pointer (some ⟨g, 0, none⟩) → w.heap.size ≤ g → w'.heap[g]? = some (.cells r T (0, 0)) → (∀ i, i < l.length → i ≠ al → i ≠ st → vals i = xs.getD i undef) → Q .normal (putL a vals A) w') :
    (Code.region id l.toArray true).wp P Q a w := by
  have hne' : al ≠ st := by simpa using hne
  refine wp_dagG hm L n hn hL A hA (fun w' => New w w') (RN w.heap.size st) (isN w.heap.size al st m r xs) (Upd.refl _ _).drew (fun i w => RN.refl _ _ _ _) ?_ ?_ steps ?_
  · intro i k vals v w' hki hp h
    unfold isN at h ⊢
    by_cases h1 : i = al
    · rw [if_pos h1] at h ⊢
      subst h1
      rw [upV_other _ _ (fun e => hki e.symm)]
      exact h
    · rw [if_neg h1] at h ⊢
      by_cases h2 : i = st
      · rw [if_pos h2] at h ⊢
        subst h2
        obtain ⟨p, hpm, hpe⟩ := List.any_eq_true.1 hLa
        have := hp p hpm
        have hpe' : p.1 = al := by simpa using hpe
        rw [upV_other _ _ (fun e => this (hpe'.trans e))]
        exact h
      · rw [if_neg h2] at h ⊢
        rw [upV_other _ _ (fun e => hki e.symm)]
        exact h
  · intro i j vals w1 w2 hij _ _ hR h
    unfold isN at h ⊢
    unfold RN at hR
    by_cases h1 : i = al
    · rw [if_pos h1] at h ⊢
      obtain ⟨g, T, cs, e1, e2, hg, hs⟩ := h
      by_cases hj : j = st
      · rw [if_pos hj] at hR
        obtain ⟨cs', hs', hg'⟩ := hR.2 g T cs hg
        exact ⟨g, T, cs', e1, e2, hg', hs'.trans hs⟩
      · rw [if_neg hj] at hR
        exact ⟨g, T, cs, e1, e2, hR.old hg (fun h => h), hs⟩
    · rw [if_neg h1] at h ⊢
      by_cases h2 : i = st
      · rw [if_pos h2] at h ⊢
        obtain ⟨g, T, e1, e2, hg⟩ := h
        rw [if_neg (fun e => hij (h2.trans e.symm))] at hR
        exact ⟨g, T, e1, e2, hR.old hg (fun h => h)⟩
      · rw [if_neg h2] at h ⊢
        exact h
  · intro vals w' hS hΦ
    have h1 := hΦ st (by simpa using hsl)
    unfold isN at h1
    rw [if_neg (fun e => hne' e.symm), if_pos rfl] at h1
    obtain ⟨g, T, e1, e2, hg⟩ := h1
    exact fin vals w' g T hS e1 e2 hg fun i hi h1 h2 => isN_val h1 h2 (hΦ i hi)

variable {a0 : Act} {wo : World} {al st m i : Nat} {r : Array Value} {xs : List Value} {o : Oper} {os : List Oper} {Li : List (Nat × Nat)} {L' : List (List (Nat × Nat))}
/-- A step that yields a value known beforehand, and may make blocks. -/
theorem DagStepsG.nval (hg : o.guard = none) (h1 : (i == al) = false) (h2 : (i == st) = false)
    (h : ∀ (vals : Nat → Value) (w : World), New wo w → PremG (isN wo.heap.size al st m r xs) vals w Li → opRun P o (putL a0 vals Li).eval w fun v w' => New w w' ∧ isX xs i v)
    (k : DagStepsG P a0 (fun w' => New wo w') (RN wo.heap.size st) (isN wo.heap.size al st m r xs) (i + 1) os L') : DagStepsG P a0 (fun w' => New wo w') (RN wo.heap.size st) (isN wo.heap.size al st m r xs) i (o :: os) (Li :: L') :=
  DagStepsG.plain hg (fun vals w hS hp => opRun_mono (h vals w hS hp) fun v w' hv => by
    have h1' : i ≠ al := by simpa using h1
    have h2' : i ≠ st := by simpa using h2
    refine ⟨?_, hS.trans hv.1, isN_of h1' h2' hv.2⟩
    unfold RN
    rw [if_neg h2']
    exact hv.1) k
/-- The block is made. -/
theorem DagStepsG.nalloc (hg : o.guard = none) (h1 : (i == al) = true) (h2 : (i == st) = false) (C : Array Value) (T : TypeId) (hC : C.size = m)
    (h : ∀ (vals : Nat → Value) (w : World), (execOp (putL a0 vals Li).eval o).run P w = .ok (.value (.pointer (some ⟨w.heap.size, 0, none⟩))) (w.alloc (.cells C T)))
    (k : DagStepsG P a0 (fun w' => New wo w') (RN wo.heap.size st) (isN wo.heap.size al st m r xs) (i + 1) os L') : DagStepsG P a0 (fun w' => New wo w') (RN wo.heap.size st) (isN wo.heap.size al st m r xs) i (o :: os) (Li :: L') :=
  DagStepsG.plain hg (fun vals w hS hp => opRun_value (h vals w) (by
    have h1' : i = al := by simpa using h1
    have h2' : i ≠ st := by simpa using h2
    refine ⟨?_, Upd.alloc hS _, ?_⟩
    · unfold RN
      rw [if_neg h2']
      exact (Upd.refl _ _).alloc _
    · unfold isN
      rw [if_pos h1', ← h1', upV_same]
      exact ⟨_, T, C, rfl, hS.size, blk_alloc _ _, hC⟩)) k
/-- The row is stored. -/
theorem DagStepsG.nstore (hg : o.guard = none) (h1 : (i == al) = false) (h2 : (i == st) = true) (hal : (Li.any fun p => p.1 == al) = true) (hr : r.size = m)
    (h : ∀ (vals : Nat → Value) (w : World) (g : Nat) (T : TypeId) (cs : Array Value), vals al = .pointer (some ⟨g, 0, none⟩) → w.heap[g]? = some (.cells cs T (0, 0)) → cs.size = m → PremG (isN wo.heap.size al st m r xs) vals w Li →
      opRun P o (putL a0 vals Li).eval w fun _ w' => w' = w.setCells g 0 r.toList)
    (k : DagStepsG P a0 (fun w' => New wo w') (RN wo.heap.size st) (isN wo.heap.size al st m r xs) (i + 1) os L') : DagStepsG P a0 (fun w' => New wo w') (RN wo.heap.size st) (isN wo.heap.size al st m r xs) i (o :: os) (Li :: L') :=
  DagStepsG.plain hg (fun vals w hS hp => by
    have h1' : i ≠ al := by simpa using h1
    have h2' : i = st := by simpa using h2
    obtain ⟨g, T, cs, e1, e2, hb, hsz⟩ : ∃ (g : Nat) (T : TypeId) (cs : Array Value), vals al = .pointer (some ⟨g, 0, none⟩) ∧ wo.heap.size ≤ g ∧ w.heap[g]? = some (.cells cs T (0, 0)) ∧ cs.size = m := by
      have key : ∀ Li : List (Nat × Nat), (Li.any fun p => p.1 == al) = true → PremG (isN wo.heap.size al st m r xs) vals w Li → isN wo.heap.size al st m r xs al vals w := by
        intro Li
        induction Li with
        | nil => intro h; simp at h
        | cons p Li ih =>
          intro hh hp
          rw [List.any_cons, Bool.or_eq_true] at hh
          rcases hh with hh | hh
          · have : p.1 = al := by simpa using hh
            rw [← this]
            exact this ▸ hp.1
          · exact ih hh hp.2
      have := key Li hal hp
      unfold isN at this
      rwa [if_pos rfl] at this
    refine opRun_mono (h vals w g T cs e1 hb hsz hp) fun v w' hw => ?_
    subst hw
    have hb2 := blk_setCells hb 0 r.toList
    have uu : Upd (fun k => wo.heap.size ≤ k) w (w.setCells g 0 r.toList) := ((Upd.refl (· = g) w).setCells 0 r.toList).mono (fun k _ e => by subst e; exact e2)
    refine ⟨?_, ?_, ?_⟩
    · unfold RN
      rw [if_pos h2']
      refine ⟨uu, fun g' T' cs' hg' => ?_⟩
      by_cases he : g' = g
      · subst he
        rw [hb] at hg'
        cases hg'
        exact ⟨_, layIn_size _ _ _, hb2⟩
      · exact ⟨cs', rfl, ((Upd.refl (· = g) w).setCells 0 r.toList).old hg' he⟩
    · exact hS.then uu (fun k hk e => by omega)
    · unfold isN
      rw [if_neg h1', if_pos h2', upV_other _ _ (fun e => h1' e.symm)]
      refine ⟨g, T, e1, e2, ?_⟩
      rw [hb2]
      congr 2
      refine Array.ext_getElem? fun j => ?_
      rw [layIn_get cs 0 r.toList j (by rw [Array.length_toList]; omega)]
      by_cases hj : j < r.size
      · rw [if_pos (by rw [Array.length_toList]; omega)]; simp
      · have z1 : cs[j]? = none := Array.getElem?_eq_none (by omega)
        have z2 : r[j]? = none := Array.getElem?_eq_none (by omega)
        rw [if_neg (by rw [Array.length_toList]; omega), z1, z2]) k
end
end Go.Proofs.YtbcjhpeighlncaaDoor
