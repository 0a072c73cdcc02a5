/-
  The items of a view are told by what is live alone; the mirror of what is live.
-/
import Derived.Test.YtbcjhpeighlncaaDoorPl1
import Derived.Test.YtbcjhpeighlncaaDoorRf4
import Derived.Test.YtbcjhpeighlncaaDoorLwO
namespace Go.Proofs.YtbcjhpeighlncaaDoor
open Go.RowKit Go.Sort

/-- The items I, in the order of a view. -/
def IsView (I X : List Item) : Prop := ∃ M : List (Item × Nat), M.Perm I.zipIdx ∧ Srt M ∧ X = its M
theorem srt_unique {M N : List (Item × Nat)} (h : M.Perm N) (hm : Srt M) (hn : Srt N) : M = N := by
  induction M generalizing N with
  | nil => exact (List.Perm.nil_eq h)
  | cons x M ih =>
    cases N with
    | nil => exact absurd h.length_eq (by simp)
    | cons y N =>
      have hxy : x = y := by
        have h1 : x ∈ y :: N := h.subset (List.mem_cons_self ..)
        have h2 : y ∈ x :: M := h.symm.subset (List.mem_cons_self ..)
        rcases List.mem_cons.1 h1 with e | h1
        · exact e
        · rcases List.mem_cons.1 h2 with e | h2
          · exact e.symm
          · have a := (List.pairwise_cons.1 hm).1 y h2
            have b := (List.pairwise_cons.1 hn).1 x h1
            exact absurd (lt'_trans a b) (lt'_irrefl x)
      subst hxy
      rw [ih (List.Perm.cons_inv h) (List.pairwise_cons.1 hm).2 (List.pairwise_cons.1 hn).2]
theorem isView_unique {I X Y : List Item} (h : IsView I X) (k : IsView I Y) : X = Y := by
  obtain ⟨M, pM, sM, rfl⟩ := h
  obtain ⟨N, pN, sN, rfl⟩ := k
  rw [srt_unique (pM.trans pN.symm) sM sN]
open Classical in
noncomputable def viewL (I : List Item) : List Item := if h : ∃ X, IsView I X then h.choose else []
theorem viewL_eq {I X : List Item} (h : IsView I X) : X = viewL I := by
  have hx : ∃ X, IsView I X := ⟨X, h⟩
  unfold viewL
  rw [dif_pos hx]
  exact isView_unique h hx.choose_spec
theorem viewL_perm {I : List Item} (h : IsView I (viewL I)) : (viewL I).Perm I := by
  obtain ⟨M, pM, _, e⟩ := h
  rw [e]
  have := pM.map (·.1)
  simpa [its, List.zipIdx_map_fst] using this

/-- What view.Of comes to. -/
theorem of_view (ours : Bool) (l r : Int) (v : Value) (xs : List Live) (hl : xs.length ≤ 1048576) (w : World) (hG : Spans w) (hv : Lives w v xs) :
    Calls Tryd.prog 12 #[.bool ours, .agg #[.int .u64 l, .int .u64 r], v] w fun e w' => ∃ u, e = .returned (.agg #[.int .u64 (if ours then (sumsOf ours l r xs).1 else (sumsOf ours l r xs).2), .int .u64 (if ours then (sumsOf ours l r xs).2 else (sumsOf ours l r xs).1), u]) ∧
      New w w' ∧ Items w' u (viewL (itemsOf ours xs)) ∧ IsView (itemsOf ours xs) (viewL (itemsOf ours xs)) := by
  refine (of_any ours l r v xs hl w hG hv).mono ?_
  rintro e w' ⟨u, X, he, hn, hi, hM⟩
  have e1 := viewL_eq (I := itemsOf ours xs) hM
  have h2 : IsView (itemsOf ours xs) X := hM
  rw [← e1]
  exact ⟨u, he, hn, hi, h2⟩

def flip' (x : Live) : Live := { x with own := !x.own }
def swap' (p : Int × Int) : Int × Int := (p.2, p.1)
theorem has_flip (ours own : Bool) (st : Int) : hasB (!ours) (!own) st = hasB ours own st := by cases ours <;> simp [hasB]
theorem gone_flip (ours own : Bool) (st : Int) : goneB (!ours) (!own) st = goneB ours own st := by cases ours <;> simp [goneB]
theorem items_flip (ours : Bool) (xs : List Live) : itemsOf (!ours) (xs.map flip') = itemsOf ours xs := by
  unfold itemsOf
  rw [List.filter_map, List.map_map]
  have e1 : ((fun x : Live => hasB (!ours) x.own x.state) ∘ flip') = fun x : Live => hasB ours x.own x.state := by
    funext x; exact has_flip ours x.own x.state
  have e2 : ((fun x : Live => (⟨x.own == !ours, x.h⟩ : Item)) ∘ flip') = fun x : Live => ⟨x.own == ours, x.h⟩ := by
    funext x; cases ours <;> cases h : x.own <;> simp [flip', h]
  rw [e1, e2]
theorem give_flip (us : Bool) (n : Int) (p : Int × Int) : giveI (!us) n (swap' p) = swap' (giveI us n p) := by cases us <;> rfl
theorem step_flip (ours : Bool) (p : Int × Int) (x : Live) : stepI (!ours) (swap' p) (flip' x) = swap' (stepI ours p x) := by
  unfold stepI
  have h1 : hasB (!ours) (flip' x).own (flip' x).state = hasB ours x.own x.state := has_flip ours x.own x.state
  have h2 : goneB (!ours) (flip' x).own (flip' x).state = goneB ours x.own x.state := gone_flip ours x.own x.state
  rw [h1, h2]
  show (if hasB ours x.own x.state = true then swap' p else if (goneB ours x.own x.state && x.paid) = true then giveI (!!x.own) x.h.amount (swap' p) else giveI (!x.own) x.h.amount (swap' p)) = _
  split
  · rfl
  · split
    · exact give_flip (!x.own) _ _
    · exact give_flip x.own _ _
theorem sums_flip (ours : Bool) (l r : Int) (xs : List Live) : sumsOf (!ours) r l (xs.map flip') = swap' (sumsOf ours l r xs) := by
  unfold sumsOf
  have key : ∀ (xs : List Live) (p : Int × Int), (xs.map flip').foldl (stepI (!ours)) (swap' p) = swap' (xs.foldl (stepI ours) p) := by
    intro xs
    induction xs with
    | nil => intro p; rfl
    | cons x xs ih => intro p; rw [List.map_cons, List.foldl_cons, List.foldl_cons, step_flip, ih]
  exact key xs (l, r)

/-- Items of what fits, fit. -/
theorem items_ok {ours : Bool} {xs : List Live} (h : ∀ x ∈ xs, LiveOk x) : ∀ x ∈ itemsOf ours xs, HtlcOk x.h := by
  intro x hx
  unfold itemsOf at hx
  rw [List.mem_map] at hx
  obtain ⟨y, hy, rfl⟩ := hx
  exact (h y (List.mem_filter.1 hy).1).h
theorem view_ok {I : List Item} (hv : IsView I (viewL I)) (h : ∀ x ∈ I, HtlcOk x.h) : ∀ x ∈ viewL I, HtlcOk x.h := fun x hx => h x ((viewL_perm hv).subset hx)
theorem view_le {ours : Bool} {xs : List Live} (hv : IsView (itemsOf ours xs) (viewL (itemsOf ours xs))) (h : xs.length ≤ 1048576) : (viewL (itemsOf ours xs)).length ≤ 1048576 := by
  rw [(viewL_perm hv).length_eq]
  exact Nat.le_trans (items_le ours xs) h

end Go.Proofs.YtbcjhpeighlncaaDoor
