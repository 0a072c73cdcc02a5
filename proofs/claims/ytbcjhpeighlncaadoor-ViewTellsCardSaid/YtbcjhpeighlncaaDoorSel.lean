/-
  Selection: the first least one, again and again, gives the order of a view.
-/
import Derived.Test.YtbcjhpeighlncaaDoorRf5
namespace Go.Proofs.YtbcjhpeighlncaaDoor
open Go.RowKit Go.Sort

structure SelInv (I : List Item) (R M : List (Item × Nat)) : Prop where
  perm : (M ++ R).Perm I.zipIdx
  srt : Srt M
  below : ∀ p ∈ M, ∀ q ∈ R, lt' p q
  idx : R.Pairwise fun p q => p.2 < q.2
theorem zip_idx (I : List Item) : I.zipIdx.Pairwise fun p q => p.2 < q.2 := by
  rw [List.pairwise_iff_getElem]
  intro i j hi hj hij
  simp [List.getElem_zipIdx]
  exact hij
theorem sel_init (I : List Item) : SelInv I I.zipIdx [] := ⟨List.Perm.refl _, List.Pairwise.nil, by simp, zip_idx I⟩
/-- b is the best one of the first k. -/
def Best (R : List (Item × Nat)) (b k : Nat) : Prop := ∀ j p q, j < k → j ≠ b → R[b]? = some p → R[j]? = some q → lt' p q
theorem best_one (R : List (Item × Nat)) : Best R 0 1 := fun j p q hj hne _ _ => by omega
theorem best_keep {R : List (Item × Nat)} {b k : Nat} {p q : Item × Nat} (h : Best R b k) (hi : R.Pairwise fun p q => p.2 < q.2) (hb : b < k) (hp : R[b]? = some p) (hq : R[k]? = some q) (hn : ¬ kl q.1 p.1) : Best R b (k + 1) := by
  intro j p' q' hj hne hp' hq'
  by_cases e : j = k
  · subst e
    rw [hp] at hp'
    rw [hq] at hq'
    cases hp'
    cases hq'
    have hk := (List.getElem?_eq_some_iff.1 hq)
    have hbb := (List.getElem?_eq_some_iff.1 hp)
    have := List.pairwise_iff_getElem.1 hi b j hbb.1 hk.1 hb
    rw [hbb.2, hk.2] at this
    exact .inr ⟨hn, this⟩
  · exact h j p' q' (by omega) hne hp' hq'
theorem best_turn {R : List (Item × Nat)} {b k : Nat} {p q : Item × Nat} (h : Best R b k) (hb : b < k) (hp : R[b]? = some p) (hq : R[k]? = some q) (hn : kl q.1 p.1) : Best R k (k + 1) := by
  intro j p' q' hj hne hp' hq'
  rw [hq] at hp'
  cases hp'
  have h1 : lt' q p := .inl hn
  by_cases e : j = b
  · subst e
    rw [hp] at hq'
    cases hq'
    exact h1
  · exact lt'_trans h1 (h j p q' (by omega) e hp hq')
theorem sel_step {I : List Item} {R M : List (Item × Nat)} (h : SelInv I R M) {b : Nat} {p : Item × Nat} (hp : R[b]? = some p) (hb : Best R b R.length) : SelInv I (R.take b ++ R.drop (b + 1)) (M ++ [p]) := by
  obtain ⟨hlt, he⟩ := List.getElem?_eq_some_iff.1 hp
  have hR : R = R.take b ++ p :: R.drop (b + 1) := by
    rw [← he, ← List.drop_eq_getElem_cons hlt, List.take_append_drop]
  have hsub : ∀ q ∈ R.take b ++ R.drop (b + 1), q ∈ R ∧ lt' p q := by
    intro q hq
    rcases List.mem_append.1 hq with hq | hq
    · obtain ⟨j, hj⟩ := List.getElem?_of_mem hq
      rw [List.getElem?_take] at hj
      split at hj
      · exact ⟨List.mem_of_getElem? hj, hb j p q (by omega) (by omega) hp hj⟩
      · cases hj
    · obtain ⟨j, hj⟩ := List.getElem?_of_mem hq
      rw [List.getElem?_drop] at hj
      have := (List.getElem?_eq_some_iff.1 hj).1
      exact ⟨List.mem_of_getElem? hj, hb (b + 1 + j) p q this (by omega) hp hj⟩
  have hpm : p ∈ R := List.mem_of_getElem? hp
  refine ⟨?_, ?_, ?_, ?_⟩
  · refine List.Perm.trans ?_ h.perm
    rw [List.append_assoc]
    refine List.Perm.append_left M ?_
    conv => rhs; rw [hR]
    exact (List.perm_middle (a := p) (l₁ := R.take b) (l₂ := R.drop (b + 1))).symm
  · show (M ++ [p]).Pairwise lt'
    rw [List.pairwise_append]
    exact ⟨h.srt, List.pairwise_singleton _ _, fun a ha c hc => by rw [List.mem_singleton.1 hc]; exact h.below a ha p hpm⟩
  · intro a ha q hq
    rcases List.mem_append.1 ha with ha | ha
    · exact h.below a ha q (hsub q hq).1
    · rw [List.mem_singleton.1 ha]; exact (hsub q hq).2
  · have := h.idx
    rw [hR, List.pairwise_append] at this
    rw [List.pairwise_append]
    exact ⟨this.1, (List.pairwise_cons.1 this.2.1).2, fun a ha c hc => this.2.2 a ha c (List.mem_cons_of_mem _ hc)⟩
theorem sel_view {I : List Item} {M : List (Item × Nat)} (h : SelInv I [] M) : its M = viewL I := viewL_eq ⟨M, by simpa using h.perm, h.srt, rfl⟩
theorem sel_isView {I : List Item} {M : List (Item × Nat)} (h : SelInv I [] M) : IsView I (viewL I) := by
  have h1 : IsView I (its M) := ⟨M, by simpa using h.perm, h.srt, rfl⟩
  rwa [← sel_view h]
theorem sel_len {I : List Item} {R M : List (Item × Nat)} (h : SelInv I R M) : M.length + R.length = I.length := by
  have := h.perm.length_eq
  simpa using this
/-- kl, as the code asks it. -/
theorem kl_ask (x y : Item) : kl x y ↔ (x.offered = true ∧ y.offered = false) ∨ (x.offered = y.offered ∧ x.h.id < y.h.id) := by
  unfold kl rankI
  cases x.offered <;> cases y.offered <;> simp
theorem its_get {R : List (Item × Nat)} {k : Nat} {p : Item × Nat} (h : R[k]? = some p) : (its R)[k]? = some p.1 := by
  unfold its
  rw [List.getElem?_map, h]
  rfl
theorem its_split (R : List (Item × Nat)) (b : Nat) : its (R.take b ++ R.drop (b + 1)) = (its R).take b ++ (its R).drop (b + 1) := by
  simp [its]
/-- What the first loop does with one. -/
theorem step_ref {ours : Bool} {l r : Int} {xs : List Live} {n : Nat} {x : Live} (hx : xs[n]? = some x) :
    (hasB ours x.own x.state = true → itemsOf ours (xs.take (n + 1)) = itemsOf ours (xs.take n) ++ [⟨x.own == ours, x.h⟩] ∧ sumsOf ours l r (xs.take (n + 1)) = sumsOf ours l r (xs.take n)) ∧
    (hasB ours x.own x.state = false → itemsOf ours (xs.take (n + 1)) = itemsOf ours (xs.take n) ∧ sumsOf ours l r (xs.take (n + 1)) = giveI (x.own != (goneB ours x.own x.state && x.paid)) x.h.amount (sumsOf ours l r (xs.take n))) := by
  rw [List.take_add_one, hx]
  refine ⟨fun h => ⟨by simp [itemsOf, List.filter_append, h], by simp [sumsOf, stepI, h]⟩, fun h => ⟨by simp [itemsOf, List.filter_append, h], ?_⟩⟩
  cases hg : goneB ours x.own x.state <;> cases hp : x.paid <;> simp [sumsOf, stepI, h, hg, hp]

/-- The cells of a row of items, one by one. -/
theorem HeldR.cells {w : World} {g off : Nat} {X : List Item} (h : HeldR w g off X) : ∀ j u, (X.flatMap itemCells)[j]? = some u → w.cell? ((⟨g, off, none⟩ : Addr).add j) = some u := by
  intro j u hu
  obtain ⟨C, T, fz, hb, hs, hc⟩ := h
  have hj : j < X.length * 36 := by
    have := (List.getElem?_eq_some_iff.1 hu).1
    rwa [flat_len] at this
  have hadd : (⟨g, off, none⟩ : Addr).add j = ⟨g, off + j, none⟩ := by unfold Addr.add; split <;> simp_all
  rw [hadd, blk_cell hb]
  have hi : j / 36 < X.length := Nat.div_lt_of_lt_mul (by omega)
  obtain ⟨x, hx⟩ : ∃ x, X[j / 36]? = some x := ⟨_, List.getElem?_eq_getElem hi⟩
  have e := Nat.div_add_mod j 36
  have hm := Nat.mod_lt j (show 0 < 36 by decide)
  rw [← hu, show off + j = off + j / 36 * 36 + j % 36 by omega, hc _ x hx _ hm]
  have hf := flat_get X _ _ hi hm
  rw [show j / 36 * 36 + j % 36 = j by omega, get!_of hx] at hf
  exact hf.symm
theorem HeldR.take {w : World} {g off : Nat} {X : List Item} (h : HeldR w g off X) (n : Nat) : HeldR w g off (X.take n) := by
  obtain ⟨C, T, fz, hb, hs, hc⟩ := h
  refine ⟨C, T, fz, hb, ?_, fun i x hx j hj => ?_⟩
  · have : (X.take n).length * 36 ≤ X.length * 36 := Nat.mul_le_mul_right _ (by rw [List.length_take]; omega)
    omega
  · rw [List.getElem?_take] at hx
    split at hx
    · exact hc i x hx j hj
    · cases hx
theorem HeldR.drop {w : World} {g off : Nat} {X : List Item} (h : HeldR w g off X) (n : Nat) (hn : n ≤ X.length) : HeldR w g (off + n * 36) (X.drop n) := by
  obtain ⟨C, T, fz, hb, hs, hc⟩ := h
  refine ⟨C, T, fz, hb, ?_, fun i x hx j hj => ?_⟩
  · rw [List.length_drop, Nat.sub_mul]
    have := Nat.mul_le_mul_right 36 hn
    omega
  · rw [List.getElem?_drop] at hx
    rw [← hc (n + i) x hx j hj, Nat.add_mul]
    congr 1
    omega
theorem flat_one (X : List Item) : ∀ u ∈ X.flatMap itemCells, u.oneCell' = true := by
  intro u hu
  obtain ⟨x, _, hx⟩ := List.mem_flatMap.1 hu
  exact item_one x u hx
def sliceLen : Value → Nat
  | .slice _ n _ => n
  | _ => 0

end Go.Proofs.YtbcjhpeighlncaaDoor
