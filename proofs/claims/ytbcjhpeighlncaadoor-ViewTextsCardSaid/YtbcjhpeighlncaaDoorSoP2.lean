/-
  Plain facts on sorted lists of items with their first places beside them. No program in sight.
-/
import Derived.Test.YtbcjhpeighlncaaDoorMaf
namespace Go.Proofs.YtbcjhpeighlncaaDoor
set_option linter.unusedVariables false
set_option linter.unusedSimpArgs false
open Go.RowKit Go.Sort

/-- What order tells of two items. -/
def cf (x y : Item) : Int := ordI x.offered y.offered x.h.id y.h.id
def kl (x y : Item) : Prop := rankI x.offered < rankI y.offered ∨ (rankI x.offered = rankI y.offered ∧ x.h.id < y.h.id)
theorem cf_lt (x y : Item) : cf x y < 0 ↔ kl x y := by
  unfold cf ordI cmp2 cmpI kl
  generalize rankI x.offered = a
  generalize rankI y.offered = b
  generalize x.h.id = c
  generalize y.h.id = d
  split <;> split <;> (try split) <;> (try split) <;> omega
theorem kl_trans {x y z : Item} (h : kl x y) (k : kl y z) : kl x z := by unfold kl at *; omega
theorem kl_irrefl (x : Item) : ¬ kl x x := by unfold kl; omega
/-- Strictly ahead of: by the order, then by the first places. -/
def lt' (p q : Item × Nat) : Prop := kl p.1 q.1 ∨ (¬ kl q.1 p.1 ∧ p.2 < q.2)
theorem lt'_trans {p q r : Item × Nat} (h : lt' p q) (k : lt' q r) : lt' p r := by unfold lt' kl at *; omega
theorem lt'_irrefl (p : Item × Nat) : ¬ lt' p p := by unfold lt' kl; omega
abbrev Srt (l : List (Item × Nat)) : Prop := l.Pairwise lt'
/-- All of A ahead of all of B. -/
def AllLt (A B : List (Item × Nat)) : Prop := ∀ p ∈ A, ∀ q ∈ B, lt' p q
theorem srt_append {A B : List (Item × Nat)} : Srt (A ++ B) ↔ Srt A ∧ Srt B ∧ AllLt A B := List.pairwise_append
theorem allLt_of_last {A B : List (Item × Nat)} (hA : Srt A) (hB : Srt B) (h : ∀ p q, A.getLast? = some p → B.head? = some q → lt' p q) : AllLt A B := by
  intro p hp q hq
  cases B with
  | nil => cases hq
  | cons b B =>
    obtain ⟨a, ha⟩ : ∃ a, A.getLast? = some a := by
      cases hl : A.getLast? with
      | none => rw [List.getLast?_eq_none_iff] at hl; subst hl; cases hp
      | some a => exact ⟨a, rfl⟩
    have hab := h a b ha rfl
    have h1 : p = a ∨ lt' p a := by
      obtain ⟨ys, rfl⟩ := List.getLast?_eq_some_iff.1 ha
      rcases List.mem_append.1 hp with hp | hp
      · exact .inr ((List.pairwise_append.1 hA).2.2 p hp a (List.mem_singleton.2 rfl))
      · exact .inl (List.mem_singleton.1 hp)
    have h2 : q = b ∨ lt' b q := by
      rcases List.mem_cons.1 hq with rfl | hq
      · exact .inl rfl
      · exact .inr ((List.pairwise_cons.1 hB).1 q hq)
    rcases h1 with rfl | h1 <;> rcases h2 with rfl | h2
    · exact hab
    · exact lt'_trans hab h2
    · exact lt'_trans h1 hab
    · exact lt'_trans h1 (lt'_trans hab h2)
/-- The first places of all of A are below those of all of B. -/
def Low (A B : List (Item × Nat)) : Prop := ∀ p ∈ A, ∀ q ∈ B, p.2 < q.2
theorem perm_swap_mid {α : Type} (A1 A2 B1 B2 : List α) : (A1 ++ (B1 ++ (A2 ++ B2))).Perm ((A1 ++ A2) ++ (B1 ++ B2)) := by
  rw [List.append_assoc]
  refine List.Perm.append_left A1 ?_
  rw [← List.append_assoc, ← List.append_assoc]
  exact List.Perm.append_right B2 List.perm_append_comm
/-- One ahead of many, laid in at its place. -/
theorem ins_left {x : Item × Nat} {B1 B2 : List (Item × Nat)} (hB : Srt (B1 ++ B2)) (hl : Low [x] (B1 ++ B2)) (h1 : ∀ p, B1.getLast? = some p → kl p.1 x.1) (h2 : ∀ q, B2.head? = some q → ¬ kl q.1 x.1) : Srt (B1 ++ (x :: B2)) := by
  obtain ⟨s1, s2, s3⟩ := srt_append.1 hB
  have hx : ∀ p ∈ B1, lt' p x := fun p hp => by
    have := allLt_of_last (A := B1) (B := [x]) s1 (List.pairwise_singleton _ _) (fun p q hp hq => by
      simp only [List.head?_cons, Option.some.injEq] at hq
      subst hq
      exact .inl (h1 p hp))
    exact this p hp x (List.mem_singleton.2 rfl)
  have hy : ∀ q ∈ B2, lt' x q := fun q hq => by
    have := allLt_of_last (A := [x]) (B := B2) (List.pairwise_singleton _ _) s2 (fun p q hp hq => by
      simp only [List.getLast?_singleton, Option.some.injEq] at hp
      subst hp
      refine .inr ⟨h2 q hq, hl x (List.mem_singleton.2 rfl) q ?_⟩
      cases B2 with
      | nil => cases hq
      | cons b r => simp only [List.head?_cons, Option.some.injEq] at hq; subst hq; exact List.mem_append_right _ List.mem_cons_self)
    exact this x (List.mem_singleton.2 rfl) q hq
  refine srt_append.2 ⟨s1, List.pairwise_cons.2 ⟨hy, s2⟩, fun p hp q hq => ?_⟩
  rcases List.mem_cons.1 hq with rfl | hq
  · exact hx p hp
  · exact s3 p hp q hq
/-- One behind many, laid in at its place. -/
theorem ins_right {y : Item × Nat} {A1 A2 : List (Item × Nat)} (hA : Srt (A1 ++ A2)) (hl : Low (A1 ++ A2) [y]) (h1 : ∀ p, A1.getLast? = some p → ¬ kl y.1 p.1) (h2 : ∀ q, A2.head? = some q → kl y.1 q.1) : Srt (A1 ++ (y :: A2)) := by
  obtain ⟨s1, s2, s3⟩ := srt_append.1 hA
  have hx : ∀ p ∈ A1, lt' p y := fun p hp => by
    have := allLt_of_last (A := A1) (B := [y]) s1 (List.pairwise_singleton _ _) (fun p q hp hq => by
      simp only [List.head?_cons, Option.some.injEq] at hq
      subst hq
      refine .inr ⟨h1 p hp, hl p ?_ y (List.mem_singleton.2 rfl)⟩
      exact List.mem_append_left _ (List.mem_of_getLast? hp))
    exact this p hp y (List.mem_singleton.2 rfl)
  have hy : ∀ q ∈ A2, lt' y q := fun q hq => by
    have := allLt_of_last (A := [y]) (B := A2) (List.pairwise_singleton _ _) s2 (fun p q hp hq => by
      simp only [List.getLast?_singleton, Option.some.injEq] at hp
      subst hp
      exact .inl (h2 q hq))
    exact this y (List.mem_singleton.2 rfl) q hq
  refine srt_append.2 ⟨s1, List.pairwise_cons.2 ⟨hy, s2⟩, fun p hp q hq => ?_⟩
  rcases List.mem_cons.1 hq with rfl | hq
  · exact hx p hp
  · exact s3 p hp q hq
/-- The halves of a symmetric merge: all of the first ahead of all of the second. -/
theorem halves {A1 A2 B1 B2 : List (Item × Nat)} (hA : Srt (A1 ++ A2)) (hB : Srt (B1 ++ B2)) (hl : Low (A1 ++ A2) (B1 ++ B2))
    (h1 : ∀ p q, B1.getLast? = some p → A2.head? = some q → kl p.1 q.1) (h2 : ∀ p q, A1.getLast? = some p → B2.head? = some q → ¬ kl q.1 p.1) : AllLt (A1 ++ B1) (A2 ++ B2) := by
  obtain ⟨a1, a2, a3⟩ := srt_append.1 hA
  obtain ⟨b1, b2, b3⟩ := srt_append.1 hB
  have c1 : AllLt B1 A2 := allLt_of_last b1 a2 (fun p q hp hq => .inl (h1 p q hp hq))
  have c2 : AllLt A1 B2 := allLt_of_last a1 b2 (fun p q hp hq => .inr ⟨h2 p q hp hq, hl p (List.mem_append_left _ (List.mem_of_getLast? hp)) q (List.mem_append_right _ (List.mem_of_head? hq))⟩)
  intro p hp q hq
  rcases List.mem_append.1 hp with hp | hp <;> rcases List.mem_append.1 hq with hq | hq
  · exact a3 p hp q hq
  · exact c2 p hp q hq
  · exact c1 p hp q hq
  · exact b3 p hp q hq

end Go.Proofs.YtbcjhpeighlncaaDoor
