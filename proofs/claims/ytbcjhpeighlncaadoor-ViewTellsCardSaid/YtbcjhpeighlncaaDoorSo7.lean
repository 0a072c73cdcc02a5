/-
  symMerge whole; the blocks of the stable sort, in plain lists.
-/
import Derived.Test.YtbcjhpeighlncaaDoorSo6
namespace Go.Proofs.YtbcjhpeighlncaaDoor
open Go.RowKit Go.Sort

theorem merge_all (g off cap N : Nat) (hm : N ≤ 2305843009213693952) : ∀ n A B, A.length + B.length = n → MergeOk g off cap N A B := by
  intro n
  induction n using Nat.strongRecOn with
  | _ n ih =>
    intro A B hn P S a m b w h1 h2 hA hB hl hN ha hmm hb h
    by_cases c1 : A.length = 1
    · obtain ⟨x, rfl⟩ := List.length_eq_one_iff.1 c1
      exact merge_left g off cap P S x B hB hl N (by simpa using hN) hm a m b ha (by simpa using hmm) hb w (by simpa using h)
    · by_cases c2 : B.length = 1
      · obtain ⟨y, rfl⟩ := List.length_eq_one_iff.1 c2
        exact merge_right g off cap P S A y hA hl N (by simpa using hN) hm a m b ha hmm (by simpa using hb) c1 w (by simpa using h)
      · exact merge_step g off cap N hm A B (by omega) (by omega) (fun A' B' hlt => ih _ (by omega) A' B' rfl) P S a m b w h1 h2 hA hB hl hN ha hmm hb h
theorem merge_any (g off cap N : Nat) (hm : N ≤ 2305843009213693952) (A B : List (Item × Nat)) : MergeOk g off cap N A B := merge_all g off cap N hm _ A B rfl

abbrev LI := List (Item × Nat)
/-- Blocks of s, each a sorted permutation of its own range; the last one may be shorter. -/
inductive Blk (s : Nat) : LI → LI → Prop
  | last (m l : LI) : m.length ≤ s → m.Perm l → Srt m → Blk s m l
  | cons (m l M L : LI) : m.length = s → m.Perm l → Srt m → Blk s M L → Blk s (m ++ M) (l ++ L)
/-- .. all of them whole. -/
inductive Full (s : Nat) : LI → LI → Prop
  | nil : Full s [] []
  | cons (m l M L : LI) : m.length = s → m.Perm l → Srt m → Full s M L → Full s (m ++ M) (l ++ L)
theorem Full.snoc {s : Nat} {M L : LI} (h : Full s M L) (m l : LI) (h1 : m.length = s) (h2 : m.Perm l) (h3 : Srt m) : Full s (M ++ m) (L ++ l) := by
  induction h with
  | nil => have := Full.cons m l [] [] h1 h2 h3 .nil; simpa using this
  | cons m' l' M L k1 k2 k3 _ ih => rw [List.append_assoc, List.append_assoc]; exact .cons _ _ _ _ k1 k2 k3 ih
theorem Full.app {s : Nat} {M L M2 L2 : LI} (h : Full s M L) (h2 : Blk s M2 L2) : Blk s (M ++ M2) (L ++ L2) := by
  induction h with
  | nil => exact h2
  | cons m' l' M L k1 k2 k3 _ ih => rw [List.append_assoc, List.append_assoc]; exact .cons _ _ _ _ k1 k2 k3 ih
theorem Full.len {s : Nat} {M L : LI} (h : Full s M L) : M.length = L.length := by
  induction h with
  | nil => rfl
  | cons m' l' M L k1 k2 k3 _ ih => rw [List.length_append, List.length_append, ih, k2.length_eq]
theorem Blk.perm {s : Nat} {M L : LI} (h : Blk s M L) : M.Perm L := by
  induction h with
  | last _ _ _ h _ => exact h
  | cons _ _ _ _ _ h _ _ ih => exact h.append ih
theorem Blk.small {s : Nat} {M L : LI} (h : Blk s M L) (hs : M.length ≤ s) : Srt M := by
  cases h with
  | last _ _ _ _ h => exact h
  | cons m l M L h1 h2 h3 h4 =>
    rw [List.length_append] at hs
    have : M = [] := List.length_eq_zero_iff.1 (by omega)
    rw [this, List.append_nil]
    exact h3
/-- More than one block: the first one, and the rest. -/
theorem Blk.first {s : Nat} {M L : LI} (h : Blk s M L) (hs : s ≤ M.length) : ∃ m l M' L', M = m ++ M' ∧ L = l ++ L' ∧ m.length = s ∧ m.Perm l ∧ Srt m ∧ Blk s M' L' := by
  cases h with
  | last _ _ h1 h2 h3 => exact ⟨M, L, [], [], by simp, by simp, by omega, h2, h3, .last _ _ (by simp) (List.Perm.refl _) List.Pairwise.nil⟩
  | cons m l M L h1 h2 h3 h4 => exact ⟨m, l, M, L, rfl, rfl, h1, h2, h3, h4⟩
theorem low_perm {A B A' B' : LI} (h : Low A B) (p : A'.Perm A) (q : B'.Perm B) : Low A' B' :=
  fun x hx y hy => h x (p.mem_iff.1 hx) y (q.mem_iff.1 hy)
theorem rising_low {A B : LI} (h : Rising (A ++ B)) : Rising A ∧ Rising B ∧ Low A B := List.pairwise_append.1 h

end Go.Proofs.YtbcjhpeighlncaaDoor
