/-
  Both views come to the same sum: plain laws.
-/
import Derived.Test.YtbcjhpeighlncaaDoorVwA
namespace Go.Proofs.YtbcjhpeighlncaaDoor
open Go.RowKit Go.Sort

theorem u64_wrap (x : Int) : IntKind.u64.wrap x = x % 18446744073709551616 := by
  simp [IntKind.wrap, IntKind.bits, IntKind.signed]
def amts (X : List Item) : Int := (X.map fun x => x.h.amount).sum
def amtsL (xs : List Live) : Int := (xs.map fun x => x.h.amount).sum
theorem amts_cons (x : Item) (X : List Item) : amts (x :: X) = x.h.amount + amts X := by simp [amts]
theorem amtsL_cons (x : Live) (X : List Live) : amtsL (x :: X) = x.h.amount + amtsL X := by simp [amtsL]
theorem fold_amts (X : List Item) : ∀ s : Int, X.foldl (fun s x => IntKind.u64.wrap (s + x.h.amount)) (IntKind.u64.wrap s) = IntKind.u64.wrap (s + amts X) := by
  induction X with
  | nil => intro s; simp [amts]
  | cons x X ih =>
    intro s
    rw [List.foldl_cons, amts_cons]
    have e : IntKind.u64.wrap (IntKind.u64.wrap s + x.h.amount) = IntKind.u64.wrap (s + x.h.amount) := by
      simp only [u64_wrap]; omega
    rw [e, ih]
    congr 1
    omega
theorem total_eq (o t : Int) (X : List Item) : totalI o t X = IntKind.u64.wrap (o + t + amts X) := fold_amts X (o + t)
theorem amts_perm {X Y : List Item} (h : X.Perm Y) : amts X = amts Y := by
  induction h with
  | nil => rfl
  | cons x _ ih => rw [amts_cons, amts_cons, ih]
  | swap x y l => rw [amts_cons, amts_cons, amts_cons, amts_cons]; omega
  | trans _ _ ih1 ih2 => rw [ih1, ih2]
theorem sums_eq (ours : Bool) (xs : List Live) : ∀ p : Int × Int, IntKind.u64.wrap ((xs.foldl (stepI ours) p).1 + (xs.foldl (stepI ours) p).2 + amts (itemsOf ours xs)) = IntKind.u64.wrap (p.1 + p.2 + amtsL xs) := by
  induction xs with
  | nil => intro p; simp [itemsOf, amts, amtsL]
  | cons x xs ih =>
    intro p
    rw [List.foldl_cons, amtsL_cons]
    cases hh : hasB ours x.own x.state with
    | true =>
      have e1 : itemsOf ours (x :: xs) = ⟨x.own == ours, x.h⟩ :: itemsOf ours xs := by simp [itemsOf, hh]
      have e2 : stepI ours p x = p := by simp [stepI, hh]
      rw [e1, e2, amts_cons]
      have := ih p
      simp only [u64_wrap] at this ⊢
      omega
    | false =>
      have e1 : itemsOf ours (x :: xs) = itemsOf ours xs := by simp [itemsOf, hh]
      rw [e1, ih]
      have key : ∀ us : Bool, IntKind.u64.wrap ((giveI us x.h.amount p).1 + (giveI us x.h.amount p).2 + amtsL xs) = IntKind.u64.wrap (p.1 + p.2 + (x.h.amount + amtsL xs)) := by
        intro us
        cases us
        · simp only [giveI, u64_wrap, Bool.false_eq_true, if_false]; omega
        · simp only [giveI, u64_wrap, if_true]; omega
      have e2 : stepI ours p x = giveI (if goneB ours x.own x.state && x.paid then !x.own else x.own) x.h.amount p := by
        cases hg : goneB ours x.own x.state <;> cases hp : x.paid <;> simp [stepI, hh, hg, hp]
      rw [e2, key]
/-- The total of a view, whatever the states are. -/
theorem total_view (ours : Bool) (l r : Int) (xs : List Live) (X : List Item) (M : List (Item × Nat)) (hM : M.Perm (itemsOf ours xs).zipIdx) (hX : X = its M) :
    totalI (if ours then (sumsOf ours l r xs).1 else (sumsOf ours l r xs).2) (if ours then (sumsOf ours l r xs).2 else (sumsOf ours l r xs).1) X = IntKind.u64.wrap (l + r + amtsL xs) := by
  have hp : X.Perm (itemsOf ours xs) := by
    have := hM.map (·.1)
    rw [hX]
    simpa [its, List.zipIdx_map_fst] using this
  rw [total_eq, amts_perm hp]
  have := sums_eq ours xs (l, r)
  cases ours
  · simp only [Bool.false_eq_true, if_false, sumsOf] at this ⊢
    rw [← this]; congr 1; omega
  · simp only [if_true, sumsOf] at this ⊢
    rw [← this]
theorem amts_after (ev : Int) (xs : List Live) : amtsL (afterL ev xs) = amtsL xs := by
  simp [amtsL, afterL, aft, Function.comp_def]
theorem amtsL_snoc (xs : List Live) (x : Live) : amtsL (xs ++ [x]) = amtsL xs + x.h.amount := by simp [amtsL]
/-- The law's own sum, step by step. -/
def wantI (l r : Int) (xs : List Live) : Int := IntKind.u64.wrap (l + r + amtsL xs)
theorem want_snoc (l r : Int) (xs : List Live) (x : Live) : wantI l r (xs ++ [x]) = IntKind.u64.wrap (wantI l r xs + x.h.amount) := by
  unfold wantI
  rw [amtsL_snoc]
  simp only [u64_wrap]; omega

end Go.Proofs.YtbcjhpeighlncaaDoor
