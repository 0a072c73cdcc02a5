/-
  The evaluator's trees, temporaries, values: what they stand for.
-/
import Derived.Test.YtjckpgcmfieaoaaGreatDoorAv1
namespace Go.Proofs.YtjckpgcmfieaoaaGreatDoor
open Go.RowKit

/-! Trees. -/
def EPth.val : EPth → Nat
  | .z => 0
  | .l p => 2 * p.val + 1
  | .r p => 2 * p.val + 2
theorem ePathF_val : ∀ (f i : Nat), i < f → (ePathF f i).val = i
  | 0, _, h => by omega
  | f + 1, i, h => by
    show (Bool.rec (motive := fun _ => EPth) (Bool.rec (motive := fun _ => EPth) (.r (ePathF f (Nat.div (Nat.sub i 1) 2))) (.l (ePathF f (Nat.div i 2))) (Nat.beq (Nat.mod i 2) 1)) .z (Nat.beq i 0)).val = i
    cases h0 : Nat.beq i 0 with
    | true => exact (Nat.eq_of_beq_eq_true h0).symm
    | false =>
      have hi : i ≠ 0 := fun e => by rw [e] at h0; cases h0
      have hd : i % 2 = 0 ∨ i % 2 = 1 := by omega
      cases h1 : Nat.beq (Nat.mod i 2) 1 with
      | true =>
        have h1 : i % 2 = 1 := Nat.eq_of_beq_eq_true h1
        show 2 * (ePathF f (i / 2)).val + 1 = i
        rw [ePathF_val f (i / 2) (by omega)]
        omega
      | false =>
        have h1 : i % 2 ≠ 1 := fun e => by rw [show Nat.mod i 2 = 1 from e] at h1; cases h1
        show 2 * (ePathF f ((i - 1) / 2)).val + 2 = i
        rw [ePathF_val f ((i - 1) / 2) (by omega)]
        omega
theorem ePath_inj {i j : Nat} (h : ePath i = ePath j) : i = j := by
  have := congrArg EPth.val h
  unfold ePath at this
  rw [ePathF_val _ _ (Nat.lt_succ_self _), ePathF_val _ _ (Nat.lt_succ_self _)] at this
  exact this
section
variable {α : Type}
theorem ETr.getP_e : ∀ (p : EPth), (ETr.e : ETr α).getP p = none
  | .z => rfl
  | .l _ => rfl
  | .r _ => rfl
theorem ETr.getP_setP (p : EPth) : ∀ (t : ETr α) (v : α), (t.setP p v).getP p = some v := by
  induction p with
  | z => intro t v; cases t <;> rfl
  | l p ih => intro t v; cases t with
    | e => exact ih .e v
    | n x l r => exact ih l v
  | r p ih => intro t v; cases t with
    | e => exact ih .e v
    | n x l r => exact ih r v
theorem ETr.getP_setP_ne (p : EPth) : ∀ (q : EPth) (t : ETr α) (v : α), p ≠ q → (t.setP p v).getP q = t.getP q := by
  induction p with
  | z => intro q t v h; cases q with
    | z => exact absurd rfl h
    | l q => cases t with
      | e => exact (ETr.getP_e q)
      | n x l r => rfl
    | r q => cases t with
      | e => exact (ETr.getP_e q)
      | n x l r => rfl
  | l p ih => intro q t v h; cases q with
    | z => cases t <;> rfl
    | l q => cases t with
      | e => exact (ih q .e v fun e => h (by rw [e])).trans (ETr.getP_e q)
      | n x l r => exact ih q l v fun e => h (by rw [e])
    | r q => cases t with
      | e => exact ETr.getP_e q
      | n x l r => rfl
  | r p ih => intro q t v h; cases q with
    | z => cases t <;> rfl
    | r q => cases t with
      | e => exact (ih q .e v fun e => h (by rw [e])).trans (ETr.getP_e q)
      | n x l r => exact ih q r v fun e => h (by rw [e])
    | l q => cases t with
      | e => exact ETr.getP_e q
      | n x l r => rfl
theorem ETr.get_set (t : ETr α) (i : Nat) (v : α) : (t.set i v).get i = some v := ETr.getP_setP _ _ _
theorem ETr.get_set_ne (t : ETr α) {i j : Nat} (v : α) (h : i ≠ j) : (t.set i v).get j = t.get j := ETr.getP_setP_ne _ _ _ _ fun e => h (ePath_inj e)
theorem ETr.get_e (i : Nat) : (ETr.e : ETr α).get i = none := ETr.getP_e _
theorem eNth_eq : ∀ (l : List α) (i : Nat), eNth l i = l[i]?
  | [], _ => rfl
  | x :: l, 0 => rfl
  | x :: l, i + 1 => eNth_eq l i
theorem eTk_eq : ∀ (l : List α) (n : Nat), eTk l n = l.take n
  | [], _ => by simp [eTk]
  | x :: l, 0 => rfl
  | x :: l, n + 1 => congrArg (x :: ·) (eTk_eq l n)
theorem eDrop_eq : ∀ (l : List α) (n : Nat), eDrop l n = l.drop n
  | [], _ => by simp [eDrop]
  | x :: l, 0 => rfl
  | x :: l, n + 1 => eDrop_eq l n
end
theorem eRow_cons (x : EV) (l : List EV) (i : Nat) (t : ETr EV) : eRow (x :: l) i t = eRow l (i + 1) (t.set i x) := rfl
theorem eRow_get : ∀ (l : List EV) (i : Nat) (t : ETr EV) (j : Nat), (eRow l i t).get j = if i ≤ j ∧ j < i + l.length then l[j - i]? else t.get j
  | [], i, t, j => by
    rw [if_neg (by simp only [List.length_nil]; omega)]
    rfl
  | x :: l, i, t, j => by
    rw [eRow_cons, eRow_get l (i + 1) (t.set i x) j]
    simp only [List.length_cons]
    by_cases h1 : i = j
    · subst h1
      rw [if_neg (by omega), if_pos (by omega), ETr.get_set, Nat.sub_self]
      rfl
    · rw [ETr.get_set_ne _ _ h1]
      by_cases h2 : i + 1 ≤ j ∧ j < i + 1 + l.length
      · rw [if_pos h2, if_pos (by omega)]
        obtain ⟨k, hk⟩ : ∃ k, j - i = k + 1 := ⟨j - i - 1, by omega⟩
        rw [hk, show j - (i + 1) = k by omega]
        rfl
      · rw [if_neg h2, if_neg (by omega)]
theorem ePut_cons (x : EV) (l : List EV) (c : ETr EV) (i : Nat) : ePut (x :: l) c i = ePut l (c.set i x) (i + 1) := rfl
theorem ePut_get : ∀ (l : List EV) (c : ETr EV) (i j : Nat), (ePut l c i).get j = if i ≤ j ∧ j < i + l.length then l[j - i]? else c.get j
  | [], c, i, j => by
    rw [if_neg (by simp only [List.length_nil]; omega)]
    rfl
  | x :: l, c, i, j => by
    rw [ePut_cons, ePut_get l (c.set i x) (i + 1) j]
    simp only [List.length_cons]
    by_cases h1 : i = j
    · subst h1
      rw [if_neg (by omega), if_pos (by omega), ETr.get_set, Nat.sub_self]
      rfl
    · rw [ETr.get_set_ne _ _ h1]
      by_cases h2 : i + 1 ≤ j ∧ j < i + 1 + l.length
      · rw [if_pos h2, if_pos (by omega)]
        obtain ⟨k, hk⟩ : ∃ k, j - i = k + 1 := ⟨j - i - 1, by omega⟩
        rw [hk, show j - (i + 1) = k by omega]
        rfl
      · rw [if_neg h2, if_neg (by omega)]
theorem eTake_get {c : ETr EV} : ∀ {k o : Nat} {l : List EV}, eTake c k o = some l → l.length = k ∧ ∀ j, j < k → c.get (o + j) = l[j]?
  | 0, o, l, h => by
    obtain rfl : [] = l := Option.some.inj h
    exact ⟨rfl, fun j hj => by omega⟩
  | k + 1, o, l, h => by
    have h : (match c.get o with | some v => (match eTake c k (o + 1) with | some l => some (v :: l) | none => none) | none => none) = some l := h
    cases hv : c.get o with
    | none => rw [hv] at h; cases h
    | some v =>
      rw [hv] at h
      cases hl : eTake c k (o + 1) with
      | none => rw [hl] at h; cases h
      | some m =>
        rw [hl] at h
        obtain rfl : v :: m = l := Option.some.inj h
        obtain ⟨h1, h2⟩ := eTake_get hl
        refine ⟨by rw [List.length_cons, h1], fun j hj => ?_⟩
        cases j with
        | zero => exact hv
        | succ j => rw [show o + (j + 1) = o + 1 + j by omega, h2 j (by omega)]; rfl

/-! Temporaries. -/
def D16.num : D16 → Nat
  | .d0 => 0 | .d1 => 1 | .d2 => 2 | .d3 => 3 | .d4 => 4 | .d5 => 5 | .d6 => 6 | .d7 => 7 | .d8 => 8 | .d9 => 9 | .d10 => 10 | .d11 => 11 | .d12 => 12 | .d13 => 13 | .d14 => 14 | .d15 => 15
theorem d16_num : ∀ n, n < 16 → (d16 n).num = n
  | 0, _ => rfl | 1, _ => rfl | 2, _ => rfl | 3, _ => rfl | 4, _ => rfl | 5, _ => rfl | 6, _ => rfl | 7, _ => rfl | 8, _ => rfl | 9, _ => rfl | 10, _ => rfl | 11, _ => rfl | 12, _ => rfl | 13, _ => rfl | 14, _ => rfl | 15, _ => rfl
  | n + 16, h => by omega
theorem d16_inj {a b : Nat} (ha : a < 16) (hb : b < 16) (h : d16 a = d16 b) : a = b := by
  have := congrArg D16.num h
  rwa [d16_num a ha, d16_num b hb] at this
theorem eGet_put {α : Type} (d : D16) (n : N16 α) (v : α) : (eGetC d).f ((ePutC d).f n v) = v := by cases d <;> rfl
theorem eGet_put_ne {α : Type} (d e : D16) (n : N16 α) (v : α) (h : d ≠ e) : (eGetC e).f ((ePutC d).f n v) = (eGetC e).f n := by
  cases d <;> cases e <;> first | exact absurd rfl h | rfl
theorem ERg.get_set (r : ERg) (t : Nat) (v : EV) : ERg.get t (r.set t v) = v := by
  unfold ERg.get ERg.set
  rw [eGet_put, eGet_put]
theorem ERg.get_set_ne (r : ERg) {t u : Nat} (v : EV) (ht : t < 256) (hu : u < 256) (h : t ≠ u) : ERg.get u (r.set t v) = ERg.get u r := by
  unfold ERg.get ERg.set
  by_cases hd : d16 (t / 16) = d16 (u / 16)
  · have h1 := d16_inj (by omega) (by omega) hd
    rw [hd, eGet_put, eGet_put_ne _ _ _ _ fun e => by have := d16_inj (by omega) (by omega) e; omega]
  · rw [eGet_put_ne _ _ _ _ hd]
theorem eRg0_get (t : Nat) : ERg.get t eRg0 = .tup [] := by
  unfold ERg.get
  cases d16 (t / 16) <;> cases d16 (t % 16) <;> rfl
end Go.Proofs.YtjckpgcmfieaoaaGreatDoor
