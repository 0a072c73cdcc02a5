/-
  The evaluator's trees, temporaries, values: what they stand for.
-/
import Derived.Test.YtjckpgcmfieaoaaGreatDoorAv1
import Derived.Test.YtjckpgcmfieaoaaGreatDoorMab
set_option linter.unusedVariables false
set_option linter.unusedSimpArgs false
namespace Go.Proofs.YtjckpgcmfieaoaaGreatDoor
open Go.RowKit

/-! Trees. -/
def EPth.val : EPth → Nat
  | .z => 0
  | .l p => 2 * p.val + 1
  | .r p => 2 * p.val + 2
theorem ePathF_val : ∀ (f i : Nat), i < f → (ePathF f i).val = i
  | 0, _, h => by omega
  | f + 1, i, h => by
    show (Bool.rec (motive := fun _ => EPth) (Bool.rec (motive := fun _ => EPth) (.r (ePathF f (Nat.div (Nat.sub i 1) 2))) (.l (ePathF f (Nat.div i 2))) (Nat.beq (Nat.mod i 2) 1)) .z (Nat.beq i 0)).val = i
    cases h0 : Nat.beq i 0 with
    | true => exact (Nat.eq_of_beq_eq_true h0).symm
    | false =>
      have hi : i ≠ 0 := fun e => by rw [e] at h0; cases h0
      have hd : i % 2 = 0 ∨ i % 2 = 1 := by omega
      cases h1 : Nat.beq (Nat.mod i 2) 1 with
      | true =>
        have h1 : i % 2 = 1 := Nat.eq_of_beq_eq_true h1
        show 2 * (ePathF f (i / 2)).val + 1 = i
        rw [ePathF_val f (i / 2) (by omega)]
        omega
      | false =>
        have h1 : i % 2 ≠ 1 := fun e => by rw [show Nat.mod i 2 = 1 from e] at h1; cases h1
        show 2 * (ePathF f ((i - 1) / 2)).val + 2 = i
        rw [ePathF_val f ((i - 1) / 2) (by omega)]
        omega
theorem ePath_inj {i j : Nat} (h : ePath i = ePath j) : i = j := by
  have := congrArg EPth.val h
  unfold ePath at this
  rw [ePathF_val _ _ (Nat.lt_succ_self _), ePathF_val _ _ (Nat.lt_succ_self _)] at this
  exact this
section
variable {α : Type}
theorem ETr.getP_e : ∀ (p : EPth), (ETr.e : ETr α).getP p = none
  | .z => rfl
  | .l _ => rfl
  | .r _ => rfl
theorem ETr.getP_setP (p : EPth) : ∀ (t : ETr α) (v : α), (t.setP p v).getP p = some v := by
  induction p with
  | z => intro t v; cases t <;> rfl
  | l p ih => intro t v; cases t with
    | e => exact ih .e v
    | n x l r => exact ih l v
  | r p ih => intro t v; cases t with
    | e => exact ih .e v
    | n x l r => exact ih r v
theorem ETr.getP_setP_ne (p : EPth) : ∀ (q : EPth) (t : ETr α) (v : α), p ≠ q → (t.setP p v).getP q = t.getP q := by
  induction p with
  | z => intro q t v h; cases q with
    | z => exact absurd rfl h
    | l q => cases t with
      | e => exact (ETr.getP_e q)
      | n x l r => rfl
    | r q => cases t with
      | e => exact (ETr.getP_e q)
      | n x l r => rfl
  | l p ih => intro q t v h; cases q with
    | z => cases t <;> rfl
    | l q => cases t with
      | e => exact (ih q .e v fun e => h (by rw [e])).trans (ETr.getP_e q)
      | n x l r => exact ih q l v fun e => h (by rw [e])
    | r q => cases t with
      | e => exact ETr.getP_e q
      | n x l r => rfl
  | r p ih => intro q t v h; cases q with
    | z => cases t <;> rfl
    | r q => cases t with
      | e => exact (ih q .e v fun e => h (by rw [e])).trans (ETr.getP_e q)
      | n x l r => exact ih q r v fun e => h (by rw [e])
    | l q => cases t with
      | e => exact ETr.getP_e q
      | n x l r => rfl
theorem ETr.get_set (t : ETr α) (i : Nat) (v : α) : (t.set i v).get i = some v := ETr.getP_setP _ _ _
theorem ETr.get_set_ne (t : ETr α) {i j : Nat} (v : α) (h : i ≠ j) : (t.set i v).get j = t.get j := ETr.getP_setP_ne _ _ _ _ fun e => h (ePath_inj e)
theorem ETr.get_e (i : Nat) : (ETr.e : ETr α).get i = none := ETr.getP_e _
theorem eNth_eq : ∀ (l : List α) (i : Nat), eNth l i = l[i]?
  | [], _ => rfl
  | x :: l, 0 => rfl
  | x :: l, i + 1 => eNth_eq l i
theorem eTk_eq : ∀ (l : List α) (n : Nat), eTk l n = l.take n
  | [], _ => by simp [eTk]
  | x :: l, 0 => rfl
  | x :: l, n + 1 => congrArg (x :: ·) (eTk_eq l n)
theorem eDrop_eq : ∀ (l : List α) (n : Nat), eDrop l n = l.drop n
  | [], _ => by simp [eDrop]
  | x :: l, 0 => rfl
  | x :: l, n + 1 => eDrop_eq l n
end
theorem eRow_cons (x : EV) (l : List EV) (i : Nat) (t : ETr EV) : eRow (x :: l) i t = eRow l (i + 1) (t.set i x) := rfl
theorem eRow_get : ∀ (l : List EV) (i : Nat) (t : ETr EV) (j : Nat), (eRow l i t).get j = if i ≤ j ∧ j < i + l.length then l[j - i]? else t.get j
  | [], i, t, j => by
    rw [if_neg (by simp only [List.length_nil]; omega)]
    rfl
  | x :: l, i, t, j => by
    rw [eRow_cons, eRow_get l (i + 1) (t.set i x) j]
    simp only [List.length_cons]
    by_cases h1 : i = j
    · subst h1
      rw [if_neg (by omega), if_pos (by omega), ETr.get_set, Nat.sub_self]
      rfl
    · rw [ETr.get_set_ne _ _ h1]
      by_cases h2 : i + 1 ≤ j ∧ j < i + 1 + l.length
      · rw [if_pos h2, if_pos (by omega)]
        obtain ⟨k, hk⟩ : ∃ k, j - i = k + 1 := ⟨j - i - 1, by omega⟩
        rw [hk, show j - (i + 1) = k by omega]
        rfl
      · rw [if_neg h2, if_neg (by omega)]
theorem ePut_cons (x : EV) (l : List EV) (c : ETr EV) (i : Nat) : ePut (x :: l) c i = ePut l (c.set i x) (i + 1) := rfl
theorem ePut_get : ∀ (l : List EV) (c : ETr EV) (i j : Nat), (ePut l c i).get j = if i ≤ j ∧ j < i + l.length then l[j - i]? else c.get j
  | [], c, i, j => by
    rw [if_neg (by simp only [List.length_nil]; omega)]
    rfl
  | x :: l, c, i, j => by
    rw [ePut_cons, ePut_get l (c.set i x) (i + 1) j]
    simp only [List.length_cons]
    by_cases h1 : i = j
    · subst h1
      rw [if_neg (by omega), if_pos (by omega), ETr.get_set, Nat.sub_self]
      rfl
    · rw [ETr.get_set_ne _ _ h1]
      by_cases h2 : i + 1 ≤ j ∧ j < i + 1 + l.length
      · rw [if_pos h2, if_pos (by omega)]
        obtain ⟨k, hk⟩ : ∃ k, j - i = k + 1 := ⟨j - i - 1, by omega⟩
        rw [hk, show j - (i + 1) = k by omega]
        rfl
      · rw [if_neg h2, if_neg (by omega)]
theorem eTake_get {c : ETr EV} : ∀ {k o : Nat} {l : List EV}, eTake c k o = some l → l.length = k ∧ ∀ j, j < k → c.get (o + j) = l[j]?
  | 0, o, l, h => by
    obtain rfl : [] = l := Option.some.inj h
    exact ⟨rfl, fun j hj => by omega⟩
  | k + 1, o, l, h => by
    have h : (match c.get o with | some v => (match eTake c k (o + 1) with | some l => some (v :: l) | none => none) | none => none) = some l := h
    cases hv : c.get o with
    | none => rw [hv] at h; cases h
    | some v =>
      rw [hv] at h
      cases hl : eTake c k (o + 1) with
      | none => rw [hl] at h; cases h
      | some m =>
        rw [hl] at h
        obtain rfl : v :: m = l := Option.some.inj h
        obtain ⟨h1, h2⟩ := eTake_get hl
        refine ⟨by rw [List.length_cons, h1], fun j hj => ?_⟩
        cases j with
        | zero => exact hv
        | succ j => rw [show o + (j + 1) = o + 1 + j by omega, h2 j (by omega)]; rfl

/-! Temporaries. -/
def D16.num : D16 → Nat
  | .d0 => 0 | .d1 => 1 | .d2 => 2 | .d3 => 3 | .d4 => 4 | .d5 => 5 | .d6 => 6 | .d7 => 7 | .d8 => 8 | .d9 => 9 | .d10 => 10 | .d11 => 11 | .d12 => 12 | .d13 => 13 | .d14 => 14 | .d15 => 15
theorem d16_num : ∀ n, n < 16 → (d16 n).num = n
  | 0, _ => rfl | 1, _ => rfl | 2, _ => rfl | 3, _ => rfl | 4, _ => rfl | 5, _ => rfl | 6, _ => rfl | 7, _ => rfl | 8, _ => rfl | 9, _ => rfl | 10, _ => rfl | 11, _ => rfl | 12, _ => rfl | 13, _ => rfl | 14, _ => rfl | 15, _ => rfl
  | n + 16, h => by omega
theorem d16_inj {a b : Nat} (ha : a < 16) (hb : b < 16) (h : d16 a = d16 b) : a = b := by
  have := congrArg D16.num h
  rwa [d16_num a ha, d16_num b hb] at this
theorem eGet_put {α : Type} (d : D16) (n : N16 α) (v : α) : (eGetC d).f ((ePutC d).f n v) = v := by cases d <;> rfl
theorem eGet_put_ne {α : Type} (d e : D16) (n : N16 α) (v : α) (h : d ≠ e) : (eGetC e).f ((ePutC d).f n v) = (eGetC e).f n := by
  cases d <;> cases e <;> first | exact absurd rfl h | rfl
theorem ERg.get_set (r : ERg) (t : Nat) (v : EV) : ERg.get t (r.set t v) = v := by
  unfold ERg.get ERg.set
  rw [eGet_put, eGet_put]
theorem ERg.get_set_ne (r : ERg) {t u : Nat} (v : EV) (ht : t < 256) (hu : u < 256) (h : t ≠ u) : ERg.get u (r.set t v) = ERg.get u r := by
  unfold ERg.get ERg.set
  by_cases hd : d16 (t / 16) = d16 (u / 16)
  · have h1 := d16_inj (by omega) (by omega) hd
    rw [hd, eGet_put, eGet_put_ne _ _ _ _ fun e => by have := d16_inj (by omega) (by omega) e; omega]
  · rw [eGet_put_ne _ _ _ _ hd]
theorem eRg0_get (t : Nat) : ERg.get t eRg0 = .tup [] := by
  unfold ERg.get
  cases d16 (t / 16) <;> cases d16 (t % 16) <;> rfl
end Go.Proofs.YtjckpgcmfieaoaaGreatDoor
namespace Go.Proofs.YtjckpgcmfieaoaaGreatDoor

/-- What a form stands for: a number; a row of bytes. -/
noncomputable def SX.den (σ : Nat → Option Nat) : SX → Option (Int × List Nat)
  | .var n lo hi => match σ n with
    | some v => if lo ≤ v ∧ v ≤ hi then some (v, []) else none
    | none => none
  | .dm m M e => match e.den σ with
    | some (z, _) => if 0 ≤ z then some (if M = 0 then z / m else z / m % M, []) else none
    | none => none
  | .sha i l => match l.den σ with
    | some (_, bs) => some (((hSum bs).getD i 0 : Nat), [])
    | none => none
  | .cst c => some (c, [])
  | .term c a r => match a.den σ with
    | some (x, _) => match r.den σ with
      | some (y, _) => some (c * x + y, [])
      | none => none
    | none => none
  | .nil => some (0, [])
  | .cons b l => match b.den σ with
    | some (x, _) => match l.den σ with
      | some (_, bs) => if 0 ≤ x ∧ x < 256 then some (0, x.toNat :: bs) else none
      | none => none
    | none => none
/-- It stands for the number z. -/
def SN (σ : Nat → Option Nat) (e : SX) (z : Int) : Prop := ∃ bs, e.den σ = some (z, bs)
/-- It stands for those bytes. -/
def SB (σ : Nat → Option Nat) (e : SX) (bs : List Nat) : Prop := ∃ z, e.den σ = some (z, bs)

section
variable {σ τ : Nat → Option Nat}
theorem SX.den_mono (h : ∀ n v, σ n = some v → τ n = some v) : ∀ (e : SX) {p : Int × List Nat}, e.den σ = some p → e.den τ = some p
  | .var n lo hi, p, e => by
    unfold SX.den at *
    cases hv : σ n with
    | none => rw [hv] at e; cases e
    | some v => rw [hv] at e; rw [h n v hv]; exact e
  | .dm m M x, p, e => by
    unfold SX.den at *
    cases hv : x.den σ with
    | none => rw [hv] at e; cases e
    | some v => rw [hv] at e; rw [SX.den_mono h x hv]; exact e
  | .sha i l, p, e => by
    unfold SX.den at *
    cases hv : l.den σ with
    | none => rw [hv] at e; cases e
    | some v => rw [hv] at e; rw [SX.den_mono h l hv]; exact e
  | .cst c, p, e => e
  | .term c a r, p, e => by
    unfold SX.den at *
    cases hv : a.den σ with
    | none => rw [hv] at e; cases e
    | some v =>
      rw [hv] at e
      cases hw : r.den σ with
      | none => rw [hw] at e; cases e
      | some w => rw [hw] at e; rw [SX.den_mono h a hv, SX.den_mono h r hw]; exact e
  | .nil, p, e => e
  | .cons b l, p, e => by
    unfold SX.den at *
    cases hv : b.den σ with
    | none => rw [hv] at e; cases e
    | some v =>
      rw [hv] at e
      cases hw : l.den σ with
      | none => rw [hw] at e; cases e
      | some w => rw [hw] at e; rw [SX.den_mono h b hv, SX.den_mono h l hw]; exact e
theorem SN.mono (h : ∀ n v, σ n = some v → τ n = some v) {e : SX} {z : Int} : SN σ e z → SN τ e z := fun ⟨b, k⟩ => ⟨b, SX.den_mono h e k⟩
theorem SB.mono (h : ∀ n v, σ n = some v → τ n = some v) {e : SX} {z : List Nat} : SB σ e z → SB τ e z := fun ⟨b, k⟩ => ⟨b, SX.den_mono h e k⟩
theorem SN.inj {e : SX} {z y : Int} : SN σ e z → SN σ e y → z = y := fun ⟨_, h⟩ ⟨_, k⟩ => by rw [h] at k; injection k with k; injection k
theorem SB.inj {e : SX} {z y : List Nat} : SB σ e z → SB σ e y → z = y := fun ⟨_, h⟩ ⟨_, k⟩ => by rw [h] at k; injection k with k; injection k
theorem SN.cst (c : Int) : SN σ (.cst c) c := ⟨_, rfl⟩
theorem SN.cst_inv {c z : Int} (h : SN σ (.cst c) z) : z = c := h.inj (.cst c)
theorem SN.term {c x y : Int} {a r : SX} : SN σ a x → SN σ r y → SN σ (.term c a r) (c * x + y) := fun ⟨_, h⟩ ⟨_, k⟩ => ⟨[], by unfold SX.den; rw [h, k]⟩
theorem SN.term_inv {c z : Int} {a r : SX} : SN σ (.term c a r) z → ∃ x y, SN σ a x ∧ SN σ r y ∧ z = c * x + y := fun ⟨b, h⟩ => by
  unfold SX.den at h
  cases hv : a.den σ with
  | none => rw [hv] at h; cases h
  | some v =>
    rw [hv] at h
    cases hw : r.den σ with
    | none => rw [hw] at h; cases h
    | some w =>
      rw [hw] at h
      simp only [Option.some.injEq, Prod.mk.injEq] at h
      exact ⟨v.1, w.1, ⟨v.2, hv⟩, ⟨w.2, hw⟩, h.1.symm⟩
theorem SN.dm {m M : Nat} {z : Int} {e : SX} (hz : 0 ≤ z) : SN σ e z → SN σ (.dm m M e) (if M = 0 then z / m else z / m % M) := fun ⟨_, h⟩ => ⟨[], by unfold SX.den; rw [h]; exact if_pos hz⟩
theorem SN.dm_inv {m M : Nat} {y : Int} {e : SX} : SN σ (.dm m M e) y → ∃ z, 0 ≤ z ∧ SN σ e z ∧ y = if M = 0 then z / m else z / m % M := fun ⟨b, h⟩ => by
  unfold SX.den at h
  cases hv : e.den σ with
  | none => rw [hv] at h; cases h
  | some v =>
    rw [hv] at h
    simp only at h
    split at h
    · rename_i h0
      simp only [Option.some.injEq, Prod.mk.injEq] at h
      exact ⟨v.1, h0, ⟨v.2, hv⟩, h.1.symm⟩
    · cases h
theorem SN.sha {i : Nat} {l : SX} {bs : List Nat} : SB σ l bs → SN σ (.sha i l) ((hSum bs).getD i 0 : Nat) := fun ⟨_, h⟩ => ⟨[], by unfold SX.den; rw [h]⟩
theorem SB.nil : SB σ .nil [] := ⟨0, rfl⟩
theorem SB.cons {b l : SX} {x : Int} {bs : List Nat} (h0 : 0 ≤ x) (h1 : x < 256) : SN σ b x → SB σ l bs → SB σ (.cons b l) (x.toNat :: bs) := fun ⟨_, h⟩ ⟨_, k⟩ => ⟨0, by unfold SX.den; rw [h, k]; exact if_pos ⟨h0, h1⟩⟩
theorem SB.cons_inv {b l : SX} {cs : List Nat} (h : SB σ (.cons b l) cs) : ∃ x bs, 0 ≤ x ∧ x < 256 ∧ SN σ b x ∧ SB σ l bs ∧ cs = x.toNat :: bs := by
  obtain ⟨z, h⟩ := h
  unfold SX.den at h
  cases hv : b.den σ with
  | none => rw [hv] at h; cases h
  | some v =>
    rw [hv] at h
    cases hw : l.den σ with
    | none => rw [hw] at h; cases h
    | some w =>
      rw [hw] at h
      simp only at h
      split at h
      · rename_i h0
        simp only [Option.some.injEq, Prod.mk.injEq] at h
        exact ⟨v.1, w.2, h0.1, h0.2, ⟨v.2, hv⟩, ⟨w.1, hw⟩, h.2.symm⟩
      · cases h

/-! A byte of a sum. -/
theorem hSum_byte (l : List Nat) (i : Nat) : (hSum l).getD i 0 ≤ 255 := by
  have hb : ∀ w i, hByte w i ≤ 255 := fun w i => Nat.le_of_lt_succ (Nat.mod_lt _ (by omega))
  have hm : ∀ x ∈ hSum l, x ≤ 255 := by
    unfold hSum hBytes
    intro x hx
    generalize hBlocks _ _ _ = v at hx
    cases v
    simp only [List.mem_append, List.mem_cons, List.not_mem_nil, or_false] at hx
    rcases hx with (rfl | rfl | rfl | rfl) | (rfl | rfl | rfl | rfl) | (rfl | rfl | rfl | rfl) | (rfl | rfl | rfl | rfl) | (rfl | rfl | rfl | rfl) | (rfl | rfl | rfl | rfl) | (rfl | rfl | rfl | rfl) | (rfl | rfl | rfl | rfl) <;> exact hb _ _
  rw [List.getD_eq_getElem?_getD]
  cases h : (hSum l)[i]? with
  | none => exact Nat.zero_le _
  | some x => exact hm x (List.mem_of_getElem? h)
theorem hSum_len (l : List Nat) : (hSum l).length = 32 := by
  unfold hSum hBytes
  generalize hBlocks _ _ _ = v
  cases v
  rfl

/-! Bounds. -/
theorem sIntLe_iff (a b : Int) : sIntLe a b = true ↔ a ≤ b := by
  cases a <;> cases b <;> simp [sIntLe] <;> omega
theorem sIntEq_iff (a b : Int) : sIntEq a b = true ↔ a = b := by
  cases a <;> cases b <;> simp [sIntEq, Nat.beq_eq] <;> omega
theorem ediv_mono (m : Nat) {a b : Int} (h : a ≤ b) : a / (m : Int) ≤ b / (m : Int) := by
  cases m with
  | zero => simp
  | succ m => exact Int.ediv_le_ediv (by omega) h
theorem sBnd_ok : ∀ (e : SX) {z : Int}, SN σ e z → (sBnd e).lo ≤ z ∧ z ≤ (sBnd e).hi
  | .var n lo hi, z, ⟨b, h⟩ => by
    unfold SX.den at h
    cases hv : σ n with
    | none => rw [hv] at h; cases h
    | some v =>
      rw [hv] at h
      simp only at h
      split at h
      · rename_i h0
        simp only [Option.some.injEq, Prod.mk.injEq] at h
        show (lo : Int) ≤ z ∧ z ≤ (hi : Int)
        omega
      · cases h
  | .dm m M e, z, h => by
    obtain ⟨y, h0, h1, rfl⟩ := h.dm_inv
    have ih := sBnd_ok e h1
    cases M with
    | zero =>
      rw [if_pos rfl]
      exact ⟨ediv_mono m ih.1, ediv_mono m ih.2⟩
    | succ M =>
      rw [if_neg (by omega)]
      have a := Int.emod_nonneg (y / m) (show ((M + 1 : Nat) : Int) ≠ 0 by omega)
      have b := Int.emod_lt_of_pos (y / m) (show (0 : Int) < ((M + 1 : Nat) : Int) by omega)
      show (0 : Int) ≤ _ ∧ _ ≤ (M : Int)
      omega
  | .sha i l, z, ⟨b, h⟩ => by
    unfold SX.den at h
    cases hv : l.den σ with
    | none => rw [hv] at h; cases h
    | some v =>
      rw [hv] at h
      simp only [Option.some.injEq, Prod.mk.injEq] at h
      have := hSum_byte v.2 i
      show (0 : Int) ≤ z ∧ z ≤ 255
      rw [← h.1]
      omega
  | .cst c, z, h => by
    obtain rfl := h.cst_inv
    exact ⟨Int.le_refl _, Int.le_refl _⟩
  | .term c a r, z, h => by
    obtain ⟨x, y, hx, hy, rfl⟩ := h.term_inv
    have i1 := sBnd_ok a hx
    have i2 := sBnd_ok r hy
    cases c with
    | ofNat c =>
      have g1 := Int.mul_le_mul_of_nonneg_left i1.1 (show (0 : Int) ≤ .ofNat c from Int.natCast_nonneg c)
      have g2 := Int.mul_le_mul_of_nonneg_left i1.2 (show (0 : Int) ≤ .ofNat c from Int.natCast_nonneg c)
      exact ⟨Int.add_le_add g1 i2.1, Int.add_le_add g2 i2.2⟩
    | negSucc c =>
      have g1 := Int.mul_le_mul_of_nonpos_left (show Int.negSucc c ≤ 0 by omega) i1.1
      have g2 := Int.mul_le_mul_of_nonpos_left (show Int.negSucc c ≤ 0 by omega) i1.2
      exact ⟨Int.add_le_add g2 i2.1, Int.add_le_add g1 i2.2⟩
  | .nil, z, ⟨b, h⟩ => by
    unfold SX.den at h
    simp only [Option.some.injEq, Prod.mk.injEq] at h
    show (0 : Int) ≤ z ∧ z ≤ 0
    omega
  | .cons b l, z, h => by
    obtain ⟨bs, h⟩ := h
    obtain ⟨x, cs, h0, h1, ⟨_, h2⟩, ⟨_, h3⟩, -⟩ := SB.cons_inv ⟨z, h⟩
    unfold SX.den at h
    rw [h2, h3] at h
    simp only at h
    rw [if_pos ⟨h0, h1⟩] at h
    simp only [Option.some.injEq, Prod.mk.injEq] at h
    show (0 : Int) ≤ z ∧ z ≤ 0
    omega
theorem sEqX_iff : ∀ (a b : SX), sEqX a b = true → a = b := by
  intro a
  induction a with
  | var n lo hi => intro b h; cases b <;> first | (simp only [sEqX, Bool.and_eq_true, Nat.beq_eq] at h; obtain ⟨⟨rfl, rfl⟩, rfl⟩ := h; rfl) | cases h
  | dm m M e ih =>
    intro b h
    cases b <;> try (cases h; done)
    rename_i m' M' e'
    have h : (match Nat.beq m m' && Nat.beq M M' with | true => sEqX e e' | false => false) = true := h
    split at h
    · rename_i hb
      rw [Bool.and_eq_true, Nat.beq_eq, Nat.beq_eq] at hb
      rw [hb.1, hb.2, ih e' h]
    · cases h
  | sha i l ih =>
    intro b h
    cases b <;> try (cases h; done)
    rename_i j l'
    have h : (match Nat.beq i j with | true => sEqX l l' | false => false) = true := h
    split at h
    · rename_i hb
      rw [Nat.beq_eq] at hb
      rw [hb, ih l' h]
    · cases h
  | cst c => intro b h; cases b <;> first | (rw [show _ = _ from (sIntEq_iff _ _).1 h]) | cases h
  | term c a r ia ir =>
    intro b h
    cases b <;> try (cases h; done)
    rename_i d a' r'
    have h : (match sIntEq c d with | true => (match sEqX a a' with | true => sEqX r r' | false => false) | false => false) = true := h
    split at h
    · rename_i hb
      split at h
      · rename_i hc
        rw [(sIntEq_iff _ _).1 hb, ia a' hc, ir r' h]
      · cases h
    · cases h
  | nil => intro b h; cases b <;> first | rfl | cases h
  | cons a r ia ir =>
    intro b h
    cases b <;> try (cases h; done)
    rename_i a' r'
    have h : (match sEqX a a' with | true => sEqX r r' | false => false) = true := h
    split at h
    · rename_i hc
      rw [ia a' hc, ir r' h]
    · cases h

/-! Sums. -/
theorem SN.one {e : SX} {z : Int} (h : SN σ e z) (d : Int) : SN σ (.term 1 e (.cst d)) (z + d) := by simpa using h.term (c := 1) (.cst d)
theorem SN.one0 {e : SX} {z : Int} (h : SN σ e z) : SN σ (.term 1 e (.cst 0)) z := by
  have := h.one 0
  rwa [Int.add_zero] at this
theorem SN.sc0 {e : SX} {z : Int} (k : Int) (h : SN σ e z) : SN σ (.term k e (.cst 0)) (k * z) := by
  have := h.term (c := k) (.cst 0)
  rwa [Int.add_zero] at this
theorem sForm_ok {e : SX} {z : Int} (h : SN σ e z) : SN σ (sForm e) z := by
  cases e <;> first | exact h | exact h.one0
theorem SN.nil_inv {z : Int} (h : SN σ .nil z) : z = 0 := by
  obtain ⟨b, h⟩ := h
  unfold SX.den at h
  simp only [Option.some.injEq, Prod.mk.injEq] at h
  exact h.1.symm
theorem SN.cons_inv {b l : SX} {z : Int} (h : SN σ (.cons b l) z) : z = 0 := by
  have := sBnd_ok _ h
  have : (0 : Int) ≤ z ∧ z ≤ 0 := this
  omega
theorem sAddC_ok (d : Int) : ∀ (f : SX) {z : Int}, SN σ f z → SN σ (sAddC d f) (z + d)
  | .var .., z, h => h.one d
  | .dm .., z, h => h.one d
  | .sha .., z, h => h.one d
  | .cst c, z, h => by
    obtain rfl := h.cst_inv
    exact .cst _
  | .term c a r, z, h => by
    obtain ⟨x, y, hx, hy, rfl⟩ := h.term_inv
    have := hx.term (c := c) (sAddC_ok d r hy)
    rw [Int.add_assoc]
    exact this
  | .nil, z, h => by rw [h.nil_inv, Int.zero_add]; exact .cst d
  | .cons .., z, h => by rw [h.cons_inv, Int.zero_add]; exact .cst d
theorem sMul_ok (k : Int) {f : SX} {z : Int} (h : SN σ f z) : SN σ (sMul k f) (k * z) := by
  unfold sMul
  split
  · rename_i h0
    rw [(sIntEq_iff _ _).1 h0, Int.zero_mul]
    exact .cst 0
  · revert z
    induction f with
    | term c a r _ ih =>
      intro z h
      obtain ⟨x, y, hx, hy, rfl⟩ := h.term_inv
      have := hx.term (c := k * c) (ih hy)
      rw [Int.mul_add, ← Int.mul_assoc]
      exact this
    | cst c =>
      intro z h
      obtain rfl := h.cst_inv
      exact .cst _
    | nil => intro z h; rw [h.nil_inv, Int.mul_zero]; exact .cst 0
    | cons => intro z h; rw [h.cons_inv, Int.mul_zero]; exact .cst 0
    | _ => intro z h; exact h.sc0 k
/-- A number's digits over m * M, put together. -/
theorem dm_join (e : Int) (m M M' : Nat) (hM : 0 < M) (h0 : 0 ≤ e) :
    (if M = 0 then e / m else e / m % M) + M * (if M' = 0 then e / (m * M : Nat) else e / (m * M : Nat) % M') = (if M * M' = 0 then e / m else e / m % (M * M' : Nat)) := by
  rw [if_neg (by omega)]
  have hq : e / ((m * M : Nat) : Int) = e / m / M := by
    rw [Int.natCast_mul, ← Int.ediv_ediv_of_nonneg (by omega)]
  rw [hq]
  have hq0 : 0 ≤ e / (m : Int) := Int.ediv_nonneg h0 (by omega)
  generalize e / (m : Int) = q at hq0
  have hd := Int.emod_add_mul_ediv q M
  by_cases hz : M' = 0
  · rw [if_pos hz, hz, Nat.mul_zero, if_pos rfl]
    exact hd
  · rw [if_neg hz, if_neg (Nat.mul_ne_zero (by omega) hz), Int.natCast_mul]
    obtain ⟨n, rfl⟩ := Int.eq_ofNat_of_zero_le hq0
    have := Nat.mod_mul (a := M) (b := M') (x := n)
    have e1 : ((n : Int) % ((M : Int) * (M' : Int))) = ((n % (M * M') : Nat) : Int) := by simp
    rw [e1, this]
    simp
theorem sJoin_ok {c c' : Int} {a a' : SX} {p : Int × SX} (h : sJoin c a c' a' = some p) {x y : Int} (hx : SN σ a x) (hy : SN σ a' y) : ∃ z, SN σ p.2 z ∧ c * x + c' * y = p.1 * z := by
  unfold sJoin at h
  split at h
  · rename_i he
    obtain rfl := Option.some.inj h
    obtain rfl := sEqX_iff _ _ he
    obtain rfl := hx.inj hy
    exact ⟨x, hx, (Int.add_mul c c' x).symm⟩
  · cases a with
    | dm m M e =>
      cases M with
      | zero => cases h
      | succ p0 =>
        cases a' with
        | dm m' M' e' =>
          simp only at h
          split at h
          · rename_i hb
            rw [Bool.and_eq_true, Bool.and_eq_true, Nat.beq_eq, sIntEq_iff] at hb
            obtain ⟨⟨h1, h2⟩, h3⟩ := hb
            obtain rfl := sEqX_iff _ _ h3
            obtain rfl := Option.some.inj h
            obtain ⟨z, h0, hz, rfl⟩ := hx.dm_inv
            obtain ⟨z', -, hz', rfl⟩ := hy.dm_inv
            obtain rfl := hz.inj hz'
            refine ⟨_, hz.dm h0, ?_⟩
            have h2 : c' = c * ((p0 + 1 : Nat) : Int) := h2
            have h1 : m' = m * (p0 + 1) := h1
            rw [h1, h2, Int.mul_assoc, ← Int.mul_add]
            congr 1
            exact dm_join z m (p0 + 1) M' (by omega) h0
          · cases h
        | _ => cases h
    | _ => cases h
theorem sAddT_ok (c : Int) {a : SX} {x : Int} (hx : SN σ a x) : ∀ (f : SX) {z : Int}, SN σ f z → SN σ (sAddT c a f) (c * x + z)
  | .var .., z, h => hx.term (c := c) h.one0
  | .dm .., z, h => hx.term (c := c) h.one0
  | .sha .., z, h => hx.term (c := c) h.one0
  | .cst d, z, h => hx.term h
  | .nil, z, h => by rw [h.nil_inv]; exact hx.term (.cst 0)
  | .cons .., z, h => by rw [h.cons_inv]; exact hx.term (.cst 0)
  | .term c' a' r, z, h => by
    obtain ⟨u, y, hu, hy, rfl⟩ := h.term_inv
    show SN σ (match sJoin c a c' a' with
      | none => .term c' a' (sAddT c a r)
      | some p => match sIntEq p.1 0 with
        | true => r
        | false => .term p.1 p.2 r) _
    cases hj : sJoin c a c' a' with
    | none =>
      have := hu.term (c := c') (sAddT_ok c hx r hy)
      rw [show c * x + (c' * u + y) = c' * u + (c * x + y) by omega]
      exact this
    | some p =>
      obtain ⟨v, hv, e⟩ := sJoin_ok hj hx hu
      rw [← Int.add_assoc, e]
      simp only
      split
      · rename_i h0
        rw [(sIntEq_iff _ _).1 h0, Int.zero_mul, Int.zero_add]
        exact hy
      · exact hv.term hy
theorem sAddF_ok : ∀ (f : SX) {g : SX} {x y : Int}, SN σ f x → SN σ g y → SN σ (sAddF f g) (x + y)
  | .var .., g, x, y, h, k => by
    have := sAddT_ok 1 h g k
    rw [Int.one_mul] at this
    exact this
  | .dm .., g, x, y, h, k => by
    have := sAddT_ok 1 h g k
    rw [Int.one_mul] at this
    exact this
  | .sha .., g, x, y, h, k => by
    have := sAddT_ok 1 h g k
    rw [Int.one_mul] at this
    exact this
  | .cst d, g, x, y, h, k => by
    rw [h.cst_inv, Int.add_comm]
    exact sAddC_ok d g k
  | .nil, g, x, y, h, k => by rw [h.nil_inv, Int.zero_add]; exact k
  | .cons .., g, x, y, h, k => by rw [h.cons_inv, Int.zero_add]; exact k
  | .term c a r, g, x, y, h, k => by
    obtain ⟨u, v, hu, hv, rfl⟩ := h.term_inv
    have := sAddT_ok c hu _ (sAddF_ok r hv k)
    rw [Int.add_assoc]
    exact this
theorem sFlat_ok {f : SX} {z : Int} (h : SN σ f z) : SN σ (sFlat f) z := by
  unfold sFlat
  split
  · rename_i c e r
    obtain ⟨u, v, hu, hv, rfl⟩ := h.term_inv
    obtain ⟨q, -, hq, rfl⟩ := hu.dm_inv
    rw [if_pos rfl]
    have := sAddF_ok (sMul c e) (sMul_ok c hq) hv
    rw [Int.natCast_one, Int.ediv_one]
    exact this
  · exact h
theorem sAdd_ok {f g : SX} {x y : Int} (h : SN σ f x) (k : SN σ g y) : SN σ (sAdd f g) (x + y) := by
  rw [Int.add_comm]
  exact sFlat_ok (sAddF_ok g k (sForm_ok h))
theorem sSub_ok {f g : SX} {x y : Int} (h : SN σ f x) (k : SN σ g y) : SN σ (sSub f g) (x - y) := by
  have := sAdd_ok h (sMul_ok (-1) k)
  rw [show x - y = x + -1 * y by omega]
  exact this
theorem sDm1_ok {m M : Nat} {e : SX} {z : Int} (h : SN σ e z) (h0 : 0 ≤ z) : SN σ (sDm1 m M e) (if M = 0 then z / m else z / m % M) := by
  unfold sDm1
  split
  · rename_i n
    have := h.cst_inv
    subst this
    split
    · rw [if_pos rfl]
      exact .cst _
    · rename_i hM
      rw [if_neg (fun e => hM e)]
      exact .cst _
  · rename_i m' x
    obtain ⟨u, v, hu, hv, rfl⟩ := h.term_inv
    obtain ⟨q, hq0, hq, rfl⟩ := hu.dm_inv
    obtain rfl := hv.cst_inv
    rw [if_pos rfl]
    have e : (Int.ofNat 1 * (q / m') + Int.ofNat 0) / m = q / (m' * m : Nat) := by
      rw [show Int.ofNat 1 * (q / m') + Int.ofNat 0 = q / m' by simp, Int.natCast_mul, ← Int.ediv_ediv_of_nonneg (by omega)]
    rw [e]
    exact (hq.dm hq0 (m := m' * m) (M := M)).one0
  · exact (h.dm h0 (m := m) (M := M)).one0
theorem sMods_ok {m : Nat} : ∀ {f : SX} {z c : Int}, sMods m f = some c → SN σ f z → (∃ q, z = m * q + c) ∧ (1 ≤ m → SN σ (sQuo m f) (z / m))
  | .cst d, z, c, h, hz => by
    obtain rfl := hz.cst_inv
    obtain rfl := Option.some.inj (show some z = some c from h)
    exact ⟨⟨0, by omega⟩, fun _ => .cst _⟩
  | .term d a r, z, c, h, hz => by
    have h : (match sIntEq (Int.emod d (.ofNat m)) 0 with | true => sMods m r | false => none) = some c := h
    obtain ⟨x, y, hx, hy, rfl⟩ := hz.term_inv
    split at h
    · rename_i hd
      have hd : d % (m : Int) = 0 := (sIntEq_iff _ _).1 hd
      obtain ⟨⟨q, h1⟩, h2⟩ := sMods_ok h hy
      obtain ⟨k, rfl⟩ : ∃ k, d = m * k := ⟨d / m, by have := Int.mul_ediv_add_emod d m; omega⟩
      refine ⟨⟨k * x + q, by rw [h1, Int.mul_add, Int.mul_assoc]; omega⟩, fun hm => ?_⟩
      have hm0 : (m : Int) ≠ 0 := by omega
      have e1 : Int.ediv (↑m * k) (.ofNat m) = k := Int.mul_ediv_cancel_left k hm0
      have e2 : (↑m * k * x + y) / (m : Int) = k * x + y / m := by
        rw [Int.mul_assoc, Int.add_comm, Int.add_mul_ediv_left _ _ hm0, Int.add_comm]
      rw [e2]
      have := hx.term (c := k) (h2 hm)
      show SN σ (.term (Int.ediv (↑m * k) (.ofNat m)) a (sQuo m r)) _
      rw [e1]
      exact this
    · cases h
  | .var .., _, _, h, _ => by cases h
  | .dm .., _, _, h, _ => by cases h
  | .sha .., _, _, h, _ => by cases h
  | .nil, _, _, h, _ => by cases h
  | .cons .., _, _, h, _ => by cases h
theorem sDm2_ok {m M : Nat} {e : SX} {z : Int} (h : SN σ e z) (h0 : 0 ≤ z) (hm : 1 ≤ m) : SN σ (sDm2 m M e) (if M = 0 then z / m else z / m % M) := by
  unfold sDm2
  split
  · split
    · rename_i c hc
      rw [if_pos rfl]
      exact (sMods_ok hc h).2 hm
    · exact sDm1_ok h h0
  · rename_i M
    split
    · rename_i h1
      rw [Nat.beq_eq] at h1
      subst h1
      split
      · rename_i c hc
        obtain ⟨⟨q, rfl⟩, -⟩ := sMods_ok hc h
        rw [if_neg (by omega), Int.natCast_one, Int.ediv_one, Int.add_comm, Int.add_mul_emod_self_left]
        exact .cst _
      · exact sDm1_ok h h0
    · exact sDm1_ok h h0
theorem sDm_ok {m M : Nat} {e f : SX} {z : Int} (hf : sDm m M e = some f) (h : SN σ e z) : 0 ≤ z ∧ 1 ≤ m ∧ SN σ f (if M = 0 then z / m else z / m % M) := by
  unfold sDm at hf
  split at hf
  · cases hf
  · rename_i hm
    have hm := Nat.le_of_ble_eq_true hm
    have hb := sBnd_ok e h
    generalize sBnd e = b at hf hb
    obtain ⟨lo, hi⟩ := b
    simp only at hf hb
    split at hf
    · cases hf
    · rename_i hlo
      rw [sIntLe_iff] at hlo
      have h0 : 0 ≤ z := by omega
      refine ⟨h0, hm, ?_⟩
      split at hf
      · rename_i h1
        rw [sIntLe_iff] at h1
        have h1 : hi + 1 ≤ (m : Int) := h1
        obtain rfl := Option.some.inj hf
        have hz : z / (m : Int) = 0 := Int.ediv_eq_zero_of_lt h0 (by omega)
        rw [hz]
        split
        · exact .cst 0
        · rw [Int.zero_emod]; exact .cst 0
      · split at hf
        · rename_i h2
          rw [sIntLe_iff] at h2
          have h2 : hi + 1 ≤ ((m * M : Nat) : Int) := h2
          have hlt : z / (m : Int) < M := by
            apply Int.ediv_lt_of_lt_mul (by omega)
            rw [Int.natCast_mul, Int.mul_comm] at h2
            omega
          have hM : M ≠ 0 := fun e => by subst e; simp at h2; omega
          have hnn : 0 ≤ z / (m : Int) := Int.ediv_nonneg h0 (by omega)
          rw [if_neg hM, Int.emod_eq_of_lt hnn hlt]
          split at hf
          · rename_i h3
            rw [Nat.beq_eq] at h3
            obtain rfl := Option.some.inj hf
            subst h3
            simpa using h
          · obtain rfl := Option.some.inj hf
            have := sDm1_ok (m := m) (M := 0) h h0
            rw [if_pos rfl] at this
            exact this
        · split at hf
          · rename_i h3
            rw [Bool.and_eq_true, Nat.beq_eq, Nat.beq_eq] at h3
            obtain rfl := Option.some.inj hf
            obtain ⟨rfl, rfl⟩ := h3
            rw [if_pos rfl]
            simpa using h
          · obtain rfl := Option.some.inj hf
            exact sDm2_ok h h0 hm
theorem sSame_ok {a b : SX} {x y : Int} {r : Bool} (hr : sSame a b = some r) (ha : SN σ a x) (hb : SN σ b y) : r = true ↔ x = y := by
  have hd := sSub_ok ha hb
  unfold sSame at hr
  split at hr
  · rename_i c hc
    rw [hc] at hd
    have := hd.cst_inv
    obtain rfl := Option.some.inj hr
    rw [sIntEq_iff]
    omega
  · have hk := sBnd_ok _ hd
    generalize sBnd (sSub a b) = b0 at hr hk
    obtain ⟨lo, hi⟩ := b0
    simp only at hr hk
    split at hr
    · rename_i h1
      rw [sIntLe_iff] at h1
      obtain rfl := Option.some.inj hr
      simp
      omega
    · split at hr
      · rename_i h1
        rw [sIntLe_iff] at h1
        obtain rfl := Option.some.inj hr
        simp
        omega
      · cases hr
end
end Go.Proofs.YtjckpgcmfieaoaaGreatDoor
