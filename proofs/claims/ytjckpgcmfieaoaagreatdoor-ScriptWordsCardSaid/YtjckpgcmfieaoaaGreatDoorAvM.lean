/-
  The row in which a region that draws its order is done: what it is made of.
-/
import Derived.Test.YtjckpgcmfieaoaaGreatDoorAvL
namespace Go.Proofs.YtjckpgcmfieaoaaGreatDoor
open Go.RowKit

section
variable {P : Program}
/-- The masks. -/
theorem eMask_cons (acc : List EItem) (e : Edge) (es : List Edge) : eMask acc (e :: es) = match e.ground with
    | .textOnly _ => eMask acc es
    | .gcOnly _ => eMask acc es
    | _ => Nat.lor (Nat.lor (Nat.pow 2 e.on) (eMask acc es)) (match eNth acc e.on with | some x => x.m | none => 0) := rfl
theorem eMask_bit (acc : List EItem) (j : Nat) : ∀ (es : List Edge), (eMask acc es).testBit j = true ↔ ∃ e ∈ es, Region.binds .any e = true ∧ (e.on = j ∨ ∃ x, acc[e.on]? = some x ∧ x.m.testBit j = true)
  | [] => by simp [eMask]
  | e :: es => by
    have ih := eMask_bit acc j es
    have go : (Nat.lor (Nat.lor (Nat.pow 2 e.on) (eMask acc es)) (match eNth acc e.on with | some x => x.m | none => 0)).testBit j = true ↔ (e.on = j ∨ ∃ x, acc[e.on]? = some x ∧ x.m.testBit j = true) ∨ ∃ e ∈ es, Region.binds .any e = true ∧ (e.on = j ∨ ∃ x, acc[e.on]? = some x ∧ x.m.testBit j = true) := by
      show (((2 ^ e.on ||| eMask acc es) ||| (match eNth acc e.on with | some x => x.m | none => 0)).testBit j = true) ↔ _
      rw [Nat.testBit_or, Nat.testBit_or, Bool.or_eq_true, Bool.or_eq_true, ih, Nat.testBit_two_pow, eNth_eq]
      cases ha : acc[e.on]? with
      | none => simp
      | some x => simp; constructor <;> (intro h; rcases h with (h | h) | h <;> simp_all)
    rw [eMask_cons]
    cases hg : e.ground <;> simp only [] <;> first
      | (rw [ih]; simp [Region.binds, hg]; done)
      | (rw [go]; simp [Region.binds, hg]; done)
/-- What an item is. -/
structure ItemOk (all : List Oper) (its : List EItem) (x : EItem) : Prop where
  op : all[x.i]? = some x.o
  mask : ∃ acc : List EItem, (∀ i y, acc[i]? = some y → y.i = i ∧ y ∈ its) ∧ x.m = eMask acc x.o.after.toList
theorem eItems_cons (o : Oper) (l : List Oper) (acc : List EItem) : eItems (o :: l) acc = eItems l (acc ++ [⟨acc.length, o, eMask acc o.after.toList⟩]) := rfl
theorem eItems_pre : ∀ (l : List Oper) (acc : List EItem), ∀ y ∈ acc, y ∈ eItems l acc
  | [], acc, y, h => h
  | o :: l, acc, y, h => by rw [eItems_cons]; exact eItems_pre l _ y (List.mem_append_left _ h)
theorem eItems_ok (all : List Oper) : ∀ (l : List Oper) (acc : List EItem), (∀ i, l[i]? = all[acc.length + i]?) → (∀ i (y : EItem), acc[i]? = some y → y.i = i) → (∀ y ∈ acc, ItemOk all (eItems l acc) y) → ∀ y ∈ eItems l acc, ItemOk all (eItems l acc) y
  | [], acc, _, _, h => h
  | o :: l, acc, hl, hi, h => by
    rw [eItems_cons] at h ⊢
    refine eItems_ok all l _ (fun i => ?_) (fun i y hy => ?_) fun y hy => ?_
    · have := hl (i + 1)
      simp only [List.length_append, List.length_singleton]
      rw [show acc.length + 1 + i = acc.length + (i + 1) by omega, ← this]
      rfl
    · by_cases hlt : i < acc.length
      · rw [List.getElem?_append_left hlt] at hy; exact hi i y hy
      · rw [List.getElem?_append_right (by omega)] at hy
        have e : i - acc.length = 0 := by
          cases hq : i - acc.length with
          | zero => rfl
          | succ _ => rw [hq] at hy; cases hy
        rw [e] at hy
        obtain rfl := Option.some.inj hy
        show acc.length = i
        omega
    · rcases List.mem_append.1 hy with hy | hy
      · exact h y hy
      · obtain rfl := List.mem_singleton.1 hy
        refine ⟨?_, acc, fun i z hz => ⟨hi i z hz, eItems_pre l _ z (List.mem_append_left _ (List.mem_of_getElem? hz))⟩, rfl⟩
        have := hl 0
        simpa using this.symm
theorem items_ok (all : List Oper) : ∀ y ∈ eItems all [], ItemOk all (eItems all []) y :=
  eItems_ok all all [] (fun i => by simp) (fun i y h => by simp at h) fun y h => by cases h
/-- The row: who stands in it. -/
theorem eCanon_cons (all effs : List EItem) (e : EItem) (r : List EItem) (m : Nat) : eCanon P all effs (e :: r) m = (all.filter fun x => !(eIsEff P x) && Nat.beq (eLevel effs x) m) ++ e :: eCanon P all effs r (Nat.succ m) := rfl
theorem eCanon_mem {all effs : List EItem} : ∀ (r : List EItem) (m : Nat), (∀ x ∈ r, x ∈ all) → ∀ x ∈ eCanon P all effs r m, x ∈ all
  | [], m, _, x, hx => (List.mem_filter.1 hx).1
  | e :: r, m, h, x, hx => by
    rw [eCanon_cons] at hx
    rcases List.mem_append.1 hx with hx | hx
    · exact (List.mem_filter.1 hx).1
    · rcases List.mem_cons.1 hx with rfl | hx
      · exact h _ (List.mem_cons_self ..)
      · exact eCanon_mem r _ (fun y hy => h y (List.mem_cons_of_mem _ hy)) x hx
/-- The row: what its check tells. -/
structure RowOk (P : Program) (n : Nat) (l : List EItem) (seen effs i : Nat) (x : EItem) : Prop where
  lt : x.i < n
  mask : ∀ j, x.m.testBit j = true → seen.testBit j = true ∨ ∃ q y, q < i ∧ l[q]? = some y ∧ y.i = j
  effs : ∀ j, effs.testBit j = true → x.m.testBit j = true
  eff : ∀ q y, q < i → l[q]? = some y → eIsEff P y = true → x.m.testBit y.i = true
  new : seen.testBit x.i = false
  ne : ∀ q y, q < i → l[q]? = some y → y.i ≠ x.i
theorem eCanonOk_cons (n : Nat) (x : EItem) (l : List EItem) (seen effs : Nat) : eCanonOk P n (x :: l) seen effs = match Nat.beq (Nat.land x.m seen) x.m && Nat.beq (Nat.land x.m effs) effs && !(Nat.testBit seen x.i) && Nat.blt x.i n with
      | true => eCanonOk P n l (Nat.lor seen (Nat.pow 2 x.i)) (match eIsEff P x with | true => Nat.lor effs (Nat.pow 2 x.i) | false => effs)
      | false => false := rfl
theorem bit_or_pow (a i j : Nat) : (Nat.lor a (Nat.pow 2 i)).testBit j = true ↔ a.testBit j = true ∨ i = j := by
  show ((a ||| 2 ^ i).testBit j = true) ↔ _
  rw [Nat.testBit_or, Bool.or_eq_true, Nat.testBit_two_pow]
  simp
theorem land_sub {a b : Nat} (h : Nat.beq (Nat.land a b) a = true) (j : Nat) (hj : a.testBit j = true) : b.testBit j = true := by
  have e : a &&& b = a := Nat.eq_of_beq_eq_true h
  rw [← e, Nat.testBit_and, Bool.and_eq_true] at hj
  exact hj.2
theorem land_sub' {a b : Nat} (h : Nat.beq (Nat.land a b) b = true) (j : Nat) (hj : b.testBit j = true) : a.testBit j = true := by
  have e : a &&& b = b := Nat.eq_of_beq_eq_true h
  rw [← e, Nat.testBit_and, Bool.and_eq_true] at hj
  exact hj.1
theorem canonOk_inv {n : Nat} : ∀ (l : List EItem) (seen effs : Nat), eCanonOk P n l seen effs = true →
    (∀ j, j < n → seen.testBit j = true ∨ ∃ (q : Nat) (y : EItem), l[q]? = some y ∧ y.i = j) ∧ ∀ i x, l[i]? = some x → RowOk P n l seen effs i x
  | [], seen, effs, h => by
    have h : seen = 2 ^ n - 1 := Nat.eq_of_beq_eq_true (show Nat.beq seen (Nat.sub (Nat.pow 2 n) 1) = true from h)
    refine ⟨fun j hj => .inl (by rw [h, Nat.testBit_two_pow_sub_one]; simpa using hj), fun i x hx => by simp at hx⟩
  | x :: l, seen, effs, h => by
    rw [eCanonOk_cons] at h
    cases hb : (Nat.beq (Nat.land x.m seen) x.m && Nat.beq (Nat.land x.m effs) effs && !(Nat.testBit seen x.i) && Nat.blt x.i n) with
    | false => rw [hb] at h; cases h
    | true =>
      rw [hb] at h
      simp only at h
      simp only [Bool.and_eq_true, Bool.not_eq_true'] at hb
      obtain ⟨⟨⟨h1, h2⟩, h3⟩, h4⟩ := hb
      obtain ⟨g1, g2⟩ := canonOk_inv l _ _ h
      refine ⟨fun j hj => ?_, fun i y hy => ?_⟩
      · rcases g1 j hj with g | ⟨q, y, hq, e⟩
        · rcases (bit_or_pow _ _ _).1 g with g | g
          · exact .inl g
          · exact .inr ⟨0, x, rfl, g⟩
        · exact .inr ⟨q + 1, y, hq, e⟩
      · cases i with
        | zero =>
          obtain rfl := Option.some.inj hy
          exact ⟨Nat.le_of_ble_eq_true h4, fun j hj => .inl (land_sub h1 j hj), fun j hj => land_sub' h2 j hj, fun q _ hq => by omega, h3, fun q _ hq => by omega⟩
        | succ i =>
          obtain ⟨k1, k2, k3, k4, k5, k6⟩ := g2 i y hy
          have hns : ¬ (seen.testBit y.i = true ∨ x.i = y.i) := fun hq => by
            rw [(bit_or_pow _ _ _).2 hq] at k5; cases k5
          refine ⟨k1, fun j hj => ?_, fun j hj => ?_, fun q z hq hz he => ?_, ?_, fun q z hq hz => ?_⟩
          · rcases k2 j hj with g | ⟨q, z, hq, hz, e⟩
            · rcases (bit_or_pow _ _ _).1 g with g | g
              · exact .inl g
              · exact .inr ⟨0, x, by omega, rfl, g⟩
            · exact .inr ⟨q + 1, z, by omega, hz, e⟩
          · refine k3 j ?_
            cases eIsEff P x with
            | true => exact (bit_or_pow _ _ _).2 (.inl hj)
            | false => exact hj
          · cases q with
            | zero =>
              obtain rfl := Option.some.inj hz
              refine k3 _ ?_
              rw [he]
              exact (bit_or_pow _ _ _).2 (.inr rfl)
            | succ q => exact k4 q z (by omega) hz he
          · cases hq : seen.testBit y.i with
            | false => rfl
            | true => exact absurd (.inl hq) hns
          · cases q with
            | zero =>
              obtain rfl := Option.some.inj hz
              exact fun e => hns (.inr e)
            | succ q => exact k6 q z (by omega) hz
/-- Who writes what another one looks at. -/
theorem touch_inv {all : List Oper} {its : List EItem} (h : eTouchOk all its = true) {x : EItem} (hx : x ∈ its) :
    ((∀ c, x.o.op ≠ .defer c) ∧ ∀ c b, x.o.op ≠ .select c b) ∧ ∀ y ∈ its, ∀ d, x.o.dst = some d → (d ∈ y.o.looksAt all.toArray ∨ y.o.dst = some d) → x.i = y.i ∨ x.m.testBit y.i = true ∨ y.m.testBit x.i = true := by
  unfold eTouchOk at h
  have h := List.all_eq_true.1 h x hx
  rw [Bool.and_eq_true] at h
  refine ⟨⟨fun c e => by (rw [e] at h; cases h.1), fun c b e => by (rw [e] at h; cases h.1)⟩, fun y hy d hd hl => ?_⟩
  have h := h.2
  rw [hd] at h
  have h := List.all_eq_true.1 h y hy
  simp only [Bool.or_eq_true, Bool.not_eq_true', Bool.or_eq_false_iff] at h
  rcases h with ((h | h) | h) | h
  · exact .inl (Nat.eq_of_beq_eq_true h)
  · exact .inr (.inl h)
  · exact .inr (.inr h)
  · exfalso
    rcases hl with hl | hl
    · have := h.1
      rw [List.contains_eq_mem] at this
      simp at this
      exact this hl
    · have := h.2
      rw [hl] at this
      simp at this
end
end Go.Proofs.YtjckpgcmfieaoaaGreatDoor
