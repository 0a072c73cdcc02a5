/-
  The row in which a region that draws its order is done: what it is made of.
-/
import Derived.Test.YtjckpgcmfieaoaaGreatDoorMbe
set_option linter.unusedVariables false
set_option linter.unusedSimpArgs false
namespace Go.Proofs.YtjckpgcmfieaoaaGreatDoor
open Go.RowKit

section
variable {P : Program}
/-- The masks. -/
theorem eMask_cons (acc : List EItem) (e : Edge) (es : List Edge) : eMask acc (e :: es) = match e.ground with
    | .textOnly _ => eMask acc es
    | .gcOnly _ => eMask acc es
    | _ => Nat.lor (Nat.lor (Nat.pow 2 e.on) (eMask acc es)) (match eNth acc e.on with | some x => x.m | none => 0) := rfl
theorem eMask_bit (acc : List EItem) (j : Nat) : ∀ (es : List Edge), (eMask acc es).testBit j = true ↔ ∃ e ∈ es, Region.binds .any e = true ∧ (e.on = j ∨ ∃ x, acc[e.on]? = some x ∧ x.m.testBit j = true)
  | [] => by simp [eMask]
  | e :: es => by
    have ih := eMask_bit acc j es
    have go : (Nat.lor (Nat.lor (Nat.pow 2 e.on) (eMask acc es)) (match eNth acc e.on with | some x => x.m | none => 0)).testBit j = true ↔ (e.on = j ∨ ∃ x, acc[e.on]? = some x ∧ x.m.testBit j = true) ∨ ∃ e ∈ es, Region.binds .any e = true ∧ (e.on = j ∨ ∃ x, acc[e.on]? = some x ∧ x.m.testBit j = true) := by
      show (((2 ^ e.on ||| eMask acc es) ||| (match eNth acc e.on with | some x => x.m | none => 0)).testBit j = true) ↔ _
      rw [Nat.testBit_or, Nat.testBit_or, Bool.or_eq_true, Bool.or_eq_true, ih, Nat.testBit_two_pow, eNth_eq]
      cases ha : acc[e.on]? with
      | none => simp
      | some x => simp; constructor <;> (intro h; rcases h with (h | h) | h <;> simp_all)
    rw [eMask_cons]
    cases hg : e.ground <;> simp only [] <;> first
      | (rw [ih]; simp [Region.binds, hg]; done)
      | (rw [go]; simp [Region.binds, hg]; done)
/-- What an item is. -/
structure ItemOk (all : List Oper) (its : List EItem) (x : EItem) : Prop where
  op : all[x.i]? = some x.o
  mask : ∃ acc : List EItem, (∀ i y, acc[i]? = some y → y.i = i ∧ y ∈ its) ∧ x.m = eMask acc x.o.after.toList
theorem eItems_cons (o : Oper) (l : List Oper) (acc : List EItem) : eItems (o :: l) acc = eItems l (acc ++ [⟨acc.length, o, eMask acc o.after.toList⟩]) := rfl
theorem eItems_pre : ∀ (l : List Oper) (acc : List EItem), ∀ y ∈ acc, y ∈ eItems l acc
  | [], acc, y, h => h
  | o :: l, acc, y, h => by rw [eItems_cons]; exact eItems_pre l _ y (List.mem_append_left _ h)
theorem eItems_ok (all : List Oper) : ∀ (l : List Oper) (acc : List EItem), (∀ i, l[i]? = all[acc.length + i]?) → (∀ i (y : EItem), acc[i]? = some y → y.i = i) → (∀ y ∈ acc, ItemOk all (eItems l acc) y) → ∀ y ∈ eItems l acc, ItemOk all (eItems l acc) y
  | [], acc, _, _, h => h
  | o :: l, acc, hl, hi, h => by
    rw [eItems_cons] at h ⊢
    refine eItems_ok all l _ (fun i => ?_) (fun i y hy => ?_) fun y hy => ?_
    · have := hl (i + 1)
      simp only [List.length_append, List.length_singleton]
      rw [show acc.length + 1 + i = acc.length + (i + 1) by omega, ← this]
      rfl
    · by_cases hlt : i < acc.length
      · rw [List.getElem?_append_left hlt] at hy; exact hi i y hy
      · rw [List.getElem?_append_right (by omega)] at hy
        have e : i - acc.length = 0 := by
          cases hq : i - acc.length with
          | zero => rfl
          | succ _ => rw [hq] at hy; cases hy
        rw [e] at hy
        obtain rfl := Option.some.inj hy
        show acc.length = i
        omega
    · rcases List.mem_append.1 hy with hy | hy
      · exact h y hy
      · obtain rfl := List.mem_singleton.1 hy
        refine ⟨?_, acc, fun i z hz => ⟨hi i z hz, eItems_pre l _ z (List.mem_append_left _ (List.mem_of_getElem? hz))⟩, rfl⟩
        have := hl 0
        simpa using this.symm
theorem items_ok (all : List Oper) : ∀ y ∈ eItems all [], ItemOk all (eItems all []) y :=
  eItems_ok all all [] (fun i => by simp) (fun i y h => by simp at h) fun y h => by cases h
/-- The row: who stands in it. -/
theorem eCanon_cons (all effs : List EItem) (e : EItem) (r : List EItem) (m : Nat) : eCanon P all effs (e :: r) m = (all.filter fun x => !(eIsEff P x) && Nat.beq (eLevel effs x) m) ++ e :: eCanon P all effs r (Nat.succ m) := rfl
theorem eCanon_mem {all effs : List EItem} : ∀ (r : List EItem) (m : Nat), (∀ x ∈ r, x ∈ all) → ∀ x ∈ eCanon P all effs r m, x ∈ all
  | [], m, _, x, hx => (List.mem_filter.1 hx).1
  | e :: r, m, h, x, hx => by
    rw [eCanon_cons] at hx
    rcases List.mem_append.1 hx with hx | hx
    · exact (List.mem_filter.1 hx).1
    · rcases List.mem_cons.1 hx with rfl | hx
      · exact h _ (List.mem_cons_self ..)
      · exact eCanon_mem r _ (fun y hy => h y (List.mem_cons_of_mem _ hy)) x hx
/-- The row: what its check tells. -/
structure RowOk (P : Program) (n : Nat) (l : List EItem) (seen effs i : Nat) (x : EItem) : Prop where
  lt : x.i < n
  mask : ∀ j, x.m.testBit j = true → seen.testBit j = true ∨ ∃ q y, q < i ∧ l[q]? = some y ∧ y.i = j
  effs : ∀ j, effs.testBit j = true → x.m.testBit j = true
  eff : ∀ q y, q < i → l[q]? = some y → eIsEff P y = true → x.m.testBit y.i = true
  new : seen.testBit x.i = false
  ne : ∀ q y, q < i → l[q]? = some y → y.i ≠ x.i
theorem eCanonOk_cons (n : Nat) (x : EItem) (l : List EItem) (seen effs : Nat) : eCanonOk P n (x :: l) seen effs = match Nat.beq (Nat.land x.m seen) x.m && Nat.beq (Nat.land x.m effs) effs && !(Nat.testBit seen x.i) && Nat.blt x.i n with
      | true => eCanonOk P n l (Nat.lor seen (Nat.pow 2 x.i)) (match eIsEff P x with | true => Nat.lor effs (Nat.pow 2 x.i) | false => effs)
      | false => false := rfl
theorem bit_or_pow (a i j : Nat) : (Nat.lor a (Nat.pow 2 i)).testBit j = true ↔ a.testBit j = true ∨ i = j := by
  show ((a ||| 2 ^ i).testBit j = true) ↔ _
  rw [Nat.testBit_or, Bool.or_eq_true, Nat.testBit_two_pow]
  simp
theorem land_sub {a b : Nat} (h : Nat.beq (Nat.land a b) a = true) (j : Nat) (hj : a.testBit j = true) : b.testBit j = true := by
  have e : a &&& b = a := Nat.eq_of_beq_eq_true h
  rw [← e, Nat.testBit_and, Bool.and_eq_true] at hj
  exact hj.2
theorem land_sub' {a b : Nat} (h : Nat.beq (Nat.land a b) b = true) (j : Nat) (hj : b.testBit j = true) : a.testBit j = true := by
  have e : a &&& b = b := Nat.eq_of_beq_eq_true h
  rw [← e, Nat.testBit_and, Bool.and_eq_true] at hj
  exact hj.1
theorem canonOk_inv {n : Nat} : ∀ (l : List EItem) (seen effs : Nat), eCanonOk P n l seen effs = true →
    (∀ j, j < n → seen.testBit j = true ∨ ∃ (q : Nat) (y : EItem), l[q]? = some y ∧ y.i = j) ∧ ∀ i x, l[i]? = some x → RowOk P n l seen effs i x
  | [], seen, effs, h => by
    have h : seen = 2 ^ n - 1 := Nat.eq_of_beq_eq_true (show Nat.beq seen (Nat.sub (Nat.pow 2 n) 1) = true from h)
    refine ⟨fun j hj => .inl (by rw [h, Nat.testBit_two_pow_sub_one]; simpa using hj), fun i x hx => by simp at hx⟩
  | x :: l, seen, effs, h => by
    rw [eCanonOk_cons] at h
    cases hb : (Nat.beq (Nat.land x.m seen) x.m && Nat.beq (Nat.land x.m effs) effs && !(Nat.testBit seen x.i) && Nat.blt x.i n) with
    | false => rw [hb] at h; cases h
    | true =>
      rw [hb] at h
      simp only at h
      simp only [Bool.and_eq_true, Bool.not_eq_true'] at hb
      obtain ⟨⟨⟨h1, h2⟩, h3⟩, h4⟩ := hb
      obtain ⟨g1, g2⟩ := canonOk_inv l _ _ h
      refine ⟨fun j hj => ?_, fun i y hy => ?_⟩
      · rcases g1 j hj with g | ⟨q, y, hq, e⟩
        · rcases (bit_or_pow _ _ _).1 g with g | g
          · exact .inl g
          · exact .inr ⟨0, x, rfl, g⟩
        · exact .inr ⟨q + 1, y, hq, e⟩
      · cases i with
        | zero =>
          obtain rfl := Option.some.inj hy
          exact ⟨Nat.le_of_ble_eq_true h4, fun j hj => .inl (land_sub h1 j hj), fun j hj => land_sub' h2 j hj, fun q _ hq => by omega, h3, fun q _ hq => by omega⟩
        | succ i =>
          obtain ⟨k1, k2, k3, k4, k5, k6⟩ := g2 i y hy
          have hns : ¬ (seen.testBit y.i = true ∨ x.i = y.i) := fun hq => by
            rw [(bit_or_pow _ _ _).2 hq] at k5; cases k5
          refine ⟨k1, fun j hj => ?_, fun j hj => ?_, fun q z hq hz he => ?_, ?_, fun q z hq hz => ?_⟩
          · rcases k2 j hj with g | ⟨q, z, hq, hz, e⟩
            · rcases (bit_or_pow _ _ _).1 g with g | g
              · exact .inl g
              · exact .inr ⟨0, x, by omega, rfl, g⟩
            · exact .inr ⟨q + 1, z, by omega, hz, e⟩
          · refine k3 j ?_
            cases eIsEff P x with
            | true => exact (bit_or_pow _ _ _).2 (.inl hj)
            | false => exact hj
          · cases q with
            | zero =>
              obtain rfl := Option.some.inj hz
              refine k3 _ ?_
              rw [he]
              exact (bit_or_pow _ _ _).2 (.inr rfl)
            | succ q => exact k4 q z (by omega) hz he
          · cases hq : seen.testBit y.i with
            | false => rfl
            | true => exact absurd (.inl hq) hns
          · cases q with
            | zero =>
              obtain rfl := Option.some.inj hz
              exact fun e => hns (.inr e)
            | succ q => exact k6 q z (by omega) hz
/-- Who writes what another one looks at. -/
theorem touch_inv {all : List Oper} {its : List EItem} (h : eTouchOk all its = true) {x : EItem} (hx : x ∈ its) :
    ((∀ c, x.o.op ≠ .defer c) ∧ ∀ c b, x.o.op ≠ .select c b) ∧ ∀ y ∈ its, ∀ d, x.o.dst = some d → (d ∈ y.o.looksAt all.toArray ∨ y.o.dst = some d) → x.i = y.i ∨ x.m.testBit y.i = true ∨ y.m.testBit x.i = true := by
  unfold eTouchOk at h
  have h := List.all_eq_true.1 h x hx
  rw [Bool.and_eq_true] at h
  refine ⟨⟨fun c e => by (rw [e] at h; cases h.1), fun c b e => by (rw [e] at h; cases h.1)⟩, fun y hy d hd hl => ?_⟩
  have h := h.2
  rw [hd] at h
  have h := List.all_eq_true.1 h y hy
  simp only [Bool.or_eq_true, Bool.not_eq_true', Bool.or_eq_false_iff] at h
  rcases h with ((h | h) | h) | h
  · exact .inl (Nat.eq_of_beq_eq_true h)
  · exact .inr (.inl h)
  · exact .inr (.inr h)
  · exfalso
    rcases hl with hl | hl
    · have := h.1
      rw [List.contains_eq_mem] at this
      simp at this
      exact this hl
    · have := h.2
      rw [hl] at this
      simp at this
end

section
variable {P : Program} {k : ECall} {N : Nat}
theorem eSameO_eq {a b : Option (Nat × Nat)} (h : eSameO a b = true) : a = b := by
  cases a with
  | none => cases b with | none => rfl | some _ => cases h
  | some p => cases b with
    | none => cases h
    | some q =>
      obtain ⟨p1, p2⟩ := p
      obtain ⟨q1, q2⟩ := q
      have h : (Nat.beq p1 q1 && Nat.beq p2 q2) = true := h
      rw [Bool.and_eq_true] at h
      rw [Nat.eq_of_beq_eq_true h.1, Nat.eq_of_beq_eq_true h.2]
theorem eSameS_eq {x y : EV} (h : eSameS x y = true) : x = y := by
  unfold eSameS at h
  split at h <;> (try (cases h; done)) <;> split at h <;> (try (cases h; done))
  · simp only [Bool.and_eq_true, beq_iff_eq, eIntEq_eq, decide_eq_true_eq] at h
    rw [h.1, h.2]
  · rename_i a _ b
    cases a <;> cases b <;> first | rfl | cases h
  · rw [(eNatsEq_eq _ _).1 h]
  · simp only [Bool.and_eq_true, beq_iff_eq] at h
    rw [h.1, sEqX_iff _ _ h.2]
  · rw [sEqX_iff _ _ h]
  · rw [eSameO_eq h]
  · simp only [Bool.and_eq_true] at h
    obtain ⟨⟨⟨h1, h2⟩, h3⟩, h4⟩ := h
    rw [eSameO_eq h1, Nat.eq_of_beq_eq_true h2, Nat.eq_of_beq_eq_true h3, Nat.eq_of_beq_eq_true h4]
  · rfl
  · rw [Nat.eq_of_beq_eq_true h]
  · rfl
  · rfl
  · rw [Nat.eq_of_beq_eq_true h]
theorem eSameL_cons (x : EV) (a b : List EV) : eSameL (x :: a) b = match b with
      | [] => false
      | y :: r => match eSameS x y with | true => eSameL a r | false => false := rfl
theorem eSameL_eq : ∀ {a b : List EV}, eSameL a b = true → a = b
  | [], [], _ => rfl
  | [], _ :: _, h => by cases h
  | x :: a, [], h => by cases h
  | x :: a, y :: b, h => by
    rw [eSameL_cons] at h
    simp only at h
    cases hs : eSameS x y with
    | false => rw [hs] at h; cases h
    | true =>
      rw [hs] at h
      rw [eSameS_eq hs, eSameL_eq h]
theorem eSame_eq {x y : EV} (h : eSame x y = true) : x = y := by
  unfold eSame at h
  split at h
  · split at h
    · rw [eSameL_eq h]
    · cases h
  · split at h
    · rw [eSameL_eq h]
    · cases h
  · exact eSameS_eq h
theorem eCheck_cons (m : Nat) (s : ESt) (p : EPend) (l : List EPend) : eCheck k m s (p :: l) = match Nat.testBit m p.i with
    | true => eCheck k m s l
    | false => EO.rec (motive := fun _ => Bool) false (fun v _ => match eSame p.v v with | true => eCheck k m s l | false => false) (p.c.f k p.tm s) := rfl
theorem check_inv {m : Nat} {s : ESt} : ∀ {l : List EPend}, eCheck k m s l = true → ∀ p ∈ l, m.testBit p.i = true ∨ ∃ s', p.c.f k p.tm s = .v p.v s'
  | [], _, p, hp => by cases hp
  | q :: l, h, p, hp => by
    rw [eCheck_cons] at h
    cases hb : Nat.testBit m q.i with
    | true =>
      rw [hb] at h
      rcases List.mem_cons.1 hp with rfl | hp
      · exact .inl hb
      · exact check_inv h p hp
    | false =>
      rw [hb] at h
      simp only at h
      cases hr : q.c.f k q.tm s with
      | er => rw [hr] at h; cases h
      | v v s' =>
        rw [hr] at h
        simp only at h
        cases hs : eSame q.v v with
        | false => rw [hs] at h; cases h
        | true =>
          rw [hs] at h
          rcases List.mem_cons.1 hp with rfl | hp
          · exact .inr ⟨s', by rw [hr, eSame_eq hs]⟩
          · exact check_inv h p hp
/-- What a guard says. -/
def GdIs (all : List Oper) (o : Oper) (tm : ERg) (b : Bool) : Prop := match o.guard with
  | none => b = true
  | some (j, want) => ∃ q p, all[j]? = some q ∧ q.dst = some p ∧ p < 256 ∧ ((∃ c, ERg.get p tm = .bool c ∧ b = (c == want)) ∨ (ERg.get p tm = .tup [] ∧ b = false))
theorem GdIs.wanted {all : List Oper} {o : Oper} {tm : ERg} {b : Bool} (h : GdIs all o tm b) {β : EMp} {a : Act} (hr : ∀ t ∈ o.looksAt all.toArray, t < 256 → VR β (ERg.get t tm) (a.tmps.getD t undef)) : Region.wanted o (yielded all.toArray a.tmps) = b := by
  unfold GdIs at h
  cases hg : o.guard with
  | none => rw [hg] at h; rw [h]; simp [Region.wanted, hg]
  | some gw =>
    obtain ⟨j, want⟩ := gw
    rw [hg] at h
    simp only at h
    obtain ⟨q, p, h1, h2, h3, h4⟩ := h
    have hv := hr p (by simp [Oper.looksAt, hg, h1, h2]) h3
    have hy : yielded all.toArray a.tmps j = match a.tmps.getD p undef with | .bool b => some b | _ => none := by
      unfold yielded
      rw [show all.toArray[j]? = some q by simpa using h1]
      simp only [Option.bind_some, h2]
      rw [Array.getD_eq_getD_getElem?]
      cases a.tmps[p]? with
      | none => rfl
      | some v => cases v <;> rfl
    generalize a.tmps.getD p undef = v at hv hy
    rcases h4 with ⟨c, h4, h5⟩ | ⟨h4, h5⟩
    · rw [h4] at hv
      obtain rfl := vr_bool hv
      simp only at hy
      rw [h5]
      simp [Region.wanted, hg, hy]
    · rw [h4] at hv
      obtain ⟨arr, rfl, -⟩ := vr_tup hv
      simp only at hy
      rw [h5]
      simp [Region.wanted, hg, hy]
theorem guardD_inv {all : List Oper} {x : EItem} {go ih : EClD} {tm : ERg} {df : EDf} {pd : List EPend} {s : ESt} {out : EOut} (h : (eGuardedD all N x go ih).f k tm df pd s = out) (ho : out ≠ .er) :
    (GdIs all x.o tm true ∧ go.f k tm df pd s = out) ∨ (GdIs all x.o tm false ∧ (∀ t, x.o.dst = some t → t < N) ∧ ih.f k (ePutD x.o.dst tm (.tup [])) df pd s = out) := by
  unfold eGuardedD at h
  unfold GdIs
  cases hg : x.o.guard with
  | none => rw [hg] at h; exact .inl ⟨rfl, h⟩
  | some gw =>
    obtain ⟨j, want⟩ := gw
    cases hn : eNth all j with
    | none => simp only [hg, eGuard, hn] at h; exact absurd h.symm ho
    | some q =>
      cases hd : q.dst with
      | none => simp only [hg, eGuard, hn, hd] at h; exact absurd h.symm ho
      | some p =>
        simp only [hg, eGuard, hn, hd] at h
        cases hp : (Nat.blt p 256 && eDstOk N x.o) with
        | false => rw [hp] at h; exact absurd h.symm ho
        | true =>
          rw [hp] at h
          simp only at h
          rw [Bool.and_eq_true] at hp
          have hdN := dstOk hp.2
          have hq : all[j]? = some q := by rw [← eNth_eq]; exact hn
          have hlt : p < 256 := Nat.le_of_ble_eq_true hp.1
          cases he : ERg.get p tm <;> rw [he] at h <;> first | exact absurd h.symm ho | skip
          · rename_i b
            cases b <;> cases want <;> first
              | exact .inl ⟨⟨q, p, hq, hd, hlt, .inl ⟨_, he, rfl⟩⟩, h⟩
              | exact .inr ⟨⟨q, p, hq, hd, hlt, .inl ⟨_, he, rfl⟩⟩, hdN, h⟩
          · rename_i l
            cases l with
            | cons _ _ => exact absurd h.symm ho
            | nil => exact .inr ⟨⟨q, p, hq, hd, hlt, .inr ⟨he, rfl⟩⟩, hdN, h⟩
/-- The trace: temporaries, states, values, and whether it was done. -/
structure Trc (P : Program) (k : ECall) (all : List Oper) (N : Nat) (L : List EItem) (tm : ERg) (s : ESt) (pd : List EPend) (T : Nat → ERg) (S : Nat → ESt) (V : Nat → EV) (W : Nat → Bool) : Prop where
  t0 : T 0 = tm
  s0 : S 0 = s
  gd : ∀ i x, L[i]? = some x → GdIs all x.o (T i) (W i)
  dst : ∀ (i : Nat) (x : EItem), L[i]? = some x → ∀ t, x.o.dst = some t → t < N
  put : ∀ (i : Nat) (x : EItem), L[i]? = some x → T (i + 1) = ePutD x.o.dst (T i) (V i)
  run : ∀ i x, L[i]? = some x → W i = true → (eOp P x.o).f k (T i) (S i) = .v (V i) (S (i + 1))
  skip : ∀ (i : Nat) (x : EItem), L[i]? = some x → W i = false → V i = .tup [] ∧ S (i + 1) = S i
  chk : ∀ i x, L[i]? = some x → W i = true → eCls P x.o = .eff → ∀ l y, l < i → L[l]? = some y → W l = true → eCls P y.o = .look → x.m.testBit y.i = true ∨ ∃ s', (eOp P y.o).f k (T l) (S (i + 1)) = .v (V l) s'
  chk0 : ∀ i x, L[i]? = some x → W i = true → eCls P x.o = .eff → ∀ p ∈ pd, x.m.testBit p.i = true ∨ ∃ s', p.c.f k p.tm (S (i + 1)) = .v p.v s'
def cons0 {α : Type} (a : α) (f : Nat → α) : Nat → α
  | 0 => a
  | n + 1 => f n
theorem Trc.cons {all : List Oper} {x : EItem} {L : List EItem} {tm tm' : ERg} {s s' : ESt} {pd pd' : List EPend} {T : Nat → ERg} {S : Nat → ESt} {V : Nat → EV} {W : Nat → Bool} {v : EV} {b : Bool} (h : Trc P k all N L tm' s' pd' T S V W)
    (hg : GdIs all x.o tm b) (hd : ∀ t, x.o.dst = some t → t < N) (ht : tm' = ePutD x.o.dst tm v) (hr : b = true → (eOp P x.o).f k tm s = .v v s') (hs : b = false → v = .tup [] ∧ s' = s)
    (hp : ∀ p ∈ pd, p ∈ pd') (hl : b = true → eCls P x.o = .look → ⟨x.i, eOp P x.o, tm, v⟩ ∈ pd') (hc : b = true → eCls P x.o = .eff → ∀ p ∈ pd, x.m.testBit p.i = true ∨ ∃ s2, p.c.f k p.tm s' = .v p.v s2) :
    Trc P k all N (x :: L) tm s pd (cons0 tm T) (cons0 s S) (cons0 v V) (cons0 b W) where
  t0 := rfl
  s0 := rfl
  gd i y hi := by
    cases i with
    | zero => obtain rfl := Option.some.inj hi; exact hg
    | succ i => exact h.gd i y hi
  dst i y hi := by
    cases i with
    | zero => obtain rfl := Option.some.inj hi; exact hd
    | succ i => exact h.dst i y hi
  put i y hi := by
    cases i with
    | zero => obtain rfl := Option.some.inj hi; exact h.t0.trans ht
    | succ i => exact h.put i y hi
  run i y hi hw := by
    cases i with
    | zero =>
      obtain rfl := Option.some.inj hi
      show (eOp P x.o).f k tm s = .v v (S 0)
      rw [h.s0]; exact hr hw
    | succ i => exact h.run i y hi hw
  skip i y hi hw := by
    cases i with
    | zero =>
      obtain rfl := Option.some.inj hi
      show v = .tup [] ∧ S 0 = s
      rw [h.s0]; exact hs hw
    | succ i => exact h.skip i y hi hw
  chk i y hi hw he l z hl2 hz hwz hcz := by
    cases i with
    | zero => omega
    | succ i =>
      cases l with
      | zero =>
        obtain rfl := Option.some.inj hz
        exact h.chk0 i y hi hw he _ (hl hwz hcz)
      | succ l => exact h.chk i y hi hw he l z (by omega) hz hwz hcz
  chk0 i y hi hw he p hpp := by
    cases i with
    | zero =>
      obtain rfl := Option.some.inj hi
      show x.m.testBit p.i = true ∨ ∃ s2, p.c.f k p.tm (S 0) = .v p.v s2
      rw [h.s0]; exact hc hw he p hpp
    | succ i => exact h.chk0 i y hi hw he p (hp p hpp)
theorem trace_run {all : List Oper} : ∀ (L : List EItem) {tm : ERg} {df : EDf} {pd : List EPend} {s : ESt} {out : EOut}, (eOpsD P all N L).f k tm df pd s = out → out ≠ .er →
    ∃ T S V W, Trc P k all N L tm s pd T S V W ∧ out = .n (T L.length) df (S L.length)
  | [], tm, df, pd, s, out, h, ho => ⟨fun _ => tm, fun _ => s, fun _ => .bot, fun _ => true, ⟨rfl, rfl, fun i x h => by simp at h, fun i x h => by simp at h, fun i x h => by simp at h, fun i x h => by simp at h, fun i x h => by simp at h, fun i x h => by simp at h, fun i x h => by simp at h⟩, h.symm⟩
  | x :: L, tm, df, pd, s, out, h, ho => by
    rcases guardD_inv (show (eGuardedD all N x (eStepD P N x (eOpsD P all N L)) (eOpsD P all N L)).f k tm df pd s = out from h) ho with ⟨hg, h⟩ | ⟨hg, hd, h⟩
    · unfold eStepD at h
      cases hd : eDstOk N x.o with
      | false => rw [hd] at h; exact absurd h.symm ho
      | true =>
        rw [hd] at h
        simp only at h
        cases hc : eCls P x.o with
        | look =>
          rw [hc] at h
          obtain ⟨v, s', h1, h2⟩ := er_inv h ho
          obtain ⟨T, S, V, W, g1, g2⟩ := trace_run L h2 ho
          exact ⟨_, _, _, _, g1.cons hg (dstOk hd) rfl (fun _ => h1) (fun e => by cases e) (fun p hp => List.mem_cons_of_mem _ hp) (fun _ _ => List.mem_cons_self ..) (fun _ e => by rw [hc] at e; cases e), g2⟩
        | eff =>
          rw [hc] at h
          obtain ⟨v, s', h1, h2⟩ := er_inv h ho
          cases hk : eCheck k x.m s' pd with
          | false => rw [hk] at h2; exact absurd h2.symm ho
          | true =>
            rw [hk] at h2
            obtain ⟨T, S, V, W, g1, g2⟩ := trace_run L h2 ho
            exact ⟨_, _, _, _, g1.cons hg (dstOk hd) rfl (fun _ => h1) (fun e => by cases e) (fun p hp => hp) (fun _ e => by rw [hc] at e; cases e) (fun _ _ => check_inv hk), g2⟩
        | pure =>
          rw [hc] at h
          obtain ⟨v, s', h1, h2⟩ := er_inv h ho
          obtain ⟨T, S, V, W, g1, g2⟩ := trace_run L h2 ho
          exact ⟨_, _, _, _, g1.cons hg (dstOk hd) rfl (fun _ => h1) (fun e => by cases e) (fun p hp => hp) (fun _ e => by rw [hc] at e; cases e) (fun _ e => by rw [hc] at e; cases e), g2⟩
        | fresh =>
          rw [hc] at h
          obtain ⟨v, s', h1, h2⟩ := er_inv h ho
          obtain ⟨T, S, V, W, g1, g2⟩ := trace_run L h2 ho
          exact ⟨_, _, _, _, g1.cons hg (dstOk hd) rfl (fun _ => h1) (fun e => by cases e) (fun p hp => hp) (fun _ e => by rw [hc] at e; cases e) (fun _ e => by rw [hc] at e; cases e), g2⟩
    · obtain ⟨T, S, V, W, g1, g2⟩ := trace_run L h ho
      exact ⟨_, _, _, _, g1.cons hg hd rfl (fun e => by cases e) (fun _ => ⟨rfl, rfl⟩) (fun p hp => hp) (fun e => by cases e) (fun e => by cases e), g2⟩
end

section
variable {P : Program} {k : ECall} {tm : ERg} {s s' : ESt} {x : EV}
theorem fresh_shape {o : Oper} (hc : eCls P o = .fresh) (ha : (eOp P o).f k tm s = .v x s') : ∃ kb f, s.blk kb f = .v x s' := by
  obtain ⟨dst, op, type, pos, after, guard⟩ := o
  cases op with
  | call c =>
    obtain ⟨callee, args, types⟩ := c
    cases callee with
    | builtin b => cases b <;> cases hc
    | _ => cases hc
  | convert src dst2 y =>
    have ha : eConv (eDesc P src) (eDesc P dst2) (eByteSl P (match eDesc P dst2 with | some .string => eDesc P src | d => d)) ((eEvC y).f tm) s = .v x s' := ha
    have hc : (match eDesc P dst2 with | some (.slice _) => ECls.fresh | _ => .look) = .fresh := hc
    generalize eByteSl P _ = bs at ha
    generalize (eEvC y).f tm = m at ha
    generalize eDesc P src = ds at ha
    generalize eDesc P dst2 = dd at ha hc
    unfold eConv at ha
    split at ha
    · cases hc
    · cases hc
    · repeat' (first | (cases ha; done) | exact ⟨_, _, ha⟩ | split at ha)
    · cases ha
  | _ =>
    first
    | (cases hc; done)
    | (unfold eOp at ha
       simp only at ha
       repeat' (first | (cases ha; done) | exact ⟨_, _, ha⟩ | (dsimp only at ha; exact ⟨_, _, ha⟩) | split at ha | (dsimp only at ha; split at ha)))
/-- A state that only has more. -/
structure Grow (s s2 : ESt) : Prop where
  next : s.next ≤ s2.next
  get : ∀ b, b < s.next → s2.heap.get b = s.heap.get b
  ups : Ups s s2
  hr : ∀ w0 β w, HR w0 β s w → HR w0 β s2 w
theorem Grow.refl (s : ESt) : Grow s s := ⟨Nat.le_refl _, fun _ _ => rfl, fun _ _ h => h, fun _ _ _ h => h⟩
theorem Grow.trans {s s2 s3 : ESt} (h : Grow s s2) (g : Grow s2 s3) : Grow s s3 :=
  ⟨Nat.le_trans h.next g.next, fun b hb => (g.get b (Nat.lt_of_lt_of_le hb h.next)).trans (h.get b hb), fun b B e => g.ups b B (h.ups b B e), fun w0 β w e => g.hr w0 β w (h.hr w0 β w e)⟩
theorem Grow.blk {kb : EBlk} {f : Nat → EV} (h : s.blk kb f = .v x s') : Grow s s' := by
  obtain ⟨h1, -, rfl⟩ := blk_inv h
  refine ⟨Nat.le_succ _, fun b hb => ETr.get_set_ne _ _ (by omega), fun b B e => ?_, fun w0 β w e => e.num _⟩
  have hne : s.next ≠ b := fun e2 => by subst e2; rw [h1] at e; cases e
  exact (ETr.get_set_ne _ _ hne).trans e
theorem Grow.ext {s2 : ESt} (h : Grow s s2) (β : EMp) : Ext β s β s2 := ⟨β.le_refl, h.next, fun b hb h0 => ⟨h0, h.get b hb⟩⟩
theorem ev_VR1 {β : EMp} {a : Act} (hg : GB β) (y : Operand) (h : ∀ t, y = .tmp t → t < 256 → VR β (ERg.get t tm) (a.tmps.getD t undef)) : VR β ((eEvC y).f tm) (a.eval y) := by
  cases y with
  | tmp t =>
    by_cases ht : t < 256
    · have e : (eEvC (.tmp t)).f tm = ERg.get t tm := by
        have : Nat.blt t 256 = true := Nat.ble_eq_true_of_le ht
        show ((match Nat.blt t 256 with | true => ⟨fun tm => (eGetC (d16 (t % 16))).f ((eGetC (d16 (t / 16))).f tm)⟩ | false => ⟨fun _ => .bot⟩ : EEv)).f tm = _
        rw [this]
        rfl
      rw [e]
      exact h t rfl ht
    · have e : (eEvC (.tmp t)).f tm = .bot := by
        have : Nat.blt t 256 = false := by
          cases hb : Nat.blt t 256 with
          | false => rfl
          | true => exact absurd (Nat.le_of_ble_eq_true hb) ht
        show ((match Nat.blt t 256 with | true => ⟨fun tm => (eGetC (d16 (t % 16))).f ((eGetC (d16 (t / 16))).f tm)⟩ | false => ⟨fun _ => .bot⟩ : EEv)).f tm = _
        rw [this]
      rw [e]
      exact .bot _
  | const v => exact eVal_VR β v
  | global g =>
    show VR β ((match Nat.blt g 1024 with | true => ⟨fun _ => .ptr (some (g, 0))⟩ | false => ⟨fun _ => .bot⟩ : EEv).f tm) _
    cases hb : Nat.blt g 1024 with
    | false => exact .bot _
    | true =>
      obtain ⟨m, hm⟩ := hg g (Nat.le_of_ble_eq_true hb)
      exact VR.ptr (o := 0) hm
  | func f => exact .fn .nil .nil
end

/-- All that is known of a region that draws. -/
structure DrawAt (P : Program) (k : ECall) (all : List Oper) (N : Nat) (L : List EItem) (T : Nat → ERg) (S : Nat → ESt) (V : Nat → EV) (W : Nat → Bool) : Prop where
  ks : KS P k
  n256 : N ≤ 256
  gd : ∀ i x, L[i]? = some x → GdIs all x.o (T i) (W i)
  dst : ∀ (i : Nat) (x : EItem), L[i]? = some x → ∀ t, x.o.dst = some t → t < N
  put : ∀ (i : Nat) (x : EItem), L[i]? = some x → T (i + 1) = ePutD x.o.dst (T i) (V i)
  run : ∀ i x, L[i]? = some x → W i = true → (eOp P x.o).f k (T i) (S i) = .v (V i) (S (i + 1))
  skip : ∀ (i : Nat) (x : EItem), L[i]? = some x → W i = false → V i = .tup [] ∧ S (i + 1) = S i
  chk : ∀ i x, L[i]? = some x → W i = true → eCls P x.o = .eff → ∀ l y, l < i → L[l]? = some y → W l = true → eCls P y.o = .look → x.m.testBit y.i = true ∨ ∃ s', (eOp P y.o).f k (T l) (S (i + 1)) = .v (V l) s'
  row : ∀ i x, L[i]? = some x → RowOk P all.length L 0 0 i x
  full : ∀ j, j < all.length → ∃ (q : Nat) (y : EItem), L[q]? = some y ∧ y.i = j
  op : ∀ (i : Nat) (x : EItem), L[i]? = some x → all[x.i]? = some x.o
  mask : ∀ (i : Nat) (x : EItem), L[i]? = some x → ∃ acc : List EItem, (∀ (i : Nat) (y : EItem), acc[i]? = some y → y.i = i ∧ y ∈ L) ∧ x.m = eMask acc x.o.after.toList
  touch : ∀ (i : Nat) (x : EItem), L[i]? = some x → ∀ (j : Nat) (y : EItem), L[j]? = some y → ∀ d, x.o.dst = some d → (d ∈ y.o.looksAt all.toArray ∨ y.o.dst = some d) → x.i = y.i ∨ x.m.testBit y.i = true ∨ y.m.testBit x.i = true

section
variable {P : Program} {k : ECall} {all : List Oper} {N : Nat} {L : List EItem} {T : Nat → ERg} {S : Nat → ESt} {V : Nat → EV} {W : Nat → Bool}
theorem isEff_iff {x : EItem} : eIsEff P x = true ↔ eCls P x.o = .eff := by
  unfold eIsEff
  cases eCls P x.o <;> simp
/-- A step that is no effect. -/
theorem DrawAt.grow1 (h : DrawAt P k all N L T S V W) {i : Nat} {x : EItem} (hx : L[i]? = some x) (he : eIsEff P x = false) : Grow (S i) (S (i + 1)) := by
  cases hw : W i with
  | false => rw [(h.skip i x hx hw).2]; exact Grow.refl _
  | true =>
    have hr := h.run i x hx hw
    cases hc : eCls P x.o with
    | eff => rw [isEff_iff.2 hc] at he; cases he
    | pure =>
      obtain ⟨r, hp⟩ := pure_stay (k := k) (tm := T i) hc
      rw [hp] at hr
      rw [(eOptV_inv hr).2]; exact Grow.refl _
    | look => rw [(look_stay hc hr).1]; exact Grow.refl _
    | fresh => obtain ⟨kb, f, hb⟩ := fresh_shape hc hr; exact Grow.blk hb
theorem DrawAt.grow (h : DrawAt P k all N L T S V W) {i : Nat} : ∀ (d : Nat), i + d ≤ L.length → (∀ l x, i ≤ l → l < i + d → L[l]? = some x → eIsEff P x = false) → Grow (S i) (S (i + d))
  | 0, _, _ => Grow.refl _
  | d + 1, hl, he => by
    have hx := List.getElem?_eq_getElem (show i + d < L.length by omega)
    exact (h.grow d (by omega) fun l x h1 h2 => he l x h1 (by omega)).trans (h.grow1 hx (he _ _ (by omega) (by omega) hx))
/-- The next effect. -/
theorem next_eff (P : Program) (L : List EItem) : ∀ (d i : Nat), i + d = L.length → ∃ q, i ≤ q ∧ q ≤ L.length ∧ (∀ l x, i ≤ l → l < q → L[l]? = some x → eIsEff P x = false) ∧ ∀ x, L[q]? = some x → eIsEff P x = true
  | 0, i, h => ⟨i, Nat.le_refl _, by omega, fun l x h1 h2 => by omega, fun x hx => by rw [List.getElem?_eq_none (by omega)] at hx; cases hx⟩
  | d + 1, i, h => by
    have hx := List.getElem?_eq_getElem (show i < L.length by omega)
    cases he : eIsEff P L[i] with
    | true => exact ⟨i, Nat.le_refl _, by omega, fun l x h1 h2 => by omega, fun x h2 => by rw [hx] at h2; obtain rfl := Option.some.inj h2; exact he⟩
    | false =>
      obtain ⟨q, h1, h2, h3, h4⟩ := next_eff P L d (i + 1) (by omega)
      refine ⟨q, by omega, h2, fun l x g1 g2 g3 => ?_, h4⟩
      by_cases e : l = i
      · subst e; rw [hx] at g3; obtain rfl := Option.some.inj g3; exact he
      · exact h3 l x (by omega) g2 g3
/-- Where it stands: D: what is done; q: the next effect. -/
structure Inv (P : Program) (all : List Oper) (N : Nat) (L : List EItem) (T : Nat → ERg) (S : Nat → ESt) (W : Nat → Bool) (w0 : World) (df : EDf) (β0 : EMp) (s0 : ESt) (D : Nat → Bool) (q : Nat) (β : EMp) (a : Act) (w : World) : Prop where
  hr : HR w0 β (S q) w
  le : q ≤ L.length
  done : ∀ i x, i < q → L[i]? = some x → eIsEff P x = true → D x.i = true
  nxt : ∀ x, L[q]? = some x → eIsEff P x = true ∧ D x.i = false
  tmp : ∀ t, t < 256 → ∀ p, p ≤ L.length → (∀ i x, L[i]? = some x → x.o.dst = some t → (D x.i = true ↔ i < p)) → VR β (ERg.get t (T p)) (a.tmps.getD t undef)
  fr : ∀ i x, i < q → L[i]? = some x → eCls P x.o = .fresh → W i = true → D x.i = false → β (S i).next = none ∧ (S q).heap.get (S i).next = (S (i + 1)).heap.get (S i).next
  mono : ∀ i j, i ≤ j → j ≤ q → (S i).next ≤ (S j).next
  closed : ∀ (i : Nat) (x : EItem), L[i]? = some x → D x.i = true → ∀ j, x.m.testBit j = true → D j = true
  rd : RD β df a.defers
  sz : a.tmps.size = N
  gb : GB β
  ext : Ext β0 s0 β (S q)
  ext0 : s0.next ≤ (S 0).next
/-- One more is done. -/
def also (D : Nat → Bool) (i : Nat) : Nat → Bool := fun j => D j || Nat.beq j i
theorem also_iff {D : Nat → Bool} {i j : Nat} : also D i j = true ↔ D j = true ∨ j = i := by
  unfold also
  rw [Bool.or_eq_true]
  exact ⟨fun h => h.imp id Nat.eq_of_beq_eq_true, fun h => h.imp id fun e => by subst e; exact Nat.beq_refl _⟩
theorem also_false {D : Nat → Bool} {i j : Nat} (h : also D i j = false) : D j = false ∧ j ≠ i := by
  refine ⟨?_, fun e => ?_⟩
  · cases hd : D j with
    | false => rfl
    | true => rw [also_iff.2 (.inl hd)] at h; cases h
  · rw [also_iff.2 (.inr e)] at h; cases h
variable {w0 : World} {df : EDf} {β0 β : EMp} {s0 : ESt} {D : Nat → Bool} {q : Nat} {a : Act} {w : World}
theorem DrawAt.same (h : DrawAt P k all N L T S V W) {i j : Nat} {x y : EItem} (hi : L[i]? = some x) (hj : L[j]? = some y) (e : x.i = y.i) : i = j := by
  rcases Nat.lt_trichotomy i j with g | g | g
  · exact absurd e ((h.row j y hj).ne i x g hi)
  · exact g
  · exact absurd e.symm ((h.row i x hi).ne j y g hj)
/-- Who waits for whom stands behind. -/
theorem DrawAt.before (h : DrawAt P k all N L T S V W) {i j : Nat} {x y : EItem} (hi : L[i]? = some x) (hj : L[j]? = some y) (e : x.m.testBit y.i = true) : j < i := by
  rcases (h.row i x hi).mask _ e with g | ⟨q, z, h1, h2, h3⟩
  · simp at g
  · have := h.same h2 hj h3
    omega
/-- What an operation looks at is as the row says. -/
theorem Inv.look (h : DrawAt P k all N L T S V W) (v : Inv P all N L T S W w0 df β0 s0 D q β a w) {i : Nat} {x : EItem} (hi : L[i]? = some x) (hn : D x.i = false) (hm : ∀ j, x.m.testBit j = true → D j = true) {t : Nat} (ht : t < 256) (hl : t ∈ x.o.looksAt all.toArray) : VR β (ERg.get t (T i)) (a.tmps.getD t undef) := by
  have hlen : i < L.length := (List.getElem?_eq_some_iff.1 hi).1
  refine v.tmp t ht i (by omega) fun j y hj hd => ?_
  rcases h.touch j y hj i x hi t hd (.inl hl) with e | e | e
  · have := h.same hj hi e
    subst this
    rw [hi] at hj
    obtain rfl := Option.some.inj hj
    rw [hn]
    exact ⟨fun e => (by cases e), fun e => absurd e (Nat.lt_irrefl _)⟩
  · refine ⟨fun hD => ?_, fun hlt => ?_⟩
    · rw [v.closed j y hj hD _ e] at hn; cases hn
    · have := h.before hj hi e; omega
  · exact ⟨fun _ => h.before hi hj e, fun _ => hm _ e⟩
theorem Inv.tmpPut (h : DrawAt P k all N L T S V W) (v : Inv P all N L T S W w0 df β0 s0 D q β a w) {i : Nat} {x : EItem} (hi : L[i]? = some x) (hn : D x.i = false) (hm : ∀ j, x.m.testBit j = true → D j = true) {β' : EMp} (hle : β.le β') {u : Value} (hu : VR β' (V i) u) :
    ∀ t, t < 256 → ∀ p, p ≤ L.length → (∀ l y, L[l]? = some y → y.o.dst = some t → (also D x.i y.i = true ↔ l < p)) → VR β' (ERg.get t (T p)) ((a.put x.o.dst u).tmps.getD t undef) := fun t ht p hp hc => by
  have hlen : i < L.length := (List.getElem?_eq_some_iff.1 hi).1
  by_cases hd : x.o.dst = some t
  · have hip : i < p := (hc i x hi hd).1 (also_iff.2 (.inr rfl))
    have hlt := h.dst i x hi t hd
    have key : ∀ d, i + 1 + d ≤ p → ERg.get t (T (i + 1 + d)) = V i := fun d => by
      induction d with
      | zero =>
        intro _
        show ERg.get t (T (i + 1)) = V i
        rw [h.put i x hi, hd]
        exact ERg.get_set _ _ _
      | succ d ih =>
        intro hd2
        have hy := List.getElem?_eq_getElem (show i + 1 + d < L.length by omega)
        rw [show i + 1 + (d + 1) = i + 1 + d + 1 by omega, h.put _ _ hy, ← ih (by omega)]
        generalize L[i + 1 + d] = y at hy
        cases hyd : y.o.dst with
        | none => rfl
        | some t2 =>
          by_cases e : t2 = t
          · exfalso
            subst e
            have hD := (hc _ y hy hyd).2 (by omega)
            have hne : y.i ≠ x.i := fun e => by have := h.same hy hi e; omega
            have hD : D y.i = true := (also_iff.1 hD).resolve_right hne
            rcases h.touch _ y hy i x hi t2 hyd (.inr hd) with e | e | e
            · exact hne e
            · rw [v.closed _ y hy hD _ e] at hn; cases hn
            · have := h.before hi hy e; omega
          · exact ERg.get_set_ne _ _ (Nat.lt_of_lt_of_le (h.dst _ y hy t2 hyd) h.n256) ht e
    have e : ERg.get t (T p) = V i := by
      have := key (p - (i + 1)) (by omega)
      rwa [show i + 1 + (p - (i + 1)) = p by omega] at this
    rw [e, hd]
    simp only [Act.put]
    rw [Array.getD_eq_getD_getElem?, Array.getElem?_setIfInBounds_self_of_lt (by rw [v.sz]; exact hlt)]
    exact hu
  · have hput : (a.put x.o.dst u).tmps.getD t undef = a.tmps.getD t undef := by
      cases hx : x.o.dst with
      | none => rfl
      | some d =>
        have hne : d ≠ t := fun e => hd (by rw [hx, e])
        simp only [Act.put]
        rw [Array.getD_eq_getD_getElem?, Array.getElem?_setIfInBounds_ne hne, ← Array.getD_eq_getD_getElem?]
    rw [hput]
    refine (v.tmp t ht p hp fun l y hl hy => ?_).mono hle
    rw [← hc l y hl hy, also_iff]
    refine ⟨.inl, fun g => g.resolve_right fun e => hd ?_⟩
    have := h.same hl hi e
    subst this
    rw [hi] at hl
    obtain rfl := Option.some.inj hl
    exact hy
end
end Go.Proofs.YtjckpgcmfieaoaaGreatDoor
