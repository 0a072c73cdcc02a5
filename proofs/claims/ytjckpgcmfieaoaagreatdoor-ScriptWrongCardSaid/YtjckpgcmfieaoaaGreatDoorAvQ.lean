/-
  A region that draws its order, done in any order.
-/
import Derived.Test.YtjckpgcmfieaoaaGreatDoorMbh
set_option linter.unusedVariables false
set_option linter.unusedSimpArgs false
namespace Go.Proofs.YtjckpgcmfieaoaaGreatDoor
open Go.RowKit

section
variable {P : Program} {k : ECall} {tm : ERg} {s s' : ESt} {x : EV}
theorem fresh_shape {o : Oper} (hc : eCls P o = .fresh) (ha : (eOp P o).f k tm s = .v x s') : ∃ kb f, s.blk kb f = .v x s' := by
  obtain ⟨dst, op, type, pos, after, guard⟩ := o
  cases op with
  | call c =>
    obtain ⟨callee, args, types⟩ := c
    cases callee with
    | builtin b => cases b <;> cases hc
    | _ => cases hc
  | convert src dst2 y =>
    have ha : eConv (eDesc P src) (eDesc P dst2) (eByteSl P (match eDesc P dst2 with | some .string => eDesc P src | d => d)) ((eEvC y).f tm) s = .v x s' := ha
    have hc : (match eDesc P dst2 with | some (.slice _) => ECls.fresh | _ => .look) = .fresh := hc
    generalize eByteSl P _ = bs at ha
    generalize (eEvC y).f tm = m at ha
    generalize eDesc P src = ds at ha
    generalize eDesc P dst2 = dd at ha hc
    unfold eConv at ha
    split at ha
    · cases hc
    · cases hc
    · repeat' (first | (cases ha; done) | exact ⟨_, _, ha⟩ | split at ha)
    · cases ha
  | _ =>
    first
    | (cases hc; done)
    | (unfold eOp at ha
       simp only at ha
       repeat' (first | (cases ha; done) | exact ⟨_, _, ha⟩ | (dsimp only at ha; exact ⟨_, _, ha⟩) | split at ha | (dsimp only at ha; split at ha)))
/-- A state that only has more. -/
structure Grow (s s2 : ESt) : Prop where
  next : s.next ≤ s2.next
  get : ∀ b, b < s.next → s2.heap.get b = s.heap.get b
  ups : Ups s s2
  hr : ∀ w0 β w, HR w0 β s w → HR w0 β s2 w
theorem Grow.refl (s : ESt) : Grow s s := ⟨Nat.le_refl _, fun _ _ => rfl, fun _ _ h => h, fun _ _ _ h => h⟩
theorem Grow.trans {s s2 s3 : ESt} (h : Grow s s2) (g : Grow s2 s3) : Grow s s3 :=
  ⟨Nat.le_trans h.next g.next, fun b hb => (g.get b (Nat.lt_of_lt_of_le hb h.next)).trans (h.get b hb), fun b B e => g.ups b B (h.ups b B e), fun w0 β w e => g.hr w0 β w (h.hr w0 β w e)⟩
theorem Grow.blk {kb : EBlk} {f : Nat → EV} (h : s.blk kb f = .v x s') : Grow s s' := by
  obtain ⟨h1, -, rfl⟩ := blk_inv h
  refine ⟨Nat.le_succ _, fun b hb => ETr.get_set_ne _ _ (by omega), fun b B e => ?_, fun w0 β w e => e.num _⟩
  have hne : s.next ≠ b := fun e2 => by subst e2; rw [h1] at e; cases e
  exact (ETr.get_set_ne _ _ hne).trans e
theorem Grow.ext {s2 : ESt} (h : Grow s s2) (β : EMp) : Ext β s β s2 := ⟨β.le_refl, h.next, fun b hb h0 => ⟨h0, h.get b hb⟩⟩
theorem ev_VR1 {β : EMp} {a : Act} (hg : GB β) (y : Operand) (h : ∀ t, y = .tmp t → t < 256 → VR β (ERg.get t tm) (a.tmps.getD t undef)) : VR β ((eEvC y).f tm) (a.eval y) := by
  cases y with
  | tmp t =>
    by_cases ht : t < 256
    · have e : (eEvC (.tmp t)).f tm = ERg.get t tm := by
        have : Nat.blt t 256 = true := Nat.ble_eq_true_of_le ht
        show ((match Nat.blt t 256 with | true => ⟨fun tm => (eGetC (d16 (t % 16))).f ((eGetC (d16 (t / 16))).f tm)⟩ | false => ⟨fun _ => .bot⟩ : EEv)).f tm = _
        rw [this]
        rfl
      rw [e]
      exact h t rfl ht
    · have e : (eEvC (.tmp t)).f tm = .bot := by
        have : Nat.blt t 256 = false := by
          cases hb : Nat.blt t 256 with
          | false => rfl
          | true => exact absurd (Nat.le_of_ble_eq_true hb) ht
        show ((match Nat.blt t 256 with | true => ⟨fun tm => (eGetC (d16 (t % 16))).f ((eGetC (d16 (t / 16))).f tm)⟩ | false => ⟨fun _ => .bot⟩ : EEv)).f tm = _
        rw [this]
      rw [e]
      exact .bot _
  | const v => exact eVal_VR β v
  | global g =>
    show VR β ((match Nat.blt g 1024 with | true => ⟨fun _ => .ptr (some (g, 0))⟩ | false => ⟨fun _ => .bot⟩ : EEv).f tm) _
    cases hb : Nat.blt g 1024 with
    | false => exact .bot _
    | true =>
      obtain ⟨m, hm⟩ := hg g (Nat.le_of_ble_eq_true hb)
      exact VR.ptr (o := 0) hm
  | func f => exact .fn .nil .nil
end

/-- All that is known of a region that draws. -/
structure DrawAt (P : Program) (k : ECall) (all : List Oper) (N : Nat) (L : List EItem) (T : Nat → ERg) (S : Nat → ESt) (V : Nat → EV) (W : Nat → Bool) : Prop where
  ks : KS P k
  n256 : N ≤ 256
  gd : ∀ i x, L[i]? = some x → GdIs all x.o (T i) (W i)
  dst : ∀ (i : Nat) (x : EItem), L[i]? = some x → ∀ t, x.o.dst = some t → t < N
  put : ∀ (i : Nat) (x : EItem), L[i]? = some x → T (i + 1) = ePutD x.o.dst (T i) (V i)
  run : ∀ i x, L[i]? = some x → W i = true → (eOp P x.o).f k (T i) (S i) = .v (V i) (S (i + 1))
  skip : ∀ (i : Nat) (x : EItem), L[i]? = some x → W i = false → V i = .tup [] ∧ S (i + 1) = S i
  chk : ∀ i x, L[i]? = some x → W i = true → eCls P x.o = .eff → ∀ l y, l < i → L[l]? = some y → W l = true → eCls P y.o = .look → x.m.testBit y.i = true ∨ ∃ s', (eOp P y.o).f k (T l) (S (i + 1)) = .v (V l) s'
  row : ∀ i x, L[i]? = some x → RowOk P all.length L 0 0 i x
  full : ∀ j, j < all.length → ∃ (q : Nat) (y : EItem), L[q]? = some y ∧ y.i = j
  op : ∀ (i : Nat) (x : EItem), L[i]? = some x → all[x.i]? = some x.o
  mask : ∀ (i : Nat) (x : EItem), L[i]? = some x → ∃ acc : List EItem, (∀ (i : Nat) (y : EItem), acc[i]? = some y → y.i = i ∧ y ∈ L) ∧ x.m = eMask acc x.o.after.toList
  touch : ∀ (i : Nat) (x : EItem), L[i]? = some x → ∀ (j : Nat) (y : EItem), L[j]? = some y → ∀ d, x.o.dst = some d → (d ∈ y.o.looksAt all.toArray ∨ y.o.dst = some d) → x.i = y.i ∨ x.m.testBit y.i = true ∨ y.m.testBit x.i = true

section
variable {P : Program} {k : ECall} {all : List Oper} {N : Nat} {L : List EItem} {T : Nat → ERg} {S : Nat → ESt} {V : Nat → EV} {W : Nat → Bool}
theorem isEff_iff {x : EItem} : eIsEff P x = true ↔ eCls P x.o = .eff := by
  unfold eIsEff
  cases eCls P x.o <;> simp
/-- A step that is no effect. -/
theorem DrawAt.grow1 (h : DrawAt P k all N L T S V W) {i : Nat} {x : EItem} (hx : L[i]? = some x) (he : eIsEff P x = false) : Grow (S i) (S (i + 1)) := by
  cases hw : W i with
  | false => rw [(h.skip i x hx hw).2]; exact Grow.refl _
  | true =>
    have hr := h.run i x hx hw
    cases hc : eCls P x.o with
    | eff => rw [isEff_iff.2 hc] at he; cases he
    | pure =>
      obtain ⟨r, hp⟩ := pure_stay (k := k) (tm := T i) hc
      rw [hp] at hr
      rw [(eOptV_inv hr).2]; exact Grow.refl _
    | look => rw [(look_stay hc hr).1]; exact Grow.refl _
    | fresh => obtain ⟨kb, f, hb⟩ := fresh_shape hc hr; exact Grow.blk hb
theorem DrawAt.grow (h : DrawAt P k all N L T S V W) {i : Nat} : ∀ (d : Nat), i + d ≤ L.length → (∀ l x, i ≤ l → l < i + d → L[l]? = some x → eIsEff P x = false) → Grow (S i) (S (i + d))
  | 0, _, _ => Grow.refl _
  | d + 1, hl, he => by
    have hx := List.getElem?_eq_getElem (show i + d < L.length by omega)
    exact (h.grow d (by omega) fun l x h1 h2 => he l x h1 (by omega)).trans (h.grow1 hx (he _ _ (by omega) (by omega) hx))
/-- The next effect. -/
theorem next_eff (P : Program) (L : List EItem) : ∀ (d i : Nat), i + d = L.length → ∃ q, i ≤ q ∧ q ≤ L.length ∧ (∀ l x, i ≤ l → l < q → L[l]? = some x → eIsEff P x = false) ∧ ∀ x, L[q]? = some x → eIsEff P x = true
  | 0, i, h => ⟨i, Nat.le_refl _, by omega, fun l x h1 h2 => by omega, fun x hx => by rw [List.getElem?_eq_none (by omega)] at hx; cases hx⟩
  | d + 1, i, h => by
    have hx := List.getElem?_eq_getElem (show i < L.length by omega)
    cases he : eIsEff P L[i] with
    | true => exact ⟨i, Nat.le_refl _, by omega, fun l x h1 h2 => by omega, fun x h2 => by rw [hx] at h2; obtain rfl := Option.some.inj h2; exact he⟩
    | false =>
      obtain ⟨q, h1, h2, h3, h4⟩ := next_eff P L d (i + 1) (by omega)
      refine ⟨q, by omega, h2, fun l x g1 g2 g3 => ?_, h4⟩
      by_cases e : l = i
      · subst e; rw [hx] at g3; obtain rfl := Option.some.inj g3; exact he
      · exact h3 l x (by omega) g2 g3
/-- Where it stands: D: what is done; q: the next effect. -/
structure Inv (P : Program) (all : List Oper) (N : Nat) (L : List EItem) (T : Nat → ERg) (S : Nat → ESt) (W : Nat → Bool) (w0 : World) (df : EDf) (β0 : EMp) (s0 : ESt) (D : Nat → Bool) (q : Nat) (β : EMp) (a : Act) (w : World) : Prop where
  hr : HR w0 β (S q) w
  le : q ≤ L.length
  done : ∀ i x, i < q → L[i]? = some x → eIsEff P x = true → D x.i = true
  nxt : ∀ x, L[q]? = some x → eIsEff P x = true ∧ D x.i = false
  tmp : ∀ t, t < 256 → ∀ p, p ≤ L.length → (∀ i x, L[i]? = some x → x.o.dst = some t → (D x.i = true ↔ i < p)) → VR β (ERg.get t (T p)) (a.tmps.getD t undef)
  fr : ∀ i x, i < q → L[i]? = some x → eCls P x.o = .fresh → W i = true → D x.i = false → β (S i).next = none ∧ (S q).heap.get (S i).next = (S (i + 1)).heap.get (S i).next
  mono : ∀ i j, i ≤ j → j ≤ q → (S i).next ≤ (S j).next
  closed : ∀ (i : Nat) (x : EItem), L[i]? = some x → D x.i = true → ∀ j, x.m.testBit j = true → D j = true
  rd : RD β df a.defers
  sz : a.tmps.size = N
  gb : GB β
  ext : Ext β0 s0 β (S q)
  ext0 : s0.next ≤ (S 0).next
/-- One more is done. -/
def also (D : Nat → Bool) (i : Nat) : Nat → Bool := fun j => D j || Nat.beq j i
theorem also_iff {D : Nat → Bool} {i j : Nat} : also D i j = true ↔ D j = true ∨ j = i := by
  unfold also
  rw [Bool.or_eq_true]
  exact ⟨fun h => h.imp id Nat.eq_of_beq_eq_true, fun h => h.imp id fun e => by subst e; exact Nat.beq_refl _⟩
theorem also_false {D : Nat → Bool} {i j : Nat} (h : also D i j = false) : D j = false ∧ j ≠ i := by
  refine ⟨?_, fun e => ?_⟩
  · cases hd : D j with
    | false => rfl
    | true => rw [also_iff.2 (.inl hd)] at h; cases h
  · rw [also_iff.2 (.inr e)] at h; cases h
variable {w0 : World} {df : EDf} {β0 β : EMp} {s0 : ESt} {D : Nat → Bool} {q : Nat} {a : Act} {w : World}
theorem DrawAt.same (h : DrawAt P k all N L T S V W) {i j : Nat} {x y : EItem} (hi : L[i]? = some x) (hj : L[j]? = some y) (e : x.i = y.i) : i = j := by
  rcases Nat.lt_trichotomy i j with g | g | g
  · exact absurd e ((h.row j y hj).ne i x g hi)
  · exact g
  · exact absurd e.symm ((h.row i x hi).ne j y g hj)
/-- Who waits for whom stands behind. -/
theorem DrawAt.before (h : DrawAt P k all N L T S V W) {i j : Nat} {x y : EItem} (hi : L[i]? = some x) (hj : L[j]? = some y) (e : x.m.testBit y.i = true) : j < i := by
  rcases (h.row i x hi).mask _ e with g | ⟨q, z, h1, h2, h3⟩
  · simp at g
  · have := h.same h2 hj h3
    omega
/-- What an operation looks at is as the row says. -/
theorem Inv.look (h : DrawAt P k all N L T S V W) (v : Inv P all N L T S W w0 df β0 s0 D q β a w) {i : Nat} {x : EItem} (hi : L[i]? = some x) (hn : D x.i = false) (hm : ∀ j, x.m.testBit j = true → D j = true) {t : Nat} (ht : t < 256) (hl : t ∈ x.o.looksAt all.toArray) : VR β (ERg.get t (T i)) (a.tmps.getD t undef) := by
  have hlen : i < L.length := (List.getElem?_eq_some_iff.1 hi).1
  refine v.tmp t ht i (by omega) fun j y hj hd => ?_
  rcases h.touch j y hj i x hi t hd (.inl hl) with e | e | e
  · have := h.same hj hi e
    subst this
    rw [hi] at hj
    obtain rfl := Option.some.inj hj
    rw [hn]
    exact ⟨fun e => (by cases e), fun e => absurd e (Nat.lt_irrefl _)⟩
  · refine ⟨fun hD => ?_, fun hlt => ?_⟩
    · rw [v.closed j y hj hD _ e] at hn; cases hn
    · have := h.before hj hi e; omega
  · exact ⟨fun _ => h.before hi hj e, fun _ => hm _ e⟩
theorem Inv.tmpPut (h : DrawAt P k all N L T S V W) (v : Inv P all N L T S W w0 df β0 s0 D q β a w) {i : Nat} {x : EItem} (hi : L[i]? = some x) (hn : D x.i = false) (hm : ∀ j, x.m.testBit j = true → D j = true) {β' : EMp} (hle : β.le β') {u : Value} (hu : VR β' (V i) u) :
    ∀ t, t < 256 → ∀ p, p ≤ L.length → (∀ l y, L[l]? = some y → y.o.dst = some t → (also D x.i y.i = true ↔ l < p)) → VR β' (ERg.get t (T p)) ((a.put x.o.dst u).tmps.getD t undef) := fun t ht p hp hc => by
  have hlen : i < L.length := (List.getElem?_eq_some_iff.1 hi).1
  by_cases hd : x.o.dst = some t
  · have hip : i < p := (hc i x hi hd).1 (also_iff.2 (.inr rfl))
    have hlt := h.dst i x hi t hd
    have key : ∀ d, i + 1 + d ≤ p → ERg.get t (T (i + 1 + d)) = V i := fun d => by
      induction d with
      | zero =>
        intro _
        show ERg.get t (T (i + 1)) = V i
        rw [h.put i x hi, hd]
        exact ERg.get_set _ _ _
      | succ d ih =>
        intro hd2
        have hy := List.getElem?_eq_getElem (show i + 1 + d < L.length by omega)
        rw [show i + 1 + (d + 1) = i + 1 + d + 1 by omega, h.put _ _ hy, ← ih (by omega)]
        generalize L[i + 1 + d] = y at hy
        cases hyd : y.o.dst with
        | none => rfl
        | some t2 =>
          by_cases e : t2 = t
          · exfalso
            subst e
            have hD := (hc _ y hy hyd).2 (by omega)
            have hne : y.i ≠ x.i := fun e => by have := h.same hy hi e; omega
            have hD : D y.i = true := (also_iff.1 hD).resolve_right hne
            rcases h.touch _ y hy i x hi t2 hyd (.inr hd) with e | e | e
            · exact hne e
            · rw [v.closed _ y hy hD _ e] at hn; cases hn
            · have := h.before hi hy e; omega
          · exact ERg.get_set_ne _ _ (Nat.lt_of_lt_of_le (h.dst _ y hy t2 hyd) h.n256) ht e
    have e : ERg.get t (T p) = V i := by
      have := key (p - (i + 1)) (by omega)
      rwa [show i + 1 + (p - (i + 1)) = p by omega] at this
    rw [e, hd]
    simp only [Act.put]
    rw [Array.getD_eq_getD_getElem?, Array.getElem?_setIfInBounds_self_of_lt (by rw [v.sz]; exact hlt)]
    exact hu
  · have hput : (a.put x.o.dst u).tmps.getD t undef = a.tmps.getD t undef := by
      cases hx : x.o.dst with
      | none => rfl
      | some d =>
        have hne : d ≠ t := fun e => hd (by rw [hx, e])
        simp only [Act.put]
        rw [Array.getD_eq_getD_getElem?, Array.getElem?_setIfInBounds_ne hne, ← Array.getD_eq_getD_getElem?]
    rw [hput]
    refine (v.tmp t ht p hp fun l y hl hy => ?_).mono hle
    rw [← hc l y hl hy, also_iff]
    refine ⟨.inl, fun g => g.resolve_right fun e => hd ?_⟩
    have := h.same hl hi e
    subst this
    rw [hi] at hl
    obtain rfl := Option.some.inj hl
    exact hy
end
end Go.Proofs.YtjckpgcmfieaoaaGreatDoor
