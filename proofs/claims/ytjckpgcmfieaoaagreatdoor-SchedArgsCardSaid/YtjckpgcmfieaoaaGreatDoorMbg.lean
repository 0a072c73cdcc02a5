/-
  A region that draws its order, done in any order: the steps.
-/
import Derived.Test.YtjckpgcmfieaoaaGreatDoorMbf
set_option linter.unusedVariables false
set_option linter.unusedSimpArgs false
namespace Go.Proofs.YtjckpgcmfieaoaaGreatDoor
open Go.RowKit

section
variable {P : Program} {k : ECall} {all : List Oper} {N : Nat} {L : List EItem} {T : Nat → ERg} {S : Nat → ESt} {V : Nat → EV} {W : Nat → Bool}
variable {w0 : World} {df : EDf} {β0 β : EMp} {s0 : ESt} {D : Nat → Bool} {q : Nat} {a : Act} {w : World} {i : Nat} {x : EItem}
theorem Inv.notAfter (h : DrawAt P k all N L T S V W) (v : Inv P all N L T S W w0 df β0 s0 D q β a w) (hi : L[i]? = some x) (hm : ∀ j, x.m.testBit j = true → D j = true) : i ≤ q := by
  rcases Nat.lt_or_ge q i with g | g
  · exfalso
    have hlen := (List.getElem?_eq_some_iff.1 hi).1
    have hq := List.getElem?_eq_getElem (show q < L.length by omega)
    obtain ⟨h1, h2⟩ := v.nxt _ hq
    rw [hm _ ((h.row i x hi).eff q _ g hq h1)] at h2
    cases h2
  · exact g
theorem Inv.isBefore (h : DrawAt P k all N L T S V W) (v : Inv P all N L T S W w0 df β0 s0 D q β a w) (hi : L[i]? = some x) (hm : ∀ j, x.m.testBit j = true → D j = true) (he : eIsEff P x = false) : i < q := by
  have := v.notAfter h hi hm
  rcases Nat.lt_or_eq_of_le this with g | g
  · exact g
  · subst g
    rw [(v.nxt _ hi).1] at he
    cases he
theorem Inv.isNext (h : DrawAt P k all N L T S V W) (v : Inv P all N L T S W w0 df β0 s0 D q β a w) (hi : L[i]? = some x) (hn : D x.i = false) (hm : ∀ j, x.m.testBit j = true → D j = true) (he : eIsEff P x = true) : i = q := by
  have := v.notAfter h hi hm
  rcases Nat.lt_or_eq_of_le this with g | g
  · rw [v.done i x g hi he] at hn; cases hn
  · exact g
theorem Inv.closedPut (h : DrawAt P k all N L T S V W) (v : Inv P all N L T S W w0 df β0 s0 D q β a w) (hi : L[i]? = some x) (hm : ∀ j, x.m.testBit j = true → D j = true) :
    ∀ (l : Nat) (y : EItem), L[l]? = some y → also D x.i y.i = true → ∀ j, y.m.testBit j = true → also D x.i j = true := fun l y hl hy j hj => by
  rcases also_iff.1 hy with g | g
  · exact also_iff.2 (.inl (v.closed l y hl g j hj))
  · have := h.same hl hi g
    subst this
    rw [hi] at hl
    obtain rfl := Option.some.inj hl
    exact also_iff.2 (.inl (hm j hj))
theorem Inv.stepN (h : DrawAt P k all N L T S V W) (v : Inv P all N L T S W w0 df β0 s0 D q β a w) (hi : L[i]? = some x) (hn : D x.i = false) (hm : ∀ j, x.m.testBit j = true → D j = true) (he : eIsEff P x = false)
    {β' : EMp} {u : Value} {w' : World} (hle : β.le β') (hu : VR β' (V i) u) (hr : HR w0 β' (S q) w') (hext : Ext β0 s0 β' (S q))
    (hfr : ∀ j y, j < q → L[j]? = some y → eCls P y.o = .fresh → W j = true → D y.i = false → j ≠ i → β' (S j).next = none) : Inv P all N L T S W w0 df β0 s0 (also D x.i) q β' (a.put x.o.dst u) w' where
  hr := hr
  le := v.le
  done j y hj hy hey := also_iff.2 (.inl (v.done j y hj hy hey))
  nxt y hy := by
    obtain ⟨h1, h2⟩ := v.nxt y hy
    refine ⟨h1, ?_⟩
    cases hd : also D x.i y.i with
    | false => rfl
    | true =>
      rcases also_iff.1 hd with g | g
      · rw [h2] at g; cases g
      · have := h.same hy hi g
        subst this
        rw [hi] at hy
        obtain rfl := Option.some.inj hy
        rw [he] at h1; cases h1
  tmp := v.tmpPut h hi hn hm hle hu
  fr j y hj hy hc hw hd := by
    obtain ⟨hd1, hd2⟩ := also_false hd
    refine ⟨hfr j y hj hy hc hw hd1 fun e => hd2 ?_, (v.fr j y hj hy hc hw hd1).2⟩
    subst e
    rw [hi] at hy
    obtain rfl := Option.some.inj hy
    rfl
  mono := v.mono
  closed := v.closedPut h hi hm
  rd := by rw [put_defers]; exact v.rd.mono hle
  sz := by rw [put_size]; exact v.sz
  gb := v.gb.mono hle
  ext := hext
  ext0 := v.ext0
theorem mono_of {n : Nat} (h : ∀ l, l < n → (S l).next ≤ (S (l + 1)).next) : ∀ (d i : Nat), i + d ≤ n → (S i).next ≤ (S (i + d)).next
  | 0, _, _ => Nat.le_refl _
  | d + 1, i, hd => Nat.le_trans (mono_of h d i (by omega)) (h (i + d) (by omega))
theorem DrawAt.freshNext (h : DrawAt P k all N L T S V W) (hi : L[i]? = some x) (hc : eCls P x.o = .fresh) (hw : W i = true) : (S (i + 1)).next = (S i).next + 1 := by
  obtain ⟨kb, f, hb⟩ := fresh_shape hc (h.run i x hi hw)
  obtain ⟨-, -, e⟩ := blk_inv hb
  rw [e]; rfl
theorem Inv.stepE (h : DrawAt P k all N L T S V W) (v : Inv P all N L T S W w0 df β0 s0 D q β a w) (hi : L[q]? = some x) (hn : D x.i = false) (hm : ∀ j, x.m.testBit j = true → D j = true)
    {β' : EMp} {u : Value} {w' : World} (hu : VR β' (V q) u) (hr : HR w0 β' (S (q + 1)) w') (hx : Ext β (S q) β' (S (q + 1))) : ∃ q', Inv P all N L T S W w0 df β0 s0 (also D x.i) q' β' (a.put x.o.dst u) w' := by
  have hlen := (List.getElem?_eq_some_iff.1 hi).1
  have he := (v.nxt x hi).1
  obtain ⟨q', h1, h2, h3, h4⟩ := next_eff P L (L.length - (q + 1)) (q + 1) (by omega)
  have gr : ∀ j, q + 1 ≤ j → j ≤ q' → Grow (S (q + 1)) (S j) := fun j g1 g2 => by
    have := h.grow (i := q + 1) (j - (q + 1)) (by omega) fun l y e1 e2 e3 => h3 l y e1 (by omega) e3
    rwa [show q + 1 + (j - (q + 1)) = j by omega] at this
  have gr2 : ∀ i j, q + 1 ≤ i → i ≤ j → j ≤ q' → Grow (S i) (S j) := fun i j g0 g1 g2 => by
    have := h.grow (i := i) (j - i) (by omega) fun l y e1 e2 e3 => h3 l y (by omega) (by omega) e3
    rwa [show i + (j - i) = j by omega] at this
  refine ⟨q', ?_, h2, fun j y hj hy hey => ?_, fun y hy => ⟨h4 y hy, ?_⟩, v.tmpPut h hi hn hm hx.le hu, fun j y hj hy hc hw hd => ?_, fun i j hij hj => ?_, v.closedPut h hi hm, by rw [put_defers]; exact v.rd.mono hx.le, by rw [put_size]; exact v.sz, v.gb.mono hx.le, ?_, v.ext0⟩
  · exact (gr q' h1 (Nat.le_refl _)).hr _ _ _ hr
  · rcases Nat.lt_trichotomy j q with g | g | g
    · exact also_iff.2 (.inl (v.done j y g hy hey))
    · subst g
      rw [hi] at hy
      obtain rfl := Option.some.inj hy
      exact also_iff.2 (.inr rfl)
    · rw [h3 j y (by omega) hj hy] at hey; cases hey
  · cases hd : also D x.i y.i with
    | false => rfl
    | true =>
      rcases also_iff.1 hd with g | g
      · have := v.closed q' y hy g _ ((h.row q' y hy).eff q x (by omega) hi he)
        rw [hn] at this; cases this
      · have := h.same hy hi g
        omega
  · obtain ⟨hd1, hd2⟩ := also_false hd
    rcases Nat.lt_trichotomy j q with g | g | g
    · obtain ⟨k1, k2⟩ := v.fr j y g hy hc hw hd1
      have hlt : (S j).next < (S q).next := by
        have := h.freshNext hy hc hw
        have := v.mono (j + 1) q (by omega) (Nat.le_refl _)
        omega
      obtain ⟨k3, k4⟩ := hx.un _ hlt k1
      exact ⟨k3, by rw [(gr q' h1 (Nat.le_refl _)).get _ (Nat.lt_of_lt_of_le hlt hx.next), k4, k2]⟩
    · subst g
      rw [hi] at hy
      obtain rfl := Option.some.inj hy
      exact absurd rfl hd2
    · have hnx := (gr j (by omega) (by omega)).next
      refine ⟨?_, (gr2 (j + 1) q' (by omega) (by omega) (Nat.le_refl _)).get _ (by rw [h.freshNext hy hc hw]; exact Nat.lt_succ_self _)⟩
      cases hb : β' (S j).next with
      | none => rfl
      | some l => have := hr.lt _ _ hb; omega
  · have st : ∀ l, l < q' → (S l).next ≤ (S (l + 1)).next := fun l hl => by
      rcases Nat.lt_trichotomy l q with g | g | g
      · exact v.mono l (l + 1) (by omega) (by omega)
      · subst g; exact hx.next
      · exact (gr2 l (l + 1) (by omega) (by omega) (by omega)).next
    have := mono_of st (j - i) i (by omega)
    rwa [show i + (j - i) = j by omega] at this
  · exact (v.ext.trans hx).trans ((gr q' h1 (Nat.le_refl _)).ext β')
/-- A look that comes late tells the same. -/
theorem Inv.lookAt (h : DrawAt P k all N L T S V W) (v : Inv P all N L T S W w0 df β0 s0 D q β a w) (hi : L[i]? = some x) (hn : D x.i = false) (hc : eCls P x.o = .look) (hw : W i = true) : ∀ d, i + 1 + d ≤ q → (eOp P x.o).f k (T i) (S (i + 1 + d)) = .v (V i) (S (i + 1 + d))
  | 0, _ => by
    have hr := h.run i x hi hw
    have e := (look_stay hc hr).1
    show (eOp P x.o).f k (T i) (S (i + 1)) = .v (V i) (S (i + 1))
    rw [e] at hr ⊢
    exact hr
  | d + 1, hd => by
    have ih := v.lookAt h hi hn hc hw d (by omega)
    obtain ⟨y, hy⟩ : ∃ y, L[i + 1 + d]? = some y := ⟨_, List.getElem?_eq_getElem (show i + 1 + d < L.length by have := v.le; omega)⟩
    show (eOp P x.o).f k (T i) (S (i + 1 + d + 1)) = .v (V i) (S (i + 1 + d + 1))
    cases he : eIsEff P y with
    | false => exact (look_stay hc ih).2 _ (h.grow1 hy he).ups
    | true =>
      cases hwy : W (i + 1 + d) with
      | false => rw [(h.skip _ y hy hwy).2]; exact ih
      | true =>
        rcases h.chk _ y hy hwy (isEff_iff.1 he) i x (by omega) hi hw hc with g | ⟨s', g⟩
        · have := v.closed _ y hy (v.done _ y (by omega) hy he) _ g
          rw [hn] at this; cases this
        · have := (look_stay hc g).1
          rw [this] at g
          exact g
/-- One operation, whichever it is. -/
theorem Inv.step (h : DrawAt P k all N L T S V W) (v : Inv P all N L T S W w0 df β0 s0 D q β a w) (hi : L[i]? = some x) (hn : D x.i = false) (hm : ∀ j, x.m.testBit j = true → D j = true) (hw : W i = true) :
    OpDone P x.o a.eval w fun u w' => ∃ β' q', Inv P all N L T S W w0 df β0 s0 (also D x.i) q' β' (a.put x.o.dst u) w' := by
  have hρ : ∀ y ∈ x.o.op.operands, VR β ((eEvC y).f (T i)) (a.eval y) := fun y hy => ev_VR1 v.gb y fun t e ht => by
    refine v.look h hi hn hm ht ?_
    subst e
    exact List.mem_append_left _ (List.mem_filterMap.2 ⟨.tmp t, by simpa using hy, rfl⟩)
  have hr := h.run i x hi hw
  have hbi : eCls P x.o ≠ .eff → ∀ c, x.o.op = .call c → ∃ b, c.callee = .builtin b := fun hne c e => by
    unfold eCls at hne
    rw [e] at hne
    simp only at hne
    cases hb : c.callee with
    | builtin b => exact ⟨b, rfl⟩
    | value f => rw [hb] at hne; exact absurd rfl hne
    | invoke r m => rw [hb] at hne; exact absurd rfl hne
  cases hc : eCls P x.o with
  | eff =>
    have he := isEff_iff.2 hc
    obtain rfl := v.isNext h hi hn hm he
    refine (oper_run h.ks v.gb hρ v.hr hr).mono fun u w' hR => ?_
    obtain ⟨β', g1, g2, g3⟩ := hR
    exact ⟨β', v.stepE h hi hn hm g1 g2 g3⟩
  | pure =>
    have he : eIsEff P x = false := by cases hq : eIsEff P x with | false => rfl | true => rw [isEff_iff.1 hq] at hc; cases hc
    obtain ⟨r, hp⟩ := pure_stay (k := k) (tm := T i) hc
    rw [hp] at hr
    have hq : (eOp P x.o).f k (T i) (S q) = .v (V i) (S q) := by rw [hp, (eOptV_inv hr).1]; rfl
    have := eOp_run (hbi (by rw [hc]; simp)) hρ v.hr hq
    unfold OpSpec at this
    rw [hc] at this
    obtain ⟨-, u, g1, g2⟩ := this
    exact .inl ⟨u, w, .inl g1, β, q, v.stepN h hi hn hm he β.le_refl g2 v.hr v.ext fun j y hj hy hc hw hd _ => (v.fr j y hj hy hc hw hd).1⟩
  | look =>
    have he : eIsEff P x = false := by cases hq : eIsEff P x with | false => rfl | true => rw [isEff_iff.1 hq] at hc; cases hc
    have hlt := v.isBefore h hi hm he
    have hq := v.lookAt h hi hn hc hw (q - (i + 1)) (by omega)
    rw [show i + 1 + (q - (i + 1)) = q by omega] at hq
    have := eOp_run (hbi (by rw [hc]; simp)) hρ v.hr hq
    unfold OpSpec at this
    rw [hc] at this
    obtain ⟨-, u, g1, g2⟩ := this
    exact .inl ⟨u, w, .inl g1, β, q, v.stepN h hi hn hm he β.le_refl g2 v.hr v.ext fun j y hj hy hc hw hd _ => (v.fr j y hj hy hc hw hd).1⟩
  | fresh =>
    have he : eIsEff P x = false := by cases hq : eIsEff P x with | false => rfl | true => rw [isEff_iff.1 hq] at hc; cases hc
    have hlt := v.isBefore h hi hm he
    obtain ⟨kb, f, g1, u, w', l, g2, g3⟩ := eFresh_run (w0 := w0) (w := w) hc hρ v.hr.up.size hr
    obtain ⟨e1, e2, e3⟩ := blk_inv g1
    obtain ⟨k1, k2⟩ := v.fr i x hlt hi hc hw hn
    have hnx := h.freshNext hi hc hw
    have hb : (S i).next < (S q).next := by
      have := v.mono (i + 1) q (by omega) (Nat.le_refl _)
      omega
    have hk : (S q).heap.get (S i).next = some kb := by
      rw [k2, e3]
      exact ETr.get_set _ _ _
    obtain ⟨m1, m2⟩ := v.hr.freshD k1 hb hk g3
    rw [← e2] at m1
    refine .inl ⟨u, w', .inl g2, β.put (S i).next l, q, v.stepN h hi hn hm he (β.put_le l k1) m1 m2 ?_ fun j y hj hy hcy hwy hdy hne => ?_⟩
    · refine ⟨EMp.le_trans v.ext.le (β.put_le l k1), v.ext.next, fun b hb0 h0 => ?_⟩
      obtain ⟨n1, n2⟩ := v.ext.un b hb0 h0
      have := v.mono 0 i (by omega) (by omega)
      have := v.ext0
      exact ⟨(EMp.put_ne _ _ (by omega)).trans n1, n2⟩
    · have hne : (S j).next ≠ (S i).next := by
        rcases Nat.lt_or_gt_of_ne hne with g | g
        · have := h.freshNext hy hcy hwy
          have := v.mono (j + 1) i (by omega) (by omega)
          omega
        · have := v.mono (i + 1) j (by omega) (by omega)
          omega
      rw [EMp.put_ne _ _ hne]
      exact (v.fr j y hj hy hcy hwy hdy).1
end

theorem HR.drawn {w0 w : World} {β : EMp} {s : ESt} (h : HR w0 β s w) (n : Nat) : HR w0 β s { w with drawn := n } :=
  ⟨⟨h.up.os, h.up.tape, h.up.output, h.up.size, h.up.block⟩, h.lt, h.blk, h.inj⟩
section
variable {P : Program} {k : ECall} {all : List Oper} {N : Nat} {L : List EItem} {T : Nat → ERg} {S : Nat → ESt} {V : Nat → EV} {W : Nat → Bool}
variable {w0 : World} {df : EDf} {β0 : EMp} {s0 : ESt}
abbrev lst (listed : Array Bool) : Nat → Bool := fun j => listed.getD j false
theorem lst_set {listed : Array Bool} {j : Nat} (h : j < listed.size) : lst (listed.setIfInBounds j true) = also (lst listed) j := by
  funext l
  unfold lst also
  by_cases e : j = l
  · subst e
    rw [Array.getD_eq_getD_getElem?, Array.getElem?_setIfInBounds_self_of_lt h, Nat.beq_refl, Bool.or_true]
    rfl
  · have : Nat.beq l j = false := by
      cases hb : Nat.beq l j with
      | false => rfl
      | true => exact absurd (Nat.eq_of_beq_eq_true hb).symm e
    rw [this, Bool.or_false, Array.getD_eq_getD_getElem?, Array.getElem?_setIfInBounds_ne e, ← Array.getD_eq_getD_getElem?]
theorem getD_true_false {listed : Array Bool} {j : Nat} (h : listed.getD j true = false) : j < listed.size ∧ listed.getD j false = false := by
  rw [Array.getD_eq_getD_getElem?] at h ⊢
  cases hq : listed[j]? with
  | none => rw [hq] at h; cases h
  | some b => rw [hq] at h; exact ⟨(Array.getElem?_eq_some_iff.1 hq).1, h⟩
theorem any_run (h : DrawAt P k all N L T S V W) : ∀ (fuel : Nat) {listed : Array Bool} {a : Act} {w : World} {β : EMp} {q : Nat}, listed.size = all.length → listed.toList.count false = fuel → Inv P all N L T S W w0 df β0 s0 (lst listed) q β a w →
    wpAny P .any all.toArray (QE w0 β0 s0 N (.n (T L.length) df (S L.length))) fuel listed a w := by
  intro fuel
  have fin : ∀ {listed : Array Bool} {a : Act} {w : World} {β : EMp} {q : Nat}, listed.size = all.length → Inv P all N L T S W w0 df β0 s0 (lst listed) q β a w → Region.ready .any all.toArray listed = [] → QE w0 β0 s0 N (.n (T L.length) df (S L.length)) .normal a w := fun {listed a w β q} hsz v hr => by
    have full : ∀ (n i : Nat) (x : EItem), i < n → L[i]? = some x → lst listed x.i = true := fun n => by
      induction n with
      | zero => intro i x hi; omega
      | succ n ih =>
        intro i x hi hx
        cases hd : lst listed x.i with
        | true => rfl
        | false =>
          exfalso
          have hmem : x.i ∈ Region.ready .any all.toArray listed := by
            rw [mem_ready]
            have hlt := (h.row i x hx).lt
            refine ⟨?_, x.o, by simpa using h.op i x hx, fun e he hb => ?_⟩
            · rw [Array.getD_eq_getD_getElem?] 
              unfold lst at hd
              rw [Array.getD_eq_getD_getElem?, Array.getElem?_eq_getElem (by omega)] at hd
              rw [Array.getElem?_eq_getElem (by omega)]
              exact hd
            · obtain ⟨acc, -, g2⟩ := h.mask i x hx
              have hbit : x.m.testBit e.on = true := by
                rw [g2, eMask_bit]
                exact ⟨e, by simpa using he, hb, .inl rfl⟩
              rcases (h.row i x hx).mask _ hbit with g | ⟨l, y, h1, h2, h3⟩
              · simp at g
              · rw [← h3]
                exact ih l y (by omega) h2
          rw [hr] at hmem
          cases hmem
    have hall : ∀ (i : Nat) (x : EItem), L[i]? = some x → lst listed x.i = true := fun i x hx => full (i + 1) i x (Nat.lt_succ_self _) hx
    have hq : q = L.length := by
      rcases Nat.lt_or_eq_of_le v.le with g | g
      · have hx := List.getElem?_eq_getElem g
        have := (v.nxt _ hx).2
        rw [hall _ _ hx] at this
        cases this
      · exact g
    subst hq
    exact ⟨_, _, _, rfl, β, ⟨v.hr, fun t ht => v.tmp t ht L.length (Nat.le_refl _) fun i x hx _ => ⟨fun _ => (List.getElem?_eq_some_iff.1 hx).1, fun _ => hall i x hx⟩, v.rd, v.sz, v.gb⟩, v.ext⟩
  induction fuel with
  | zero =>
    intro listed a w β q hsz hcnt v
    have hr : Region.ready .any all.toArray listed = [] := by
      rw [List.eq_nil_iff_forall_not_mem]
      intro j hj
      rw [mem_ready] at hj
      have := hj.1
      rw [Array.getD_eq_getD_getElem?] at this
      cases hq : listed[j]? with
      | none => rw [hq] at this; cases this
      | some b =>
        rw [hq] at this
        have e : b = false := this
        subst e
        have hm : false ∈ listed.toList := by
          have := Array.mem_of_getElem? hq
          simpa using this
        have := List.count_pos_iff.2 hm
        omega
    exact ⟨hr, fin hsz v hr⟩
  | succ fuel ih =>
    intro listed a w β q hsz hcnt v
    refine ⟨fin hsz v, fun j hj => ?_⟩
    rw [mem_ready] at hj
    obtain ⟨hj1, o, ho, hj2⟩ := hj
    obtain ⟨hjs, hn⟩ := getD_true_false hj1
    obtain ⟨i, x, hi, rfl⟩ := h.full j (by omega)
    have hox := h.op i x hi
    have e : o = x.o := by
      have ho : all[x.i]? = some o := by simpa using ho
      rw [hox] at ho
      exact (Option.some.inj ho).symm
    subst e
    have hm : ∀ j, x.m.testBit j = true → lst listed j = true := fun j hb => by
      obtain ⟨acc, g1, g2⟩ := h.mask i x hi
      rw [g2, eMask_bit] at hb
      obtain ⟨e, he, hbd, g | ⟨y, g3, g4⟩⟩ := hb
      · rw [← g]; exact hj2 e (by simpa using he) hbd
      · obtain ⟨g5, g6⟩ := g1 _ _ g3
        obtain ⟨l, hl⟩ := List.getElem?_of_mem g6
        refine v.closed l y hl ?_ j g4
        rw [g5]
        exact hj2 e (by simpa using he) hbd
    have hcnt' : (listed.setIfInBounds x.i true).toList.count false = fuel := by
      rw [Array.toList_setIfInBounds, List.count_set (by simpa using hjs)]
      have e : listed.toList[x.i]'(by simpa using hjs) = false := by
        rw [Array.getD_eq_getD_getElem?, Array.getElem?_eq_getElem hjs] at hn
        simpa using hn
      rw [e, hcnt]
      simp
    have hwant := (h.gd i x hi).wanted (β := β) (a := a) fun t hl ht => v.look h hi hn hm ht hl
    have K : ∀ {β' q' a' w'}, Inv P all N L T S W w0 df β0 s0 (also (lst listed) x.i) q' β' a' w' → wpAny P .any all.toArray (QE w0 β0 s0 N (.n (T L.length) df (S L.length))) fuel (listed.setIfInBounds x.i true) a' w' := fun {β' q' a' w'} hv => by
      rw [← lst_set hjs] at hv
      exact ih (by simpa using hsz) hcnt' hv
    unfold wpOp
    rw [show all.toArray[x.i]? = some x.o by simpa using hox]
    simp only
    cases hw : W i with
    | true =>
      rw [hw] at hwant
      rw [if_pos hwant]
      refine .inl ((v.step h hi hn hm hw).wp fun u w' hv => ?_)
      obtain ⟨β', q', hv⟩ := hv
      exact K hv
    | false =>
      rw [hw] at hwant
      rw [if_neg (by rw [hwant]; simp)]
      obtain ⟨e1, e2⟩ := h.skip i x hi hw
      cases he : eIsEff P x with
      | false => exact K (v.stepN h hi hn hm he β.le_refl (by rw [e1]; exact .tup .nil) v.hr v.ext fun j y hj hy hc hw hd _ => (v.fr j y hj hy hc hw hd).1)
      | true =>
        obtain rfl := v.isNext h hi hn hm he
        obtain ⟨q', hv⟩ := v.stepE h hi hn hm (u := undef) (w' := w) (β' := β) (by rw [e1]; exact .tup .nil) (by rw [e2]; exact v.hr) (by rw [e2]; exact Ext.refl _ _)
        exact K hv
end
theorem items_idx : ∀ (l : List Oper) (acc : List EItem), (∀ i (y : EItem), acc[i]? = some y → y.i = i) → ∀ i (y : EItem), (eItems l acc)[i]? = some y → y.i = i
  | [], acc, hi => hi
  | o :: l, acc, hi => by
    rw [eItems_cons]
    refine items_idx l _ fun i y hy => ?_
    by_cases hlt : i < acc.length
    · rw [List.getElem?_append_left hlt] at hy; exact hi i y hy
    · rw [List.getElem?_append_right (by omega)] at hy
      have e : i - acc.length = 0 := by
        cases hq : i - acc.length with
        | zero => rfl
        | succ _ => rw [hq] at hy; cases hy
      rw [e] at hy
      obtain rfl := Option.some.inj hy
      show acc.length = i
      omega
/-- Regions that draw are sound. -/
theorem draw_ok {P : Program} (hm : P.follows .mixedOrders = true) : DrawOk P := fun w0 k N β0 s0 id all out tm df s1 a w hk hN ho hs h => by
  have h : (match eTouchOk all (eItems all []) && eCanonOk P all.length (eCanon P (eItems all []) ((eItems all []).filter (eIsEff P)) ((eItems all []).filter (eIsEff P)) 0) 0 0 with
    | true => (⟨fun k tm df s => (eOpsD P all N (eCanon P (eItems all []) ((eItems all []).filter (eIsEff P)) ((eItems all []).filter (eIsEff P)) 0)).f k tm df [] s⟩ : ECl)
    | false => ⟨fun _ _ _ _ => .er⟩).f k tm df s1 = out := h
  cases hc : (eTouchOk all (eItems all []) && eCanonOk P all.length (eCanon P (eItems all []) ((eItems all []).filter (eIsEff P)) ((eItems all []).filter (eIsEff P)) 0) 0 0) with
  | false => rw [hc] at h; exact absurd h.symm ho
  | true =>
    rw [hc] at h
    simp only at h
    rw [Bool.and_eq_true] at hc
    obtain ⟨hc1, hc2⟩ := hc
    have hmem := eCanon_mem (P := P) (all := eItems all []) (effs := (eItems all []).filter (eIsEff P)) ((eItems all []).filter (eIsEff P)) 0 fun x hx => (List.mem_filter.1 hx).1
    generalize eCanon P (eItems all []) ((eItems all []).filter (eIsEff P)) ((eItems all []).filter (eIsEff P)) 0 = L at h hc2 hmem
    obtain ⟨c1, c2⟩ := canonOk_inv L 0 0 hc2
    obtain ⟨T, S, V, W, ht, e⟩ := trace_run L h ho
    have hits := items_ok all
    have hfull : ∀ j, j < all.length → ∃ (q : Nat) (y : EItem), L[q]? = some y ∧ y.i = j := fun j hj => by
      rcases c1 j hj with g | g
      · simp at g
      · exact g
    have inL : ∀ y ∈ eItems all [], y ∈ L := fun y hy => by
      have hlt : y.i < all.length := (List.getElem?_eq_some_iff.1 (hits y hy).op).1
      obtain ⟨l, z, hl, e⟩ := hfull _ hlt
      obtain ⟨i, hi⟩ := List.getElem?_of_mem hy
      obtain ⟨j, hj⟩ := List.getElem?_of_mem (hmem z (List.mem_of_getElem? hl))
      have e1 := items_idx all [] (fun i y h => by simp at h) i y hi
      have e2 := items_idx all [] (fun i y h => by simp at h) j z hj
      have : i = j := by omega
      subst this
      rw [hi] at hj
      obtain rfl := Option.some.inj hj
      exact List.mem_of_getElem? hl
    have hd : DrawAt P k all N L T S V W :=
      { ks := hk, n256 := hN, gd := ht.gd, dst := ht.dst, put := ht.put, run := ht.run, skip := ht.skip, chk := ht.chk, row := c2, full := hfull
        op := fun i x hi => (hits x (hmem x (List.mem_of_getElem? hi))).op
        mask := fun i x hi => by
          obtain ⟨acc, g1, g2⟩ := (hits x (hmem x (List.mem_of_getElem? hi))).mask
          exact ⟨acc, fun i y hy => ⟨(g1 i y hy).1, inL y (g1 i y hy).2⟩, g2⟩
        touch := fun i x hi j y hj => (touch_inv hc1 (hmem x (List.mem_of_getElem? hi))).2 y (hmem y (List.mem_of_getElem? hj)) }
    obtain ⟨β, hs, he⟩ := hs
    subst e
    obtain ⟨q, q1, q2, q3, q4⟩ := next_eff P L L.length 0 (by omega)
    have gr : ∀ i j, i ≤ j → j ≤ q → Grow (S i) (S j) := fun i j g1 g2 => by
      have := hd.grow (i := i) (j - i) (by omega) fun l y e1 e2 e3 => q3 l y (by omega) (by omega) e3
      rwa [show i + (j - i) = j by omega] at this
    have e0 := ht.s0
    have D0 : ∀ j, lst (Array.replicate all.toArray.size false) j = false := fun j => by
      unfold lst
      rw [Array.getD_eq_getD_getElem?, Array.getElem?_replicate]
      split <;> rfl
    refine wp_region_any hm (any_run hd all.toArray.size (w0 := w0) (β := β) (q := q) (by simp) (by simp [List.count_replicate]) ?_)
    have hr0 : HR w0 β (S 0) { w with drawn := w.drawn + 1 } := by rw [e0]; exact hs.hr.drawn _
    have g0 := gr 0 q (Nat.zero_le _) (Nat.le_refl _)
    exact
      { hr := g0.hr _ _ _ hr0
        le := q2
        done := fun i x hi hx he => by rw [q3 i x (Nat.zero_le _) hi hx] at he; cases he
        nxt := fun x hx => ⟨q4 x hx, D0 _⟩
        tmp := fun t htt p hp hc => by
          have key : ∀ d, d ≤ p → ERg.get t (T d) = ERg.get t tm := fun d => by
            induction d with
            | zero => intro _; rw [ht.t0]
            | succ d ih =>
              intro hdp
              obtain ⟨y, hy⟩ : ∃ y, L[d]? = some y := ⟨_, List.getElem?_eq_getElem (show d < L.length by omega)⟩
              rw [ht.put d y hy, ← ih (by omega)]
              cases hyd : y.o.dst with
              | none => rfl
              | some t2 =>
                by_cases e : t2 = t
                · subst e
                  have := (hc d y hy hyd).2 (by omega)
                  rw [D0] at this; cases this
                · exact ERg.get_set_ne _ _ (Nat.lt_of_lt_of_le (ht.dst _ y hy t2 hyd) hN) htt e
          rw [key p (Nat.le_refl _)]
          exact hs.rt t htt
        fr := fun i x hi hx hc hw _ => by
          have hnx := hd.freshNext hx hc hw
          refine ⟨?_, (gr (i + 1) q (by omega) (Nat.le_refl _)).get _ (by omega)⟩
          have := (gr 0 i (Nat.zero_le _) (by omega)).next
          cases hb : β (S i).next with
          | none => rfl
          | some l => have := hr0.lt _ _ hb; omega
        mono := fun i j hij hj => (gr i j hij hj).next
        closed := fun i x _ hx => by rw [D0] at hx; cases hx
        rd := hs.rd
        sz := hs.sz
        gb := hs.gb
        ext := he.trans (e0 ▸ g0.ext β)
        ext0 := by rw [e0]; exact he.next }
/-- All calls are sound. -/
theorem call_ok {P : Program} (hm : P.follows .mixedOrders = true) {I : FuncId → Option (ECall → List EV → ESt → EO)} (hI : IOk P I) (d : Nat) : KS P (eCall P I d) := call_KS (draw_ok hm) hI d
end Go.Proofs.YtjckpgcmfieaoaaGreatDoor
