/-
  A region that draws its order, done in any order: the steps.
-/
import Derived.Test.YtjckpgcmfieaoaaGreatDoorMbf
import Derived.Test.YtjckpgcmfieaoaaGreatDoorProg
import Derived.Lib.Bytealg
import Derived.ProofKit
import Derived.Test.YtjckpgcmfieaoaaGreatDoorRows
import Derived.Test.YtjckpgcmfieaoaaGreatDoorMaa
import Derived.Shelf.Strings.OnBuilder
import Derived.Deep.MidRow
import Derived.Deep.RegionHeld3
import Derived.OpenShut
set_option linter.unusedVariables false
set_option linter.unusedSimpArgs false
namespace Go.Proofs.YtjckpgcmfieaoaaGreatDoor
open Go.RowKit

section
variable {P : Program} {k : ECall} {all : List Oper} {N : Nat} {L : List EItem} {T : Nat → ERg} {S : Nat → ESt} {V : Nat → EV} {W : Nat → Bool}
variable {w0 : World} {df : EDf} {β0 β : EMp} {s0 : ESt} {D : Nat → Bool} {q : Nat} {a : Act} {w : World} {i : Nat} {x : EItem}
theorem Inv.notAfter (h : DrawAt P k all N L T S V W) (v : Inv P all N L T S W w0 df β0 s0 D q β a w) (hi : L[i]? = some x) (hm : ∀ j, x.m.testBit j = true → D j = true) : i ≤ q := by
  rcases Nat.lt_or_ge q i with g | g
  · exfalso
    have hlen := (List.getElem?_eq_some_iff.1 hi).1
    have hq := List.getElem?_eq_getElem (show q < L.length by omega)
    obtain ⟨h1, h2⟩ := v.nxt _ hq
    rw [hm _ ((h.row i x hi).eff q _ g hq h1)] at h2
    cases h2
  · exact g
theorem Inv.isBefore (h : DrawAt P k all N L T S V W) (v : Inv P all N L T S W w0 df β0 s0 D q β a w) (hi : L[i]? = some x) (hm : ∀ j, x.m.testBit j = true → D j = true) (he : eIsEff P x = false) : i < q := by
  have := v.notAfter h hi hm
  rcases Nat.lt_or_eq_of_le this with g | g
  · exact g
  · subst g
    rw [(v.nxt _ hi).1] at he
    cases he
theorem Inv.isNext (h : DrawAt P k all N L T S V W) (v : Inv P all N L T S W w0 df β0 s0 D q β a w) (hi : L[i]? = some x) (hn : D x.i = false) (hm : ∀ j, x.m.testBit j = true → D j = true) (he : eIsEff P x = true) : i = q := by
  have := v.notAfter h hi hm
  rcases Nat.lt_or_eq_of_le this with g | g
  · rw [v.done i x g hi he] at hn; cases hn
  · exact g
theorem Inv.closedPut (h : DrawAt P k all N L T S V W) (v : Inv P all N L T S W w0 df β0 s0 D q β a w) (hi : L[i]? = some x) (hm : ∀ j, x.m.testBit j = true → D j = true) :
    ∀ (l : Nat) (y : EItem), L[l]? = some y → also D x.i y.i = true → ∀ j, y.m.testBit j = true → also D x.i j = true := fun l y hl hy j hj => by
  rcases also_iff.1 hy with g | g
  · exact also_iff.2 (.inl (v.closed l y hl g j hj))
  · have := h.same hl hi g
    subst this
    rw [hi] at hl
    obtain rfl := Option.some.inj hl
    exact also_iff.2 (.inl (hm j hj))
theorem Inv.stepN (h : DrawAt P k all N L T S V W) (v : Inv P all N L T S W w0 df β0 s0 D q β a w) (hi : L[i]? = some x) (hn : D x.i = false) (hm : ∀ j, x.m.testBit j = true → D j = true) (he : eIsEff P x = false)
    {β' : EMp} {u : Value} {w' : World} (hle : β.le β') (hu : VR β' (V i) u) (hr : HR w0 β' (S q) w') (hext : Ext β0 s0 β' (S q))
    (hfr : ∀ j y, j < q → L[j]? = some y → eCls P y.o = .fresh → W j = true → D y.i = false → j ≠ i → β' (S j).next = none) : Inv P all N L T S W w0 df β0 s0 (also D x.i) q β' (a.put x.o.dst u) w' where
  hr := hr
  le := v.le
  done j y hj hy hey := also_iff.2 (.inl (v.done j y hj hy hey))
  nxt y hy := by
    obtain ⟨h1, h2⟩ := v.nxt y hy
    refine ⟨h1, ?_⟩
    cases hd : also D x.i y.i with
    | false => rfl
    | true =>
      rcases also_iff.1 hd with g | g
      · rw [h2] at g; cases g
      · have := h.same hy hi g
        subst this
        rw [hi] at hy
        obtain rfl := Option.some.inj hy
        rw [he] at h1; cases h1
  tmp := v.tmpPut h hi hn hm hle hu
  fr j y hj hy hc hw hd := by
    obtain ⟨hd1, hd2⟩ := also_false hd
    refine ⟨hfr j y hj hy hc hw hd1 fun e => hd2 ?_, (v.fr j y hj hy hc hw hd1).2⟩
    subst e
    rw [hi] at hy
    obtain rfl := Option.some.inj hy
    rfl
  mono := v.mono
  closed := v.closedPut h hi hm
  rd := by rw [put_defers]; exact v.rd.mono hle
  sz := by rw [put_size]; exact v.sz
  gb := v.gb.mono hle
  ext := hext
  ext0 := v.ext0
theorem mono_of {n : Nat} (h : ∀ l, l < n → (S l).next ≤ (S (l + 1)).next) : ∀ (d i : Nat), i + d ≤ n → (S i).next ≤ (S (i + d)).next
  | 0, _, _ => Nat.le_refl _
  | d + 1, i, hd => Nat.le_trans (mono_of h d i (by omega)) (h (i + d) (by omega))
theorem DrawAt.freshNext (h : DrawAt P k all N L T S V W) (hi : L[i]? = some x) (hc : eCls P x.o = .fresh) (hw : W i = true) : (S (i + 1)).next = (S i).next + 1 := by
  obtain ⟨kb, f, hb⟩ := fresh_shape hc (h.run i x hi hw)
  obtain ⟨-, -, e⟩ := blk_inv hb
  rw [e]; rfl
theorem Inv.stepE (h : DrawAt P k all N L T S V W) (v : Inv P all N L T S W w0 df β0 s0 D q β a w) (hi : L[q]? = some x) (hn : D x.i = false) (hm : ∀ j, x.m.testBit j = true → D j = true)
    {β' : EMp} {u : Value} {w' : World} (hu : VR β' (V q) u) (hr : HR w0 β' (S (q + 1)) w') (hx : Ext β (S q) β' (S (q + 1))) : ∃ q', Inv P all N L T S W w0 df β0 s0 (also D x.i) q' β' (a.put x.o.dst u) w' := by
  have hlen := (List.getElem?_eq_some_iff.1 hi).1
  have he := (v.nxt x hi).1
  obtain ⟨q', h1, h2, h3, h4⟩ := next_eff P L (L.length - (q + 1)) (q + 1) (by omega)
  have gr : ∀ j, q + 1 ≤ j → j ≤ q' → Grow (S (q + 1)) (S j) := fun j g1 g2 => by
    have := h.grow (i := q + 1) (j - (q + 1)) (by omega) fun l y e1 e2 e3 => h3 l y e1 (by omega) e3
    rwa [show q + 1 + (j - (q + 1)) = j by omega] at this
  have gr2 : ∀ i j, q + 1 ≤ i → i ≤ j → j ≤ q' → Grow (S i) (S j) := fun i j g0 g1 g2 => by
    have := h.grow (i := i) (j - i) (by omega) fun l y e1 e2 e3 => h3 l y (by omega) (by omega) e3
    rwa [show i + (j - i) = j by omega] at this
  refine ⟨q', ?_, h2, fun j y hj hy hey => ?_, fun y hy => ⟨h4 y hy, ?_⟩, v.tmpPut h hi hn hm hx.le hu, fun j y hj hy hc hw hd => ?_, fun i j hij hj => ?_, v.closedPut h hi hm, by rw [put_defers]; exact v.rd.mono hx.le, by rw [put_size]; exact v.sz, v.gb.mono hx.le, ?_, v.ext0⟩
  · exact (gr q' h1 (Nat.le_refl _)).hr _ _ _ hr
  · rcases Nat.lt_trichotomy j q with g | g | g
    · exact also_iff.2 (.inl (v.done j y g hy hey))
    · subst g
      rw [hi] at hy
      obtain rfl := Option.some.inj hy
      exact also_iff.2 (.inr rfl)
    · rw [h3 j y (by omega) hj hy] at hey; cases hey
  · cases hd : also D x.i y.i with
    | false => rfl
    | true =>
      rcases also_iff.1 hd with g | g
      · have := v.closed q' y hy g _ ((h.row q' y hy).eff q x (by omega) hi he)
        rw [hn] at this; cases this
      · have := h.same hy hi g
        omega
  · obtain ⟨hd1, hd2⟩ := also_false hd
    rcases Nat.lt_trichotomy j q with g | g | g
    · obtain ⟨k1, k2⟩ := v.fr j y g hy hc hw hd1
      have hlt : (S j).next < (S q).next := by
        have := h.freshNext hy hc hw
        have := v.mono (j + 1) q (by omega) (Nat.le_refl _)
        omega
      obtain ⟨k3, k4⟩ := hx.un _ hlt k1
      exact ⟨k3, by rw [(gr q' h1 (Nat.le_refl _)).get _ (Nat.lt_of_lt_of_le hlt hx.next), k4, k2]⟩
    · subst g
      rw [hi] at hy
      obtain rfl := Option.some.inj hy
      exact absurd rfl hd2
    · have hnx := (gr j (by omega) (by omega)).next
      refine ⟨?_, (gr2 (j + 1) q' (by omega) (by omega) (Nat.le_refl _)).get _ (by rw [h.freshNext hy hc hw]; exact Nat.lt_succ_self _)⟩
      cases hb : β' (S j).next with
      | none => rfl
      | some l => have := hr.lt _ _ hb; omega
  · have st : ∀ l, l < q' → (S l).next ≤ (S (l + 1)).next := fun l hl => by
      rcases Nat.lt_trichotomy l q with g | g | g
      · exact v.mono l (l + 1) (by omega) (by omega)
      · subst g; exact hx.next
      · exact (gr2 l (l + 1) (by omega) (by omega) (by omega)).next
    have := mono_of st (j - i) i (by omega)
    rwa [show i + (j - i) = j by omega] at this
  · exact (v.ext.trans hx).trans ((gr q' h1 (Nat.le_refl _)).ext β')
/-- A look that comes late tells the same. -/
theorem Inv.lookAt (h : DrawAt P k all N L T S V W) (v : Inv P all N L T S W w0 df β0 s0 D q β a w) (hi : L[i]? = some x) (hn : D x.i = false) (hc : eCls P x.o = .look) (hw : W i = true) : ∀ d, i + 1 + d ≤ q → (eOp P x.o).f k (T i) (S (i + 1 + d)) = .v (V i) (S (i + 1 + d))
  | 0, _ => by
    have hr := h.run i x hi hw
    have e := (look_stay hc hr).1
    show (eOp P x.o).f k (T i) (S (i + 1)) = .v (V i) (S (i + 1))
    rw [e] at hr ⊢
    exact hr
  | d + 1, hd => by
    have ih := v.lookAt h hi hn hc hw d (by omega)
    obtain ⟨y, hy⟩ : ∃ y, L[i + 1 + d]? = some y := ⟨_, List.getElem?_eq_getElem (show i + 1 + d < L.length by have := v.le; omega)⟩
    show (eOp P x.o).f k (T i) (S (i + 1 + d + 1)) = .v (V i) (S (i + 1 + d + 1))
    cases he : eIsEff P y with
    | false => exact (look_stay hc ih).2 _ (h.grow1 hy he).ups
    | true =>
      cases hwy : W (i + 1 + d) with
      | false => rw [(h.skip _ y hy hwy).2]; exact ih
      | true =>
        rcases h.chk _ y hy hwy (isEff_iff.1 he) i x (by omega) hi hw hc with g | ⟨s', g⟩
        · have := v.closed _ y hy (v.done _ y (by omega) hy he) _ g
          rw [hn] at this; cases this
        · have := (look_stay hc g).1
          rw [this] at g
          exact g
/-- One operation, whichever it is. -/
theorem Inv.step (h : DrawAt P k all N L T S V W) (v : Inv P all N L T S W w0 df β0 s0 D q β a w) (hi : L[i]? = some x) (hn : D x.i = false) (hm : ∀ j, x.m.testBit j = true → D j = true) (hw : W i = true) :
    OpDone P x.o a.eval w fun u w' => ∃ β' q', Inv P all N L T S W w0 df β0 s0 (also D x.i) q' β' (a.put x.o.dst u) w' := by
  have hρ : ∀ y ∈ x.o.op.operands, VR β ((eEvC y).f (T i)) (a.eval y) := fun y hy => ev_VR1 v.gb y fun t e ht => by
    refine v.look h hi hn hm ht ?_
    subst e
    exact List.mem_append_left _ (List.mem_filterMap.2 ⟨.tmp t, by simpa using hy, rfl⟩)
  have hr := h.run i x hi hw
  have hbi : eCls P x.o ≠ .eff → ∀ c, x.o.op = .call c → ∃ b, c.callee = .builtin b := fun hne c e => by
    unfold eCls at hne
    rw [e] at hne
    simp only at hne
    cases hb : c.callee with
    | builtin b => exact ⟨b, rfl⟩
    | value f => rw [hb] at hne; exact absurd rfl hne
    | invoke r m => rw [hb] at hne; exact absurd rfl hne
  cases hc : eCls P x.o with
  | eff =>
    have he := isEff_iff.2 hc
    obtain rfl := v.isNext h hi hn hm he
    refine (oper_run h.ks v.gb hρ v.hr hr).mono fun u w' hR => ?_
    obtain ⟨β', g1, g2, g3⟩ := hR
    exact ⟨β', v.stepE h hi hn hm g1 g2 g3⟩
  | pure =>
    have he : eIsEff P x = false := by cases hq : eIsEff P x with | false => rfl | true => rw [isEff_iff.1 hq] at hc; cases hc
    obtain ⟨r, hp⟩ := pure_stay (k := k) (tm := T i) hc
    rw [hp] at hr
    have hq : (eOp P x.o).f k (T i) (S q) = .v (V i) (S q) := by rw [hp, (eOptV_inv hr).1]; rfl
    have := eOp_run (hbi (by rw [hc]; simp)) hρ v.hr hq
    unfold OpSpec at this
    rw [hc] at this
    obtain ⟨-, u, g1, g2⟩ := this
    exact .inl ⟨u, w, .inl g1, β, q, v.stepN h hi hn hm he β.le_refl g2 v.hr v.ext fun j y hj hy hc hw hd _ => (v.fr j y hj hy hc hw hd).1⟩
  | look =>
    have he : eIsEff P x = false := by cases hq : eIsEff P x with | false => rfl | true => rw [isEff_iff.1 hq] at hc; cases hc
    have hlt := v.isBefore h hi hm he
    have hq := v.lookAt h hi hn hc hw (q - (i + 1)) (by omega)
    rw [show i + 1 + (q - (i + 1)) = q by omega] at hq
    have := eOp_run (hbi (by rw [hc]; simp)) hρ v.hr hq
    unfold OpSpec at this
    rw [hc] at this
    obtain ⟨-, u, g1, g2⟩ := this
    exact .inl ⟨u, w, .inl g1, β, q, v.stepN h hi hn hm he β.le_refl g2 v.hr v.ext fun j y hj hy hc hw hd _ => (v.fr j y hj hy hc hw hd).1⟩
  | fresh =>
    have he : eIsEff P x = false := by cases hq : eIsEff P x with | false => rfl | true => rw [isEff_iff.1 hq] at hc; cases hc
    have hlt := v.isBefore h hi hm he
    obtain ⟨kb, f, g1, u, w', l, g2, g3⟩ := eFresh_run (w0 := w0) (w := w) hc hρ v.hr.up.size hr
    obtain ⟨e1, e2, e3⟩ := blk_inv g1
    obtain ⟨k1, k2⟩ := v.fr i x hlt hi hc hw hn
    have hnx := h.freshNext hi hc hw
    have hb : (S i).next < (S q).next := by
      have := v.mono (i + 1) q (by omega) (Nat.le_refl _)
      omega
    have hk : (S q).heap.get (S i).next = some kb := by
      rw [k2, e3]
      exact ETr.get_set _ _ _
    obtain ⟨m1, m2⟩ := v.hr.freshD k1 hb hk g3
    rw [← e2] at m1
    refine .inl ⟨u, w', .inl g2, β.put (S i).next l, q, v.stepN h hi hn hm he (β.put_le l k1) m1 m2 ?_ fun j y hj hy hcy hwy hdy hne => ?_⟩
    · refine ⟨EMp.le_trans v.ext.le (β.put_le l k1), v.ext.next, fun b hb0 h0 => ?_⟩
      obtain ⟨n1, n2⟩ := v.ext.un b hb0 h0
      have := v.mono 0 i (by omega) (by omega)
      have := v.ext0
      exact ⟨(EMp.put_ne _ _ (by omega)).trans n1, n2⟩
    · have hne : (S j).next ≠ (S i).next := by
        rcases Nat.lt_or_gt_of_ne hne with g | g
        · have := h.freshNext hy hcy hwy
          have := v.mono (j + 1) i (by omega) (by omega)
          omega
        · have := v.mono (i + 1) j (by omega) (by omega)
          omega
      rw [EMp.put_ne _ _ hne]
      exact (v.fr j y hj hy hcy hwy hdy).1
end

theorem HR.drawn {w0 w : World} {β : EMp} {s : ESt} (h : HR w0 β s w) (n : Nat) : HR w0 β s { w with drawn := n } :=
  ⟨⟨h.up.os, h.up.tape, h.up.output, h.up.size, h.up.block⟩, h.lt, h.blk, h.inj⟩
section
variable {P : Program} {k : ECall} {all : List Oper} {N : Nat} {L : List EItem} {T : Nat → ERg} {S : Nat → ESt} {V : Nat → EV} {W : Nat → Bool}
variable {w0 : World} {df : EDf} {β0 : EMp} {s0 : ESt}
abbrev lst (listed : Array Bool) : Nat → Bool := fun j => listed.getD j false
theorem lst_set {listed : Array Bool} {j : Nat} (h : j < listed.size) : lst (listed.setIfInBounds j true) = also (lst listed) j := by
  funext l
  unfold lst also
  by_cases e : j = l
  · subst e
    rw [Array.getD_eq_getD_getElem?, Array.getElem?_setIfInBounds_self_of_lt h, Nat.beq_refl, Bool.or_true]
    rfl
  · have : Nat.beq l j = false := by
      cases hb : Nat.beq l j with
      | false => rfl
      | true => exact absurd (Nat.eq_of_beq_eq_true hb).symm e
    rw [this, Bool.or_false, Array.getD_eq_getD_getElem?, Array.getElem?_setIfInBounds_ne e, ← Array.getD_eq_getD_getElem?]
theorem getD_true_false {listed : Array Bool} {j : Nat} (h : listed.getD j true = false) : j < listed.size ∧ listed.getD j false = false := by
  rw [Array.getD_eq_getD_getElem?] at h ⊢
  cases hq : listed[j]? with
  | none => rw [hq] at h; cases h
  | some b => rw [hq] at h; exact ⟨(Array.getElem?_eq_some_iff.1 hq).1, h⟩
theorem any_run (h : DrawAt P k all N L T S V W) : ∀ (fuel : Nat) {listed : Array Bool} {a : Act} {w : World} {β : EMp} {q : Nat}, listed.size = all.length → listed.toList.count false = fuel → Inv P all N L T S W w0 df β0 s0 (lst listed) q β a w →
    wpAny P .any all.toArray (QE w0 β0 s0 N (.n (T L.length) df (S L.length))) fuel listed a w := by
  intro fuel
  have fin : ∀ {listed : Array Bool} {a : Act} {w : World} {β : EMp} {q : Nat}, listed.size = all.length → Inv P all N L T S W w0 df β0 s0 (lst listed) q β a w → Region.ready .any all.toArray listed = [] → QE w0 β0 s0 N (.n (T L.length) df (S L.length)) .normal a w := fun {listed a w β q} hsz v hr => by
    have full : ∀ (n i : Nat) (x : EItem), i < n → L[i]? = some x → lst listed x.i = true := fun n => by
      induction n with
      | zero => intro i x hi; omega
      | succ n ih =>
        intro i x hi hx
        cases hd : lst listed x.i with
        | true => rfl
        | false =>
          exfalso
          have hmem : x.i ∈ Region.ready .any all.toArray listed := by
            rw [mem_ready]
            have hlt := (h.row i x hx).lt
            refine ⟨?_, x.o, by simpa using h.op i x hx, fun e he hb => ?_⟩
            · rw [Array.getD_eq_getD_getElem?] 
              unfold lst at hd
              rw [Array.getD_eq_getD_getElem?, Array.getElem?_eq_getElem (by omega)] at hd
              rw [Array.getElem?_eq_getElem (by omega)]
              exact hd
            · obtain ⟨acc, -, g2⟩ := h.mask i x hx
              have hbit : x.m.testBit e.on = true := by
                rw [g2, eMask_bit]
                exact ⟨e, by simpa using he, hb, .inl rfl⟩
              rcases (h.row i x hx).mask _ hbit with g | ⟨l, y, h1, h2, h3⟩
              · simp at g
              · rw [← h3]
                exact ih l y (by omega) h2
          rw [hr] at hmem
          cases hmem
    have hall : ∀ (i : Nat) (x : EItem), L[i]? = some x → lst listed x.i = true := fun i x hx => full (i + 1) i x (Nat.lt_succ_self _) hx
    have hq : q = L.length := by
      rcases Nat.lt_or_eq_of_le v.le with g | g
      · have hx := List.getElem?_eq_getElem g
        have := (v.nxt _ hx).2
        rw [hall _ _ hx] at this
        cases this
      · exact g
    subst hq
    exact ⟨_, _, _, rfl, β, ⟨v.hr, fun t ht => v.tmp t ht L.length (Nat.le_refl _) fun i x hx _ => ⟨fun _ => (List.getElem?_eq_some_iff.1 hx).1, fun _ => hall i x hx⟩, v.rd, v.sz, v.gb⟩, v.ext⟩
  induction fuel with
  | zero =>
    intro listed a w β q hsz hcnt v
    have hr : Region.ready .any all.toArray listed = [] := by
      rw [List.eq_nil_iff_forall_not_mem]
      intro j hj
      rw [mem_ready] at hj
      have := hj.1
      rw [Array.getD_eq_getD_getElem?] at this
      cases hq : listed[j]? with
      | none => rw [hq] at this; cases this
      | some b =>
        rw [hq] at this
        have e : b = false := this
        subst e
        have hm : false ∈ listed.toList := by
          have := Array.mem_of_getElem? hq
          simpa using this
        have := List.count_pos_iff.2 hm
        omega
    exact ⟨hr, fin hsz v hr⟩
  | succ fuel ih =>
    intro listed a w β q hsz hcnt v
    refine ⟨fin hsz v, fun j hj => ?_⟩
    rw [mem_ready] at hj
    obtain ⟨hj1, o, ho, hj2⟩ := hj
    obtain ⟨hjs, hn⟩ := getD_true_false hj1
    obtain ⟨i, x, hi, rfl⟩ := h.full j (by omega)
    have hox := h.op i x hi
    have e : o = x.o := by
      have ho : all[x.i]? = some o := by simpa using ho
      rw [hox] at ho
      exact (Option.some.inj ho).symm
    subst e
    have hm : ∀ j, x.m.testBit j = true → lst listed j = true := fun j hb => by
      obtain ⟨acc, g1, g2⟩ := h.mask i x hi
      rw [g2, eMask_bit] at hb
      obtain ⟨e, he, hbd, g | ⟨y, g3, g4⟩⟩ := hb
      · rw [← g]; exact hj2 e (by simpa using he) hbd
      · obtain ⟨g5, g6⟩ := g1 _ _ g3
        obtain ⟨l, hl⟩ := List.getElem?_of_mem g6
        refine v.closed l y hl ?_ j g4
        rw [g5]
        exact hj2 e (by simpa using he) hbd
    have hcnt' : (listed.setIfInBounds x.i true).toList.count false = fuel := by
      rw [Array.toList_setIfInBounds, List.count_set (by simpa using hjs)]
      have e : listed.toList[x.i]'(by simpa using hjs) = false := by
        rw [Array.getD_eq_getD_getElem?, Array.getElem?_eq_getElem hjs] at hn
        simpa using hn
      rw [e, hcnt]
      simp
    have hwant := (h.gd i x hi).wanted (β := β) (a := a) fun t hl ht => v.look h hi hn hm ht hl
    have K : ∀ {β' q' a' w'}, Inv P all N L T S W w0 df β0 s0 (also (lst listed) x.i) q' β' a' w' → wpAny P .any all.toArray (QE w0 β0 s0 N (.n (T L.length) df (S L.length))) fuel (listed.setIfInBounds x.i true) a' w' := fun {β' q' a' w'} hv => by
      rw [← lst_set hjs] at hv
      exact ih (by simpa using hsz) hcnt' hv
    unfold wpOp
    rw [show all.toArray[x.i]? = some x.o by simpa using hox]
    simp only
    cases hw : W i with
    | true =>
      rw [hw] at hwant
      rw [if_pos hwant]
      refine .inl ((v.step h hi hn hm hw).wp fun u w' hv => ?_)
      obtain ⟨β', q', hv⟩ := hv
      exact K hv
    | false =>
      rw [hw] at hwant
      rw [if_neg (by rw [hwant]; simp)]
      obtain ⟨e1, e2⟩ := h.skip i x hi hw
      cases he : eIsEff P x with
      | false => exact K (v.stepN h hi hn hm he β.le_refl (by rw [e1]; exact .tup .nil) v.hr v.ext fun j y hj hy hc hw hd _ => (v.fr j y hj hy hc hw hd).1)
      | true =>
        obtain rfl := v.isNext h hi hn hm he
        obtain ⟨q', hv⟩ := v.stepE h hi hn hm (u := undef) (w' := w) (β' := β) (by rw [e1]; exact .tup .nil) (by rw [e2]; exact v.hr) (by rw [e2]; exact Ext.refl _ _)
        exact K hv
end
theorem items_idx : ∀ (l : List Oper) (acc : List EItem), (∀ i (y : EItem), acc[i]? = some y → y.i = i) → ∀ i (y : EItem), (eItems l acc)[i]? = some y → y.i = i
  | [], acc, hi => hi
  | o :: l, acc, hi => by
    rw [eItems_cons]
    refine items_idx l _ fun i y hy => ?_
    by_cases hlt : i < acc.length
    · rw [List.getElem?_append_left hlt] at hy; exact hi i y hy
    · rw [List.getElem?_append_right (by omega)] at hy
      have e : i - acc.length = 0 := by
        cases hq : i - acc.length with
        | zero => rfl
        | succ _ => rw [hq] at hy; cases hy
      rw [e] at hy
      obtain rfl := Option.some.inj hy
      show acc.length = i
      omega
/-- Regions that draw are sound. -/
theorem draw_ok {P : Program} (hm : P.follows .mixedOrders = true) : DrawOk P := fun w0 k N β0 s0 id all out tm df s1 a w hk hN ho hs h => by
  have h : (match eTouchOk all (eItems all []) && eCanonOk P all.length (eCanon P (eItems all []) ((eItems all []).filter (eIsEff P)) ((eItems all []).filter (eIsEff P)) 0) 0 0 with
    | true => (⟨fun k tm df s => (eOpsD P all N (eCanon P (eItems all []) ((eItems all []).filter (eIsEff P)) ((eItems all []).filter (eIsEff P)) 0)).f k tm df [] s⟩ : ECl)
    | false => ⟨fun _ _ _ _ => .er⟩).f k tm df s1 = out := h
  cases hc : (eTouchOk all (eItems all []) && eCanonOk P all.length (eCanon P (eItems all []) ((eItems all []).filter (eIsEff P)) ((eItems all []).filter (eIsEff P)) 0) 0 0) with
  | false => rw [hc] at h; exact absurd h.symm ho
  | true =>
    rw [hc] at h
    simp only at h
    rw [Bool.and_eq_true] at hc
    obtain ⟨hc1, hc2⟩ := hc
    have hmem := eCanon_mem (P := P) (all := eItems all []) (effs := (eItems all []).filter (eIsEff P)) ((eItems all []).filter (eIsEff P)) 0 fun x hx => (List.mem_filter.1 hx).1
    generalize eCanon P (eItems all []) ((eItems all []).filter (eIsEff P)) ((eItems all []).filter (eIsEff P)) 0 = L at h hc2 hmem
    obtain ⟨c1, c2⟩ := canonOk_inv L 0 0 hc2
    obtain ⟨T, S, V, W, ht, e⟩ := trace_run L h ho
    have hits := items_ok all
    have hfull : ∀ j, j < all.length → ∃ (q : Nat) (y : EItem), L[q]? = some y ∧ y.i = j := fun j hj => by
      rcases c1 j hj with g | g
      · simp at g
      · exact g
    have inL : ∀ y ∈ eItems all [], y ∈ L := fun y hy => by
      have hlt : y.i < all.length := (List.getElem?_eq_some_iff.1 (hits y hy).op).1
      obtain ⟨l, z, hl, e⟩ := hfull _ hlt
      obtain ⟨i, hi⟩ := List.getElem?_of_mem hy
      obtain ⟨j, hj⟩ := List.getElem?_of_mem (hmem z (List.mem_of_getElem? hl))
      have e1 := items_idx all [] (fun i y h => by simp at h) i y hi
      have e2 := items_idx all [] (fun i y h => by simp at h) j z hj
      have : i = j := by omega
      subst this
      rw [hi] at hj
      obtain rfl := Option.some.inj hj
      exact List.mem_of_getElem? hl
    have hd : DrawAt P k all N L T S V W :=
      { ks := hk, n256 := hN, gd := ht.gd, dst := ht.dst, put := ht.put, run := ht.run, skip := ht.skip, chk := ht.chk, row := c2, full := hfull
        op := fun i x hi => (hits x (hmem x (List.mem_of_getElem? hi))).op
        mask := fun i x hi => by
          obtain ⟨acc, g1, g2⟩ := (hits x (hmem x (List.mem_of_getElem? hi))).mask
          exact ⟨acc, fun i y hy => ⟨(g1 i y hy).1, inL y (g1 i y hy).2⟩, g2⟩
        touch := fun i x hi j y hj => (touch_inv hc1 (hmem x (List.mem_of_getElem? hi))).2 y (hmem y (List.mem_of_getElem? hj)) }
    obtain ⟨β, hs, he⟩ := hs
    subst e
    obtain ⟨q, q1, q2, q3, q4⟩ := next_eff P L L.length 0 (by omega)
    have gr : ∀ i j, i ≤ j → j ≤ q → Grow (S i) (S j) := fun i j g1 g2 => by
      have := hd.grow (i := i) (j - i) (by omega) fun l y e1 e2 e3 => q3 l y (by omega) (by omega) e3
      rwa [show i + (j - i) = j by omega] at this
    have e0 := ht.s0
    have D0 : ∀ j, lst (Array.replicate all.toArray.size false) j = false := fun j => by
      unfold lst
      rw [Array.getD_eq_getD_getElem?, Array.getElem?_replicate]
      split <;> rfl
    refine wp_region_any hm (any_run hd all.toArray.size (w0 := w0) (β := β) (q := q) (by simp) (by simp [List.count_replicate]) ?_)
    have hr0 : HR w0 β (S 0) { w with drawn := w.drawn + 1 } := by rw [e0]; exact hs.hr.drawn _
    have g0 := gr 0 q (Nat.zero_le _) (Nat.le_refl _)
    exact
      { hr := g0.hr _ _ _ hr0
        le := q2
        done := fun i x hi hx he => by rw [q3 i x (Nat.zero_le _) hi hx] at he; cases he
        nxt := fun x hx => ⟨q4 x hx, D0 _⟩
        tmp := fun t htt p hp hc => by
          have key : ∀ d, d ≤ p → ERg.get t (T d) = ERg.get t tm := fun d => by
            induction d with
            | zero => intro _; rw [ht.t0]
            | succ d ih =>
              intro hdp
              obtain ⟨y, hy⟩ : ∃ y, L[d]? = some y := ⟨_, List.getElem?_eq_getElem (show d < L.length by omega)⟩
              rw [ht.put d y hy, ← ih (by omega)]
              cases hyd : y.o.dst with
              | none => rfl
              | some t2 =>
                by_cases e : t2 = t
                · subst e
                  have := (hc d y hy hyd).2 (by omega)
                  rw [D0] at this; cases this
                · exact ERg.get_set_ne _ _ (Nat.lt_of_lt_of_le (ht.dst _ y hy t2 hyd) hN) htt e
          rw [key p (Nat.le_refl _)]
          exact hs.rt t htt
        fr := fun i x hi hx hc hw _ => by
          have hnx := hd.freshNext hx hc hw
          refine ⟨?_, (gr (i + 1) q (by omega) (Nat.le_refl _)).get _ (by omega)⟩
          have := (gr 0 i (Nat.zero_le _) (by omega)).next
          cases hb : β (S i).next with
          | none => rfl
          | some l => have := hr0.lt _ _ hb; omega
        mono := fun i j hij hj => (gr i j hij hj).next
        closed := fun i x _ hx => by rw [D0] at hx; cases hx
        rd := hs.rd
        sz := hs.sz
        gb := hs.gb
        ext := he.trans (e0 ▸ g0.ext β)
        ext0 := by rw [e0]; exact he.next }
/-- All calls are sound. -/
theorem call_ok {P : Program} (hm : P.follows .mixedOrders = true) {I : FuncId → Option (ECall → List EV → ESt → EO)} (hI : IOk P I) (d : Nat) : KS P (eCall P I d) := call_KS (draw_ok hm) hI d

/-- Where a byte stands. -/
noncomputable def iFind (c : Nat) (l : List Nat) : Nat → Int :=
  List.rec (motive := fun _ => Nat → Int) (fun _ => -1) (fun x _ ih i => match Nat.beq x c with | true => Int.ofNat i | false => ih (Nat.succ i)) l
/-- How often. -/
noncomputable def iCount (c : Nat) (l : List Nat) : Nat → Nat :=
  List.rec (motive := fun _ => Nat → Nat) (fun n => n) (fun x _ ih n => match Nat.beq x c with | true => ih (Nat.succ n) | false => ih n) l
theorem iFind_cons (c x : Nat) (l : List Nat) (i : Nat) : iFind c (x :: l) i = match Nat.beq x c with | true => Int.ofNat i | false => iFind c l (Nat.succ i) := rfl
theorem iCount_cons (c x : Nat) (l : List Nat) (i : Nat) : iCount c (x :: l) i = match Nat.beq x c with | true => iCount c l (Nat.succ i) | false => iCount c l i := rfl
theorem byte_beq (x : UInt8) {c : Nat} (hc : c < 256) : Nat.beq x.toNat c = (x == c.toUInt8) := by
  rw [Bool.eq_iff_iff]
  constructor
  · intro h
    have e := Nat.eq_of_beq_eq_true h
    rw [beq_iff_eq, ← UInt8.toNat_inj, e]
    simp [Nat.toUInt8, Nat.mod_eq_of_lt hc]
  · intro h
    rw [beq_iff_eq] at h
    subst h
    have : c.toUInt8.toNat = c := by simp [Nat.toUInt8, Nat.mod_eq_of_lt hc]
    rw [this, Nat.beq_refl]
theorem iFind_eq {c : Nat} (hc : c < 256) : ∀ (l : List UInt8) (i : Nat), iFind c (l.map (·.toNat)) i = if Lib.indexByte l c.toUInt8 = -1 then -1 else Lib.indexByte l c.toUInt8 + i
  | [], i => rfl
  | x :: l, i => by
    rw [List.map_cons, iFind_cons, byte_beq x hc]
    unfold Lib.indexByte
    have ge := Lib.indexByte_ge l c.toUInt8
    cases hb : x == c.toUInt8 with
    | true => simp
    | false =>
      simp only [Bool.false_eq_true, if_false]
      rw [iFind_eq hc l (i + 1)]
      by_cases h1 : Lib.indexByte l c.toUInt8 = -1
      · simp [h1]
      · have h2 : Lib.indexByte l c.toUInt8 + 1 ≠ -1 := by omega
        simp only [h1, if_false, beq_iff_eq, h2]
        push_cast
        omega
theorem iCount_eq {c : Nat} (hc : c < 256) : ∀ (l : List UInt8) (n : Nat), iCount c (l.map (·.toNat)) n = n + Lib.countByte l c.toUInt8
  | [], n => rfl
  | x :: l, n => by
    rw [List.map_cons, iCount_cons, byte_beq x hc]
    unfold Lib.countByte
    rw [List.count_cons]
    cases hb : x == c.toUInt8 with
    | true => simp only; rw [iCount_eq hc l]; unfold Lib.countByte; simp; omega
    | false => simp only; rw [iCount_eq hc l]; unfold Lib.countByte; simp

theorem ext_run {P : Program} {f : FuncId} {fn : Func} (h : P.funcs[f]? = some fn) (hn : (fn.name == "runtime.NumGoroutine") = false) (hb : fn.body.isNone = true) (h1 : (Extern.findNext fn).isNone = true) {e : Array Value → Sem Value} (h2 : Extern.find fn = some e) {args : Array Value} {w w' : World} {v : Value} (hr : (e args).run P w = .ok v w') :
    (callFunc f args).run P w = .ok (.value v) w' := by
  rw [Option.isNone_iff_eq_none] at h1 hb
  have hn : fn.name ≠ "runtime.NumGoroutine" := by simpa using hn
  simp [callFunc, h, hn, hb, h1, h2, hr]
noncomputable section
/-- CountString, IndexByteString. -/
def iCountStr (_ : ECall) (a : List EV) (s : ESt) : EO := match a with
  | [.str l, .int .u8 (.ofNat c)] => match Nat.blt c 256 with
    | true => .v (.int .i64 (Int.ofNat (iCount c l 0))) s
    | false => .er
  | _ => .er
def iIndexStr (_ : ECall) (a : List EV) (s : ESt) : EO := match a with
  | [.str l, .int .u8 (.ofNat c)] => match Nat.blt c 256 with
    | true => .v (.int .i64 (iFind c l 0)) s
    | false => .er
  | _ => .er
end
theorem two_args {β : EMp} {l : List Nat} {c : Nat} {av : Array Value} (h : VRs β [.str l, .int .u8 (.ofNat c)] av.toList) : ∃ b : ByteArray, b.data.toList.map (·.toNat) = l ∧ av = #[.string b, .int .u8 (Int.ofNat c)] := by
  obtain ⟨av⟩ := av
  cases h with
  | cons h1 h2 =>
    cases h2 with
    | cons h2 h3 =>
      cases h3
      cases h1
      cases h2
      exact ⟨_, ‹_›, rfl⟩
theorem iCountStr_ok {P : Program} {f : FuncId} {fn : Func} (h : P.funcs[f]? = some fn) (hn : (fn.name == "runtime.NumGoroutine") = false) (hb : fn.body.isNone = true) (h1 : (Extern.findNext fn).isNone = true) (h2 : Extern.find fn = some Extern.BytealgCount.count) {k : ECall} {args : List EV} {s s' : ESt} {x : EV} (ha : iCountStr k args s = .v x s') : KOk P f args s x s' := fun w0 β w av hg hr hv => by
  unfold iCountStr at ha
  split at ha <;> first | (cases ha; done) | skip
  rename_i l c
  cases hc : Nat.blt c 256 with
  | false => rw [hc] at ha; cases ha
  | true =>
    rw [hc] at ha
    injection ha with e1 e2
    subst e1 e2
    obtain ⟨b, rfl, rfl⟩ := two_args hv
    have hc := Nat.le_of_ble_eq_true hc
    refine .inl ⟨_, w, ext_run h hn hb h1 h2 (Lib.run_countString b c w), β, ?_, hr, Ext.refl _ _⟩
    rw [iCount_eq hc, Nat.zero_add]
    exact .int _ _
theorem iIndexStr_ok {P : Program} {f : FuncId} {fn : Func} (h : P.funcs[f]? = some fn) (hn : (fn.name == "runtime.NumGoroutine") = false) (hb : fn.body.isNone = true) (h1 : (Extern.findNext fn).isNone = true) (h2 : Extern.find fn = some Extern.BytealgIndexByte.indexByte) {k : ECall} {args : List EV} {s s' : ESt} {x : EV} (ha : iIndexStr k args s = .v x s') : KOk P f args s x s' := fun w0 β w av hg hr hv => by
  unfold iIndexStr at ha
  split at ha <;> first | (cases ha; done) | skip
  rename_i l c
  cases hc : Nat.blt c 256 with
  | false => rw [hc] at ha; cases ha
  | true =>
    rw [hc] at ha
    injection ha with e1 e2
    subst e1 e2
    obtain ⟨b, rfl, rfl⟩ := two_args hv
    have hc := Nat.le_of_ble_eq_true hc
    refine .inl ⟨_, w, ext_run h hn hb h1 h2 (Lib.run_indexByteString b c w), β, ?_, hr, Ext.refl _ _⟩
    rw [iFind_eq hc]
    have : (if Lib.indexByte b.data.toList c.toUInt8 = -1 then -1 else Lib.indexByte b.data.toList c.toUInt8 + ((0 : Nat) : Int)) = Lib.indexByte b.data.toList c.toUInt8 := by
      split
      · rename_i e; rw [e]
      · simp
    rw [this]
    exact .int _ _

/-- The package's variables alone. -/
def bet0 : EMp := fun g => if g < 1024 then some ⟨g, 0, 0⟩ else none
theorem HR.start (W : World) : HR W bet0 (.mk .e 1024) W := by
  have he : ∀ b, (ESt.mk .e 1024).heap.get b = none := fun b => ETr.get_e b
  refine ⟨Upd.refl _ _, fun b l h => ?_, fun b l k _ h => ?_, fun b b' l l' k k' _ _ h => ?_⟩
  · unfold bet0 at h
    by_cases hb : b < 1024
    · exact hb
    · rw [if_neg hb] at h; cases h
  · rw [he] at h; cases h
  · rw [he] at h; cases h
/-- What tells true. -/
noncomputable def tellsTrue (r : EO) : Bool := match r with
  | .v (.bool b) _ => b
  | _ => false

def joiF (n : Nat) : Nat := if n = 156 then 162 else if n = 165 then 222 else if n = 166 then 158 else if n = 169 then 223 else if n = 240 then 219 else if n = 241 then 283 else if n = 276 then 282 else if n = 277 then 325 else n
def joiT (n : Nat) : Nat := if n = 0 then 0 else if n = 3 then 3 else if n = 4 then 4 else if n = 5 then 5 else if n = 9 then 9 else if n = 20 then 20 else if n = 31 then 77 else if n = 37 then 157 else if n = 70 then 261 else if n = 72 then 263 else if n = 75 then 269 else if n = 76 then 270 else if n = 80 then 193 else if n = 127 then 386 else if n = 164 then 384 else n
def joiR : Go.Shelf.Ren := ⟨joiF, joiT, fun n => n⟩
theorem joiL : Lays.n156 Tryz.prog joiR where
  mixed := by kernel_rfl
  f156 := by kernel_rfl
  f165 := by kernel_rfl
  f166 := by kernel_rfl
  f169 := by kernel_rfl
  f240 := by kernel_rfl
  f241 := by kernel_rfl
  f276 := by kernel_rfl
  f277 := by kernel_rfl
  t0 := Tryz.underlying0
  a0 := Tryz.isAgg0
  z0 := Tryz.sizeOf0
  v0 := Tryz.zeroValue0
  t3 := Tryz.underlying3
  a3 := Tryz.isAgg3
  z3 := Tryz.sizeOf3
  v3 := Tryz.zeroValue3
  t4 := Tryz.underlying4
  a4 := Tryz.isAgg4
  z4 := Tryz.sizeOf4
  v4 := Tryz.zeroValue4
  t9 := Tryz.underlying9
  a9 := Tryz.isAgg9
  z9 := Tryz.sizeOf9
  v9 := Tryz.zeroValue9
  t20 := Tryz.underlying20
  a20 := Tryz.isAgg20
  z20 := Tryz.sizeOf20
  v20 := Tryz.zeroValue20
  t31 := Tryz.underlying77
  a31 := Tryz.isAgg77
  z31 := Tryz.sizeOf77
  v31 := Tryz.zeroValue77
  t37 := Tryz.underlying157
  a37 := Tryz.isAgg157
  z37 := Tryz.sizeOf157
  v37 := Tryz.zeroValue157
  t70 := Tryz.underlying261
  a70 := Tryz.isAgg261
  z70 := Tryz.sizeOf261
  v70 := Tryz.zeroValue261
  t72 := Tryz.underlying263
  a72 := Tryz.isAgg263
  z72 := Tryz.sizeOf263
  v72 := Tryz.zeroValue263
  t75 := Tryz.underlying269
  a75 := Tryz.isAgg269
  z75 := Tryz.sizeOf269
  v75 := Tryz.zeroValue269
  t76 := Tryz.underlying270
  a76 := Tryz.isAgg270
  z76 := Tryz.sizeOf270
  v76 := Tryz.zeroValue270
  t127 := Tryz.underlying386
  a127 := Tryz.isAgg386
  z127 := Tryz.sizeOf386
  v127 := Tryz.zeroValue386
  t164 := Tryz.underlying384
  a164 := Tryz.isAgg384
  z164 := Tryz.sizeOf384
  v164 := Tryz.zeroValue384
theorem joiX : Builder.Extra Tryz.prog joiR where
  sizeBuilder := by kernel_rfl
  liesBuilder := by kernel_rfl
  t5 := Tryz.underlying5
  a5 := Tryz.isAgg5
  z5 := Tryz.sizeOf5
  v5 := Tryz.zeroValue5
  infoByte := by kernel_rfl
  cellsByte := by kernel_rfl
  sizeByte := by kernel_rfl
  neB5 := by decide

noncomputable section
def iTexts (l : List EV) : Option (List (List Nat)) :=
  List.rec (motive := fun _ => Option (List (List Nat))) (some []) (fun x _ ih => match x with
    | .str a => match ih with
      | some r => some (a :: r)
      | none => none
    | _ => none) l
def iJoinL (sep : List Nat) (l : List (List Nat)) : List Nat :=
  List.rec (motive := fun _ => List Nat) [] (fun x r ih => match r with
    | [] => x
    | _ => x ++ (sep ++ ih)) l
end
theorem iTexts_cons (x : EV) (l : List EV) : iTexts (x :: l) = match x with
    | .str a => match iTexts l with
      | some r => some (a :: r)
      | none => none
    | _ => none := rfl
theorem iTexts_run {β : EMp} : ∀ {l : List EV} {vs : List Value} {ls : List (List Nat)}, VRs β l vs → iTexts l = some ls → ∃ bs : List ByteArray, vs = bs.map Value.string ∧ ls = bs.map fun b => b.data.toList.map (·.toNat)
  | _, _, ls, .nil, h => by
    obtain rfl := Option.some.inj (show some [] = some ls from h)
    exact ⟨[], rfl, rfl⟩
  | x :: l, v :: vs, ls, .cons hx hl, h => by
    rw [iTexts_cons] at h
    cases hx <;> first | (cases h; done) | skip
    rename_i a b hb
    simp only at h
    cases hq : iTexts l with
    | none => rw [hq] at h; cases h
    | some r =>
      rw [hq] at h
      obtain rfl := Option.some.inj h
      obtain ⟨bs, rfl, rfl⟩ := iTexts_run hl hq
      exact ⟨_ :: bs, rfl, by rw [List.map_cons, hb]⟩
theorem iJoinL_run (sep : ByteArray) : ∀ (bs : List ByteArray), iJoinL (sep.data.toList.map (·.toNat)) (bs.map fun b => b.data.toList.map (·.toNat)) = (Lib.join (bs.map (·.data.toList)) sep.data.toList).map (·.toNat)
  | [] => rfl
  | [b] => by rw [List.map_cons, List.map_nil, List.map_cons, List.map_nil, Lib.join_one]; rfl
  | b :: c :: r => by
    have ih := iJoinL_run sep (c :: r)
    have e : iJoinL (sep.data.toList.map (·.toNat)) ((b :: c :: r).map fun b => b.data.toList.map (·.toNat)) = b.data.toList.map (·.toNat) ++ (sep.data.toList.map (·.toNat) ++ iJoinL (sep.data.toList.map (·.toNat)) ((c :: r).map fun b => b.data.toList.map (·.toNat))) := rfl
    rw [e, ih]
    unfold Lib.join
    rw [List.map_cons, List.map_cons, List.map_cons, List.intercalate_cons_cons]
    simp
noncomputable def iJoin (_ : ECall) (a : List EV) (s : ESt) : EO := match a with
  | [.sl (some (b, o)) n c z, .str sep] => match s.loadN b o n with
    | some l => match iTexts l with
      | some ls => match Nat.ble n c && Nat.ble 1 n && Nat.ble n 1000 && Nat.ble (iJoinL sep ls).length 1000000000 with
        | true => .v (.str (iJoinL sep ls)) s
        | false => .er
      | none => .er
    | none => .er
  | _ => .er
theorem iJoin_ok {k : ECall} {args : List EV} {s s' : ESt} {x : EV} (ha : iJoin k args s = .v x s') : KOk Tryz.prog 162 args s x s' := fun w0 β w av hg hr hv => by
  unfold iJoin at ha
  split at ha <;> first | (cases ha; done) | skip
  rename_i b o n c z sep
  cases hl : s.loadN b o n with
  | none => rw [hl] at ha; cases ha
  | some l =>
    rw [hl] at ha
    simp only at ha
    cases ht : iTexts l with
    | none => rw [ht] at ha; cases ha
    | some ls =>
      rw [ht] at ha
      simp only at ha
      cases hc : (Nat.ble n c && Nat.ble 1 n && Nat.ble n 1000 && Nat.ble (iJoinL sep ls).length 1000000000) with
      | false => rw [hc] at ha; cases ha
      | true =>
        rw [hc] at ha
        injection ha with e1 e2
        subst e1 e2
        simp only [Bool.and_eq_true] at hc
        obtain ⟨⟨⟨hc1, hc2⟩, hc3⟩, hc4⟩ := hc
        obtain ⟨av⟩ := av
        cases hv with
        | cons h1 h2 =>
          cases h2 with
          | cons h2 h3 =>
            cases h3
            cases h2 with
            | str hs =>
              cases h1 with
              | sle _ => exact absurd (Nat.le_of_ble_eq_true hc2) (by omega)
              | sl hb h0 hz =>
                obtain ⟨vs, g1, g2, g3⟩ := hr.loadN hb hl
                obtain ⟨bs, rfl, rfl⟩ := iTexts_run g2 ht
                subst hs
                rename_i sb cap' l2
                have hn : n = bs.length := by rw [← g1, List.length_map]
                subst hn
                rw [iJoinL_run] at hc4 ⊢
                rw [List.length_map] at hc4
                have hc4 := Nat.le_of_ble_eq_true hc4
                have hc3 := Nat.le_of_ble_eq_true hc3
                have hcap : bs.length ≤ cap' := by
                  have h1 := Nat.le_of_ble_eq_true hc1
                  by_cases e : z = 0
                  · rw [h0 e]; exact h1
                  · exact Nat.le_trans h1 (hz e).1
                have hcell : ∀ (j : Nat) y, bs[j]? = some y → w.cell? ⟨l2.c, l2.sh + o + j, none⟩ = some (.string y) := fun j y hy => g3 j _ (by rw [List.getElem?_map, hy]; rfl)
                have hlt : l2.c < w.heap.size := by
                  have hpos : 0 < bs.length := Nat.le_of_ble_eq_true hc2
                  have h1 := hcell 0 bs[0] (List.getElem?_eq_getElem hpos)
                  unfold World.cell? at h1
                  cases hq : w.heap[l2.c]? with
                  | none => simp [hq] at h1
                  | some _ => exact (Array.getElem?_eq_some_iff.1 hq).1
                refine .inr ⟨enters_of Tryz.func162 (by kernel_rfl) rfl _ _, (Any.strings_Join joiL joiX l2.c (l2.sh + o) cap' bs sb w hcell hlt (by omega) hcap (by omega)).mono fun e w' he => ?_⟩
                obtain ⟨rfl, hb2⟩ := he
                have hu : Upd (fun _ => False) w w' := Upd.of_below hb2 (Nat.le_refl _)
                exact ⟨_, rfl, β, .str (by simp), hr.world hu, Ext.refl _ _⟩

/-- The n cells of block b from o on. -/
def rowN (w : World) (b o n : Nat) : Option (Array Value) :=
  match w.heap[b]? with
  | some (.cells C _ _) => if o + n ≤ C.size then some (C.extract o (o + n)) else none
  | _ => none
/-- What a load of a row comes to that is not there whole: nobody looks. -/
def slowLd (P : Program) (ty : TypeId) (w : World) (b o : Nat) : Result Value := (loadVar ty ⟨b, o, none⟩).run P w
theorem rowN_cell {w : World} {b o n : Nat} {A : Array Value} (h : rowN w b o n = some A) : A.size = n ∧ ∀ j, j < n → w.cell? ⟨b, o + j, none⟩ = A[j]? := by
  unfold rowN at h
  cases hb : w.heap[b]? with
  | none => rw [hb] at h; cases h
  | some ob =>
    rw [hb] at h
    cases ob with
    | cells C T fz =>
      simp only at h
      split at h
      · rename_i hle
        injection h with h
        subst h
        refine ⟨by simp; omega, fun j hj => ?_⟩
        rw [blk_cell hb, Array.getElem?_extract, if_pos (by omega)]
      · cases h
    | _ => cases h
theorem rowN_rangeAt {w : World} {b o n : Nat} {A : Array Value} (h : rowN w b o n = some A) : w.rangeAt b o A.toList := by
  obtain ⟨hs, hc⟩ := rowN_cell h
  intro j v hv
  rw [Array.getElem?_toList] at hv
  have hj : j < n := by
    have := (Array.getElem?_eq_some_iff.1 hv).1
    omega
  rw [hc j hj, hv]
theorem rowN_blk {w : World} {b : Nat} {C : Array Value} {T : TypeId} {fz : Nat × Nat} (h : w.heap[b]? = some (.cells C T fz)) (o n : Nat) (hn : o + n ≤ C.size) : rowN w b o n = some (C.extract o (o + n)) := by
  unfold rowN
  rw [h]
  simp only
  rw [if_pos hn]
theorem rowN_whole {w : World} {b : Nat} {C : Array Value} {T : TypeId} {fz : Nat × Nat} (h : w.heap[b]? = some (.cells C T fz)) (n : Nat) (hn : C.size = n) : rowN w b 0 n = some C := by
  rw [rowN_blk h 0 n (by omega)]
  simp [← hn]
theorem rowN_heap {w w' : World} (b : Nat) (h : w'.heap[b]? = w.heap[b]?) (o n : Nat) : rowN w' b o n = rowN w b o n := by unfold rowN; rw [h]
theorem rowN_upd {S : Nat → Prop} {w w' : World} {b o n : Nat} {A : Array Value} (h : rowN w b o n = some A) (u : Upd S w w') (hn : ¬ S b) : rowN w' b o n = some A := by
  rw [rowN_heap b (u.block b ?_ hn)]
  · exact h
  · by_cases hb : b < w.heap.size
    · exact hb
    · have e : w.heap[b]? = none := by simp; omega
      unfold rowN at h
      rw [e] at h
      cases h

/-- THE LOAD, whole: a rule for the walk ('attribute [local go_sem ↓]' at a type of your own). -/
theorem run_loadAt_rowN {P : Program} (ty n : Nat) (d : TypeDesc) (hu : P.underlying ty = some d) (hd : d.isRow = true) (hi : (P.info? ty).map (·.size) = some n) (b o : Nat) (w : World) :
    (Instr.loadAt ty (.pointer (some ⟨b, o, none⟩))).run P w = match rowN w b o n with | some A => .ok (.agg A) w | none => slowLd P ty w b o := by
  cases h : rowN w b o n with
  | none =>
    simp only [Instr.loadAt, Instr.sureAddr, Sem.run_bind, Sem.run_pure, Result.andThen_ok, slowLd]
  | some A =>
    simp only
    rw [run_loadAt_mid w b o ty A.toList d (rowN_rangeAt h) hu hd (by rw [hi, Array.length_toList, (rowN_cell h).1])]

/-! ### Stores -/
/-- May a row of n cells be stored there? -/
def stOk (w : World) (b o n : Nat) (A : Array Value) : Bool :=
  (match w.heap[b]? with | some (.cells C _ fz) => decide (o + n ≤ C.size) && decide (fz = (0, 0)) | _ => false) && decide (A.size = n) && A.all (·.oneCell')
def slowSt (P : Program) (ty : TypeId) (w : World) (b o : Nat) (A : Array Value) : Result Unit := (Instr.storeAt ty (.pointer (some ⟨b, o, none⟩)) (.agg A)).run P w
theorem stOk_blk {w : World} {b : Nat} {C : Array Value} {T : TypeId} (h : w.heap[b]? = some (.cells C T (0, 0))) {o n : Nat} (hn : o + n ≤ C.size) {A : Array Value} (hA : A.size = n) (h1 : A.all (·.oneCell') = true) : stOk w b o n A = true := by
  unfold stOk
  rw [h]
  simp only [h1, Bool.and_true]
  simp [hn, hA]
theorem stOk_there {w : World} {b o n : Nat} {A : Array Value} (h : stOk w b o n A = true) : w.there b o A.size ∧ A.size = n ∧ A.all (·.oneCell') = true := by
  unfold stOk at h
  cases hb : w.heap[b]? with
  | none => rw [hb] at h; simp at h
  | some ob =>
    rw [hb] at h
    cases ob with
    | cells C T fz =>
      simp only [Bool.and_eq_true, decide_eq_true_eq] at h
      obtain ⟨⟨⟨h1, rfl⟩, h3⟩, h4⟩ := h
      refine ⟨fun j hj => ⟨?_, blk_free hb _⟩, h3, h4⟩
      rw [blk_cell hb, Array.getElem?_eq_getElem (by omega)]
      rfl
    | _ => simp at h
/-- THE STORE, whole. -/
theorem run_storeAt_row {P : Program} (ty n : Nat) (hi : (P.info? ty).map (·.size) = some n) (b o : Nat) (A : Array Value) (w : World) :
    (Instr.storeAt ty (.pointer (some ⟨b, o, none⟩)) (.agg A)).run P w = if stOk w b o n A = true then .ok () (w.setCells b o A.toList) else slowSt P ty w b o A := by
  by_cases h : stOk w b o n A = true
  · rw [if_pos h]
    obtain ⟨h1, h2, h3⟩ := stOk_there h
    exact run_storeAt_mid w b o ty A h1 (by rw [hi, h2]) h3
  · rw [if_neg h]
    rfl
/-- Cells laid into an array. -/
def layIn (C : Array Value) (o : Nat) : List Value → Array Value
  | [] => C
  | v :: r => layIn (C.setIfInBounds o v) (o + 1) r
theorem blk_setCells {w : World} {b : Nat} {C : Array Value} {T : TypeId} {fz : Nat × Nat} (h : w.heap[b]? = some (.cells C T fz)) (o : Nat) (vs : List Value) : (w.setCells b o vs).heap[b]? = some (.cells (layIn C o vs) T fz) := by
  induction vs generalizing w C o with
  | nil => exact h
  | cons v r ih => exact ih (blk_set h o v) (o + 1)
theorem layIn_size (C : Array Value) (o : Nat) (vs : List Value) : (layIn C o vs).size = C.size := by
  induction vs generalizing C o with
  | nil => rfl
  | cons v r ih => rw [layIn, ih, Array.size_setIfInBounds]
theorem layIn_get (C : Array Value) (o : Nat) (vs : List Value) (i : Nat) (h : o + vs.length ≤ C.size) : (layIn C o vs)[i]? = if o ≤ i ∧ i < o + vs.length then vs[i - o]? else C[i]? := by
  induction vs generalizing C o with
  | nil => simp [layIn]; intro h1 h2; omega
  | cons v r ih =>
    rw [layIn, ih _ _ (by simp only [List.length_cons] at h; rw [Array.size_setIfInBounds]; omega)]
    simp only [List.length_cons] at h ⊢
    by_cases h1 : o + 1 ≤ i ∧ i < o + 1 + r.length
    · rw [if_pos h1, if_pos (by omega)]
      obtain ⟨k, rfl⟩ : ∃ k, i = o + 1 + k := ⟨i - (o + 1), by omega⟩
      rw [show o + 1 + k - (o + 1) = k by omega, show o + 1 + k - o = k + 1 by omega, List.getElem?_cons_succ]
    · rw [if_neg h1, Array.getElem?_setIfInBounds]
      by_cases h2 : o = i
      · subst h2
        rw [if_pos rfl, if_pos (by omega), if_pos (by omega)]
        simp
      · rw [if_neg h2, if_neg (by omega)]
theorem Upd.setCells {w w' : World} {b : Nat} (h : Upd (· = b) w w') (o : Nat) (vs : List Value) : Upd (· = b) w (w'.setCells b o vs) := by
  induction vs generalizing w' o with
  | nil => exact h
  | cons v r ih => exact ih (h.set1 o v) (o + 1)

theorem rowN_drew (w : World) (b o n : Nat) : rowN w.drew b o n = rowN w b o n := rfl

end Go.Proofs.YtjckpgcmfieaoaaGreatDoor
namespace Go.Proofs.YtjckpgcmfieaoaaGreatDoor
open Go.RowKit

/-- Block b holds just these integers, and may be written. -/
def Ints (k : IntKind) (w : World) (b : Nat) (ws : List Int) : Prop := ∃ T, w.heap[b]? = some (.cells (ws.map (Value.int k)).toArray T (0, 0))
theorem Ints.cell {k : IntKind} {w : World} {b : Nat} {ws : List Int} (h : Ints k w b ws) {i : Nat} (hi : i < ws.length) : w.cell? ⟨b, i, none⟩ = some (.int k (ws.getD i 0)) := by
  obtain ⟨T, h⟩ := h
  rw [blk_cell h, List.getElem?_toArray, List.getElem?_map, List.getElem?_eq_getElem hi, List.getD_eq_getElem?_getD, List.getElem?_eq_getElem hi]
  rfl
theorem Ints.free {k : IntKind} {w : World} {b : Nat} {ws : List Int} (h : Ints k w b ws) (i : Nat) : w.frozen? ⟨b, i, none⟩ = false := by
  obtain ⟨T, h⟩ := h
  exact blk_free h i
theorem Ints.set {k : IntKind} {w : World} {b : Nat} {ws : List Int} (h : Ints k w b ws) (i : Nat) (v : Int) : Ints k (w.setCell ⟨b, i, none⟩ (.int k v)) b (ws.set i v) := by
  obtain ⟨T, h⟩ := h
  refine ⟨T, (blk_set h i _).trans ?_⟩
  simp [List.map_set]
theorem Ints.upd {S : Nat → Prop} {k : IntKind} {w w' : World} {b : Nat} {ws : List Int} (h : Ints k w b ws) (u : Upd S w w') (hn : ¬ S b) : Ints k w' b ws := by
  obtain ⟨T, h⟩ := h
  exact ⟨T, u.old h hn⟩
theorem Ints.q {k : IntKind} {w w' : World} {b : Nat} {ws : List Int} (h : Ints k w b ws) (q : Q w w') : Ints k w' b ws := h.upd (q.upd (fun _ => False)) (fun h => h)
theorem Ints.lt {k : IntKind} {w : World} {b : Nat} {ws : List Int} (h : Ints k w b ws) : b < w.heap.size := by
  obtain ⟨T, h⟩ := h
  exact blk_lt h

/-- A turn to the right by n, as the program reckons it. -/
def rotI (x n : Int) : Int := bits .or .u32 (x / 2 ^ n.toNat) (x * 2 ^ (32 - n).toNat % 4294967296)
def turnsI (x : Int) (ns : List Int) : Int := ns.foldl (fun a n => bits .xor .u32 a (rotI x n)) 0
theorem bits_u32 (op : BinOp) (x y : Int) : 0 ≤ bits op .u32 x y ∧ bits op .u32 x y < 4294967296 := by
  have h := wf_bits op .u32 x y
  simp [Lit.wf, IntKind.min, IntKind.max, IntKind.signed, IntKind.bits] at h
  omega
theorem turnsI_bd (x : Int) (ns : List Int) : 0 ≤ turnsI x ns ∧ turnsI x ns < 4294967296 := by
  unfold turnsI
  have key : ∀ (ns : List Int) (a : Int), 0 ≤ a ∧ a < 4294967296 → 0 ≤ ns.foldl (fun a n => bits .xor .u32 a (rotI x n)) a ∧ ns.foldl (fun a n => bits .xor .u32 a (rotI x n)) a < 4294967296 := by
    intro ns
    induction ns with
    | nil => intro a h; exact h
    | cons n ns ih => intro a _; exact ih _ (bits_u32 ..)
  exact key ns 0 (by omega)
theorem turnsI_snoc (x : Int) (ns : List Int) (n : Int) : turnsI x (ns ++ [n]) = bits .xor .u32 (turnsI x ns) (rotI x n) := by simp [turnsI]

set_option maxHeartbeats 1000000 in
theorem turns_any (x : Int) (ns : List Int) (b c : Nat) (w : World) (hns : ∀ n ∈ ns, 0 < n ∧ n < 32) (hl : ns.length ≤ 8) (hx : 0 ≤ x) (hx2 : x < 4294967296) (hb : Ints .u64 w b ns) :
    Calls Tryz.prog 243 #[.int .u32 x, .slice (some ⟨b, 0, none⟩) ns.length c] w (Reads (.int .u32 (turnsI x ns)) w) := by
  go_enter Tryz.func243, Tryz.ntmps243
  go_wp2_with fail
  go_loopw [5, 7, 10] (fun s _ iv wr => ∃ k : Nat, iv = .int .i64 (k : Int) ∧ k ≤ ns.length ∧ s = .int .u32 (turnsI x (ns.take k)) ∧ wr = w) (fun _ _ iv _ => ns.length - (intOf iv).toNat)
  case atStart => exact ⟨0, rfl, Nat.zero_le _, rfl, rfl⟩
  case round =>
    obtain ⟨k, rfl, hk, rfl, rfl⟩ := hrel
    by_cases hlt : k < ns.length
    · have c0 := hb.cell hlt
      obtain ⟨hn1, hn2⟩ := hns (ns.getD k 0) (by rw [List.getD_eq_getElem?_getD, List.getElem?_eq_getElem hlt]; exact List.getElem_mem hlt)
      have hs := turnsI_snoc x (ns.take k) (ns.getD k 0)
      rw [show ns.take k ++ [ns.getD k 0] = ns.take (k + 1) by rw [List.take_add_one, List.getD_eq_getElem?_getD, List.getElem?_eq_getElem hlt]; rfl] at hs
      obtain ⟨ha, ha2⟩ := turnsI_bd x (ns.take k)
      unfold rotI at hs
      have HS := hide hs
      have hnn : (k : Int) < (ns.length : Int) := by omega
      clear hs
      generalize ns.getD k 0 = n at c0 hn1 hn2 HS
      generalize turnsI x (ns.take k) = a at ha ha2 HS ⊢
      go_wp2
      go_roundw
      case rel => exact ⟨k + 1, by go_num, by omega, by rw [unhide HS], trivial⟩
      case measure => simp [intOf]; omega
    · obtain rfl : k = ns.length := by omega
      rw [List.take_length]
      go_wp2
      go_ret
      exact ⟨rfl, Q.refl _⟩

theorem turns_two (x n1 n2 : Int) (g : Nat) (T : TypeId) (w : World) (h1 : 0 < n1 ∧ n1 < 32) (h2 : 0 < n2 ∧ n2 < 32) (hx : 0 ≤ x) (hx2 : x < 4294967296) (hb : w.heap[g]? = some (.cells #[.int .u64 n1, .int .u64 n2] T (0, 0))) :
    Calls Tryz.prog 243 #[.int .u32 x, .slice (some ⟨g, 0, none⟩) 2 2] w (Reads (.int .u32 (turnsI x [n1, n2])) w) :=
  turns_any x [n1, n2] g 2 w (by intro n hn; simp only [List.mem_cons, List.not_mem_nil, or_false] at hn; rcases hn with rfl | rfl; exact h1; exact h2) (by simp) hx hx2 ⟨T, hb⟩
theorem turns_three (x n1 n2 n3 : Int) (g : Nat) (T : TypeId) (w : World) (h1 : 0 < n1 ∧ n1 < 32) (h2 : 0 < n2 ∧ n2 < 32) (h3 : 0 < n3 ∧ n3 < 32) (hx : 0 ≤ x) (hx2 : x < 4294967296) (hb : w.heap[g]? = some (.cells #[.int .u64 n1, .int .u64 n2, .int .u64 n3] T (0, 0))) :
    Calls Tryz.prog 243 #[.int .u32 x, .slice (some ⟨g, 0, none⟩) 3 3] w (Reads (.int .u32 (turnsI x [n1, n2, n3])) w) :=
  turns_any x [n1, n2, n3] g 3 w (by intro n hn; simp only [List.mem_cons, List.not_mem_nil, or_false] at hn; rcases hn with rfl | rfl | rfl; exact h1; exact h2; exact h3) (by simp) hx hx2 ⟨T, hb⟩

end Go.Proofs.YtjckpgcmfieaoaaGreatDoor
