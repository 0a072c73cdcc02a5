/-
  A region that draws its order, done in any order: the steps.
-/
import Derived.Test.YtjckpgcmfieaoaaGreatDoorAvQ
namespace Go.Proofs.YtjckpgcmfieaoaaGreatDoor
open Go.RowKit

section
variable {P : Program} {k : ECall} {all : List Oper} {N : Nat} {L : List EItem} {T : Nat → ERg} {S : Nat → ESt} {V : Nat → EV} {W : Nat → Bool}
variable {w0 : World} {df : EDf} {β0 β : EMp} {s0 : ESt} {D : Nat → Bool} {q : Nat} {a : Act} {w : World} {i : Nat} {x : EItem}
theorem Inv.notAfter (h : DrawAt P k all N L T S V W) (v : Inv P all N L T S W w0 df β0 s0 D q β a w) (hi : L[i]? = some x) (hm : ∀ j, x.m.testBit j = true → D j = true) : i ≤ q := by
  rcases Nat.lt_or_ge q i with g | g
  · exfalso
    have hlen := (List.getElem?_eq_some_iff.1 hi).1
    have hq := List.getElem?_eq_getElem (show q < L.length by omega)
    obtain ⟨h1, h2⟩ := v.nxt _ hq
    rw [hm _ ((h.row i x hi).eff q _ g hq h1)] at h2
    cases h2
  · exact g
theorem Inv.isBefore (h : DrawAt P k all N L T S V W) (v : Inv P all N L T S W w0 df β0 s0 D q β a w) (hi : L[i]? = some x) (hm : ∀ j, x.m.testBit j = true → D j = true) (he : eIsEff P x = false) : i < q := by
  have := v.notAfter h hi hm
  rcases Nat.lt_or_eq_of_le this with g | g
  · exact g
  · subst g
    rw [(v.nxt _ hi).1] at he
    cases he
theorem Inv.isNext (h : DrawAt P k all N L T S V W) (v : Inv P all N L T S W w0 df β0 s0 D q β a w) (hi : L[i]? = some x) (hn : D x.i = false) (hm : ∀ j, x.m.testBit j = true → D j = true) (he : eIsEff P x = true) : i = q := by
  have := v.notAfter h hi hm
  rcases Nat.lt_or_eq_of_le this with g | g
  · rw [v.done i x g hi he] at hn; cases hn
  · exact g
theorem Inv.closedPut (h : DrawAt P k all N L T S V W) (v : Inv P all N L T S W w0 df β0 s0 D q β a w) (hi : L[i]? = some x) (hm : ∀ j, x.m.testBit j = true → D j = true) :
    ∀ (l : Nat) (y : EItem), L[l]? = some y → also D x.i y.i = true → ∀ j, y.m.testBit j = true → also D x.i j = true := fun l y hl hy j hj => by
  rcases also_iff.1 hy with g | g
  · exact also_iff.2 (.inl (v.closed l y hl g j hj))
  · have := h.same hl hi g
    subst this
    rw [hi] at hl
    obtain rfl := Option.some.inj hl
    exact also_iff.2 (.inl (hm j hj))
theorem Inv.stepN (h : DrawAt P k all N L T S V W) (v : Inv P all N L T S W w0 df β0 s0 D q β a w) (hi : L[i]? = some x) (hn : D x.i = false) (hm : ∀ j, x.m.testBit j = true → D j = true) (he : eIsEff P x = false)
    {β' : EMp} {u : Value} {w' : World} (hle : β.le β') (hu : VR β' (V i) u) (hr : HR w0 β' (S q) w') (hext : Ext β0 s0 β' (S q))
    (hfr : ∀ j y, j < q → L[j]? = some y → eCls P y.o = .fresh → W j = true → D y.i = false → j ≠ i → β' (S j).next = none) : Inv P all N L T S W w0 df β0 s0 (also D x.i) q β' (a.put x.o.dst u) w' where
  hr := hr
  le := v.le
  done j y hj hy hey := also_iff.2 (.inl (v.done j y hj hy hey))
  nxt y hy := by
    obtain ⟨h1, h2⟩ := v.nxt y hy
    refine ⟨h1, ?_⟩
    cases hd : also D x.i y.i with
    | false => rfl
    | true =>
      rcases also_iff.1 hd with g | g
      · rw [h2] at g; cases g
      · have := h.same hy hi g
        subst this
        rw [hi] at hy
        obtain rfl := Option.some.inj hy
        rw [he] at h1; cases h1
  tmp := v.tmpPut h hi hn hm hle hu
  fr j y hj hy hc hw hd := by
    obtain ⟨hd1, hd2⟩ := also_false hd
    refine ⟨hfr j y hj hy hc hw hd1 fun e => hd2 ?_, (v.fr j y hj hy hc hw hd1).2⟩
    subst e
    rw [hi] at hy
    obtain rfl := Option.some.inj hy
    rfl
  mono := v.mono
  closed := v.closedPut h hi hm
  rd := by rw [put_defers]; exact v.rd.mono hle
  sz := by rw [put_size]; exact v.sz
  gb := v.gb.mono hle
  ext := hext
  ext0 := v.ext0
theorem mono_of {n : Nat} (h : ∀ l, l < n → (S l).next ≤ (S (l + 1)).next) : ∀ (d i : Nat), i + d ≤ n → (S i).next ≤ (S (i + d)).next
  | 0, _, _ => Nat.le_refl _
  | d + 1, i, hd => Nat.le_trans (mono_of h d i (by omega)) (h (i + d) (by omega))
theorem DrawAt.freshNext (h : DrawAt P k all N L T S V W) (hi : L[i]? = some x) (hc : eCls P x.o = .fresh) (hw : W i = true) : (S (i + 1)).next = (S i).next + 1 := by
  obtain ⟨kb, f, hb⟩ := fresh_shape hc (h.run i x hi hw)
  obtain ⟨-, -, e⟩ := blk_inv hb
  rw [e]; rfl
theorem Inv.stepE (h : DrawAt P k all N L T S V W) (v : Inv P all N L T S W w0 df β0 s0 D q β a w) (hi : L[q]? = some x) (hn : D x.i = false) (hm : ∀ j, x.m.testBit j = true → D j = true)
    {β' : EMp} {u : Value} {w' : World} (hu : VR β' (V q) u) (hr : HR w0 β' (S (q + 1)) w') (hx : Ext β (S q) β' (S (q + 1))) : ∃ q', Inv P all N L T S W w0 df β0 s0 (also D x.i) q' β' (a.put x.o.dst u) w' := by
  have hlen := (List.getElem?_eq_some_iff.1 hi).1
  have he := (v.nxt x hi).1
  obtain ⟨q', h1, h2, h3, h4⟩ := next_eff P L (L.length - (q + 1)) (q + 1) (by omega)
  have gr : ∀ j, q + 1 ≤ j → j ≤ q' → Grow (S (q + 1)) (S j) := fun j g1 g2 => by
    have := h.grow (i := q + 1) (j - (q + 1)) (by omega) fun l y e1 e2 e3 => h3 l y e1 (by omega) e3
    rwa [show q + 1 + (j - (q + 1)) = j by omega] at this
  have gr2 : ∀ i j, q + 1 ≤ i → i ≤ j → j ≤ q' → Grow (S i) (S j) := fun i j g0 g1 g2 => by
    have := h.grow (i := i) (j - i) (by omega) fun l y e1 e2 e3 => h3 l y (by omega) (by omega) e3
    rwa [show i + (j - i) = j by omega] at this
  refine ⟨q', ?_, h2, fun j y hj hy hey => ?_, fun y hy => ⟨h4 y hy, ?_⟩, v.tmpPut h hi hn hm hx.le hu, fun j y hj hy hc hw hd => ?_, fun i j hij hj => ?_, v.closedPut h hi hm, by rw [put_defers]; exact v.rd.mono hx.le, by rw [put_size]; exact v.sz, v.gb.mono hx.le, ?_, v.ext0⟩
  · exact (gr q' h1 (Nat.le_refl _)).hr _ _ _ hr
  · rcases Nat.lt_trichotomy j q with g | g | g
    · exact also_iff.2 (.inl (v.done j y g hy hey))
    · subst g
      rw [hi] at hy
      obtain rfl := Option.some.inj hy
      exact also_iff.2 (.inr rfl)
    · rw [h3 j y (by omega) hj hy] at hey; cases hey
  · cases hd : also D x.i y.i with
    | false => rfl
    | true =>
      rcases also_iff.1 hd with g | g
      · have := v.closed q' y hy g _ ((h.row q' y hy).eff q x (by omega) hi he)
        rw [hn] at this; cases this
      · have := h.same hy hi g
        omega
  · obtain ⟨hd1, hd2⟩ := also_false hd
    rcases Nat.lt_trichotomy j q with g | g | g
    · obtain ⟨k1, k2⟩ := v.fr j y g hy hc hw hd1
      have hlt : (S j).next < (S q).next := by
        have := h.freshNext hy hc hw
        have := v.mono (j + 1) q (by omega) (Nat.le_refl _)
        omega
      obtain ⟨k3, k4⟩ := hx.un _ hlt k1
      exact ⟨k3, by rw [(gr q' h1 (Nat.le_refl _)).get _ (Nat.lt_of_lt_of_le hlt hx.next), k4, k2]⟩
    · subst g
      rw [hi] at hy
      obtain rfl := Option.some.inj hy
      exact absurd rfl hd2
    · have hnx := (gr j (by omega) (by omega)).next
      refine ⟨?_, (gr2 (j + 1) q' (by omega) (by omega) (Nat.le_refl _)).get _ (by rw [h.freshNext hy hc hw]; exact Nat.lt_succ_self _)⟩
      cases hb : β' (S j).next with
      | none => rfl
      | some l => have := hr.lt _ _ hb; omega
  · have st : ∀ l, l < q' → (S l).next ≤ (S (l + 1)).next := fun l hl => by
      rcases Nat.lt_trichotomy l q with g | g | g
      · exact v.mono l (l + 1) (by omega) (by omega)
      · subst g; exact hx.next
      · exact (gr2 l (l + 1) (by omega) (by omega) (by omega)).next
    have := mono_of st (j - i) i (by omega)
    rwa [show i + (j - i) = j by omega] at this
  · exact (v.ext.trans hx).trans ((gr q' h1 (Nat.le_refl _)).ext β')
/-- A look that comes late tells the same. -/
theorem Inv.lookAt (h : DrawAt P k all N L T S V W) (v : Inv P all N L T S W w0 df β0 s0 D q β a w) (hi : L[i]? = some x) (hn : D x.i = false) (hc : eCls P x.o = .look) (hw : W i = true) : ∀ d, i + 1 + d ≤ q → (eOp P x.o).f k (T i) (S (i + 1 + d)) = .v (V i) (S (i + 1 + d))
  | 0, _ => by
    have hr := h.run i x hi hw
    have e := (look_stay hc hr).1
    show (eOp P x.o).f k (T i) (S (i + 1)) = .v (V i) (S (i + 1))
    rw [e] at hr ⊢
    exact hr
  | d + 1, hd => by
    have ih := v.lookAt h hi hn hc hw d (by omega)
    obtain ⟨y, hy⟩ : ∃ y, L[i + 1 + d]? = some y := ⟨_, List.getElem?_eq_getElem (show i + 1 + d < L.length by have := v.le; omega)⟩
    show (eOp P x.o).f k (T i) (S (i + 1 + d + 1)) = .v (V i) (S (i + 1 + d + 1))
    cases he : eIsEff P y with
    | false => exact (look_stay hc ih).2 _ (h.grow1 hy he).ups
    | true =>
      cases hwy : W (i + 1 + d) with
      | false => rw [(h.skip _ y hy hwy).2]; exact ih
      | true =>
        rcases h.chk _ y hy hwy (isEff_iff.1 he) i x (by omega) hi hw hc with g | ⟨s', g⟩
        · have := v.closed _ y hy (v.done _ y (by omega) hy he) _ g
          rw [hn] at this; cases this
        · have := (look_stay hc g).1
          rw [this] at g
          exact g
/-- One operation, whichever it is. -/
theorem Inv.step (h : DrawAt P k all N L T S V W) (v : Inv P all N L T S W w0 df β0 s0 D q β a w) (hi : L[i]? = some x) (hn : D x.i = false) (hm : ∀ j, x.m.testBit j = true → D j = true) (hw : W i = true) :
    OpDone P x.o a.eval w fun u w' => ∃ β' q', Inv P all N L T S W w0 df β0 s0 (also D x.i) q' β' (a.put x.o.dst u) w' := by
  have hρ : ∀ y ∈ x.o.op.operands, VR β ((eEvC y).f (T i)) (a.eval y) := fun y hy => ev_VR1 v.gb y fun t e ht => by
    refine v.look h hi hn hm ht ?_
    subst e
    exact List.mem_append_left _ (List.mem_filterMap.2 ⟨.tmp t, by simpa using hy, rfl⟩)
  have hr := h.run i x hi hw
  have hbi : eCls P x.o ≠ .eff → ∀ c, x.o.op = .call c → ∃ b, c.callee = .builtin b := fun hne c e => by
    unfold eCls at hne
    rw [e] at hne
    simp only at hne
    cases hb : c.callee with
    | builtin b => exact ⟨b, rfl⟩
    | value f => rw [hb] at hne; exact absurd rfl hne
    | invoke r m => rw [hb] at hne; exact absurd rfl hne
  cases hc : eCls P x.o with
  | eff =>
    have he := isEff_iff.2 hc
    obtain rfl := v.isNext h hi hn hm he
    refine (oper_run h.ks v.gb hρ v.hr hr).mono fun u w' hR => ?_
    obtain ⟨β', g1, g2, g3⟩ := hR
    exact ⟨β', v.stepE h hi hn hm g1 g2 g3⟩
  | pure =>
    have he : eIsEff P x = false := by cases hq : eIsEff P x with | false => rfl | true => rw [isEff_iff.1 hq] at hc; cases hc
    obtain ⟨r, hp⟩ := pure_stay (k := k) (tm := T i) hc
    rw [hp] at hr
    have hq : (eOp P x.o).f k (T i) (S q) = .v (V i) (S q) := by rw [hp, (eOptV_inv hr).1]; rfl
    have := eOp_run (hbi (by rw [hc]; simp)) hρ v.hr hq
    unfold OpSpec at this
    rw [hc] at this
    obtain ⟨-, u, g1, g2⟩ := this
    exact .inl ⟨u, w, .inl g1, β, q, v.stepN h hi hn hm he β.le_refl g2 v.hr v.ext fun j y hj hy hc hw hd _ => (v.fr j y hj hy hc hw hd).1⟩
  | look =>
    have he : eIsEff P x = false := by cases hq : eIsEff P x with | false => rfl | true => rw [isEff_iff.1 hq] at hc; cases hc
    have hlt := v.isBefore h hi hm he
    have hq := v.lookAt h hi hn hc hw (q - (i + 1)) (by omega)
    rw [show i + 1 + (q - (i + 1)) = q by omega] at hq
    have := eOp_run (hbi (by rw [hc]; simp)) hρ v.hr hq
    unfold OpSpec at this
    rw [hc] at this
    obtain ⟨-, u, g1, g2⟩ := this
    exact .inl ⟨u, w, .inl g1, β, q, v.stepN h hi hn hm he β.le_refl g2 v.hr v.ext fun j y hj hy hc hw hd _ => (v.fr j y hj hy hc hw hd).1⟩
  | fresh =>
    have he : eIsEff P x = false := by cases hq : eIsEff P x with | false => rfl | true => rw [isEff_iff.1 hq] at hc; cases hc
    have hlt := v.isBefore h hi hm he
    obtain ⟨kb, f, g1, u, w', l, g2, g3⟩ := eFresh_run (w0 := w0) (w := w) hc hρ v.hr.up.size hr
    obtain ⟨e1, e2, e3⟩ := blk_inv g1
    obtain ⟨k1, k2⟩ := v.fr i x hlt hi hc hw hn
    have hnx := h.freshNext hi hc hw
    have hb : (S i).next < (S q).next := by
      have := v.mono (i + 1) q (by omega) (Nat.le_refl _)
      omega
    have hk : (S q).heap.get (S i).next = some kb := by
      rw [k2, e3]
      exact ETr.get_set _ _ _
    obtain ⟨m1, m2⟩ := v.hr.freshD k1 hb hk g3
    rw [← e2] at m1
    refine .inl ⟨u, w', .inl g2, β.put (S i).next l, q, v.stepN h hi hn hm he (β.put_le l k1) m1 m2 ?_ fun j y hj hy hcy hwy hdy hne => ?_⟩
    · refine ⟨EMp.le_trans v.ext.le (β.put_le l k1), v.ext.next, fun b hb0 h0 => ?_⟩
      obtain ⟨n1, n2⟩ := v.ext.un b hb0 h0
      have := v.mono 0 i (by omega) (by omega)
      have := v.ext0
      exact ⟨(EMp.put_ne _ _ (by omega)).trans n1, n2⟩
    · have hne : (S j).next ≠ (S i).next := by
        rcases Nat.lt_or_gt_of_ne hne with g | g
        · have := h.freshNext hy hcy hwy
          have := v.mono (j + 1) i (by omega) (by omega)
          omega
        · have := v.mono (i + 1) j (by omega) (by omega)
          omega
      rw [EMp.put_ne _ _ hne]
      exact (v.fr j y hj hy hcy hwy hdy).1
end
end Go.Proofs.YtjckpgcmfieaoaaGreatDoor
