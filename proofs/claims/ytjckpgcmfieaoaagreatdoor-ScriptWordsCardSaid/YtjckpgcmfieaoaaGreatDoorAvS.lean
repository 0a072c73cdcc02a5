/-
  A region that draws its order is sound; so are all calls.
-/
import Derived.Test.YtjckpgcmfieaoaaGreatDoorAvR
namespace Go.Proofs.YtjckpgcmfieaoaaGreatDoor
open Go.RowKit

theorem HR.drawn {w0 w : World} {β : EMp} {s : ESt} (h : HR w0 β s w) (n : Nat) : HR w0 β s { w with drawn := n } :=
  ⟨⟨h.up.os, h.up.tape, h.up.output, h.up.size, h.up.block⟩, h.lt, h.blk, h.inj⟩
section
variable {P : Program} {k : ECall} {all : List Oper} {N : Nat} {L : List EItem} {T : Nat → ERg} {S : Nat → ESt} {V : Nat → EV} {W : Nat → Bool}
variable {w0 : World} {df : EDf} {β0 : EMp} {s0 : ESt}
abbrev lst (listed : Array Bool) : Nat → Bool := fun j => listed.getD j false
theorem lst_set {listed : Array Bool} {j : Nat} (h : j < listed.size) : lst (listed.setIfInBounds j true) = also (lst listed) j := by
  funext l
  unfold lst also
  by_cases e : j = l
  · subst e
    rw [Array.getD_eq_getD_getElem?, Array.getElem?_setIfInBounds_self_of_lt h, Nat.beq_refl, Bool.or_true]
    rfl
  · have : Nat.beq l j = false := by
      cases hb : Nat.beq l j with
      | false => rfl
      | true => exact absurd (Nat.eq_of_beq_eq_true hb).symm e
    rw [this, Bool.or_false, Array.getD_eq_getD_getElem?, Array.getElem?_setIfInBounds_ne e, ← Array.getD_eq_getD_getElem?]
theorem getD_true_false {listed : Array Bool} {j : Nat} (h : listed.getD j true = false) : j < listed.size ∧ listed.getD j false = false := by
  rw [Array.getD_eq_getD_getElem?] at h ⊢
  cases hq : listed[j]? with
  | none => rw [hq] at h; cases h
  | some b => rw [hq] at h; exact ⟨(Array.getElem?_eq_some_iff.1 hq).1, h⟩
theorem any_run (h : DrawAt P k all N L T S V W) : ∀ (fuel : Nat) {listed : Array Bool} {a : Act} {w : World} {β : EMp} {q : Nat}, listed.size = all.length → listed.toList.count false = fuel → Inv P all N L T S W w0 df β0 s0 (lst listed) q β a w →
    wpAny P .any all.toArray (QE w0 β0 s0 N (.n (T L.length) df (S L.length))) fuel listed a w := by
  intro fuel
  have fin : ∀ {listed : Array Bool} {a : Act} {w : World} {β : EMp} {q : Nat}, listed.size = all.length → Inv P all N L T S W w0 df β0 s0 (lst listed) q β a w → Region.ready .any all.toArray listed = [] → QE w0 β0 s0 N (.n (T L.length) df (S L.length)) .normal a w := fun {listed a w β q} hsz v hr => by
    have full : ∀ (n i : Nat) (x : EItem), i < n → L[i]? = some x → lst listed x.i = true := fun n => by
      induction n with
      | zero => intro i x hi; omega
      | succ n ih =>
        intro i x hi hx
        cases hd : lst listed x.i with
        | true => rfl
        | false =>
          exfalso
          have hmem : x.i ∈ Region.ready .any all.toArray listed := by
            rw [mem_ready]
            have hlt := (h.row i x hx).lt
            refine ⟨?_, x.o, by simpa using h.op i x hx, fun e he hb => ?_⟩
            · rw [Array.getD_eq_getD_getElem?] 
              unfold lst at hd
              rw [Array.getD_eq_getD_getElem?, Array.getElem?_eq_getElem (by omega)] at hd
              rw [Array.getElem?_eq_getElem (by omega)]
              exact hd
            · obtain ⟨acc, -, g2⟩ := h.mask i x hx
              have hbit : x.m.testBit e.on = true := by
                rw [g2, eMask_bit]
                exact ⟨e, by simpa using he, hb, .inl rfl⟩
              rcases (h.row i x hx).mask _ hbit with g | ⟨l, y, h1, h2, h3⟩
              · simp at g
              · rw [← h3]
                exact ih l y (by omega) h2
          rw [hr] at hmem
          cases hmem
    have hall : ∀ (i : Nat) (x : EItem), L[i]? = some x → lst listed x.i = true := fun i x hx => full (i + 1) i x (Nat.lt_succ_self _) hx
    have hq : q = L.length := by
      rcases Nat.lt_or_eq_of_le v.le with g | g
      · have hx := List.getElem?_eq_getElem g
        have := (v.nxt _ hx).2
        rw [hall _ _ hx] at this
        cases this
      · exact g
    subst hq
    exact ⟨_, _, _, rfl, β, ⟨v.hr, fun t ht => v.tmp t ht L.length (Nat.le_refl _) fun i x hx _ => ⟨fun _ => (List.getElem?_eq_some_iff.1 hx).1, fun _ => hall i x hx⟩, v.rd, v.sz, v.gb⟩, v.ext⟩
  induction fuel with
  | zero =>
    intro listed a w β q hsz hcnt v
    have hr : Region.ready .any all.toArray listed = [] := by
      rw [List.eq_nil_iff_forall_not_mem]
      intro j hj
      rw [mem_ready] at hj
      have := hj.1
      rw [Array.getD_eq_getD_getElem?] at this
      cases hq : listed[j]? with
      | none => rw [hq] at this; cases this
      | some b =>
        rw [hq] at this
        have e : b = false := this
        subst e
        have hm : false ∈ listed.toList := by
          have := Array.mem_of_getElem? hq
          simpa using this
        have := List.count_pos_iff.2 hm
        omega
    exact ⟨hr, fin hsz v hr⟩
  | succ fuel ih =>
    intro listed a w β q hsz hcnt v
    refine ⟨fin hsz v, fun j hj => ?_⟩
    rw [mem_ready] at hj
    obtain ⟨hj1, o, ho, hj2⟩ := hj
    obtain ⟨hjs, hn⟩ := getD_true_false hj1
    obtain ⟨i, x, hi, rfl⟩ := h.full j (by omega)
    have hox := h.op i x hi
    have e : o = x.o := by
      have ho : all[x.i]? = some o := by simpa using ho
      rw [hox] at ho
      exact (Option.some.inj ho).symm
    subst e
    have hm : ∀ j, x.m.testBit j = true → lst listed j = true := fun j hb => by
      obtain ⟨acc, g1, g2⟩ := h.mask i x hi
      rw [g2, eMask_bit] at hb
      obtain ⟨e, he, hbd, g | ⟨y, g3, g4⟩⟩ := hb
      · rw [← g]; exact hj2 e (by simpa using he) hbd
      · obtain ⟨g5, g6⟩ := g1 _ _ g3
        obtain ⟨l, hl⟩ := List.getElem?_of_mem g6
        refine v.closed l y hl ?_ j g4
        rw [g5]
        exact hj2 e (by simpa using he) hbd
    have hcnt' : (listed.setIfInBounds x.i true).toList.count false = fuel := by
      rw [Array.toList_setIfInBounds, List.count_set (by simpa using hjs)]
      have e : listed.toList[x.i]'(by simpa using hjs) = false := by
        rw [Array.getD_eq_getD_getElem?, Array.getElem?_eq_getElem hjs] at hn
        simpa using hn
      rw [e, hcnt]
      simp
    have hwant := (h.gd i x hi).wanted (β := β) (a := a) fun t hl ht => v.look h hi hn hm ht hl
    have K : ∀ {β' q' a' w'}, Inv P all N L T S W w0 df β0 s0 (also (lst listed) x.i) q' β' a' w' → wpAny P .any all.toArray (QE w0 β0 s0 N (.n (T L.length) df (S L.length))) fuel (listed.setIfInBounds x.i true) a' w' := fun {β' q' a' w'} hv => by
      rw [← lst_set hjs] at hv
      exact ih (by simpa using hsz) hcnt' hv
    unfold wpOp
    rw [show all.toArray[x.i]? = some x.o by simpa using hox]
    simp only
    cases hw : W i with
    | true =>
      rw [hw] at hwant
      rw [if_pos hwant]
      refine .inl ((v.step h hi hn hm hw).wp fun u w' hv => ?_)
      obtain ⟨β', q', hv⟩ := hv
      exact K hv
    | false =>
      rw [hw] at hwant
      rw [if_neg (by rw [hwant]; simp)]
      obtain ⟨e1, e2⟩ := h.skip i x hi hw
      cases he : eIsEff P x with
      | false => exact K (v.stepN h hi hn hm he β.le_refl (by rw [e1]; exact .tup .nil) v.hr v.ext fun j y hj hy hc hw hd _ => (v.fr j y hj hy hc hw hd).1)
      | true =>
        obtain rfl := v.isNext h hi hn hm he
        obtain ⟨q', hv⟩ := v.stepE h hi hn hm (u := undef) (w' := w) (β' := β) (by rw [e1]; exact .tup .nil) (by rw [e2]; exact v.hr) (by rw [e2]; exact Ext.refl _ _)
        exact K hv
end
theorem items_idx : ∀ (l : List Oper) (acc : List EItem), (∀ i (y : EItem), acc[i]? = some y → y.i = i) → ∀ i (y : EItem), (eItems l acc)[i]? = some y → y.i = i
  | [], acc, hi => hi
  | o :: l, acc, hi => by
    rw [eItems_cons]
    refine items_idx l _ fun i y hy => ?_
    by_cases hlt : i < acc.length
    · rw [List.getElem?_append_left hlt] at hy; exact hi i y hy
    · rw [List.getElem?_append_right (by omega)] at hy
      have e : i - acc.length = 0 := by
        cases hq : i - acc.length with
        | zero => rfl
        | succ _ => rw [hq] at hy; cases hy
      rw [e] at hy
      obtain rfl := Option.some.inj hy
      show acc.length = i
      omega
/-- Regions that draw are sound. -/
theorem draw_ok {P : Program} (hm : P.follows .mixedOrders = true) : DrawOk P := fun w0 k N β0 s0 id all out tm df s1 a w hk hN ho hs h => by
  have h : (match eTouchOk all (eItems all []) && eCanonOk P all.length (eCanon P (eItems all []) ((eItems all []).filter (eIsEff P)) ((eItems all []).filter (eIsEff P)) 0) 0 0 with
    | true => (⟨fun k tm df s => (eOpsD P all N (eCanon P (eItems all []) ((eItems all []).filter (eIsEff P)) ((eItems all []).filter (eIsEff P)) 0)).f k tm df [] s⟩ : ECl)
    | false => ⟨fun _ _ _ _ => .er⟩).f k tm df s1 = out := h
  cases hc : (eTouchOk all (eItems all []) && eCanonOk P all.length (eCanon P (eItems all []) ((eItems all []).filter (eIsEff P)) ((eItems all []).filter (eIsEff P)) 0) 0 0) with
  | false => rw [hc] at h; exact absurd h.symm ho
  | true =>
    rw [hc] at h
    simp only at h
    rw [Bool.and_eq_true] at hc
    obtain ⟨hc1, hc2⟩ := hc
    have hmem := eCanon_mem (P := P) (all := eItems all []) (effs := (eItems all []).filter (eIsEff P)) ((eItems all []).filter (eIsEff P)) 0 fun x hx => (List.mem_filter.1 hx).1
    generalize eCanon P (eItems all []) ((eItems all []).filter (eIsEff P)) ((eItems all []).filter (eIsEff P)) 0 = L at h hc2 hmem
    obtain ⟨c1, c2⟩ := canonOk_inv L 0 0 hc2
    obtain ⟨T, S, V, W, ht, e⟩ := trace_run L h ho
    have hits := items_ok all
    have hfull : ∀ j, j < all.length → ∃ (q : Nat) (y : EItem), L[q]? = some y ∧ y.i = j := fun j hj => by
      rcases c1 j hj with g | g
      · simp at g
      · exact g
    have inL : ∀ y ∈ eItems all [], y ∈ L := fun y hy => by
      have hlt : y.i < all.length := (List.getElem?_eq_some_iff.1 (hits y hy).op).1
      obtain ⟨l, z, hl, e⟩ := hfull _ hlt
      obtain ⟨i, hi⟩ := List.getElem?_of_mem hy
      obtain ⟨j, hj⟩ := List.getElem?_of_mem (hmem z (List.mem_of_getElem? hl))
      have e1 := items_idx all [] (fun i y h => by simp at h) i y hi
      have e2 := items_idx all [] (fun i y h => by simp at h) j z hj
      have : i = j := by omega
      subst this
      rw [hi] at hj
      obtain rfl := Option.some.inj hj
      exact List.mem_of_getElem? hl
    have hd : DrawAt P k all N L T S V W :=
      { ks := hk, n256 := hN, gd := ht.gd, dst := ht.dst, put := ht.put, run := ht.run, skip := ht.skip, chk := ht.chk, row := c2, full := hfull
        op := fun i x hi => (hits x (hmem x (List.mem_of_getElem? hi))).op
        mask := fun i x hi => by
          obtain ⟨acc, g1, g2⟩ := (hits x (hmem x (List.mem_of_getElem? hi))).mask
          exact ⟨acc, fun i y hy => ⟨(g1 i y hy).1, inL y (g1 i y hy).2⟩, g2⟩
        touch := fun i x hi j y hj => (touch_inv hc1 (hmem x (List.mem_of_getElem? hi))).2 y (hmem y (List.mem_of_getElem? hj)) }
    obtain ⟨β, hs, he⟩ := hs
    subst e
    obtain ⟨q, q1, q2, q3, q4⟩ := next_eff P L L.length 0 (by omega)
    have gr : ∀ i j, i ≤ j → j ≤ q → Grow (S i) (S j) := fun i j g1 g2 => by
      have := hd.grow (i := i) (j - i) (by omega) fun l y e1 e2 e3 => q3 l y (by omega) (by omega) e3
      rwa [show i + (j - i) = j by omega] at this
    have e0 := ht.s0
    have D0 : ∀ j, lst (Array.replicate all.toArray.size false) j = false := fun j => by
      unfold lst
      rw [Array.getD_eq_getD_getElem?, Array.getElem?_replicate]
      split <;> rfl
    refine wp_region_any hm (any_run hd all.toArray.size (w0 := w0) (β := β) (q := q) (by simp) (by simp [List.count_replicate]) ?_)
    have hr0 : HR w0 β (S 0) { w with drawn := w.drawn + 1 } := by rw [e0]; exact hs.hr.drawn _
    have g0 := gr 0 q (Nat.zero_le _) (Nat.le_refl _)
    exact
      { hr := g0.hr _ _ _ hr0
        le := q2
        done := fun i x hi hx he => by rw [q3 i x (Nat.zero_le _) hi hx] at he; cases he
        nxt := fun x hx => ⟨q4 x hx, D0 _⟩
        tmp := fun t htt p hp hc => by
          have key : ∀ d, d ≤ p → ERg.get t (T d) = ERg.get t tm := fun d => by
            induction d with
            | zero => intro _; rw [ht.t0]
            | succ d ih =>
              intro hdp
              obtain ⟨y, hy⟩ : ∃ y, L[d]? = some y := ⟨_, List.getElem?_eq_getElem (show d < L.length by omega)⟩
              rw [ht.put d y hy, ← ih (by omega)]
              cases hyd : y.o.dst with
              | none => rfl
              | some t2 =>
                by_cases e : t2 = t
                · subst e
                  have := (hc d y hy hyd).2 (by omega)
                  rw [D0] at this; cases this
                · exact ERg.get_set_ne _ _ (Nat.lt_of_lt_of_le (ht.dst _ y hy t2 hyd) hN) htt e
          rw [key p (Nat.le_refl _)]
          exact hs.rt t htt
        fr := fun i x hi hx hc hw _ => by
          have hnx := hd.freshNext hx hc hw
          refine ⟨?_, (gr (i + 1) q (by omega) (Nat.le_refl _)).get _ (by omega)⟩
          have := (gr 0 i (Nat.zero_le _) (by omega)).next
          cases hb : β (S i).next with
          | none => rfl
          | some l => have := hr0.lt _ _ hb; omega
        mono := fun i j hij hj => (gr i j hij hj).next
        closed := fun i x _ hx => by rw [D0] at hx; cases hx
        rd := hs.rd
        sz := hs.sz
        gb := hs.gb
        ext := he.trans (e0 ▸ g0.ext β)
        ext0 := by rw [e0]; exact he.next }
/-- All calls are sound. -/
theorem call_ok {P : Program} (hm : P.follows .mixedOrders = true) {I : FuncId → Option (ECall → List EV → ESt → EO)} (hI : IOk P I) (d : Nat) : KS P (eCall P I d) := call_KS (draw_ok hm) hI d
end Go.Proofs.YtjckpgcmfieaoaaGreatDoor
