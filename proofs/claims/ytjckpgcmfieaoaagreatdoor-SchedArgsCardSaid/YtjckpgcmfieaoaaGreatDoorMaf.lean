/-
  The evaluator's loads, stores, new blocks.
-/
import Derived.Test.YtjckpgcmfieaoaaGreatDoorMae
import Derived.Laws.IdiomCopy
import Derived.ChangeKeysEq
import Derived.Laws.Small
import Derived.Laws.StructEq
set_option linter.unusedVariables false
set_option linter.unusedSimpArgs false
namespace Go.Proofs.YtjckpgcmfieaoaaGreatDoor
open Go.RowKit

section
variable {P : Program}
theorem eInfo_eq {t : TypeId} {i : TypeInfo} (h : eInfo P t = some i) : P.info? t = some i := by
  unfold eInfo at h
  rw [eNth_eq] at h
  have hlt := (List.getElem?_eq_some_iff.1 h).1
  simp only [Array.length_toList] at hlt
  rw [Array.getElem?_toList] at h
  simp only [Tables.info?, hlt, if_true]
  exact h
theorem eDesc_eq {t : TypeId} {d : TypeDesc} (h : eDesc P t = some d) : P.underlying t = some d := by
  unfold eDesc at h
  unfold Program.underlying
  cases hi : eInfo P t with
  | none => rw [hi] at h; cases h
  | some i =>
    rw [hi] at h
    rw [eInfo_eq hi]
    obtain ⟨desc, _, _, _, _, _, _, _, _, _⟩ := i
    cases desc with
    | named n u =>
      simp only at h ⊢
      cases hu : eInfo P u with
      | none => rw [hu] at h; cases h
      | some j => rw [hu] at h; rw [eInfo_eq hu]; exact h
    | _ => exact h
theorem eInfo_run {t : TypeId} {i : TypeInfo} (h : eInfo P t = some i) (w : World) : (typeInfo t).run P w = .ok i w ∧ (sizeOf t).run P w = .ok i.size w := by
  have := Go.run_typeInfo w (eInfo_eq h)
  exact ⟨this, by simp [sizeOf, this]⟩
theorem eDesc_info {t : TypeId} {d : TypeDesc} (h : eDesc P t = some d) : ∃ i, eInfo P t = some i := by
  unfold eDesc at h
  cases hi : eInfo P t with
  | none => rw [hi] at h; cases h
  | some i => exact ⟨i, rfl⟩
theorem eSize_run {t : TypeId} {d : TypeDesc} (h : eDesc P t = some d) (w : World) : (sizeOf t).run P w = .ok (eSize P t) w := by
  obtain ⟨i, hi⟩ := eDesc_info h
  rw [(eInfo_run hi w).2]
  unfold eSize
  rw [hi]
theorem eAgg_agg {t : TypeId} {k : Nat} (h : eAgg P t = .agg k) (w : World) : (isAgg t).run P w = .ok true w ∧ (sizeOf t).run P w = .ok k w := by
  unfold eAgg at h
  cases hd : eDesc P t with
  | none => rw [hd] at h; cases h
  | some d =>
    rw [hd] at h
    have hs := eSize_run hd w
    have hu := run_underlying (eDesc_eq hd) w
    cases d <;> (first | cases h | skip) <;> exact ⟨by simp [isAgg, hu], hs⟩
theorem eAgg_one {t : TypeId} (h : eAgg P t = .one) (w : World) : (isAgg t).run P w = .ok false w := by
  unfold eAgg at h
  cases hd : eDesc P t with
  | none => rw [hd] at h; cases h
  | some d =>
    rw [hd] at h
    have hu := run_underlying (eDesc_eq hd) w
    cases d <;> (first | cases h | skip) <;> simp [isAgg, hu]
theorem addr_add (b o i : Nat) : (⟨b, o, none⟩ : Addr).add i = ⟨b, o + i, none⟩ := by
  unfold Addr.add
  split
  · rename_i h; rw [h]; rfl
  · rfl

section
variable {w0 : World} {β : EMp} {s : ESt} {w : World}
/-- The cells of a block that may be read. -/
theorem HR.cells (h : HR w0 β s w) {b : Nat} {l : ELoc} {n : Nat} {c : ETr EV} (hb : β b = some l) (hc : s.cells b = some (n, c)) : ∃ a T fz, w.heap[l.c]? = some (.cells a T fz) ∧ a.size = l.m ∧ l.sh + n ≤ l.m ∧ CR β n c l.sh a := by
  unfold ESt.cells at hc
  rw [ESt.eta s] at hc
  simp only at hc
  cases hk : s.heap.get b with
  | none => rw [hk] at hc; cases hc
  | some k =>
    rw [hk] at hc
    have hB := h.blk b l k hb hk
    cases k with
    | row n' c' =>
      simp only [Option.some.injEq, Prod.mk.injEq] at hc
      obtain ⟨rfl, rfl⟩ := hc
      obtain ⟨_, a, T, fz, h1, h2, h3, _, h5⟩ := hB
      exact ⟨a, T, fz, h1, h2, h3, h5⟩
    | tab n' c' =>
      simp only [Option.some.injEq, Prod.mk.injEq] at hc
      obtain ⟨rfl, rfl⟩ := hc
      obtain ⟨_, a, T, fz, h1, h2, h3, h5⟩ := hB
      exact ⟨a, T, fz, h1, h2, h3, h5⟩
    | _ => cases hc
theorem HR.loadN (h : HR w0 β s w) {b o k : Nat} {l : ELoc} {cs : List EV} (hb : β b = some l) (hl : s.loadN b o k = some cs) :
    ∃ vs : List Value, vs.length = k ∧ VRs β cs vs ∧ ∀ j u, vs[j]? = some u → w.cell? ⟨l.c, l.sh + o + j, none⟩ = some u := by
  unfold ESt.loadN at hl
  cases hc : s.cells b with
  | none => rw [hc] at hl; cases hl
  | some p =>
    obtain ⟨n, c⟩ := p
    rw [hc] at hl
    simp only at hl
    cases hn : Nat.ble (o + k) n with
    | false => rw [hn] at hl; cases hl
    | true =>
      rw [hn] at hl
      have hn := Nat.le_of_ble_eq_true hn
      obtain ⟨e1, e2⟩ := eTake_get hl
      obtain ⟨a, T, fz, h1, h2, h3, h4⟩ := h.cells hb hc
      have hat : ∀ j, j < k → ∃ x v, cs[j]? = some x ∧ a[l.sh + o + j]? = some v ∧ VR β x v := fun j hj => by
        obtain ⟨x, v, g1, g2, g3⟩ := h4 (o + j) (by omega)
        exact ⟨x, v, (e2 j hj).symm.trans g1, by rw [show l.sh + o + j = l.sh + (o + j) by omega]; exact g2, g3⟩
      refine ⟨(List.range k).map fun j => (a[l.sh + o + j]?).getD undef, by simp, VRs.of_get (by simp [e1]) fun i x v hx hv => ?_, fun j u hu => ?_⟩
      · have hi : i < k := by rw [← e1]; exact (List.getElem?_eq_some_iff.1 hx).1
        obtain ⟨x', v', g1, g2, g3⟩ := hat i hi
        rw [hx] at g1
        obtain rfl := Option.some.inj g1
        simp [hi, g2] at hv
        rw [← hv]
        exact g3
      · by_cases hj : j < k
        · obtain ⟨x', v', g1, g2, g3⟩ := hat j hj
          simp [hj, g2] at hu
          rw [blk_cell h1, g2, hu]
        · rw [List.getElem?_eq_none (by simp; omega)] at hu
          cases hu
theorem HR.load1 (h : HR w0 β s w) {b o : Nat} {l : ELoc} {x : EV} (hb : β b = some l) (hl : s.load1 b o = some x) : ∃ v, VR β x v ∧ w.cell? ⟨l.c, l.sh + o, none⟩ = some v := by
  unfold ESt.load1 at hl
  cases hc : s.cells b with
  | none => rw [hc] at hl; cases hl
  | some p =>
    obtain ⟨n, c⟩ := p
    rw [hc] at hl
    simp only at hl
    cases hn : Nat.ble (Nat.succ o) n with
    | false => rw [hn] at hl; cases hl
    | true =>
      rw [hn] at hl
      have hn := Nat.le_of_ble_eq_true hn
      obtain ⟨a, T, fz, h1, h2, h3, h4⟩ := h.cells hb hc
      obtain ⟨y, v, g1, g2, g3⟩ := h4 o hn
      rw [g1] at hl
      obtain rfl := Option.some.inj hl
      exact ⟨v, g3, by rw [blk_cell h1, g2]⟩
theorem run_loadCells_at {a : Addr} {vs : List Value} {k : Nat} (hk : vs.length = k) (h : ∀ j u, vs[j]? = some u → w.cell? (a.add j) = some u) : (loadCells a k).run P w = .ok vs.toArray w := by
  subst hk
  exact run_loadCells_list w a vs h
/-- A load. -/
theorem eLd_run {t : TypeId} (h : HR w0 β s w) {y x : EV} {s' : ESt} {v : Value} (hv : VR β y v) (hl : eLd (eAgg P t) s y = .v x s') : s' = s ∧ ∃ u, VR β x u ∧ (Instr.loadAt t v).run P w = .ok u w ∧ ∃ a, v = .pointer (some a) ∧ (loadVar t a).run P w = .ok u w := by
  cases hv with
  | ptr hb =>
    rename_i b o l
    cases ha : eAgg P t with
    | no => rw [ha] at hl; cases hl
    | agg k =>
      rw [ha] at hl
      have hl : (match s.loadN b o k with | some l => EO.v (.agg l) s | none => .er) = .v x s' := hl
      cases hc : s.loadN b o k with
      | none => rw [hc] at hl; cases hl
      | some cs =>
        rw [hc] at hl
        injection hl with e1 e2
        subst e1 e2
        obtain ⟨vs, g1, g2, g3⟩ := h.loadN hb hc
        obtain ⟨k1, k2⟩ := eAgg_agg ha w
        have hlc : (loadCells ⟨l.c, l.sh + o, none⟩ k).run P w = .ok vs.toArray w := run_loadCells_at g1 fun j u hu => by rw [addr_add]; exact g3 j u hu
        have hlv : (loadVar t ⟨l.c, l.sh + o, none⟩).run P w = .ok (.agg vs.toArray) w := by
          unfold loadVar
          simp [k1, k2, hlc]
        exact ⟨rfl, .agg vs.toArray, .agg (by simpa using g2), by simp [Instr.loadAt, Instr.sureAddr, hlv], _, rfl, hlv⟩
    | one =>
      rw [ha] at hl
      have hl : (match s.load1 b o with | some x => EO.v x s | none => .er) = .v x s' := hl
      cases hc : s.load1 b o with
      | none => rw [hc] at hl; cases hl
      | some y =>
        rw [hc] at hl
        injection hl with e1 e2
        subst e1 e2
        obtain ⟨u, g1, g2⟩ := h.load1 hb hc
        have k1 := eAgg_one ha w
        have hlv : (loadVar t ⟨l.c, l.sh + o, none⟩).run P w = .ok u w := by
          unfold loadVar
          simp [k1, g2]
        exact ⟨rfl, u, g1, by simp [Instr.loadAt, Instr.sureAddr, hlv], _, rfl, hlv⟩
  | bot v => cases hl
  | pnil => cases hl
  | _ => cases hl

/-- Values laid over an array. -/
def layA (a : Array Value) (o : Nat) : List Value → Array Value
  | [] => a
  | v :: r => layA (a.setIfInBounds o v) (o + 1) r
theorem layA_size : ∀ (vs : List Value) (a : Array Value) (o : Nat), (layA a o vs).size = a.size
  | [], _, _ => rfl
  | v :: r, a, o => by rw [layA, layA_size r]; simp
theorem layA_get : ∀ (vs : List Value) (a : Array Value) (o j : Nat), o + vs.length ≤ a.size → (layA a o vs)[j]? = if o ≤ j ∧ j < o + vs.length then vs[j - o]? else a[j]?
  | [], a, o, j, _ => by rw [if_neg (by simp only [List.length_nil]; omega)]; rfl
  | v :: r, a, o, j, h => by
    simp only [List.length_cons] at h
    rw [layA, layA_get r _ (o + 1) j (by simp; omega)]
    simp only [List.length_cons]
    by_cases h1 : o = j
    · subst h1
      rw [if_neg (by omega), if_pos (by omega), Nat.sub_self, Array.getElem?_setIfInBounds_self_of_lt (by omega)]
      rfl
    · rw [Array.getElem?_setIfInBounds_ne h1]
      by_cases h2 : o + 1 ≤ j ∧ j < o + 1 + r.length
      · rw [if_pos h2, if_pos (by omega)]
        obtain ⟨k, hk⟩ : ∃ k, j - o = k + 1 := ⟨j - o - 1, by omega⟩
        rw [hk, show j - (o + 1) = k by omega]
        rfl
      · rw [if_neg h2, if_neg (by omega)]
theorem eblk_setCells : ∀ (vs : List Value) (b o : Nat) (w : World) (a : Array Value) (T : TypeId) (fz : Nat × Nat), w.heap[b]? = some (.cells a T fz) → (w.setCells b o vs).heap[b]? = some (.cells (layA a o vs) T fz)
  | [], _, _, _, _, _, _, h => h
  | v :: r, b, o, w, a, T, fz, h => by
    rw [World.setCells, layA]
    refine eblk_setCells r b (o + 1) _ _ T fz ?_
    have hlt := (Array.getElem?_eq_some_iff.1 h).1
    simp [World.setCell, Array.getElem?_modify, h]
theorem upd_setCells : ∀ (vs : List Value) (b o : Nat) (w : World), Upd (· = b) w (w.setCells b o vs)
  | [], _, _, w => Upd.refl _ w
  | v :: r, b, o, w => ((Upd.refl _ w).set1 o v).trans (upd_setCells r b (o + 1) _)
/-- A store of cells. -/
theorem HR.storeN (h : HR w0 β s w) {b o : Nat} {l : ELoc} {cs : List EV} {s' : ESt} {vs : List Value} (hb : β b = some l) (hs : s.storeN b o cs = some s') (hv : VRs β cs vs) :
    (storeCells ⟨l.c, l.sh + o, none⟩ vs).run P w = .ok () (w.setCells l.c (l.sh + o) vs) ∧ HR w0 β s' (w.setCells l.c (l.sh + o) vs) ∧ Ext β s β s' := by
  unfold ESt.storeN at hs
  rw [ESt.eta s] at hs
  simp only at hs
  cases hk : s.heap.get b with
  | none => rw [hk] at hs; cases hs
  | some k =>
    rw [hk] at hs
    cases k with
    | row n c =>
      simp only at hs
      cases hn : Nat.ble (o + cs.length) n with
      | false => rw [hn] at hs; cases hs
      | true =>
        rw [hn] at hs
        cases ha : eAll cs with
        | false => rw [ha] at hs; cases hs
        | true =>
          rw [ha] at hs
          obtain rfl := Option.some.inj hs
          have hn := Nat.le_of_ble_eq_true hn
          have hlen := hv.len
          obtain ⟨h0, a, T, fz, h1, h2, h3, h4, h5⟩ := h.blk b l _ hb hk
          have hin : ∀ j, j < vs.length → l.sh + o + j < a.size := fun j hj => by omega
          have hrun : (storeCells ⟨l.c, l.sh + o, none⟩ vs).run P w = .ok () (w.setCells l.c (l.sh + o + 0) vs) := run_storeCells_cells l.c (l.sh + o) vs 0 w (fun j hj => by
              have := hin j hj
              rw [blk_cell h1]; simp [this]) (fun j hj => by
              have := hin j hj
              have hf := h4.1 (l.sh + o + j) (by omega)
              simp only [World.frozen?, h1]
              simp only [Nat.add_zero]
              simpa using hf) (hv.one ha)
          have hlay := eblk_setCells vs l.c (l.sh + o) w a T fz h1
          refine ⟨hrun, h.upd1 hb hk trivial trivial (upd_setCells _ _ _ _) ⟨h0, _, T, fz, hlay, (layA_size _ _ _).trans h2, h3, ⟨h4.1, fun t v e => h4.2 t v (by rw [ePut_get, if_neg (by omega)] at e; exact e)⟩, fun i hi => ?_⟩, Ext.upd1 hb⟩
          rw [ePut_get, layA_get _ _ _ _ (by omega)]
          by_cases hio : o ≤ i ∧ i < o + cs.length
          · rw [if_pos hio, if_pos (by omega), show l.sh + i - (l.sh + o) = i - o by omega]
            have hlt : i - o < cs.length := by omega
            obtain ⟨v, g1, g2⟩ := hv.get (List.getElem?_eq_getElem hlt)
            exact ⟨_, v, List.getElem?_eq_getElem hlt, g1, g2⟩
          · rw [if_neg hio, if_neg (by omega)]
            exact h5 i hi
    | _ => cases hs
/-- A store. -/
theorem eSt_run {t : TypeId} {i : TypeInfo} (hi : eInfo P t = some i) (h : HR w0 β s w) {y x z : EV} {s' : ESt} {v u : Value} (hv : VR β y v) (hu : VR β x u) (hl : eSt i.size s y x = .v z s') : z = .bot ∧ ∃ w', (Instr.storeAt t v u).run P w = .ok () w' ∧ HR w0 β s' w' ∧ Ext β s β s' := by
  obtain ⟨hi1, hi2⟩ := eInfo_run hi w
  cases hv with
  | ptr hb =>
    rename_i b o l
    have key : ∀ cs : List EV, x ≠ .bot → x.cells = cs → cs.length = i.size → eSto (s.storeN b o cs) = .v z s' → z = .bot ∧ ∃ w', (Instr.storeAt t (.pointer (some ⟨l.c, l.sh + o, none⟩)) u).run P w = .ok () w' ∧ HR w0 β s' w' ∧ Ext β s β s' := by
      intro cs hx hcs hlen hst
      cases hs : s.storeN b o cs with
      | none => rw [hs] at hst; cases hst
      | some s2 =>
        rw [hs] at hst
        injection hst with e1 e2
        subst e1 e2
        have hc := hu.cells hx
        rw [hcs] at hc
        obtain ⟨r1, r2, r3⟩ := h.storeN (P := P) hb hs hc
        refine ⟨rfl, _, ?_, r2, r3⟩
        have hsz : u.cells.size = i.size := by rw [← hlen, hc.len, Array.length_toList]
        simp [Instr.storeAt, Instr.sureAddr, storeVar, hi2, hsz, r1]
    have two : ∀ (x : EV), (x ≠ .bot) → (x.cells = [x]) → (match Nat.beq 1 i.size with | true => eSto (s.storeN b o [x]) | false => .er) = EO.v z s' → [x].length = i.size ∧ eSto (s.storeN b o [x]) = .v z s' := by
      intro x _ _ hl
      cases h1 : Nat.beq 1 i.size with
      | false => rw [h1] at hl; cases hl
      | true => rw [h1] at hl; exact ⟨Nat.eq_of_beq_eq_true h1, hl⟩
    cases x with
    | agg cs =>
      have hl : (match Nat.beq cs.length i.size with | true => eSto (s.storeN b o cs) | false => .er) = EO.v z s' := hl
      cases h1 : Nat.beq cs.length i.size with
      | false => rw [h1] at hl; cases hl
      | true => rw [h1] at hl; exact key cs (fun e => by cases e) rfl (Nat.eq_of_beq_eq_true h1) hl
    | bot =>
      exfalso
      have hl : (match Nat.beq 1 i.size with | true => eSto (s.storeN b o [EV.bot]) | false => .er) = EO.v z s' := hl
      cases h1 : Nat.beq 1 i.size with
      | false => rw [h1] at hl; cases hl
      | true =>
        rw [h1] at hl
        have : s.storeN b o [EV.bot] = none := by
          unfold ESt.storeN
          rw [ESt.eta s]
          simp only
          cases s.heap.get b with
          | none => rfl
          | some k => cases k <;> first | rfl | (simp only; split <;> rfl)
        rw [this] at hl
        cases hl
    | _ => exact (two _ (fun e => by cases e) rfl hl).elim fun a b => key _ (fun e => by cases e) rfl a b
  | _ => cases hl
end
end

section
variable {P : Program}
theorem eScal_VR (β : EMp) (v : Value) : VR β (eScal v) v := by
  unfold eScal
  split
  · exact .bool _
  · exact .int _ _
  · exact .str rfl
  · exact .pnil
  · exact .snil
  · exact .mnil
  · exact .nilF
  · exact .nilI
  · exact .bot _
theorem eScals_VR (β : EMp) : ∀ (l : List Value), VRs β (l.map eScal) l
  | [] => .nil
  | v :: l => .cons (eScal_VR β v) (eScals_VR β l)
theorem eVal_VR (β : EMp) (v : Value) : VR β (eVal v) v := by
  unfold eVal
  split
  · exact .agg (eScals_VR β _)
  · exact .tup (eScals_VR β _)
  · exact eScal_VR β _
theorem eZero_run {t : TypeId} {z : EV} (h : eZero P t = z) (hz : z ≠ .bot) (β : EMp) (w : World) : ∃ v, (zeroValue t).run P w = .ok v w ∧ VR β z v := by
  unfold eZero at h
  cases hi : eInfo P t with
  | none => rw [hi] at h; exact absurd h.symm hz
  | some i =>
    rw [hi] at h
    simp only at h
    cases hv : i.zero with
    | none => rw [hv] at h; exact absurd h.symm hz
    | some v =>
      rw [hv] at h
      refine ⟨v, by simp [zeroValue, (eInfo_run hi w).1, hv], ?_⟩
      rw [← h]
      exact eVal_VR β v

/-- What makes a block: the block, and what tells where it is. -/
structure FreshOk (w0 : World) (β : EMp) (k : EBlk) (f : Nat → EV) (w : World) (v : Value) (w' : World) (l : ELoc) : Prop where
  up : Upd (fun _ => False) w w'
  new : w.heap.size ≤ l.c
  ok : ∀ β' b, β.le β' → β' b = some l → VR β' (f b) v ∧ BR w0 β' k l w'
section
variable {w0 : World} {β : EMp} {s s' : ESt} {w w' : World}
theorem blk_inv {k : EBlk} {f : Nat → EV} {x : EV} (h : s.blk k f = .v x s') : s.heap.get s.next = none ∧ x = f s.next ∧ s' = .mk (s.heap.set s.next k) (s.next + 1) := by
  unfold ESt.blk at h
  rw [ESt.eta s] at h
  simp only at h
  cases hg : s.heap.get s.next with
  | none =>
    rw [hg] at h
    injection h with e1 e2
    exact ⟨rfl, e1.symm, e2.symm⟩
  | some _ => rw [hg] at h; cases h
theorem HR.fresh (h : HR w0 β s w) {k : EBlk} {f : Nat → EV} {x : EV} {v : Value} {l : ELoc} (hb : s.blk k f = .v x s') (hf : FreshOk w0 β k f w v w' l) :
    ∃ β', VR β' x v ∧ HR w0 β' s' w' ∧ Ext β s β' s' := by
  obtain ⟨-, rfl, rfl⟩ := blk_inv hb
  have hn := h.none_next
  obtain ⟨g1, g2⟩ := hf.ok (β.put s.next l) s.next (β.put_le l hn) (β.put_at _ _)
  exact ⟨β.put s.next l, g1, (h.num k).come hn (Nat.lt_succ_self _) (ETr.get_set _ _ _) hf.up hf.new g2, Ext.num k l hn⟩
/-- The same, where the number has its block already. -/
theorem HR.freshD (h : HR w0 β s w) {b : Nat} {k : EBlk} {f : Nat → EV} {v : Value} {l : ELoc} (hb : β b = none) (hlt : b < s.next) (hk : s.heap.get b = some k) (hf : FreshOk w0 β k f w v w' l) :
    VR (β.put b l) (f b) v ∧ HR w0 (β.put b l) s w' := by
  obtain ⟨g1, g2⟩ := hf.ok (β.put b l) b (β.put_le l hb) (β.put_at _ _)
  exact ⟨g1, h.come hb hlt hk hf.up hf.new g2⟩
theorem CR.of {n : Nat} {l : List EV} {vs : List Value} {a : Array Value} (h : VRs β l vs) (hn : l.length = n) (ha : ∀ (i : Nat) v, vs[i]? = some v → a[i]? = some v) : CR β n (eRow l 0 .e) 0 a := fun i hi => by
  rw [eRow_get, if_pos (by omega), Nat.sub_zero, Nat.zero_add]
  obtain ⟨v, g1, g2⟩ := h.get (List.getElem?_eq_getElem (show i < l.length by omega))
  exact ⟨_, v, List.getElem?_eq_getElem _, ha i v g1, g2⟩
/-- A row. -/
theorem rowOk (hw : w0.heap.size ≤ w.heap.size) {l : List EV} {vs : List Value} (h : VRs β l vs) (ex : List Value) (T : TypeId) {f : Nat → EV} {v : Value}
    (hv : ∀ β' b, β.le β' → β' b = some ⟨w.heap.size, 0, vs.length + ex.length⟩ → VR β' (f b) v) :
    FreshOk w0 β (.row l.length (eRow l 0 .e)) f w v (w.alloc (.cells (vs ++ ex).toArray T)) ⟨w.heap.size, 0, vs.length + ex.length⟩ :=
  ⟨(Upd.refl _ _).alloc _, Nat.le_refl _, fun β' b hle hb => ⟨hv β' b hle hb, hw, _, T, (0, 0), blk_alloc _ _, by simp, by rw [h.len]; exact (by omega : 0 + vs.length ≤ vs.length + ex.length), ⟨fun i _ => by simp, fun t v e => by rw [eRow_get, if_neg (by omega), ETr.get_e] at e; cases e⟩,
    CR.of (h.mono hle) rfl fun i v hi => by
      rw [List.getElem?_toArray, List.getElem?_append_left (List.getElem?_eq_some_iff.1 hi).1]; exact hi⟩⟩
theorem CR.ofT {n : Nat} {l : List EV} {vs : List Value} {a : Array Value} {c : ETr EV} (h : VRs β l vs) (hn : l.length = n) (ha : ∀ (i : Nat) v, vs[i]? = some v → a[i]? = some v) : CR β n (eRow l 0 c) 0 a := fun i hi => by
  rw [eRow_get, if_pos (by omega), Nat.sub_zero, Nat.zero_add]
  obtain ⟨v, g1, g2⟩ := h.get (List.getElem?_eq_getElem (show i < l.length by omega))
  exact ⟨_, v, List.getElem?_eq_getElem _, ha i v g1, g2⟩
theorem alloc_run {t : TypeId} {z : EV} (hz : eZero P t = z) (hb : z ≠ .bot) (hw : w0.heap.size ≤ w.heap.size) :
    ∃ v w' l, (Instr.alloc t true (.tuple #[])).run P w = .ok v w' ∧ FreshOk w0 β (.row z.cells.length (eRow z.cells 0 (ETr.e.set z.cells.length (.ifc t .nilI)))) (fun b => .ptr (some (b, 0))) w v w' l := by
  obtain ⟨zv, h1, h2⟩ := eZero_run hz hb β w
  have hc := h2.cells hb
  have hl := hc.len
  refine ⟨.pointer (some ⟨w.heap.size, 0, none⟩), w.alloc (.cells zv.cells t), ⟨w.heap.size, 0, zv.cells.size⟩, by simp [Instr.alloc, h1, newVar, newRow], ⟨(Upd.refl _ _).alloc _, Nat.le_refl _, fun β' b hle hb => ⟨?_, hw, _, t, (0, 0), blk_alloc _ _, rfl, ?_, ⟨fun i _ => by simp, fun u v e => ?_⟩, CR.ofT (hc.mono hle) rfl fun i v hi => by simpa using hi⟩⟩⟩
  · have := VR.ptr (β := β') (o := 0) hb
    simpa using this
  · rw [hl]; simp
  · rw [eRow_get, if_neg (by omega), ETr.get_set] at e
    injection e with e
    injection e with e _
    exact ⟨e, rfl, by rw [hl]; simp⟩
theorem box_run {t : TypeId} {x : EV} {u : Value} (hx : VR β x u) (hb : x ≠ .bot) (hw : w0.heap.size ≤ w.heap.size) :
    ∃ v w' l, (Instr.box t u).run P w = .ok v w' ∧ FreshOk w0 β (.row x.cells.length (eRow x.cells 0 (ETr.e.set x.cells.length (.ifc t .nilI)))) (fun b => .ptr (some (b, 0))) w v w' l := by
  have hc := hx.cells hb
  have hl := hc.len
  refine ⟨.pointer (some ⟨w.heap.size, 0, none⟩), w.alloc (.cells u.cells t), ⟨w.heap.size, 0, u.cells.size⟩, by simp [Instr.box, newVar, newRow], ⟨(Upd.refl _ _).alloc _, Nat.le_refl _, fun β' b hle hb => ⟨?_, hw, _, t, (0, 0), blk_alloc _ _, rfl, ?_, ⟨fun i _ => by simp, fun u v e => ?_⟩, CR.ofT (hc.mono hle) rfl fun i v hi => by simpa using hi⟩⟩⟩
  · have := VR.ptr (β := β') (o := 0) hb
    simpa using this
  · rw [hl]; simp
  · rw [eRow_get, if_neg (by omega), ETr.get_set] at e
    injection e with e
    injection e with e _
    exact ⟨e, rfl, by rw [hl]; simp⟩
theorem eLay_VRs : ∀ {cs ds : List EV} {us vs : List Value}, VRs β cs us → VRs β ds vs → ∀ (i : Nat), i + ds.length ≤ cs.length → VRs β (eLay cs ds i) ((us.take i) ++ vs ++ us.drop (i + vs.length))
  | _, _, _, _, .nil, hd, i, h => by
    cases hd with
    | nil => simpa [eLay] using VRs.nil
    | cons a t => simp at h
  | _, _, _, _, .cons a t, hd, i, h => by
    cases hd with
    | nil => 
      have e : ∀ (us : List Value), us.take i ++ [] ++ us.drop (i + 0) = us := fun us => by simp
      rename_i us x u cs
      rw [List.length_nil, e]
      exact .cons a t
    | cons b u =>
      cases i with
      | zero =>
        have := eLay_VRs t u 0 (by simp at h ⊢; omega)
        have e : ∀ (v : Value) (vs us : List Value) (x : Value), List.take 0 (x :: us) ++ (v :: vs) ++ (x :: us).drop (0 + (v :: vs).length) = v :: (us.take 0 ++ vs ++ us.drop (0 + vs.length)) := fun v vs us x => by simp
        rw [e]
        exact .cons b this
      | succ i =>
        have := eLay_VRs t (.cons b u) i (by simp at h ⊢; omega)
        have e : ∀ (vs us : List Value) (x : Value), List.take (i + 1) (x :: us) ++ vs ++ (x :: us).drop (i + 1 + vs.length) = x :: (us.take i ++ vs ++ us.drop (i + vs.length)) := fun vs us x => by simp [Nat.succ_add]
        rw [e]
        exact .cons a this
theorem zip_set : ∀ (vs : List Value) (a : Array Value) (o j : Nat), o + j + vs.length ≤ a.size → ((vs.zipIdx j).foldl (fun cs (p : Value × Nat) => cs.setIfInBounds (o + p.2) p.1) a).toList = a.toList.take (o + j) ++ vs ++ a.toList.drop (o + j + vs.length)
  | [], a, o, j, _ => by simp
  | v :: vs, a, o, j, h => by
    simp only [List.length_cons] at h
    rw [List.zipIdx_cons, List.foldl_cons, zip_set vs _ o (j + 1) (by simp; omega)]
    simp only [Array.toList_setIfInBounds, List.length_cons]
    rw [List.take_set, List.drop_set_of_lt (by omega), show o + (j + 1) = o + j + 1 by omega, List.take_succ_eq_append_getElem (by simp; omega), List.set_append_right _ _ (by simp; omega)]
    simp
    rw [Nat.min_eq_left (by omega)]
    simp
    congr 1
    omega
theorem eFill_cons (place : Nat → Option (Nat × Nat)) (i : Nat) (x : EV) (ps : List (Nat × EV)) (cs : List EV) : eFill place ((i, x) :: ps) cs = match place i with
      | some (off, sz) => (match x with
        | .bot => none
        | x => match Nat.beq x.cells.length sz with
          | true => match Nat.ble (off + sz) cs.length with
            | true => eFill place ps (eLay cs x.cells off)
            | false => none
          | false => none)
      | none => none := rfl
theorem eFill_cons2 (place : Nat → Option (Nat × Nat)) (i : Nat) (x : EV) (ps : List (Nat × EV)) (cs : List EV) {off sz : Nat} (hp : place i = some (off, sz)) (hx : x ≠ .bot) : eFill place ((i, x) :: ps) cs = match Nat.beq x.cells.length sz with
          | true => match Nat.ble (off + sz) cs.length with
            | true => eFill place ps (eLay cs x.cells off)
            | false => none
          | false => none := by
  rw [eFill_cons, hp]
  cases x <;> first | exact absurd rfl hx | rfl
/-- A row of parts laid over cells. -/
theorem eFill_run {place : Nat → Option (Nat × Nat)} {place' : Nat → Option (Nat × Nat)} (hp : ∀ i p, place i = some p → place' i = some p) :
    ∀ {ps : List (Nat × EV)} {qs : List (Nat × Value)} {cs : List EV} {a : Array Value} {r : List EV}, ps.length = qs.length → (∀ (i : Nat) p q, ps[i]? = some p → qs[i]? = some q → p.1 = q.1 ∧ VR β p.2 q.2) → VRs β cs a.toList → eFill place ps cs = some r →
      ∃ b, Instr.fill place' a qs = some b ∧ VRs β r b.toList ∧ r.length = cs.length
  | [], [], cs, a, r, _, _, hc, h => by
    obtain rfl := Option.some.inj (show some cs = some r from h)
    exact ⟨a, rfl, hc, rfl⟩
  | [], _ :: _, _, _, _, h, _, _, _ => by simp at h
  | _ :: _, [], _, _, _, h, _, _, _ => by simp at h
  | (i, x) :: ps, (i', v) :: qs, cs, a, r, hl, hv, hc, h => by
    obtain ⟨hi, hxv⟩ := hv 0 _ _ rfl rfl
    simp only at hi hxv
    subst hi
    rw [eFill_cons] at h
    cases hpl : place i with
    | none => rw [hpl] at h; cases h
    | some p =>
      obtain ⟨off, sz⟩ := p
      have hx : x ≠ .bot := fun e => by subst e; rw [hpl] at h; cases h
      rw [← eFill_cons, eFill_cons2 place i x ps cs hpl hx] at h
      cases h1 : Nat.beq x.cells.length sz with
      | false => rw [h1] at h; cases h
      | true =>
        rw [h1] at h
        simp only at h
        cases h2 : Nat.ble (off + sz) cs.length with
        | false => rw [h2] at h; cases h
        | true =>
          rw [h2] at h
          simp only at h
          have h1 := Nat.eq_of_beq_eq_true h1
          have h2 := Nat.le_of_ble_eq_true h2
          have hcl := hxv.cells hx
          have hlen := hcl.len
          have hcs := hc.len
          simp only [Array.length_toList] at hlen hcs
          have hz := zip_set v.cells.toList a off 0 (by rw [Array.length_toList]; omega)
          have hlay := eLay_VRs hc hcl off (by omega)
          rw [Nat.add_zero] at hz
          have hlaylen : (eLay cs x.cells off).length = cs.length := by rw [hlay.len]; simp; omega
          rw [← hz] at hlay
          obtain ⟨b, g1, g2, g3⟩ := eFill_run hp (ps := ps) (qs := qs) (by simpa using hl) (fun i p q hp hq => hv (i + 1) p q hp hq) hlay h
          refine ⟨b, ?_, g2, g3.trans hlaylen⟩
          rw [Instr.fill, hp i _ hpl]
          simp only
          rw [if_neg (by simp; omega), ← g1]
          congr 1
          rw [← Array.foldl_toList]
          congr 1
          simp
end
end

theorem eMod_eq (k : IntKind) : (eMod k : Int) = 2 ^ k.bits ∧ eMod k = 2 ^ k.bits ∧ 0 < eMod k := by cases k <;> exact ⟨rfl, rfl, by decide⟩
theorem eLow_eq (k : IntKind) (x : Int) : (eLow k x : Int) = x % 2 ^ k.bits := by
  rw [← (eMod_eq k).1]
  have hp := (eMod_eq k).2.2
  cases x with
  | ofNat n => exact (Int.natCast_emod n (eMod k))
  | negSucc n =>
    show ((eMod k - 1 - n % eMod k : Nat) : Int) = (Int.negSucc n) % (eMod k : Int)
    have hlt := Nat.mod_lt n hp
    rw [Int.negSucc_emod _ (by omega)]
    omega
theorem eLow_lt (k : IntKind) (x : Int) : eLow k x < eMod k := by
  have h := eLow_eq k x
  rw [← (eMod_eq k).1] at h
  have hp := (eMod_eq k).2.2
  have := Int.emod_lt_of_pos x (show (0 : Int) < eMod k by omega)
  omega
theorem eWrapN_eq (k : IntKind) (n : Nat) (h : n < eMod k) : eWrapN k n = k.wrap n := by
  unfold eWrapN
  have hm : (n : Int) % 2 ^ k.bits = n := by
    rw [← (eMod_eq k).1]
    exact Int.emod_eq_of_lt (by omega) (by omega)
  unfold IntKind.wrap
  rw [hm]
  cases hb : Nat.ble (eHalf k) n with
  | true =>
    have hb := Nat.le_of_ble_eq_true hb
    cases k <;> simp only [eMod, eHalf, IntKind.signed, IntKind.bits] at * <;> (first | omega | skip)
    all_goals
      simp
      rw [if_pos (by omega)]
      rw [Int.negSucc_eq]
      omega
  | false =>
    have hb : ¬ eHalf k ≤ n := fun e => by rw [Nat.ble_eq_true_of_le e] at hb; cases hb
    cases k <;> simp only [eMod, eHalf, IntKind.signed, IntKind.bits] at * <;> simp <;> omega
theorem eWrap_eq (k : IntKind) (x : Int) : eWrap k x = k.wrap x := by
  unfold eWrap
  rw [eWrapN_eq k _ (eLow_lt k x)]
  unfold IntKind.wrap
  rw [eLow_eq, Int.emod_emod_of_dvd _ (Int.dvd_refl _)]
theorem eIntEq_eq (a b : Int) : eIntEq a b = (a == b) := by
  cases a <;> cases b <;> simp only [eIntEq] <;> rw [Bool.eq_iff_iff] <;> simp [Nat.beq_eq] <;> omega
theorem eIntLe_eq (a b : Int) : eIntLe a b = decide (a ≤ b) := by
  cases a <;> cases b <;> simp only [eIntLe] <;> rw [Bool.eq_iff_iff] <;> simp <;> omega
theorem eIntLt_eq (a b : Int) : eIntLt a b = decide (a < b) := by
  have e : eIntLt a b = !eIntLe b a := by unfold eIntLt; cases eIntLe b a <;> rfl
  rw [e, eIntLe_eq, Bool.eq_iff_iff]
  simp
theorem eNatsEq_eq : ∀ (a b : List Nat), eNatsEq a b = true ↔ a = b
  | [], [] => by simp [eNatsEq]
  | [], _ :: _ => by simp [eNatsEq]
  | x :: a, [] => by simp [eNatsEq]
  | x :: a, y :: b => by
    have e : eNatsEq (x :: a) (y :: b) = match Nat.beq x y with | true => eNatsEq a b | false => false := rfl
    rw [e]
    cases h : Nat.beq x y with
    | true =>
      obtain rfl := Nat.eq_of_beq_eq_true h
      simp [eNatsEq_eq a b]
    | false =>
      have : x ≠ y := fun e => by subst e; simp at h
      simp [this]
theorem bytes_inj {a b : ByteArray} (h : a.data.toList.map (·.toNat) = b.data.toList.map (·.toNat)) : a = b := by
  obtain ⟨a⟩ := a
  obtain ⟨b⟩ := b
  have : a.toList = b.toList := (List.map_inj_right fun x y e => UInt8.toNat_inj.1 e).1 h
  exact congrArg ByteArray.mk (Array.ext' this)
theorem strEq {a b : ByteArray} : (a.toList == b.toList) = eNatsEq (a.data.toList.map (·.toNat)) (b.data.toList.map (·.toNat)) := by
  rw [Bool.eq_iff_iff, eNatsEq_eq, beq_iff_eq, ByteArray.toList_eq, ByteArray.toList_eq]
  exact ⟨fun h => by rw [h], fun h => by rw [bytes_inj h]⟩

section
variable {P : Program} {β : EMp}
/-- Two numbers. -/
theorem eBin2_run {op : BinOp} {k : IntKind} {a b : Int} {z : EV} (h : eBin2 op k a b = some z) (hs : op ≠ .shl) (hr : op ≠ .shr) (t : TypeId) (w : World) : ∃ c, (binOp op t (.int k a) (.int k b)).run P w = .ok c w ∧ VR β z c := by
  have bits : ∀ (f : Nat → Nat → Nat) (g : BitVec k.bits → BitVec k.bits → BitVec k.bits), (∀ x y : BitVec k.bits, (g x y).toNat = f x.toNat y.toNat) →
      VR β (.int k (eWrapN k (f (eLow k a) (eLow k b)))) (.int k (k.wrap (g (BitVec.ofInt k.bits a) (BitVec.ofInt k.bits b)).toNat)) := by
    intro f g hg
    have low : ∀ x : Int, (BitVec.ofInt k.bits x).toNat = eLow k x := fun x => by
      have h1 := eLow_eq k x
      have h2 : ((BitVec.ofInt k.bits x).toNat : Int) = x % 2 ^ k.bits := by
        rw [BitVec.toNat_ofInt]
        rw [Int.toNat_of_nonneg (Int.emod_nonneg _ (by have := Nat.two_pow_pos k.bits; omega))]
        simp
      omega
    have hlt := (g (BitVec.ofInt k.bits a) (BitVec.ofInt k.bits b)).isLt
    rw [hg, low, low, ← (eMod_eq k).2.1] at hlt
    rw [hg, low, low, eWrapN_eq k _ hlt]
    exact .int _ _
  cases op <;> simp only [eBin2] at h <;> (try (cases h; done)) <;> (try (exact absurd rfl hs)) <;> (try (exact absurd rfl hr))
  case add => obtain rfl := Option.some.inj h; rw [eWrap_eq]; exact ⟨_, by simp [binOp, Op.intArith], .int _ _⟩
  case sub => obtain rfl := Option.some.inj h; rw [eWrap_eq]; exact ⟨_, by simp [binOp, Op.intArith]; rfl, .int _ _⟩
  case mul => obtain rfl := Option.some.inj h; rw [eWrap_eq]; exact ⟨_, by simp [binOp, Op.intArith], .int _ _⟩
  case quo =>
    cases hz : eIntEq b 0 with
    | true => rw [hz] at h; cases h
    | false =>
      rw [hz] at h
      obtain rfl := Option.some.inj h
      rw [eIntEq_eq] at hz
      have hz : b ≠ 0 := by simpa using hz
      rw [eWrap_eq]
      exact ⟨_, by simp [binOp, Op.intDiv, hz], .int _ _⟩
  case rem =>
    cases hz : eIntEq b 0 with
    | true => rw [hz] at h; cases h
    | false =>
      rw [hz] at h
      obtain rfl := Option.some.inj h
      rw [eIntEq_eq] at hz
      have hz : b ≠ 0 := by simpa using hz
      exact ⟨_, by simp [binOp, Op.intDiv, hz], .int _ _⟩
  case and => obtain rfl := Option.some.inj h; exact ⟨_, by simp [binOp, Op.intBits], bits Nat.land (· &&& ·) fun x y => BitVec.toNat_and x y⟩
  case or => obtain rfl := Option.some.inj h; exact ⟨_, by simp [binOp, Op.intBits], bits Nat.lor (· ||| ·) fun x y => BitVec.toNat_or x y⟩
  case xor => obtain rfl := Option.some.inj h; exact ⟨_, by simp [binOp, Op.intBits], bits Nat.xor (· ^^^ ·) fun x y => BitVec.toNat_xor x y⟩
  case eql => obtain rfl := Option.some.inj h; rw [eIntEq_eq]; exact ⟨_, by simp [binOp, Op.intCmp], .bool _⟩
  case neq => obtain rfl := Option.some.inj h; rw [eIntEq_eq]; exact ⟨_, by simp [binOp, Op.intCmp]; rfl, .bool _⟩
  case lss => obtain rfl := Option.some.inj h; rw [eIntLt_eq]; exact ⟨_, by simp [binOp, Op.intCmp], .bool _⟩
  case leq => obtain rfl := Option.some.inj h; rw [eIntLe_eq]; exact ⟨_, by simp [binOp, Op.intCmp], .bool _⟩
  case gtr => obtain rfl := Option.some.inj h; rw [eIntLt_eq]; exact ⟨_, by simp [binOp, Op.intCmp], .bool _⟩
  case geq => obtain rfl := Option.some.inj h; rw [eIntLe_eq]; exact ⟨_, by simp [binOp, Op.intCmp], .bool _⟩
theorem eShift_run {op : BinOp} {k k' : IntKind} {a b : Int} {z : EV} (h : eShift op k a b = some z) (t : TypeId) (w : World) : ∃ c, (binOp op t (.int k a) (.int k' b)).run P w = .ok c w ∧ VR β z c := by
  cases b with
  | negSucc n => cases h
  | ofNat n =>
    have hn : ¬ ((n : Int) < 0) := by omega
    have hm : ∀ x : Int, Int.mul a (Int.ofNat (Nat.pow 2 (Nat.min n k.bits))) = a * 2 ^ (min n k.bits) := fun _ => by
      show a * ((2 ^ (min n k.bits) : Nat) : Int) = _
      simp
    have hf : (Int.ofNat (Nat.pow 2 (Nat.min n k.bits))) = (2 : Int) ^ (min n k.bits) := by
      show ((2 ^ (min n k.bits) : Nat) : Int) = _
      simp
    cases op <;> simp only [eShift] at h <;> (try (cases h; done))
    · obtain rfl := Option.some.inj h
      rw [eWrap_eq, hm 0]
      exact ⟨_, by simp [binOp, Op.shift, hn], .int _ _⟩
    · obtain rfl := Option.some.inj h
      rw [hf]
      exact ⟨_, by simp [binOp, Op.shift, hn], .int _ _⟩
theorem guard_free {op : BinOp} {t : TypeId} {x y : Operand} {a b : Value} {w : World} (h : ∀ u v, ¬ (a = .agg u ∧ b = .agg v)) (hn : ¬ (a = .nilIface ∧ b = .nilIface)) : (eqGuard op t x y a b).run P w = .ok () w := by
  cases op <;> (first | rfl | (cases a <;> cases b <;> first | rfl | exact absurd ⟨rfl, rfl⟩ (h _ _) | exact absurd ⟨rfl, rfl⟩ hn))
theorem eqB_guard : ∀ (n d : Nat) (t : TypeId), n ≤ d → eqB P n t = true → P.eqGuardType d t = false
  | 0, _, _, _, h => by cases h
  | n + 1, d, t, hd, h => by
    obtain ⟨d, rfl⟩ : ∃ d', d = d' + 1 := ⟨d - 1, by omega⟩
    unfold eqB at h
    unfold Program.eqGuardType
    simp only [Bool.and_eq_true] at h
    obtain ⟨_, h⟩ := h
    cases hu : P.underlying t with
    | none => rfl
    | some dd =>
      rw [hu] at h
      cases dd with
      | struct fs =>
        simp only [Bool.and_eq_true, List.all_eq_true] at h
        simp only
        rw [← Bool.not_eq_true]
        intro e
        rw [Array.any_eq_true'] at e
        obtain ⟨f, hf, e⟩ := e
        have := h.2 f (by simpa using hf)
        simp only [Bool.and_eq_true] at e this
        rw [eqB_guard n d f.type (by omega) this.2] at e
        cases e.2
      | array m e => exact eqB_guard n d e (by omega) h
      | _ => first | rfl | cases h
theorem eFits_run : ∀ {fl : List Leaf} {xs : List EV} {vs : List Value}, VRs β xs vs → eFits fl xs = true → Fits fl vs
  | [], [], _, .nil, _ => rfl
  | [], _ :: _, _, _, h => by cases h
  | _ :: _, [], _, _, h => by cases h
  | l :: fl, x :: xs, _, .cons a t, h => by
    rename_i v vs
    cases l with
    | int k =>
      cases a with
      | int k' n =>
        have h2 : (match k == k' && eIntEq (eWrap k n) n with | true => eFits fl xs | false => false) = true := h
        clear h
        cases hk : k == k' && eIntEq (eWrap k n) n with
        | false => rw [hk] at h2; cases h2
        | true =>
          rw [hk] at h2
          simp only [Bool.and_eq_true, beq_iff_eq] at hk
          obtain ⟨rfl, hk⟩ := hk
          rw [eIntEq_eq, beq_iff_eq, eWrap_eq] at hk
          exact ⟨_, _, rfl, ⟨n, rfl, by rw [← hk]; exact wf_wrap k n⟩, eFits_run t h2⟩
      | sint hs hw =>
        rename_i k' e z
        have h2 : (match k == k' with | true => eFits fl xs | false => false) = true := h
        clear h
        cases hk : k == k' with
        | false => rw [hk] at h2; cases h2
        | true =>
          rw [hk] at h2
          rw [beq_iff_eq] at hk
          subst hk
          exact ⟨_, _, rfl, ⟨z, rfl, by rw [← hw]; exact wf_wrap k z⟩, eFits_run t h2⟩
      | _ => cases h
    | bool =>
      cases a with
      | bool b => exact ⟨_, _, rfl, ⟨b, rfl⟩, eFits_run t h⟩
      | _ => cases h
    | str =>
      cases a with
      | str hs =>
        rename_i l s
        have h : (match Nat.ble l.length 1000000000 with | true => eFits fl xs | false => false) = true := h
        cases hk : Nat.ble l.length 1000000000 with
        | false => rw [hk] at h; cases h
        | true =>
          rw [hk] at h
          have hk := Nat.le_of_ble_eq_true hk
          refine ⟨_, _, rfl, ⟨s, rfl, ?_⟩, eFits_run t h⟩
          have : s.size = l.length := by rw [← hs]; simp
          rw [this]
          exact Nat.le_trans hk (by decide)
      | sstr hs =>
        rename_i l s
        have h : (match Nat.ble (sLen l) 1000000000 with | true => eFits fl xs | false => false) = true := h
        cases hk : Nat.ble (sLen l) 1000000000 with
        | false => rw [hk] at h; cases h
        | true =>
          rw [hk] at h
          have hk := Nat.le_of_ble_eq_true hk
          refine ⟨_, _, rfl, ⟨s, rfl, ?_⟩, eFits_run t h⟩
          have : s.size = sLen l := by rw [hs.len]; simp
          rw [this]
          exact Nat.le_trans hk (by decide)
      | _ => cases h
end
end Go.Proofs.YtjckpgcmfieaoaaGreatDoor
