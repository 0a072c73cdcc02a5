/-
  The evaluator's loads, stores, new blocks.
-/
import Derived.Test.YtjckpgcmfieaoaaGreatDoorMae
import Derived.Laws.IdiomCopy
import Derived.ChangeKeysEq
set_option linter.unusedVariables false
set_option linter.unusedSimpArgs false
namespace Go.Proofs.YtjckpgcmfieaoaaGreatDoor
open Go.RowKit

section
variable {P : Program}
theorem eInfo_eq {t : TypeId} {i : TypeInfo} (h : eInfo P t = some i) : P.info? t = some i := by
  unfold eInfo at h
  rw [eNth_eq] at h
  have hlt := (List.getElem?_eq_some_iff.1 h).1
  simp only [Array.length_toList] at hlt
  rw [Array.getElem?_toList] at h
  simp only [Tables.info?, hlt, if_true]
  exact h
theorem eDesc_eq {t : TypeId} {d : TypeDesc} (h : eDesc P t = some d) : P.underlying t = some d := by
  unfold eDesc at h
  unfold Program.underlying
  cases hi : eInfo P t with
  | none => rw [hi] at h; cases h
  | some i =>
    rw [hi] at h
    rw [eInfo_eq hi]
    obtain ⟨desc, _, _, _, _, _, _, _, _, _⟩ := i
    cases desc with
    | named n u =>
      simp only at h ⊢
      cases hu : eInfo P u with
      | none => rw [hu] at h; cases h
      | some j => rw [hu] at h; rw [eInfo_eq hu]; exact h
    | _ => exact h
theorem eInfo_run {t : TypeId} {i : TypeInfo} (h : eInfo P t = some i) (w : World) : (typeInfo t).run P w = .ok i w ∧ (sizeOf t).run P w = .ok i.size w := by
  have := Go.run_typeInfo w (eInfo_eq h)
  exact ⟨this, by simp [sizeOf, this]⟩
theorem eDesc_info {t : TypeId} {d : TypeDesc} (h : eDesc P t = some d) : ∃ i, eInfo P t = some i := by
  unfold eDesc at h
  cases hi : eInfo P t with
  | none => rw [hi] at h; cases h
  | some i => exact ⟨i, rfl⟩
theorem eSize_run {t : TypeId} {d : TypeDesc} (h : eDesc P t = some d) (w : World) : (sizeOf t).run P w = .ok (eSize P t) w := by
  obtain ⟨i, hi⟩ := eDesc_info h
  rw [(eInfo_run hi w).2]
  unfold eSize
  rw [hi]
theorem eAgg_agg {t : TypeId} {k : Nat} (h : eAgg P t = .agg k) (w : World) : (isAgg t).run P w = .ok true w ∧ (sizeOf t).run P w = .ok k w := by
  unfold eAgg at h
  cases hd : eDesc P t with
  | none => rw [hd] at h; cases h
  | some d =>
    rw [hd] at h
    have hs := eSize_run hd w
    have hu := run_underlying (eDesc_eq hd) w
    cases d <;> (first | cases h | skip) <;> exact ⟨by simp [isAgg, hu], hs⟩
theorem eAgg_one {t : TypeId} (h : eAgg P t = .one) (w : World) : (isAgg t).run P w = .ok false w := by
  unfold eAgg at h
  cases hd : eDesc P t with
  | none => rw [hd] at h; cases h
  | some d =>
    rw [hd] at h
    have hu := run_underlying (eDesc_eq hd) w
    cases d <;> (first | cases h | skip) <;> simp [isAgg, hu]
theorem addr_add (b o i : Nat) : (⟨b, o, none⟩ : Addr).add i = ⟨b, o + i, none⟩ := by
  unfold Addr.add
  split
  · rename_i h; rw [h]; rfl
  · rfl

section
variable {w0 : World} {β : EMp} {s : ESt} {w : World}
/-- The cells of a block that may be read. -/
theorem HR.cells (h : HR w0 β s w) {b : Nat} {l : ELoc} {n : Nat} {c : ETr EV} (hb : β b = some l) (hc : s.cells b = some (n, c)) : ∃ a T fz, w.heap[l.c]? = some (.cells a T fz) ∧ a.size = l.m ∧ l.sh + n ≤ l.m ∧ CR β n c l.sh a := by
  unfold ESt.cells at hc
  rw [ESt.eta s] at hc
  simp only at hc
  cases hk : s.heap.get b with
  | none => rw [hk] at hc; cases hc
  | some k =>
    rw [hk] at hc
    have hB := h.blk b l k hb hk
    cases k with
    | row n' c' =>
      simp only [Option.some.injEq, Prod.mk.injEq] at hc
      obtain ⟨rfl, rfl⟩ := hc
      obtain ⟨_, a, T, fz, h1, h2, h3, _, h5⟩ := hB
      exact ⟨a, T, fz, h1, h2, h3, h5⟩
    | tab n' c' =>
      simp only [Option.some.injEq, Prod.mk.injEq] at hc
      obtain ⟨rfl, rfl⟩ := hc
      obtain ⟨_, a, T, fz, h1, h2, h3, h5⟩ := hB
      exact ⟨a, T, fz, h1, h2, h3, h5⟩
    | _ => cases hc
theorem HR.loadN (h : HR w0 β s w) {b o k : Nat} {l : ELoc} {cs : List EV} (hb : β b = some l) (hl : s.loadN b o k = some cs) :
    ∃ vs : List Value, vs.length = k ∧ VRs β cs vs ∧ ∀ j u, vs[j]? = some u → w.cell? ⟨l.c, l.sh + o + j, none⟩ = some u := by
  unfold ESt.loadN at hl
  cases hc : s.cells b with
  | none => rw [hc] at hl; cases hl
  | some p =>
    obtain ⟨n, c⟩ := p
    rw [hc] at hl
    simp only at hl
    cases hn : Nat.ble (o + k) n with
    | false => rw [hn] at hl; cases hl
    | true =>
      rw [hn] at hl
      have hn := Nat.le_of_ble_eq_true hn
      obtain ⟨e1, e2⟩ := eTake_get hl
      obtain ⟨a, T, fz, h1, h2, h3, h4⟩ := h.cells hb hc
      have hat : ∀ j, j < k → ∃ x v, cs[j]? = some x ∧ a[l.sh + o + j]? = some v ∧ VR β x v := fun j hj => by
        obtain ⟨x, v, g1, g2, g3⟩ := h4 (o + j) (by omega)
        exact ⟨x, v, (e2 j hj).symm.trans g1, by rw [show l.sh + o + j = l.sh + (o + j) by omega]; exact g2, g3⟩
      refine ⟨(List.range k).map fun j => (a[l.sh + o + j]?).getD undef, by simp, VRs.of_get (by simp [e1]) fun i x v hx hv => ?_, fun j u hu => ?_⟩
      · have hi : i < k := by rw [← e1]; exact (List.getElem?_eq_some_iff.1 hx).1
        obtain ⟨x', v', g1, g2, g3⟩ := hat i hi
        rw [hx] at g1
        obtain rfl := Option.some.inj g1
        simp [hi, g2] at hv
        rw [← hv]
        exact g3
      · by_cases hj : j < k
        · obtain ⟨x', v', g1, g2, g3⟩ := hat j hj
          simp [hj, g2] at hu
          rw [blk_cell h1, g2, hu]
        · rw [List.getElem?_eq_none (by simp; omega)] at hu
          cases hu
theorem HR.load1 (h : HR w0 β s w) {b o : Nat} {l : ELoc} {x : EV} (hb : β b = some l) (hl : s.load1 b o = some x) : ∃ v, VR β x v ∧ w.cell? ⟨l.c, l.sh + o, none⟩ = some v := by
  unfold ESt.load1 at hl
  cases hc : s.cells b with
  | none => rw [hc] at hl; cases hl
  | some p =>
    obtain ⟨n, c⟩ := p
    rw [hc] at hl
    simp only at hl
    cases hn : Nat.ble (Nat.succ o) n with
    | false => rw [hn] at hl; cases hl
    | true =>
      rw [hn] at hl
      have hn := Nat.le_of_ble_eq_true hn
      obtain ⟨a, T, fz, h1, h2, h3, h4⟩ := h.cells hb hc
      obtain ⟨y, v, g1, g2, g3⟩ := h4 o hn
      rw [g1] at hl
      obtain rfl := Option.some.inj hl
      exact ⟨v, g3, by rw [blk_cell h1, g2]⟩
theorem run_loadCells_at {a : Addr} {vs : List Value} {k : Nat} (hk : vs.length = k) (h : ∀ j u, vs[j]? = some u → w.cell? (a.add j) = some u) : (loadCells a k).run P w = .ok vs.toArray w := by
  subst hk
  exact run_loadCells_list w a vs h
/-- A load. -/
theorem eLd_run {t : TypeId} (h : HR w0 β s w) {y x : EV} {s' : ESt} {v : Value} (hv : VR β y v) (hl : eLd (eAgg P t) s y = .v x s') : s' = s ∧ ∃ u, VR β x u ∧ (Instr.loadAt t v).run P w = .ok u w ∧ ∃ a, v = .pointer (some a) ∧ (loadVar t a).run P w = .ok u w := by
  cases hv with
  | ptr hb =>
    rename_i b o l
    cases ha : eAgg P t with
    | no => rw [ha] at hl; cases hl
    | agg k =>
      rw [ha] at hl
      have hl : (match s.loadN b o k with | some l => EO.v (.agg l) s | none => .er) = .v x s' := hl
      cases hc : s.loadN b o k with
      | none => rw [hc] at hl; cases hl
      | some cs =>
        rw [hc] at hl
        injection hl with e1 e2
        subst e1 e2
        obtain ⟨vs, g1, g2, g3⟩ := h.loadN hb hc
        obtain ⟨k1, k2⟩ := eAgg_agg ha w
        have hlc : (loadCells ⟨l.c, l.sh + o, none⟩ k).run P w = .ok vs.toArray w := run_loadCells_at g1 fun j u hu => by rw [addr_add]; exact g3 j u hu
        have hlv : (loadVar t ⟨l.c, l.sh + o, none⟩).run P w = .ok (.agg vs.toArray) w := by
          unfold loadVar
          simp [k1, k2, hlc]
        exact ⟨rfl, .agg vs.toArray, .agg (by simpa using g2), by simp [Instr.loadAt, Instr.sureAddr, hlv], _, rfl, hlv⟩
    | one =>
      rw [ha] at hl
      have hl : (match s.load1 b o with | some x => EO.v x s | none => .er) = .v x s' := hl
      cases hc : s.load1 b o with
      | none => rw [hc] at hl; cases hl
      | some y =>
        rw [hc] at hl
        injection hl with e1 e2
        subst e1 e2
        obtain ⟨u, g1, g2⟩ := h.load1 hb hc
        have k1 := eAgg_one ha w
        have hlv : (loadVar t ⟨l.c, l.sh + o, none⟩).run P w = .ok u w := by
          unfold loadVar
          simp [k1, g2]
        exact ⟨rfl, u, g1, by simp [Instr.loadAt, Instr.sureAddr, hlv], _, rfl, hlv⟩
  | bot v => cases hl
  | pnil => cases hl
  | _ => cases hl

/-- Values laid over an array. -/
def layA (a : Array Value) (o : Nat) : List Value → Array Value
  | [] => a
  | v :: r => layA (a.setIfInBounds o v) (o + 1) r
theorem layA_size : ∀ (vs : List Value) (a : Array Value) (o : Nat), (layA a o vs).size = a.size
  | [], _, _ => rfl
  | v :: r, a, o => by rw [layA, layA_size r]; simp
theorem layA_get : ∀ (vs : List Value) (a : Array Value) (o j : Nat), o + vs.length ≤ a.size → (layA a o vs)[j]? = if o ≤ j ∧ j < o + vs.length then vs[j - o]? else a[j]?
  | [], a, o, j, _ => by rw [if_neg (by simp only [List.length_nil]; omega)]; rfl
  | v :: r, a, o, j, h => by
    simp only [List.length_cons] at h
    rw [layA, layA_get r _ (o + 1) j (by simp; omega)]
    simp only [List.length_cons]
    by_cases h1 : o = j
    · subst h1
      rw [if_neg (by omega), if_pos (by omega), Nat.sub_self, Array.getElem?_setIfInBounds_self_of_lt (by omega)]
      rfl
    · rw [Array.getElem?_setIfInBounds_ne h1]
      by_cases h2 : o + 1 ≤ j ∧ j < o + 1 + r.length
      · rw [if_pos h2, if_pos (by omega)]
        obtain ⟨k, hk⟩ : ∃ k, j - o = k + 1 := ⟨j - o - 1, by omega⟩
        rw [hk, show j - (o + 1) = k by omega]
        rfl
      · rw [if_neg h2, if_neg (by omega)]
theorem eblk_setCells : ∀ (vs : List Value) (b o : Nat) (w : World) (a : Array Value) (T : TypeId) (fz : Nat × Nat), w.heap[b]? = some (.cells a T fz) → (w.setCells b o vs).heap[b]? = some (.cells (layA a o vs) T fz)
  | [], _, _, _, _, _, _, h => h
  | v :: r, b, o, w, a, T, fz, h => by
    rw [World.setCells, layA]
    refine eblk_setCells r b (o + 1) _ _ T fz ?_
    have hlt := (Array.getElem?_eq_some_iff.1 h).1
    simp [World.setCell, Array.getElem?_modify, h]
theorem upd_setCells : ∀ (vs : List Value) (b o : Nat) (w : World), Upd (· = b) w (w.setCells b o vs)
  | [], _, _, w => Upd.refl _ w
  | v :: r, b, o, w => ((Upd.refl _ w).set1 o v).trans (upd_setCells r b (o + 1) _)
/-- A store of cells. -/
theorem HR.storeN (h : HR w0 β s w) {b o : Nat} {l : ELoc} {cs : List EV} {s' : ESt} {vs : List Value} (hb : β b = some l) (hs : s.storeN b o cs = some s') (hv : VRs β cs vs) :
    (storeCells ⟨l.c, l.sh + o, none⟩ vs).run P w = .ok () (w.setCells l.c (l.sh + o) vs) ∧ HR w0 β s' (w.setCells l.c (l.sh + o) vs) ∧ Ext β s β s' := by
  unfold ESt.storeN at hs
  rw [ESt.eta s] at hs
  simp only at hs
  cases hk : s.heap.get b with
  | none => rw [hk] at hs; cases hs
  | some k =>
    rw [hk] at hs
    cases k with
    | row n c =>
      simp only at hs
      cases hn : Nat.ble (o + cs.length) n with
      | false => rw [hn] at hs; cases hs
      | true =>
        rw [hn] at hs
        cases ha : eAll cs with
        | false => rw [ha] at hs; cases hs
        | true =>
          rw [ha] at hs
          obtain rfl := Option.some.inj hs
          have hn := Nat.le_of_ble_eq_true hn
          have hlen := hv.len
          obtain ⟨h0, a, T, fz, h1, h2, h3, h4, h5⟩ := h.blk b l _ hb hk
          have hin : ∀ j, j < vs.length → l.sh + o + j < a.size := fun j hj => by omega
          have hrun : (storeCells ⟨l.c, l.sh + o, none⟩ vs).run P w = .ok () (w.setCells l.c (l.sh + o + 0) vs) := run_storeCells_cells l.c (l.sh + o) vs 0 w (fun j hj => by
              have := hin j hj
              rw [blk_cell h1]; simp [this]) (fun j hj => by
              have := hin j hj
              have hf := h4.1 (l.sh + o + j) (by omega)
              simp only [World.frozen?, h1]
              simp only [Nat.add_zero]
              simpa using hf) (hv.one ha)
          have hlay := eblk_setCells vs l.c (l.sh + o) w a T fz h1
          refine ⟨hrun, h.upd1 hb hk trivial trivial (upd_setCells _ _ _ _) ⟨h0, _, T, fz, hlay, (layA_size _ _ _).trans h2, h3, ⟨h4.1, fun t v e => h4.2 t v (by rw [ePut_get, if_neg (by omega)] at e; exact e)⟩, fun i hi => ?_⟩, Ext.upd1 hb⟩
          rw [ePut_get, layA_get _ _ _ _ (by omega)]
          by_cases hio : o ≤ i ∧ i < o + cs.length
          · rw [if_pos hio, if_pos (by omega), show l.sh + i - (l.sh + o) = i - o by omega]
            have hlt : i - o < cs.length := by omega
            obtain ⟨v, g1, g2⟩ := hv.get (List.getElem?_eq_getElem hlt)
            exact ⟨_, v, List.getElem?_eq_getElem hlt, g1, g2⟩
          · rw [if_neg hio, if_neg (by omega)]
            exact h5 i hi
    | _ => cases hs
/-- A store. -/
theorem eSt_run {t : TypeId} {i : TypeInfo} (hi : eInfo P t = some i) (h : HR w0 β s w) {y x z : EV} {s' : ESt} {v u : Value} (hv : VR β y v) (hu : VR β x u) (hl : eSt i.size s y x = .v z s') : z = .bot ∧ ∃ w', (Instr.storeAt t v u).run P w = .ok () w' ∧ HR w0 β s' w' ∧ Ext β s β s' := by
  obtain ⟨hi1, hi2⟩ := eInfo_run hi w
  cases hv with
  | ptr hb =>
    rename_i b o l
    have key : ∀ cs : List EV, x ≠ .bot → x.cells = cs → cs.length = i.size → eSto (s.storeN b o cs) = .v z s' → z = .bot ∧ ∃ w', (Instr.storeAt t (.pointer (some ⟨l.c, l.sh + o, none⟩)) u).run P w = .ok () w' ∧ HR w0 β s' w' ∧ Ext β s β s' := by
      intro cs hx hcs hlen hst
      cases hs : s.storeN b o cs with
      | none => rw [hs] at hst; cases hst
      | some s2 =>
        rw [hs] at hst
        injection hst with e1 e2
        subst e1 e2
        have hc := hu.cells hx
        rw [hcs] at hc
        obtain ⟨r1, r2, r3⟩ := h.storeN (P := P) hb hs hc
        refine ⟨rfl, _, ?_, r2, r3⟩
        have hsz : u.cells.size = i.size := by rw [← hlen, hc.len, Array.length_toList]
        simp [Instr.storeAt, Instr.sureAddr, storeVar, hi2, hsz, r1]
    have two : ∀ (x : EV), (x ≠ .bot) → (x.cells = [x]) → (match Nat.beq 1 i.size with | true => eSto (s.storeN b o [x]) | false => .er) = EO.v z s' → [x].length = i.size ∧ eSto (s.storeN b o [x]) = .v z s' := by
      intro x _ _ hl
      cases h1 : Nat.beq 1 i.size with
      | false => rw [h1] at hl; cases hl
      | true => rw [h1] at hl; exact ⟨Nat.eq_of_beq_eq_true h1, hl⟩
    cases x with
    | agg cs =>
      have hl : (match Nat.beq cs.length i.size with | true => eSto (s.storeN b o cs) | false => .er) = EO.v z s' := hl
      cases h1 : Nat.beq cs.length i.size with
      | false => rw [h1] at hl; cases hl
      | true => rw [h1] at hl; exact key cs (fun e => by cases e) rfl (Nat.eq_of_beq_eq_true h1) hl
    | bot =>
      exfalso
      have hl : (match Nat.beq 1 i.size with | true => eSto (s.storeN b o [EV.bot]) | false => .er) = EO.v z s' := hl
      cases h1 : Nat.beq 1 i.size with
      | false => rw [h1] at hl; cases hl
      | true =>
        rw [h1] at hl
        have : s.storeN b o [EV.bot] = none := by
          unfold ESt.storeN
          rw [ESt.eta s]
          simp only
          cases s.heap.get b with
          | none => rfl
          | some k => cases k <;> first | rfl | (simp only; split <;> rfl)
        rw [this] at hl
        cases hl
    | _ => exact (two _ (fun e => by cases e) rfl hl).elim fun a b => key _ (fun e => by cases e) rfl a b
  | _ => cases hl
end
end
end Go.Proofs.YtjckpgcmfieaoaaGreatDoor
