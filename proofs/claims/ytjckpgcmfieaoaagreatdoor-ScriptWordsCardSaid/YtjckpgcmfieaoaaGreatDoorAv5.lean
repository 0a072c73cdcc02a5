/-
  The evaluator's operations that make a block.
-/
import Derived.Test.YtjckpgcmfieaoaaGreatDoorAv4
namespace Go.Proofs.YtjckpgcmfieaoaaGreatDoor
open Go.RowKit

section
variable {P : Program}
theorem eScal_VR (β : EMp) (v : Value) : VR β (eScal v) v := by
  unfold eScal
  split
  · exact .bool _
  · exact .int _ _
  · exact .str rfl
  · exact .pnil
  · exact .snil
  · exact .mnil
  · exact .nilF
  · exact .nilI
  · exact .bot _
theorem eScals_VR (β : EMp) : ∀ (l : List Value), VRs β (l.map eScal) l
  | [] => .nil
  | v :: l => .cons (eScal_VR β v) (eScals_VR β l)
theorem eVal_VR (β : EMp) (v : Value) : VR β (eVal v) v := by
  unfold eVal
  split
  · exact .agg (eScals_VR β _)
  · exact .tup (eScals_VR β _)
  · exact eScal_VR β _
theorem eZero_run {t : TypeId} {z : EV} (h : eZero P t = z) (hz : z ≠ .bot) (β : EMp) (w : World) : ∃ v, (zeroValue t).run P w = .ok v w ∧ VR β z v := by
  unfold eZero at h
  cases hi : eInfo P t with
  | none => rw [hi] at h; exact absurd h.symm hz
  | some i =>
    rw [hi] at h
    simp only at h
    cases hv : i.zero with
    | none => rw [hv] at h; exact absurd h.symm hz
    | some v =>
      rw [hv] at h
      refine ⟨v, by simp [zeroValue, (eInfo_run hi w).1, hv], ?_⟩
      rw [← h]
      exact eVal_VR β v

/-- What makes a block: the block, and what tells where it is. -/
structure FreshOk (w0 : World) (β : EMp) (k : EBlk) (f : Nat → EV) (w : World) (v : Value) (w' : World) (l : ELoc) : Prop where
  up : Upd (fun _ => False) w w'
  new : w.heap.size ≤ l.c
  ok : ∀ β' b, β.le β' → β' b = some l → VR β' (f b) v ∧ BR w0 β' k l w'
section
variable {w0 : World} {β : EMp} {s s' : ESt} {w w' : World}
theorem blk_inv {k : EBlk} {f : Nat → EV} {x : EV} (h : s.blk k f = .v x s') : s.heap.get s.next = none ∧ x = f s.next ∧ s' = .mk (s.heap.set s.next k) (s.next + 1) := by
  unfold ESt.blk at h
  rw [ESt.eta s] at h
  simp only at h
  cases hg : s.heap.get s.next with
  | none =>
    rw [hg] at h
    injection h with e1 e2
    exact ⟨rfl, e1.symm, e2.symm⟩
  | some _ => rw [hg] at h; cases h
theorem HR.fresh (h : HR w0 β s w) {k : EBlk} {f : Nat → EV} {x : EV} {v : Value} {l : ELoc} (hb : s.blk k f = .v x s') (hf : FreshOk w0 β k f w v w' l) :
    ∃ β', VR β' x v ∧ HR w0 β' s' w' ∧ Ext β s β' s' := by
  obtain ⟨-, rfl, rfl⟩ := blk_inv hb
  have hn := h.none_next
  obtain ⟨g1, g2⟩ := hf.ok (β.put s.next l) s.next (β.put_le l hn) (β.put_at _ _)
  exact ⟨β.put s.next l, g1, (h.num k).come hn (Nat.lt_succ_self _) (ETr.get_set _ _ _) hf.up hf.new g2, Ext.num k l hn⟩
/-- The same, where the number has its block already. -/
theorem HR.freshD (h : HR w0 β s w) {b : Nat} {k : EBlk} {f : Nat → EV} {v : Value} {l : ELoc} (hb : β b = none) (hlt : b < s.next) (hk : s.heap.get b = some k) (hf : FreshOk w0 β k f w v w' l) :
    VR (β.put b l) (f b) v ∧ HR w0 (β.put b l) s w' := by
  obtain ⟨g1, g2⟩ := hf.ok (β.put b l) b (β.put_le l hb) (β.put_at _ _)
  exact ⟨g1, h.come hb hlt hk hf.up hf.new g2⟩
theorem CR.of {n : Nat} {l : List EV} {vs : List Value} {a : Array Value} (h : VRs β l vs) (hn : l.length = n) (ha : ∀ (i : Nat) v, vs[i]? = some v → a[i]? = some v) : CR β n (eRow l 0 .e) 0 a := fun i hi => by
  rw [eRow_get, if_pos (by omega), Nat.sub_zero, Nat.zero_add]
  obtain ⟨v, g1, g2⟩ := h.get (List.getElem?_eq_getElem (show i < l.length by omega))
  exact ⟨_, v, List.getElem?_eq_getElem _, ha i v g1, g2⟩
/-- A row. -/
theorem rowOk (hw : w0.heap.size ≤ w.heap.size) {l : List EV} {vs : List Value} (h : VRs β l vs) (ex : List Value) (T : TypeId) {f : Nat → EV} {v : Value}
    (hv : ∀ β' b, β.le β' → β' b = some ⟨w.heap.size, 0, vs.length + ex.length⟩ → VR β' (f b) v) :
    FreshOk w0 β (.row l.length (eRow l 0 .e)) f w v (w.alloc (.cells (vs ++ ex).toArray T)) ⟨w.heap.size, 0, vs.length + ex.length⟩ :=
  ⟨(Upd.refl _ _).alloc _, Nat.le_refl _, fun β' b hle hb => ⟨hv β' b hle hb, hw, _, T, (0, 0), blk_alloc _ _, by simp, by rw [h.len]; exact (by omega : 0 + vs.length ≤ vs.length + ex.length), fun i _ => by simp,
    CR.of (h.mono hle) rfl fun i v hi => by
      rw [List.getElem?_toArray, List.getElem?_append_left (List.getElem?_eq_some_iff.1 hi).1]; exact hi⟩⟩
theorem alloc_run {t : TypeId} {z : EV} (hz : eZero P t = z) (hb : z ≠ .bot) (hw : w0.heap.size ≤ w.heap.size) :
    ∃ v w' l, (Instr.alloc t true (.tuple #[])).run P w = .ok v w' ∧ FreshOk w0 β (.row z.cells.length (eRow z.cells 0 .e)) (fun b => .ptr (some (b, 0))) w v w' l := by
  obtain ⟨zv, h1, h2⟩ := eZero_run hz hb β w
  have hc := h2.cells hb
  have := rowOk (w0 := w0) (w := w) hw hc [] t (f := fun b => .ptr (some (b, 0))) (v := .pointer (some ⟨w.heap.size, 0, none⟩)) fun β' b _ e => by
    have := VR.ptr (β := β') (o := 0) e
    simpa using this
  rw [List.append_nil] at this
  exact ⟨_, _, _, by simp [Instr.alloc, h1, newVar, newRow], this⟩
theorem box_run {t : TypeId} {x : EV} {u : Value} (hx : VR β x u) (hb : x ≠ .bot) (hw : w0.heap.size ≤ w.heap.size) :
    ∃ v w' l, (Instr.box t u).run P w = .ok v w' ∧ FreshOk w0 β (.row x.cells.length (eRow x.cells 0 .e)) (fun b => .ptr (some (b, 0))) w v w' l := by
  have hc := hx.cells hb
  have := rowOk (w0 := w0) (w := w) hw hc [] t (f := fun b => .ptr (some (b, 0))) (v := .pointer (some ⟨w.heap.size, 0, none⟩)) fun β' b _ e => by
    have := VR.ptr (β := β') (o := 0) e
    simpa using this
  rw [List.append_nil] at this
  exact ⟨_, _, _, by simp [Instr.box, newVar, newRow], this⟩
theorem eLay_VRs : ∀ {cs ds : List EV} {us vs : List Value}, VRs β cs us → VRs β ds vs → ∀ (i : Nat), i + ds.length ≤ cs.length → VRs β (eLay cs ds i) ((us.take i) ++ vs ++ us.drop (i + vs.length))
  | _, _, _, _, .nil, hd, i, h => by
    cases hd with
    | nil => simpa [eLay] using VRs.nil
    | cons a t => simp at h
  | _, _, _, _, .cons a t, hd, i, h => by
    cases hd with
    | nil => 
      have e : ∀ (us : List Value), us.take i ++ [] ++ us.drop (i + 0) = us := fun us => by simp
      rename_i us x u cs
      rw [List.length_nil, e]
      exact .cons a t
    | cons b u =>
      cases i with
      | zero =>
        have := eLay_VRs t u 0 (by simp at h ⊢; omega)
        have e : ∀ (v : Value) (vs us : List Value) (x : Value), List.take 0 (x :: us) ++ (v :: vs) ++ (x :: us).drop (0 + (v :: vs).length) = v :: (us.take 0 ++ vs ++ us.drop (0 + vs.length)) := fun v vs us x => by simp
        rw [e]
        exact .cons b this
      | succ i =>
        have := eLay_VRs t (.cons b u) i (by simp at h ⊢; omega)
        have e : ∀ (vs us : List Value) (x : Value), List.take (i + 1) (x :: us) ++ vs ++ (x :: us).drop (i + 1 + vs.length) = x :: (us.take i ++ vs ++ us.drop (i + vs.length)) := fun vs us x => by simp [Nat.succ_add]
        rw [e]
        exact .cons a this
theorem zip_set : ∀ (vs : List Value) (a : Array Value) (o j : Nat), o + j + vs.length ≤ a.size → ((vs.zipIdx j).foldl (fun cs (p : Value × Nat) => cs.setIfInBounds (o + p.2) p.1) a).toList = a.toList.take (o + j) ++ vs ++ a.toList.drop (o + j + vs.length)
  | [], a, o, j, _ => by simp
  | v :: vs, a, o, j, h => by
    simp only [List.length_cons] at h
    rw [List.zipIdx_cons, List.foldl_cons, zip_set vs _ o (j + 1) (by simp; omega)]
    simp only [Array.toList_setIfInBounds, List.length_cons]
    rw [List.take_set, List.drop_set_of_lt (by omega), show o + (j + 1) = o + j + 1 by omega, List.take_succ_eq_append_getElem (by simp; omega), List.set_append_right _ _ (by simp; omega)]
    simp
    rw [Nat.min_eq_left (by omega)]
    simp
    congr 1
    omega
theorem eFill_cons (place : Nat → Option (Nat × Nat)) (i : Nat) (x : EV) (ps : List (Nat × EV)) (cs : List EV) : eFill place ((i, x) :: ps) cs = match place i with
      | some (off, sz) => (match x with
        | .bot => none
        | x => match Nat.beq x.cells.length sz with
          | true => match Nat.ble (off + sz) cs.length with
            | true => eFill place ps (eLay cs x.cells off)
            | false => none
          | false => none)
      | none => none := rfl
theorem eFill_cons2 (place : Nat → Option (Nat × Nat)) (i : Nat) (x : EV) (ps : List (Nat × EV)) (cs : List EV) {off sz : Nat} (hp : place i = some (off, sz)) (hx : x ≠ .bot) : eFill place ((i, x) :: ps) cs = match Nat.beq x.cells.length sz with
          | true => match Nat.ble (off + sz) cs.length with
            | true => eFill place ps (eLay cs x.cells off)
            | false => none
          | false => none := by
  rw [eFill_cons, hp]
  cases x <;> first | exact absurd rfl hx | rfl
/-- A row of parts laid over cells. -/
theorem eFill_run {place : Nat → Option (Nat × Nat)} {place' : Nat → Option (Nat × Nat)} (hp : ∀ i p, place i = some p → place' i = some p) :
    ∀ {ps : List (Nat × EV)} {qs : List (Nat × Value)} {cs : List EV} {a : Array Value} {r : List EV}, ps.length = qs.length → (∀ (i : Nat) p q, ps[i]? = some p → qs[i]? = some q → p.1 = q.1 ∧ VR β p.2 q.2) → VRs β cs a.toList → eFill place ps cs = some r →
      ∃ b, Instr.fill place' a qs = some b ∧ VRs β r b.toList ∧ r.length = cs.length
  | [], [], cs, a, r, _, _, hc, h => by
    obtain rfl := Option.some.inj (show some cs = some r from h)
    exact ⟨a, rfl, hc, rfl⟩
  | [], _ :: _, _, _, _, h, _, _, _ => by simp at h
  | _ :: _, [], _, _, _, h, _, _, _ => by simp at h
  | (i, x) :: ps, (i', v) :: qs, cs, a, r, hl, hv, hc, h => by
    obtain ⟨hi, hxv⟩ := hv 0 _ _ rfl rfl
    simp only at hi hxv
    subst hi
    rw [eFill_cons] at h
    cases hpl : place i with
    | none => rw [hpl] at h; cases h
    | some p =>
      obtain ⟨off, sz⟩ := p
      have hx : x ≠ .bot := fun e => by subst e; rw [hpl] at h; cases h
      rw [← eFill_cons, eFill_cons2 place i x ps cs hpl hx] at h
      cases h1 : Nat.beq x.cells.length sz with
      | false => rw [h1] at h; cases h
      | true =>
        rw [h1] at h
        simp only at h
        cases h2 : Nat.ble (off + sz) cs.length with
        | false => rw [h2] at h; cases h
        | true =>
          rw [h2] at h
          simp only at h
          have h1 := Nat.eq_of_beq_eq_true h1
          have h2 := Nat.le_of_ble_eq_true h2
          have hcl := hxv.cells hx
          have hlen := hcl.len
          have hcs := hc.len
          simp only [Array.length_toList] at hlen hcs
          have hz := zip_set v.cells.toList a off 0 (by rw [Array.length_toList]; omega)
          have hlay := eLay_VRs hc hcl off (by omega)
          rw [Nat.add_zero] at hz
          have hlaylen : (eLay cs x.cells off).length = cs.length := by rw [hlay.len]; simp; omega
          rw [← hz] at hlay
          obtain ⟨b, g1, g2, g3⟩ := eFill_run hp (ps := ps) (qs := qs) (by simpa using hl) (fun i p q hp hq => hv (i + 1) p q hp hq) hlay h
          refine ⟨b, ?_, g2, g3.trans hlaylen⟩
          rw [Instr.fill, hp i _ hpl]
          simp only
          rw [if_neg (by simp; omega), ← g1]
          congr 1
          rw [← Array.foldl_toList]
          congr 1
          simp
end
end
end Go.Proofs.YtjckpgcmfieaoaaGreatDoor
