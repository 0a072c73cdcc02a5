/-
  The evaluator's maps, lengths, ways through maps and texts, assertions.
-/
import Derived.Test.YtjckpgcmfieaoaaGreatDoorAvC
namespace Go.Proofs.YtjckpgcmfieaoaaGreatDoor
open Go.RowKit

section
variable {P : Program} {w0 : World} {β : EMp} {s s' : ESt} {w : World}
theorem HR.mapAt (h : HR w0 β s w) {x : EV} {v : Value} (hx : VR β x v) {r c : Nat} {es : List (EV × EV × Nat)} (hm : s.mapAt x = some (r, es, c)) :
    x = .map (some r) ∧ s.heap.get r = some (.map es c) ∧ ∃ l es', β r = some l ∧ v = .map (some l.c) ∧ w0.heap.size ≤ l.c ∧ w.heap[l.c]? = some (.map es' c) ∧ MR β es es'.toList := by
  unfold ESt.mapAt at hm
  cases hx with
  | map hb =>
    rename_i r' l
    rw [ESt.eta s] at hm
    simp only at hm
    cases hk : s.heap.get r' with
    | none => rw [hk] at hm; cases hm
    | some k =>
      rw [hk] at hm
      cases k with
      | map es2 c2 =>
        simp only [Option.some.injEq, Prod.mk.injEq] at hm
        obtain ⟨rfl, rfl, rfl⟩ := hm
        obtain ⟨h0, es', h1, h2⟩ := h.blk r' l _ hb hk
        exact ⟨rfl, hk, l, es', hb, rfl, h0, h1, h2⟩
      | _ => cases hm
  | _ => cases hm
theorem MR.len : ∀ {es : List (EV × EV × Nat)} {es' : List MapEntry}, MR β es es' → es.length = es'.length
  | _, _, .nil => rfl
  | _, _, .cons _ _ t => congrArg (· + 1) t.len
theorem MR.app : ∀ {es : List (EV × EV × Nat)} {es' : List MapEntry} {k v : EV} {k' v' : Value} {b : Nat}, MR β es es' → VR β k k' → VR β v v' → MR β (es ++ [(k, v, b)]) (es' ++ [⟨k', v', b⟩])
  | _, _, _, _, _, _, _, .nil, hk, hv => .cons hk hv .nil
  | _, _, _, _, _, _, _, .cons a b t, hk, hv => .cons a b (t.app hk hv)
theorem eFind_cons (d : TypeDesc) (fl : Option (List Leaf)) (k : EV) (e : EV × EV × Nat) (es : List (EV × EV × Nat)) : eFind d fl k (e :: es) = match eEq d fl k e.1 with
    | some true => some (some e.2)
    | some false => eFind d fl k es
    | none => none := rfl
theorem eRepV_cons (d : TypeDesc) (fl : Option (List Leaf)) (k v : EV) (e : EV × EV × Nat) (es : List (EV × EV × Nat)) : eRepV d fl k v (e :: es) = match eEq d fl k e.1 with
    | some true => (k, v, e.2.2) :: es
    | _ => e :: eRepV d fl k v es := rfl
/-- What two keys come to at once. -/
theorem sameNow_of {d : TypeDesc} {fl : Option (List Leaf)} (hk : eKeyOk d = true) {x y : EV} {a b : Value} {r : Bool} (h : eEq d fl x y = some r) (hx : VR β x a) (hy : VR β y b) : Instr.sameNow d a b = some r := by
  cases d with
  | int q =>
    cases hx with
    | int k1 n1 =>
      cases hy with
      | int k2 n2 =>
        have hi := eEqS_iff (β := β) (x := .int k1 n1) (y := .int k2 n2) h (.int k1 n1) (.int k2 n2)
        have hs : (match k1 == k2 with | true => some (eIntEq n1 n2) | false => none) = some r := h
        by_cases hq : k1 = k2
        · subst hq
          have : (k1 == k1) = true := by simp
          rw [this] at hs
          obtain rfl := Option.some.inj hs
          simp [Instr.sameNow, eIntEq_eq]
        · rw [beq_eq_false_iff_ne.2 hq] at hs
          cases hs
      | _ => cases h
    | _ => cases h
  | string =>
    cases hx with
    | str h1 =>
      cases hy with
      | str h2 =>
        obtain rfl := Option.some.inj h
        simp only [Instr.sameNow]
        rw [beq_toListBytes, strEq, h1, h2]
      | _ => cases h
    | _ => cases h
  | _ => cases hk
theorem eFind_run {d : TypeDesc} {fl : Option (List Leaf)} (hk : eKeyOk d = true) {k : EV} {k' : Value} (hkv : VR β k k') : ∀ {es : List (EV × EV × Nat)} {es' : List MapEntry} {r : Option (EV × Nat)}, eFind d fl k es = some r → MR β es es' → ∀ i,
    (r = none ∧ Instr.findNow d k' es' i = some none) ∨ ∃ e j v' q, r = some e ∧ Instr.findNow d k' es' i = some (some (i + j, v')) ∧ VR β e.1 v' ∧ es'[j]? = some q ∧ Instr.sameNow d k' q.key = some true ∧
      ∀ v u, VR β v u → MR β (eRepV d fl k v es) (es'.modify j fun e => { e with key := k', val := u })
  | [], _, r, h, .nil, i => by obtain rfl := Option.some.inj (show some none = some r from h); exact .inl ⟨rfl, rfl⟩
  | (x, y, b) :: es, _, r, h, .cons (k' := kx) (v' := vy) (es := es') hx hy t, i => by
    rw [eFind_cons] at h
    cases hq : eEq d fl k x with
    | none => rw [hq] at h; cases h
    | some q =>
      have hsn := sameNow_of hk hq hkv hx
      rw [hq] at h
      cases q with
      | true =>
        obtain rfl := Option.some.inj (show some (some (y, b)) = some r from h)
        refine .inr ⟨(y, b), 0, vy, ⟨kx, vy, b⟩, rfl, by simp [Instr.findNow, hsn], hy, rfl, hsn, fun v u hv => ?_⟩
        rw [eRepV_cons, hq]
        exact .cons hkv hv t
      | false =>
        simp only at h
        rcases eFind_run hk hkv h t (i + 1) with ⟨e1, e2⟩ | ⟨e, j, v', q, e1, e2, e3, e4, e5, e6⟩
        · exact .inl ⟨e1, by simp [Instr.findNow, hsn, e2]⟩
        · refine .inr ⟨e, j + 1, v', q, e1, by simp [Instr.findNow, hsn, e2]; omega, e3, e4, e5, fun v u hv => ?_⟩
          rw [eRepV_cons, hq]
          exact .cons hx hy (e6 v u hv)
theorem keyOk_check {d : TypeDesc} {kt : TypeId} (hd : eDesc P kt = some d) (hk : eKeyOk d = true) (em : Bool) (k : Value) (w : World) : (Instr.checkKey em 10000 kt k).run P w = .ok () w := by
  have hu := run_underlying (eDesc_eq hd) w
  cases d <;> first | (cases hk; done) | (unfold Instr.checkKey; simp [hu]; done)
theorem keyOk_find {d : TypeDesc} {kt : TypeId} (hd : eDesc P kt = some d) {k : Value} {es : List MapEntry} {r : Option (Nat × Value)} (h : Instr.findNow d k es 0 = some r) (w : World) : (Instr.findKey kt k es).run P w = .ok r w := by
  have hu := run_underlying (eDesc_eq hd) w
  simp [Instr.findKey, hu, h]
theorem getObj_map {c : Nat} {es : Array MapEntry} {r : Nat} (h : w.heap[r]? = some (.map es c)) : (getObj r).run P w = .ok (.map es c) w := by
  unfold getObj
  simp only [Sem.run, h]
theorem setObj_map {c c' : Nat} {es es' : Array MapEntry} {r : Nat} (h : w.heap[r]? = some (.map es c)) : (setObj r (.map es' c')).run P w = .ok () { w with heap := w.heap.setIfInBounds r (.map es' c') } := by
  unfold setObj
  simp only [Sem.run, h]
theorem upd_setObj (r : Nat) (o : Obj) (w : World) : Upd (· = r) w { w with heap := w.heap.setIfInBounds r o } :=
  ⟨rfl, rfl, rfl, by simp, fun k _ hk => by simp [Array.getElem?_setIfInBounds, Ne.symm hk]⟩
theorem blk_setObj {r : Nat} {o o' : Obj} (h : w.heap[r]? = some o) : ({ w with heap := w.heap.setIfInBounds r o' } : World).heap[r]? = some o' := by
  have := (Array.getElem?_eq_some_iff.1 h).1
  simp [this]
/-- A look into a map. -/
theorem eLookup_run {t kt e : TypeId} {d : TypeDesc} {ok : Bool} {x k z : EV} {v u : Value} (ht : eDesc P t = some (.map kt e)) (hd : eDesc P kt = some d) (hz : eZero P e ≠ .bot) (h : HR w0 β s w) (hx : VR β x v) (hk : VR β k u) (ha : eLookup d (eLeaves P kt) (eZero P e) ok x k s = some z) :
    ∃ c, (Instr.lookup t v u ok).run P w = .ok c w ∧ VR β z c := by
  have hu := run_underlying (eDesc_eq ht) w
  obtain ⟨zv, z1, z2⟩ := eZero_run (P := P) rfl hz β w
  have okv : ∀ {y : EV} {q : Value} (b : Bool), VR β y q → VR β (eOkV ok y b) (if ok then .tuple #[q, .bool b] else q) := fun b hq => by
    cases ok
    · exact hq
    · exact .tup (.cons hq (.cons (.bool b) .nil))
  unfold eLookup at ha
  cases hx with
  | mnil =>
    simp only at ha
    cases hko : eKeyOk d with
    | false => rw [hko] at ha; cases ha
    | true =>
      rw [hko] at ha
      obtain rfl := Option.some.inj ha
      refine ⟨_, ?_, okv false z2⟩
      have hf : (Instr.findKey kt u []).run P w = .ok none w := keyOk_find hd rfl w
      simp [Instr.lookup, hu, keyOk_check hd hko, hf, z1]
  | map hb =>
    rename_i r l
    simp only at ha
    cases hm : s.mapAt (.map (some r)) with
    | none => rw [hm] at ha; cases ha
    | some p =>
      obtain ⟨r', es, c⟩ := p
      rw [hm] at ha
      simp only at ha
      obtain ⟨e1, e2, l', es', e3, e4, e5, e6, e7⟩ := h.mapAt (.map hb) hm
      injection e1 with e1
      injection e1 with e1
      subst e1
      rw [hb] at e3
      obtain rfl := Option.some.inj e3
      cases hko : eKeyOk d with
      | false => rw [hko] at ha; cases ha
      | true =>
        rw [hko] at ha
        simp only at ha
        cases hf : eFind d (eLeaves P kt) k es with
        | none => rw [hf] at ha; cases ha
        | some q =>
          rw [hf] at ha
          rcases eFind_run hko hk hf e7 0 with ⟨rfl, f2⟩ | ⟨ee, j, v', qq, rfl, f2, f3, -⟩
          · obtain rfl := Option.some.inj ha
            refine ⟨_, ?_, okv false z2⟩
            simp [Instr.lookup, hu, getObj_map e6, keyOk_check hd hko, keyOk_find hd f2, z1]
          · obtain rfl := Option.some.inj ha
            refine ⟨_, ?_, okv true f3⟩
            simp [Instr.lookup, hu, getObj_map e6, keyOk_check hd hko, keyOk_find hd f2]
  | _ => cases ha
theorem sameNow_bits {d : TypeDesc} {a b : Value} (h : Instr.sameNow d a b = some true) (n : Nat) : Instr.sameBits n b a = true := by
  unfold Instr.sameNow at h
  split at h
  · rename_i k1 a1 k2 b1
    split at h
    · rename_i hk
      subst hk
      simp at h
      subst h
      unfold Instr.sameBits
      simp
    · cases h
  · rename_i a1 b1
    have h : (a1 == b1) = true := by simpa using h
    rw [beq_toListBytes, beq_iff_eq, ByteArray.toList_eq, ByteArray.toList_eq] at h
    have : a1 = b1 := by
      obtain ⟨a⟩ := a1
      obtain ⟨b⟩ := b1
      exact congrArg ByteArray.mk (Array.ext' h)
    subst this
    unfold Instr.sameBits
    simp [beq_toListBytes]
  · simp at h; subst h; unfold Instr.sameBits; simp
  · cases h
/-- A write into a map. -/
theorem eUpdate_run {t kt e : TypeId} {d : TypeDesc} {x k y : EV} {v u q : Value} (ht : eDesc P t = some (.map kt e)) (hd : eDesc P kt = some d) (h : HR w0 β s w) (hx : VR β x v) (hk : VR β k u) (hy : VR β y q) (ha : eUpdate d (eLeaves P kt) x k y s = some s') :
    ∃ w', (Instr.mapUpdate t v u q).run P w = .ok () w' ∧ HR w0 β s' w' ∧ Ext β s β s' := by
  have hu := run_underlying (eDesc_eq ht) w
  unfold eUpdate at ha
  cases hm : s.mapAt x with
  | none => rw [hm] at ha; cases ha
  | some p =>
    obtain ⟨r, es, c⟩ := p
    rw [hm] at ha
    simp only at ha
    obtain ⟨rfl, e2, l, es', e3, rfl, e5, e6, e7⟩ := h.mapAt hx hm
    cases hko : eKeyOk d with
    | false => rw [hko] at ha; cases ha
    | true =>
      rw [hko] at ha
      simp only at ha
      have fin : ∀ (es2 : List (EV × EV × Nat)) (c2 : Nat) (es3 : Array MapEntry), MR β es2 es3.toList → HR w0 β (s.setB r (.map es2 c2)) { w with heap := w.heap.setIfInBounds l.c (.map es3 c2) } ∧ Ext β s β (s.setB r (.map es2 c2)) := by
        intro es2 c2 es3 hmr
        have es : s.setB r (.map es2 c2) = .mk (s.heap.set r (.map es2 c2)) s.next := by cases s; rfl
        rw [es]
        exact ⟨h.upd1 e3 e2 trivial trivial (upd_setObj _ _ _) ⟨e5, es3, blk_setObj e6, hmr⟩, Ext.upd1 e3⟩
      cases hf : eFind d (eLeaves P kt) k es with
      | none => rw [hf] at ha; cases ha
      | some rr =>
        rw [hf] at ha
        rcases eFind_run hko hk hf e7 0 with ⟨rfl, f2⟩ | ⟨ee, j, v', qq, rfl, f2, f3, f4, f5, f6⟩
        · obtain rfl := Option.some.inj ha
          obtain ⟨g1, g2⟩ := fin (es ++ [(k, y, c)]) (c + 1) (es'.push ⟨u, q, c⟩) (by rw [Array.toList_push]; exact e7.app hk hy)
          refine ⟨_, ?_, g1, g2⟩
          simp [Instr.mapUpdate, hu, getObj_map e6, keyOk_check hd hko, keyOk_find hd f2, setObj_map e6]
        · obtain rfl := Option.some.inj ha
          obtain ⟨g1, g2⟩ := fin (eRepV d (eLeaves P kt) k y es) c (es'.modify j fun e => { e with key := u, val := q }) (by rw [Array.toList_modify]; exact f6 y q hy)
          refine ⟨_, ?_, g1, g2⟩
          have f4' : es'[j]? = some qq := by simpa using f4
          have hst : Instr.keyThatStays qq.key u = pure u := by
            unfold Instr.keyThatStays
            rw [if_pos (sameNow_bits f5 10000)]
          rw [Nat.zero_add] at f2
          simp [Instr.mapUpdate, hu, getObj_map e6, keyOk_check hd hko, keyOk_find hd f2, setObj_map e6, f4', hst]
end
end Go.Proofs.YtjckpgcmfieaoaaGreatDoor
