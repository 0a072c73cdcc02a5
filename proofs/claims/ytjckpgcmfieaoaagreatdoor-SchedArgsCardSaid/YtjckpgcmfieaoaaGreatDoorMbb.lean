/-
  The evaluator's maps, lengths, ways through maps and texts, assertions.
-/
import Derived.Test.YtjckpgcmfieaoaaGreatDoorMba
set_option linter.unusedVariables false
set_option linter.unusedSimpArgs false
namespace Go.Proofs.YtjckpgcmfieaoaaGreatDoor
open Go.RowKit

section
variable {P : Program} {w0 : World} {β : EMp} {s s' : ESt} {w : World}
theorem HR.mapAt (h : HR w0 β s w) {x : EV} {v : Value} (hx : VR β x v) {r c : Nat} {es : List (EV × EV × Nat)} (hm : s.mapAt x = some (r, es, c)) :
    x = .map (some r) ∧ s.heap.get r = some (.map es c) ∧ ∃ l es', β r = some l ∧ v = .map (some l.c) ∧ w0.heap.size ≤ l.c ∧ w.heap[l.c]? = some (.map es' c) ∧ MR β es es'.toList := by
  unfold ESt.mapAt at hm
  cases hx with
  | map hb =>
    rename_i r' l
    rw [ESt.eta s] at hm
    simp only at hm
    cases hk : s.heap.get r' with
    | none => rw [hk] at hm; cases hm
    | some k =>
      rw [hk] at hm
      cases k with
      | map es2 c2 =>
        simp only [Option.some.injEq, Prod.mk.injEq] at hm
        obtain ⟨rfl, rfl, rfl⟩ := hm
        obtain ⟨h0, es', h1, h2⟩ := h.blk r' l _ hb hk
        exact ⟨rfl, hk, l, es', hb, rfl, h0, h1, h2⟩
      | _ => cases hm
  | _ => cases hm
theorem MR.len : ∀ {es : List (EV × EV × Nat)} {es' : List MapEntry}, MR β es es' → es.length = es'.length
  | _, _, .nil => rfl
  | _, _, .cons _ _ t => congrArg (· + 1) t.len
theorem MR.app : ∀ {es : List (EV × EV × Nat)} {es' : List MapEntry} {k v : EV} {k' v' : Value} {b : Nat}, MR β es es' → VR β k k' → VR β v v' → MR β (es ++ [(k, v, b)]) (es' ++ [⟨k', v', b⟩])
  | _, _, _, _, _, _, _, .nil, hk, hv => .cons hk hv .nil
  | _, _, _, _, _, _, _, .cons a b t, hk, hv => .cons a b (t.app hk hv)
theorem eFind_cons (d : TypeDesc) (fl : Option (List Leaf)) (k : EV) (e : EV × EV × Nat) (es : List (EV × EV × Nat)) : eFind d fl k (e :: es) = match eEq d fl k e.1 with
    | some true => some (some e.2)
    | some false => eFind d fl k es
    | none => none := rfl
theorem eRepV_cons (d : TypeDesc) (fl : Option (List Leaf)) (k v : EV) (e : EV × EV × Nat) (es : List (EV × EV × Nat)) : eRepV d fl k v (e :: es) = match eEq d fl k e.1 with
    | some true => (k, v, e.2.2) :: es
    | _ => e :: eRepV d fl k v es := rfl
theorem eDelV_cons (d : TypeDesc) (fl : Option (List Leaf)) (k : EV) (e : EV × EV × Nat) (es : List (EV × EV × Nat)) : eDelV d fl k (e :: es) = match eEq d fl k e.1 with
    | some true => es
    | _ => e :: eDelV d fl k es := rfl
/-- What two keys come to at once. -/
theorem sameNow_of {d : TypeDesc} {fl : Option (List Leaf)} (hk : eKeyS d = true) {x y : EV} {a b : Value} {r : Bool} (h : eEq d fl x y = some r) (hx : VR β x a) (hy : VR β y b) : Instr.sameNow d a b = some r := by
  have num : ∀ {k k1 k2 : IntKind} {n1 n2 : Int}, d = .int k → a = .int k1 n1 → b = .int k2 n2 → eEqS x y = some r → Instr.sameNow d a b = some r := fun e0 e1 e2 hq => by
    subst e0 e1 e2
    obtain ⟨rfl, hi⟩ := eEqS_int hq hx hy
    simp only [Instr.sameNow, if_true]
    congr 1
    rw [Bool.eq_iff_iff, beq_iff_eq, hi]
  have txt : ∀ {s1 s2 : ByteArray}, d = .string → a = .string s1 → b = .string s2 → eEqS x y = some r → Instr.sameNow d a b = some r := fun e0 e1 e2 hq => by
    subst e0 e1 e2
    have hi := eEqS_str hq hx hy
    simp only [Instr.sameNow]
    rw [beq_toListBytes, strEq]
    congr 1
    rw [Bool.eq_iff_iff, eNatsEq_eq, hi]
    exact ⟨bytes_inj, fun e => by rw [e]⟩
  cases d with
  | int q =>
    cases hx with
    | int k1 n1 =>
      cases hy with
      | int k2 n2 => exact num rfl rfl rfl h
      | sint _ _ => exact num rfl rfl rfl h
      | _ => cases h
    | sint _ _ =>
      cases hy with
      | int k2 n2 => exact num rfl rfl rfl h
      | sint _ _ => exact num rfl rfl rfl h
      | _ => cases h
    | _ => cases h
  | string =>
    cases hx with
    | str h1 =>
      cases hy with
      | str h2 => exact txt rfl rfl rfl h
      | sstr _ => exact txt rfl rfl rfl h
      | _ => cases h
    | sstr h1 =>
      cases hy with
      | str h2 => exact txt rfl rfl rfl h
      | sstr _ => exact txt rfl rfl rfl h
      | _ => cases h
    | _ => cases h
  | _ => cases hk
theorem eFind_run {d : TypeDesc} {fl : Option (List Leaf)} (hk : eKeyS d = true) {k : EV} {k' : Value} (hkv : VR β k k') : ∀ {es : List (EV × EV × Nat)} {es' : List MapEntry} {r : Option (EV × Nat)}, eFind d fl k es = some r → MR β es es' → ∀ i,
    (r = none ∧ Instr.findNow d k' es' i = some none) ∨ ∃ e j v' q, r = some e ∧ Instr.findNow d k' es' i = some (some (i + j, v')) ∧ VR β e.1 v' ∧ es'[j]? = some q ∧ Instr.sameNow d k' q.key = some true ∧
      (∀ v u, VR β v u → MR β (eRepV d fl k v es) (es'.modify j fun e => { e with key := k', val := u })) ∧ MR β (eDelV d fl k es) (es'.eraseIdx j)
  | [], _, r, h, .nil, i => by obtain rfl := Option.some.inj (show some none = some r from h); exact .inl ⟨rfl, rfl⟩
  | (x, y, b) :: es, _, r, h, .cons (k' := kx) (v' := vy) (es := es') hx hy t, i => by
    rw [eFind_cons] at h
    cases hq : eEq d fl k x with
    | none => rw [hq] at h; cases h
    | some q =>
      have hsn := sameNow_of hk hq hkv hx
      rw [hq] at h
      cases q with
      | true =>
        obtain rfl := Option.some.inj (show some (some (y, b)) = some r from h)
        refine .inr ⟨(y, b), 0, vy, ⟨kx, vy, b⟩, rfl, by simp [Instr.findNow, hsn], hy, rfl, hsn, fun v u hv => ?_, ?_⟩
        · rw [eRepV_cons, hq]
          exact .cons hkv hv t
        · rw [eDelV_cons, hq]
          exact t
      | false =>
        simp only at h
        rcases eFind_run hk hkv h t (i + 1) with ⟨e1, e2⟩ | ⟨e, j, v', q, e1, e2, e3, e4, e5, e6, e7⟩
        · exact .inl ⟨e1, by simp [Instr.findNow, hsn, e2]⟩
        · refine .inr ⟨e, j + 1, v', q, e1, by simp [Instr.findNow, hsn, e2]; omega, e3, e4, e5, fun v u hv => ?_, ?_⟩
          · rw [eRepV_cons, hq]
            exact .cons hx hy (e6 v u hv)
          · rw [eDelV_cons, hq]
            exact .cons hx hy e7
theorem keyOk_agg {d : TypeDesc} {fl : Option (List Leaf)} {k : EV} (hk : eKeyOk d fl k = true) (hs : eKeyS d = false) : ∃ l xs, fl = some l ∧ k = .agg xs ∧ eFits l xs = true ∧ ((∃ fs, d = .struct fs) ∨ ∃ n e, d = .array n e) := by
  unfold eKeyOk at hk
  rw [hs] at hk
  cases d <;> first | (cases hk; done) | (cases fl <;> first | (cases hk; done) | (cases k <;> first | (cases hk; done) | exact ⟨_, _, rfl, rfl, hk, .inl ⟨_, rfl⟩⟩ | exact ⟨_, _, rfl, rfl, hk, .inr ⟨_, _, rfl⟩⟩))
theorem keyOk_check {d : TypeDesc} {kt : TypeId} (hd : eDesc P kt = some d) {x : EV} {k : Value} (hk : eKeyOk d (eLeaves P kt) x = true) (hx : VR β x k) (em : Bool) (w : World) : (Instr.checkKey em 10000 kt k).run P w = .ok () w := by
  have hu := run_underlying (eDesc_eq hd) w
  cases hs : eKeyS d with
  | true => cases d <;> first | (cases hs; done) | (unfold Instr.checkKey; simp [hu]; done)
  | false =>
    obtain ⟨l, xs, h1, rfl, h3, -⟩ := keyOk_agg hk hs
    cases hx with
    | agg hx =>
      obtain ⟨g1, g2, g3⟩ := eLeaves_eq h1
      have := check_flat em 20 10000 kt l _ (by decide) g1 g2 (eFits_run hx h3) w
      unfold mkV at this
      rw [g3] at this
      simpa using this
theorem keyOk_find {d : TypeDesc} {kt : TypeId} (hd : eDesc P kt = some d) {k : Value} {es : List MapEntry} {r : Option (Nat × Value)} (h : Instr.findNow d k es 0 = some r) (w : World) : (Instr.findKey kt k es).run P w = .ok r w := by
  have hu := run_underlying (eDesc_eq hd) w
  simp [Instr.findKey, hu, h]
theorem sameNow_bits {d : TypeDesc} {a b : Value} (h : Instr.sameNow d a b = some true) (n : Nat) : Instr.sameBits n b a = true := by
  unfold Instr.sameNow at h
  split at h
  · rename_i k1 a1 k2 b1
    split at h
    · rename_i hk
      subst hk
      simp at h
      subst h
      unfold Instr.sameBits
      simp
    · cases h
  · rename_i a1 b1
    have h : (a1 == b1) = true := by simpa using h
    rw [beq_toListBytes, beq_iff_eq, ByteArray.toList_eq, ByteArray.toList_eq] at h
    have : a1 = b1 := by
      obtain ⟨a⟩ := a1
      obtain ⟨b⟩ := b1
      exact congrArg ByteArray.mk (Array.ext' h)
    subst this
    unfold Instr.sameBits
    simp [beq_toListBytes]
  · simp at h; subst h; unfold Instr.sameBits; simp
  · cases h
/-- Where a key that is a struct, or an array, stands. -/
theorem eFind_ask {kt : TypeId} {d : TypeDesc} (hd : eDesc P kt = some d) {l : List Leaf} (hl : eLeaves P kt = some l) {xs : List EV} {a' : Array Value} (hkv : VRs β xs a'.toList) (hf : eFits l xs = true) (w : World) (hagg : (∃ fs, d = .struct fs) ∨ ∃ n e, d = .array n e) :
    ∀ {es : List (EV × EV × Nat)} {es' : List MapEntry} {r : Option (EV × Nat)}, eFind d (eLeaves P kt) (.agg xs) es = some r → MR β es es' → ∀ i,
    (r = none ∧ (Instr.findAsking kt (.agg a') es' i).run P w = .ok none w) ∨ ∃ e j v' q, r = some e ∧ (Instr.findAsking kt (.agg a') es' i).run P w = .ok (some (i + j, v')) w ∧ VR β e.1 v' ∧ es'[j]? = some q ∧ q.key = .agg a' ∧
      (∀ v u, VR β v u → MR β (eRepV d (eLeaves P kt) (.agg xs) v es) (es'.modify j fun e => { e with key := .agg a', val := u })) ∧ MR β (eDelV d (eLeaves P kt) (.agg xs) es) (es'.eraseIdx j)
  | [], _, r, h, .nil, i => by obtain rfl := Option.some.inj (show some none = some r from h); exact .inl ⟨rfl, rfl⟩
  | (x, y, b) :: es, _, r, h, .cons (k' := kx) (v' := vy) (es := es') hx hy t, i => by
    rw [eFind_cons] at h
    cases hq : eEq d (eLeaves P kt) (.agg xs) x with
    | none => rw [hq] at h; cases h
    | some q =>
      have hrun : (Op.equal kt (.agg a') kx).run P w = .ok q w := eEq_run hd hq (.agg hkv) hx 10000 (by decide) w
      obtain ⟨l', ys, -, rfl, -, -, heq⟩ := eEq_agg hq rfl
      have hval : q = true ↔ Value.agg a' = kx := by
        cases hx with
        | agg hx =>
          rw [eEqL_iff heq hkv hx]
          exact ⟨fun e => by rw [Array.ext' e], fun e => by injection e with e; rw [e]⟩
      rw [hq] at h
      cases q with
      | true =>
        obtain rfl := Option.some.inj (show some (some (y, b)) = some r from h)
        refine .inr ⟨(y, b), 0, vy, ⟨kx, vy, b⟩, rfl, by simp [Instr.findAsking, hrun], hy, rfl, (hval.1 rfl).symm, fun v u hv => ?_, ?_⟩
        · rw [eRepV_cons, hq]
          exact .cons (.agg hkv) hv t
        · rw [eDelV_cons, hq]
          exact t
      | false =>
        simp only at h
        rcases eFind_ask hd hl hkv hf w hagg h t (i + 1) with ⟨e1, e2⟩ | ⟨e, j, v', q, e1, e2, e3, e4, e5, e6, e7⟩
        · exact .inl ⟨e1, by simp [Instr.findAsking, hrun, e2]⟩
        · refine .inr ⟨e, j + 1, v', q, e1, by simp [Instr.findAsking, hrun, e2]; omega, e3, e4, e5, fun v u hv => ?_, ?_⟩
          · rw [eRepV_cons, hq]
            exact .cons hx hy (e6 v u hv)
          · rw [eDelV_cons, hq]
            exact .cons hx hy e7
/-- Where a key stands. -/
theorem eFindKey_run {kt : TypeId} {d : TypeDesc} (hd : eDesc P kt = some d) {k : EV} {k' : Value} (hk : eKeyOk d (eLeaves P kt) k = true) (hkv : VR β k k') (w : World) {es : List (EV × EV × Nat)} {es' : List MapEntry} {r : Option (EV × Nat)} (h : eFind d (eLeaves P kt) k es = some r) (hm : MR β es es') :
    (r = none ∧ (Instr.findKey kt k' es').run P w = .ok none w) ∨ ∃ e j v' q, r = some e ∧ (Instr.findKey kt k' es').run P w = .ok (some (j, v')) w ∧ VR β e.1 v' ∧ es'[j]? = some q ∧ Instr.keyThatStays q.key k' = pure k' ∧
      (∀ v u, VR β v u → MR β (eRepV d (eLeaves P kt) k v es) (es'.modify j fun e => { e with key := k', val := u })) ∧ MR β (eDelV d (eLeaves P kt) k es) (es'.eraseIdx j) := by
  cases hs : eKeyS d with
  | true =>
    rcases eFind_run hs hkv h hm 0 with ⟨rfl, f2⟩ | ⟨e, j, v', q, rfl, f2, f3, f4, f5, f6⟩
    · exact .inl ⟨rfl, keyOk_find hd f2 w⟩
    · rw [Nat.zero_add] at f2
      exact .inr ⟨e, j, v', q, rfl, keyOk_find hd f2 w, f3, f4, by unfold Instr.keyThatStays; rw [if_pos (sameNow_bits f5 10000)], f6⟩
  | false =>
    obtain ⟨l, xs, h1, rfl, h3, hagg⟩ := keyOk_agg hk hs
    cases hkv with
    | agg hkv =>
      rename_i a'
      have hu := run_underlying (eDesc_eq hd) w
      have key : ∀ r', (Instr.findAsking kt (.agg a') es' 0).run P w = .ok r' w → (Instr.findKey kt (.agg a') es').run P w = .ok r' w := fun r' hr => by
        cases hes : es' with
        | nil =>
          rw [hes] at hr
          have : r' = none := by
            have hr : (Result.ok none w : Result (Option (Nat × Value))) = .ok r' w := hr
            injection hr with hr
            exact hr.symm
          subst this
          simp [Instr.findKey, hu, Instr.findNow]
        | cons e es2 =>
          rw [hes] at hr
          have : Instr.findNow d (.agg a') (e :: es2) 0 = none := by
            unfold Instr.findNow
            rcases hagg with ⟨fs, rfl⟩ | ⟨n, el, rfl⟩ <;> simp [Instr.sameNow]
          simp [Instr.findKey, hu, this, hr]
      rcases eFind_ask hd h1 hkv h3 w hagg h hm 0 with ⟨rfl, f2⟩ | ⟨e, j, v', q, rfl, f2, f3, f4, f5, f6⟩
      · exact .inl ⟨rfl, key _ f2⟩
      · rw [Nat.zero_add] at f2
        refine .inr ⟨e, j, v', q, rfl, key _ f2, f3, f4, ?_, f6⟩
        rw [f5]
        unfold Instr.keyThatStays
        have := sameBits_flat (eFits_run hkv h3) 9999
        rw [if_pos (by simpa using this)]
theorem getObj_map {c : Nat} {es : Array MapEntry} {r : Nat} (h : w.heap[r]? = some (.map es c)) : (getObj r).run P w = .ok (.map es c) w := by
  unfold getObj
  simp only [Sem.run, h]
theorem setObj_map {c c' : Nat} {es es' : Array MapEntry} {r : Nat} (h : w.heap[r]? = some (.map es c)) : (setObj r (.map es' c')).run P w = .ok () { w with heap := w.heap.setIfInBounds r (.map es' c') } := by
  unfold setObj
  simp only [Sem.run, h]
theorem upd_setObj (r : Nat) (o : Obj) (w : World) : Upd (· = r) w { w with heap := w.heap.setIfInBounds r o } :=
  ⟨rfl, rfl, rfl, by simp, fun k _ hk => by simp [Array.getElem?_setIfInBounds, Ne.symm hk]⟩
theorem blk_setObj {r : Nat} {o o' : Obj} (h : w.heap[r]? = some o) : ({ w with heap := w.heap.setIfInBounds r o' } : World).heap[r]? = some o' := by
  have := (Array.getElem?_eq_some_iff.1 h).1
  simp [this]
/-- A look into a map. -/
theorem eLookup_run {t kt e : TypeId} {d : TypeDesc} {ok : Bool} {x k z : EV} {v u : Value} (ht : eDesc P t = some (.map kt e)) (hd : eDesc P kt = some d) (hz : eZero P e ≠ .bot) (h : HR w0 β s w) (hx : VR β x v) (hk : VR β k u) (ha : eLookup d (eLeaves P kt) (eZero P e) ok x k s = some z) :
    ∃ c, (Instr.lookup t v u ok).run P w = .ok c w ∧ VR β z c := by
  have hu := run_underlying (eDesc_eq ht) w
  obtain ⟨zv, z1, z2⟩ := eZero_run (P := P) rfl hz β w
  have okv : ∀ {y : EV} {q : Value} (b : Bool), VR β y q → VR β (eOkV ok y b) (if ok then .tuple #[q, .bool b] else q) := fun b hq => by
    cases ok
    · exact hq
    · exact .tup (.cons hq (.cons (.bool b) .nil))
  unfold eLookup at ha
  cases hx with
  | mnil =>
    simp only at ha
    cases hko : eKeyOk d (eLeaves P kt) k with
    | false => rw [hko] at ha; cases ha
    | true =>
      rw [hko] at ha
      obtain rfl := Option.some.inj ha
      refine ⟨_, ?_, okv false z2⟩
      have hf : (Instr.findKey kt u []).run P w = .ok none w := keyOk_find hd rfl w
      simp [Instr.lookup, hu, keyOk_check hd hko hk, hf, z1]
  | map hb =>
    rename_i r l
    simp only at ha
    cases hm : s.mapAt (.map (some r)) with
    | none => rw [hm] at ha; cases ha
    | some p =>
      obtain ⟨r', es, c⟩ := p
      rw [hm] at ha
      simp only at ha
      obtain ⟨e1, e2, l', es', e3, e4, e5, e6, e7⟩ := h.mapAt (.map hb) hm
      injection e1 with e1
      injection e1 with e1
      subst e1
      rw [hb] at e3
      obtain rfl := Option.some.inj e3
      cases hko : eKeyOk d (eLeaves P kt) k with
      | false => rw [hko] at ha; cases ha
      | true =>
        rw [hko] at ha
        simp only at ha
        cases hf : eFind d (eLeaves P kt) k es with
        | none => rw [hf] at ha; cases ha
        | some q =>
          rw [hf] at ha
          rcases eFindKey_run hd hko hk w hf e7 with ⟨rfl, f2⟩ | ⟨ee, j, v', qq, rfl, f2, f3, -⟩
          · obtain rfl := Option.some.inj ha
            refine ⟨_, ?_, okv false z2⟩
            simp [Instr.lookup, hu, getObj_map e6, keyOk_check hd hko hk, f2, z1]
          · obtain rfl := Option.some.inj ha
            refine ⟨_, ?_, okv true f3⟩
            simp [Instr.lookup, hu, getObj_map e6, keyOk_check hd hko hk, f2]
  | _ => cases ha
/-- A write into a map. -/
theorem eUpdate_run {t kt e : TypeId} {d : TypeDesc} {x k y : EV} {v u q : Value} (ht : eDesc P t = some (.map kt e)) (hd : eDesc P kt = some d) (h : HR w0 β s w) (hx : VR β x v) (hk : VR β k u) (hy : VR β y q) (ha : eUpdate d (eLeaves P kt) x k y s = some s') :
    ∃ w', (Instr.mapUpdate t v u q).run P w = .ok () w' ∧ HR w0 β s' w' ∧ Ext β s β s' := by
  have hu := run_underlying (eDesc_eq ht) w
  unfold eUpdate at ha
  cases hm : s.mapAt x with
  | none => rw [hm] at ha; cases ha
  | some p =>
    obtain ⟨r, es, c⟩ := p
    rw [hm] at ha
    simp only at ha
    obtain ⟨rfl, e2, l, es', e3, rfl, e5, e6, e7⟩ := h.mapAt hx hm
    cases hko : eKeyOk d (eLeaves P kt) k with
    | false => rw [hko] at ha; cases ha
    | true =>
      rw [hko] at ha
      simp only at ha
      have fin : ∀ (es2 : List (EV × EV × Nat)) (c2 : Nat) (es3 : Array MapEntry), MR β es2 es3.toList → HR w0 β (s.setB r (.map es2 c2)) { w with heap := w.heap.setIfInBounds l.c (.map es3 c2) } ∧ Ext β s β (s.setB r (.map es2 c2)) := by
        intro es2 c2 es3 hmr
        have es : s.setB r (.map es2 c2) = .mk (s.heap.set r (.map es2 c2)) s.next := by cases s; rfl
        rw [es]
        exact ⟨h.upd1 e3 e2 trivial trivial (upd_setObj _ _ _) ⟨e5, es3, blk_setObj e6, hmr⟩, Ext.upd1 e3⟩
      cases hf : eFind d (eLeaves P kt) k es with
      | none => rw [hf] at ha; cases ha
      | some rr =>
        rw [hf] at ha
        rcases eFindKey_run hd hko hk w hf e7 with ⟨rfl, f2⟩ | ⟨ee, j, v', qq, rfl, f2, f3, f4, hst, f6, -⟩
        · obtain rfl := Option.some.inj ha
          obtain ⟨g1, g2⟩ := fin (es ++ [(k, y, c)]) (c + 1) (es'.push ⟨u, q, c⟩) (by rw [Array.toList_push]; exact e7.app hk hy)
          refine ⟨_, ?_, g1, g2⟩
          simp [Instr.mapUpdate, hu, getObj_map e6, keyOk_check hd hko hk, f2, setObj_map e6]
        · obtain rfl := Option.some.inj ha
          obtain ⟨g1, g2⟩ := fin (eRepV d (eLeaves P kt) k y es) c (es'.modify j fun e => { e with key := u, val := q }) (by rw [Array.toList_modify]; exact f6 y q hy)
          refine ⟨_, ?_, g1, g2⟩
          have f4' : es'[j]? = some qq := by simpa using f4
          simp [Instr.mapUpdate, hu, getObj_map e6, keyOk_check hd hko hk, f2, setObj_map e6, f4', hst]
/-- A key struck out of a map. -/
theorem eDelete_run {t kt e ty : TypeId} {d : TypeDesc} {x k z : EV} {v u : Value} (ht : eDesc P t = some (.map kt e)) (hd : eDesc P kt = some d) (h : HR w0 β s w) (hx : VR β x v) (hk : VR β k u) (ha : eDelete d (eLeaves P kt) x k s = .v z s') (ts : List TypeId) :
    ∃ w', (Builtin.delete_ (t :: ts).toArray ty #[v, u]).run P w = .ok (.tuple #[]) w' ∧ VR β z (.tuple #[]) ∧ HR w0 β s' w' ∧ Ext β s β s' := by
  have hu := run_underlying (eDesc_eq ht) w
  unfold eDelete at ha
  cases hm : s.mapAt x with
  | none => rw [hm] at ha; cases ha
  | some p =>
    obtain ⟨r, es, c⟩ := p
    rw [hm] at ha
    simp only at ha
    obtain ⟨rfl, e2, l, es', e3, rfl, e5, e6, e7⟩ := h.mapAt hx hm
    cases hko : eKeyOk d (eLeaves P kt) k with
    | false => rw [hko] at ha; cases ha
    | true =>
      rw [hko] at ha
      simp only at ha
      have fin : ∀ (es2 : List (EV × EV × Nat)) (c2 : Nat) (es3 : Array MapEntry), MR β es2 es3.toList → HR w0 β (s.setB r (.map es2 c2)) { w with heap := w.heap.setIfInBounds l.c (.map es3 c2) } ∧ Ext β s β (s.setB r (.map es2 c2)) := by
        intro es2 c2 es3 hmr
        have es : s.setB r (.map es2 c2) = .mk (s.heap.set r (.map es2 c2)) s.next := by cases s; rfl
        rw [es]
        exact ⟨h.upd1 e3 e2 trivial trivial (upd_setObj _ _ _) ⟨e5, es3, blk_setObj e6, hmr⟩, Ext.upd1 e3⟩
      cases hf : eFind d (eLeaves P kt) k es with
      | none => rw [hf] at ha; cases ha
      | some rr =>
        rw [hf] at ha
        rcases eFindKey_run hd hko hk w hf e7 with ⟨rfl, f2⟩ | ⟨ee, j, v', qq, rfl, f2, f3, f4, hst, -, f7⟩
        · injection ha with e1 e2'
          subst e1 e2'
          obtain ⟨g1, g2⟩ := fin es c es' e7
          refine ⟨_, ?_, .tup .nil, g1, g2⟩
          simp [Builtin.delete_, hu, getObj_map e6, keyOk_check hd hko hk, f2, setObj_map e6]
        · injection ha with e1 e2'
          subst e1 e2'
          obtain ⟨g1, g2⟩ := fin (eDelV d (eLeaves P kt) k es) c (es'.eraseIdxIfInBounds j) (by simpa using f7)
          refine ⟨_, ?_, .tup .nil, g1, g2⟩
          simp [Builtin.delete_, hu, getObj_map e6, keyOk_check hd hko hk, f2, setObj_map e6]
end

section
variable {P : Program} {w0 : World} {β : EMp} {s s' : ESt} {w : World}
theorem eLen_run {t ty : TypeId} {x z : EV} {v : Value} (h : HR w0 β s w) (hx : VR β x v) (ha : eLen P (eDesc P t) x s = some z) (types : Array TypeId) (args : Array Value) (h1 : types[0]? = some t) (h2 : args[0]? = some v) :
    ∃ c, (Builtin.len_ types ty args).run P w = .ok c w ∧ VR β z c := by
  unfold eLen at ha
  cases hd : eDesc P t with
  | none => rw [hd] at ha; cases ha
  | some d =>
    rw [hd] at ha
    have hu := run_underlying (eDesc_eq hd) w
    cases d with
    | string =>
      cases hx with
      | str hs =>
        obtain rfl := Option.some.inj ha
        rename_i l b
        have : b.size = l.length := by rw [← hs]; simp
        refine ⟨.int .i64 (l.length : Nat), ?_, .int _ _⟩
        simp [Builtin.len_, h1, h2, hu, goInt, this]
      | sstr hs =>
        obtain rfl := Option.some.inj ha
        rename_i l b
        have : b.size = sLen l := by rw [hs.len]; simp
        refine ⟨.int .i64 (sLen l : Nat), ?_, .int _ _⟩
        simp [Builtin.len_, h1, h2, hu, goInt, this]
      | _ => cases ha
    | slice e =>
      cases x with
      | sl a n c z =>
        obtain ⟨a', c', rfl⟩ : ∃ a' c', v = .slice a' n c' := by cases hx <;> exact ⟨_, _, rfl⟩
        obtain rfl := Option.some.inj ha
        refine ⟨.int .i64 (n : Nat), ?_, .int _ _⟩
        simp [Builtin.len_, h1, h2, hu, goInt]
      | _ => cases ha
    | array n e =>
      obtain rfl := Option.some.inj ha
      refine ⟨.int .i64 (n : Nat), ?_, .int _ _⟩
      simp [Builtin.len_, h1, h2, hu, goInt]
    | map k e =>
      simp only at ha
      cases hx with
      | mnil =>
        obtain rfl := Option.some.inj ha
        refine ⟨.int .i64 0, ?_, .int _ _⟩
        simp [Builtin.len_, h1, h2, hu, goInt]
      | map hb =>
        simp only at ha
        rename_i r l
        cases hm : s.mapAt (.map (some r)) with
        | none => rw [hm] at ha; cases ha
        | some p =>
          obtain ⟨r', es, c⟩ := p
          rw [hm] at ha
          obtain rfl := Option.some.inj ha
          obtain ⟨e1, e2, l', es', e3, e4, e5, e6, e7⟩ := h.mapAt (.map hb) hm
          injection e1 with e1
          injection e1 with e1
          subst e1
          rw [hb] at e3
          obtain rfl := Option.some.inj e3
          have hl : es.length = es'.size := by simpa using e7.len
          refine ⟨.int .i64 (es.length : Nat), ?_, .int _ _⟩
          simp [Builtin.len_, h1, h2, hu, getObj_map e6, goInt, hl]
      | _ => cases ha
    | pointer u =>
      simp only at ha
      cases hd2 : eDesc P u with
      | none => rw [hd2] at ha; cases ha
      | some d2 =>
        rw [hd2] at ha
        have hu2 := run_underlying (eDesc_eq hd2) w
        cases d2 with
        | array n e =>
          obtain rfl := Option.some.inj ha
          refine ⟨.int .i64 (n : Nat), ?_, .int _ _⟩
          simp [Builtin.len_, h1, h2, hu, hu2, goInt]
        | _ => cases ha
    | _ => cases ha
/-- A way through a text. -/
theorem eRange_run {t : TypeId} {x z : EV} {v : Value} (h : HR w0 β s w) (hx : VR β x v) (ha : eRange (eDesc P t) x s = .v z s') :
    ∃ β' c w', (Instr.range t v).run P w = .ok c w' ∧ VR β' z c ∧ HR w0 β' s' w' ∧ Ext β s β' s' := by
  unfold eRange at ha
  cases hd : eDesc P t with
  | none => rw [hd] at ha; cases ha
  | some d =>
    rw [hd] at ha
    have hu := run_underlying (eDesc_eq hd) w
    cases d with
    | string =>
      have key : ∀ {l : SX} {b : ByteArray}, SB (symOf β) l (b.data.toList.map (·.toNat)) → s.blk (.siter l 0) (fun b => .ptr (some (b, 0))) = .v z s' → v = .string b →
          ∃ β' c w', (Instr.range t v).run P w = .ok c w' ∧ VR β' z c ∧ HR w0 β' s' w' ∧ Ext β s β' s' := by
        intro l b hs ha hv
        subst hv
        have hf : FreshOk w0 β (.siter l 0) (fun b => .ptr (some (b, 0))) w (.pointer (some ⟨w.heap.size, 0, none⟩)) (w.alloc (.stringIter b 0)) ⟨w.heap.size, 0, 0⟩ :=
          ⟨(Upd.refl _ _).alloc _, Nat.le_refl _, fun β' q hle hb => ⟨by simpa using VR.ptr (β := β') (o := 0) hb, h.up.size, rfl, b, hs.mono (symOf_mono hle), blk_alloc _ _⟩⟩
        obtain ⟨β', g1, g2, g3⟩ := h.fresh ha hf
        exact ⟨β', _, _, by simp [Instr.range, hu], g1, g2, g3⟩
      cases hx with
      | str hs => subst hs; exact key (sOf_bytes _) ha rfl
      | sstr hs => exact key hs ha rfl
      | _ => cases ha
    | map kt vt =>
      cases hx with
      | mnil =>
        have hf : FreshOk w0 β (.iter none 0 [] 0) (fun b => .ptr (some (b, 0))) w (.pointer (some ⟨w.heap.size, 0, none⟩)) (w.alloc (.mapIter none 0 #[] 0)) ⟨w.heap.size, 0, 0⟩ :=
          ⟨(Upd.refl _ _).alloc _, Nat.le_refl _, fun β' q hle hb => ⟨by simpa using VR.ptr (β := β') (o := 0) hb, h.up.size, rfl, _, _, _, blk_alloc _ _⟩⟩
        obtain ⟨β', g1, g2, g3⟩ := h.fresh ha hf
        exact ⟨β', _, _, by simp [Instr.range, hu], g1, g2, g3⟩
      | map hb =>
        rename_i r l
        have ha : (match s.mapAt (.map (some r)) with
          | some (r, _, c) => s.blk (.iter (some r) c [] c) fun b => .ptr (some (b, 0))
          | none => .er) = .v z s' := ha
        cases hm : s.mapAt (.map (some r)) with
        | none => rw [hm] at ha; cases ha
        | some q =>
          obtain ⟨r', es, c⟩ := q
          rw [hm] at ha
          obtain ⟨e1, e2, l', es', e3, e4, e5, e6, e7⟩ := h.mapAt (.map hb) hm
          injection e1 with e1
          injection e1 with e1
          subst e1
          rw [hb] at e3
          obtain rfl := Option.some.inj e3
          have hf : FreshOk w0 β (.iter (some r) c [] c) (fun b => .ptr (some (b, 0))) w (.pointer (some ⟨w.heap.size, 0, none⟩)) (w.alloc (.mapIter (some l.c) c #[] c)) ⟨w.heap.size, 0, 0⟩ :=
            ⟨(Upd.refl _ _).alloc _, Nat.le_refl _, fun β' q hle hb2 => ⟨by simpa using VR.ptr (β := β') (o := 0) hb2, h.up.size, rfl, l, hle _ _ hb, blk_alloc _ _⟩⟩
          obtain ⟨β', g1, g2, g3⟩ := h.fresh ha hf
          exact ⟨β', _, _, by simp [Instr.range, hu, getObj_map e6], g1, g2, g3⟩
      | _ => cases ha
    | _ => cases ha
theorem eHas_iff (a : Nat) : ∀ {l : List Nat}, eHas a l = true ↔ a ∈ l
  | [] => ⟨fun h => (by cases h), fun h => (by cases h)⟩
  | x :: l => by
    have e : eHas a (x :: l) = match Nat.beq x a with | true => true | false => eHas a l := rfl
    rw [e, List.mem_cons]
    cases hb : Nat.beq x a with
    | true => exact ⟨fun _ => .inl (Nat.eq_of_beq_eq_true hb).symm, fun _ => rfl⟩
    | false =>
      have hne : a ≠ x := fun e => by subst e; simp at hb
      exact ⟨fun h => .inr ((eHas_iff a).1 h), fun h => (eHas_iff a).2 (h.resolve_left hne)⟩
theorem eUnseen_cons (seen : List Nat) (e : EV × EV × Nat) (es : List (EV × EV × Nat)) : eUnseen seen (e :: es) = match eHas e.2.2 seen with | true => eUnseen seen es | false => e :: eUnseen seen es := rfl
theorem eUnseen_run {β : EMp} {seen : List Nat} : ∀ {es : List (EV × EV × Nat)} {es' : List MapEntry}, MR β es es' → MR β (eUnseen seen es) (es'.filter fun e => !seen.toArray.contains e.born)
  | _, _, .nil => .nil
  | _, _, .cons (b := b) hk hv t => by
    have ih := eUnseen_run (seen := seen) t
    rw [eUnseen_cons]
    cases hb : eHas b seen with
    | true =>
      have : seen.toArray.contains b = true := by simpa using (eHas_iff b).1 hb
      rw [List.filter_cons_of_neg (by simp only [this]; decide)]
      exact ih
    | false =>
      have : seen.toArray.contains b = false := by
        have hn : b ∉ seen := fun hm => by rw [(eHas_iff b).2 hm] at hb; cases hb
        simpa using hn
      rw [List.filter_cons_of_pos (by simp only [this]; rfl)]
      exact .cons hk hv ih
theorem eOlder_cons (c : Nat) (e : EV × EV × Nat) (es : List (EV × EV × Nat)) : eOlder c (e :: es) = match Nat.blt e.2.2 c with | true => true | false => eOlder c es := rfl
theorem eOlder_run {β : EMp} {c : Nat} : ∀ {es : List (EV × EV × Nat)} {es' : List MapEntry}, MR β es es' → eOlder c es = true → (es'.all fun e => decide (e.born ≥ c)) = false
  | _, _, .nil, h => by cases h
  | _, _, .cons (b := b) hk hv t, h => by
    rw [eOlder_cons] at h
    rw [List.all_cons]
    cases hb : Nat.blt b c with
    | true =>
      have : ¬ b ≥ c := by have : b + 1 ≤ c := Nat.le_of_ble_eq_true hb; omega
      rw [decide_eq_false this]
      rfl
    | false =>
      rw [show (match Nat.blt b c with | true => true | false => eOlder c _) = eOlder c _ by rw [hb]] at h
      rw [eOlder_run t h, Bool.and_false]
theorem eFine_run {β : EMp} {seen : List Nat} {last : Nat} {es : List (EV × EV × Nat)} {es' : List MapEntry} (h : MR β es es') (hf : eFine seen last es = true) : (!seen.toArray.isEmpty && !es'.toArray.isEmpty && es'.toArray.all fun e => decide (e.born ≥ last)) = false := by
  cases seen with
  | nil => rfl
  | cons a r =>
    cases h with
    | nil => simp
    | cons hk hv t =>
      have := eOlder_run (.cons hk hv t) (show eOlder last _ = true from hf)
      rw [← List.all_toArray] at this
      rw [this, Bool.and_false]
theorem eNextM_run {ty : TypeId} {m since r : Nat} {seen : List Nat} {last : Nat} {l lm : ELoc} {z : EV} (h : HR w0 β s w) (hb : β r = some l) (hk : s.heap.get r = some (.iter (some m) since seen last)) (ha : eNextM m since seen last r s.heap s.next = .v z s') :
    ∃ c w', (Instr.next (.pointer (some ⟨l.c, l.sh + 0, none⟩)) false ty).run P w = .ok c w' ∧ VR β z c ∧ HR w0 β s' w' ∧ Ext β s β s' := by
  obtain ⟨h0, hs, lm, hm, hw⟩ := h.blk r l _ hb hk
  unfold eNextM at ha
  cases hq : s.heap.get m with
  | none => rw [hq] at ha; cases ha
  | some k =>
    rw [hq] at ha
    cases k with
    | map es c =>
      obtain ⟨hm0, es', hm1, hm2⟩ := h.blk m lm _ hm hq
      simp only at ha
      cases hf : eFine seen last es with
      | false => rw [hf] at ha; cases ha
      | true =>
        rw [hf] at ha
        simp only at ha
        have hget : (getObj l.c).run P w = .ok (.mapIter (some lm.c) since seen.toArray last) w := by
          unfold getObj
          simp only [Sem.run, hw]
        have hfine : (!seen.toArray.isEmpty && !es'.isEmpty && es'.all fun e => decide (e.born ≥ last)) = false := by
          obtain ⟨q⟩ := es'
          exact eFine_run hm2 hf
        have hun := eUnseen_run (seen := seen) hm2
        have hleft : es'.filter (fun e => !seen.toArray.contains e.born) = (es'.toList.filter fun e => !seen.toArray.contains e.born).toArray := by
          cases es'
          simp
        cases hu : eUnseen seen es with
        | nil =>
          rw [hu] at ha hun
          injection ha with e1 e2
          subst e1 e2
          have hl : es'.filter (fun e => !seen.toArray.contains e.born) = #[] := by
            rw [hleft]
            generalize es'.toList.filter _ = q at hun
            cases hun
            rfl
          refine ⟨.tuple #[.bool false], w, ?_, .tup (.cons (.bool false) .nil), by rw [← ESt.eta s]; exact h, by rw [← ESt.eta s]; exact Ext.refl _ _⟩
          rw [hs]
          simp only [Instr.next, Sem.run_bind, Nat.add_zero, hget, getObj_map hm1, hfine, hl, Bool.false_eq_true, if_false, Sem.run_pure, Result.andThen_ok, Array.filter_empty]
          have e1 : ((if (#[] : Array MapEntry).isEmpty = true then #[none] else #[]) ++ Array.map some ((#[] : Array MapEntry) ++ #[])) = (#[none] : Array (Option MapEntry)) := by simp
          simp only [e1]
          have hc : (choose (.mapNext 1)).run P w = .ok 0 w := by rw [run_choose]; rfl
          change ((choose (.mapNext 1)).run P w).andThen _ = _
          rw [hc]
          rfl
        | cons e rest =>
          rw [hu] at ha hun
          cases rest with
          | cons _ _ => cases ha
          | nil =>
            simp only at ha
            cases hbo : Nat.blt e.2.2 since with
            | false => rw [hbo] at ha; cases ha
            | true =>
              rw [hbo] at ha
              injection ha with e1 e2
              subst e1 e2
              obtain ⟨ek, ev, eb⟩ := e
              have hlt : eb < since := Nat.le_of_ble_eq_true hbo
              obtain ⟨k', v', hl, gk, gv⟩ : ∃ k' v', es'.filter (fun e => !seen.toArray.contains e.born) = #[⟨k', v', eb⟩] ∧ VR β ek k' ∧ VR β ev v' := by
                rw [hleft]
                generalize es'.toList.filter _ = q at hun
                cases hun with
                | cons a b t => cases t; exact ⟨_, _, rfl, a, b⟩
              have hset : (setObj l.c (.mapIter (some lm.c) since (seen.toArray.push eb) c)).run P w = .ok () { w with heap := w.heap.setIfInBounds l.c (.mapIter (some lm.c) since (seen.toArray.push eb) c) } := by
                unfold setObj
                simp only [Sem.run, hw]
              refine ⟨.tuple #[.bool true, k', v'], { w with heap := w.heap.setIfInBounds l.c (.mapIter (some lm.c) since (seen.toArray.push eb) c) }, ?_, .tup (.cons (.bool true) (.cons gk (.cons gv .nil))), h.upd1 hb hk trivial trivial (upd_setObj _ _ _) ⟨h0, hs, lm, hm, ?_⟩, Ext.upd1 hb⟩
              · rw [hs]
                have ho : (#[(⟨k', v', eb⟩ : MapEntry)].filter fun e => decide (e.born < since)) = #[⟨k', v', eb⟩] := by simp [hlt]
                have hn : (#[(⟨k', v', eb⟩ : MapEntry)].filter fun e => decide (e.born ≥ since)) = #[] := by simp; omega
                simp only [Instr.next, Sem.run_bind, Nat.add_zero, hget, getObj_map hm1, hfine, hl, Bool.false_eq_true, if_false, Sem.run_pure, ho, hn, Result.andThen_ok]
                have e1 : ((if (#[(⟨k', v', eb⟩ : MapEntry)]).isEmpty = true then #[none] else #[]) ++ Array.map some (#[(⟨k', v', eb⟩ : MapEntry)] ++ #[])) = (#[some ⟨k', v', eb⟩] : Array (Option MapEntry)) := by simp
                simp only [e1]
                have hc : (choose (.mapNext 1)).run P w = .ok 0 w := by rw [run_choose]; rfl
                change ((choose (.mapNext 1)).run P w).andThen _ = _
                rw [hc]
                change ((setObj l.c (.mapIter (some lm.c) since (seen.toArray.push eb) c) >>= fun _ => _).run P w) = _
                rw [Sem.run_bind]
                rw [hset]
                rfl
              · rw [← List.push_toArray]
                exact blk_setObj hw
    | _ => cases ha
theorem eLast_run : ∀ {l : List Nat}, eLast l = l.getLast?
  | [] => rfl
  | [_] => rfl
  | x :: y :: r => by
    have e : eLast (x :: y :: r) = eLast (y :: r) := rfl
    rw [e, eLast_run, List.getLast?_cons_cons]
theorem eByB_run {β : EMp} {b : Nat} {p : EV × EV} : ∀ {es : List (EV × EV × Nat)} {es' : List MapEntry}, MR β es es' → eByB b es = some p → ∃ q : MapEntry, es'.find? (fun e => e.born == b) = some q ∧ VR β p.1 q.key ∧ VR β p.2 q.val
  | _, _, .nil, h => by cases h
  | _, _, .cons (k := k) (v := v) (b := b') hk hv t, h => by
    have h : (match Nat.beq b' b with | true => some (k, v) | false => eByB b _) = some p := h
    rw [List.find?_cons]
    cases hb : Nat.beq b' b with
    | true =>
      rw [hb] at h
      obtain rfl := Option.some.inj h
      have : (b' == b) = true := by rw [beq_iff_eq]; exact Nat.eq_of_beq_eq_true hb
      simp only [this]
      exact ⟨_, rfl, hk, hv⟩
    | false =>
      rw [hb] at h
      have : (b' == b) = false := by rw [beq_eq_false_iff_ne]; exact fun e => by subst e; simp at hb
      simp only [this]
      exact eByB_run t h
theorem eEntry_run {x z : EV} {v : Value} (h : HR w0 β s w) (hx : VR β x v) (ha : eEntry x s = .v z s') : s = s' ∧ ∃ c, (Instr.entry v).run P w = .ok c w ∧ VR β z c := by
  obtain ⟨sh, sn⟩ := s
  unfold eEntry at ha
  split at ha <;> first | (cases ha; done) | skip
  rename_i r
  simp only at ha
  split at ha <;> first | (cases ha; done) | skip
  rename_i p hp
  injection ha with e1 e2
  subst e1 e2
  unfold eEntryH at hp
  split at hp <;> first | (cases hp; done) | skip
  rename_i m since seen last hk
  split at hp <;> first | (cases hp; done) | skip
  rename_i b hl
  split at hp <;> first | (cases hp; done) | skip
  rename_i es c hq
  split at hp <;> first | (cases hp; done) | skip
  rename_i hc
  obtain rfl := Nat.eq_of_beq_eq_true hc
  cases hx with
  | ptr hb =>
    rename_i l
    obtain ⟨h0, hs, lm, hm, hw⟩ := h.blk r l _ hb hk
    obtain ⟨hm0, es', hm1, hm2⟩ := h.blk m lm _ hm hq
    obtain ⟨q, g1, g2, g3⟩ := eByB_run hm2 hp
    have hget : (getObj l.c).run P w = .ok (.mapIter (some lm.c) since seen.toArray c) w := by
      unfold getObj
      simp only [Sem.run, hw]
    have hback : seen.toArray.back? = some b := by
      rw [← hl, eLast_run]
      simp
    have hfind : es'.find? (fun e => e.born == b) = some q := by
      rw [← g1]
      simp
    refine ⟨rfl, .tuple #[q.key, q.val], ?_, .tup (.cons g2 (.cons g3 .nil))⟩
    rw [hs]
    simp only [Instr.entry, Sem.run_bind, Nat.add_zero, hget, hback, getObj_map hm1, hfind, Sem.run_pure, Result.andThen_ok]
    simp
theorem decode_low {b : ByteArray} {pos : Nat} {c : UInt8} (h : b.data[pos]? = some c) (hc : c.toNat < 128) : Utf8.decode b pos = (c.toNat, 1) := by
  have hlt := (Array.getElem?_eq_some_iff.1 h).1
  have hg : b.get! pos = c := by
    show b.data[pos]! = c
    rw [getElem!_pos b.data pos hlt]
    exact (Array.getElem?_eq_some_iff.1 h).2
  unfold Utf8.decode
  simp [hg, hc]
theorem eNext_run {ty : TypeId} {isStr : Bool} {x z : EV} {v : Value} (h : HR w0 β s w) (hx : VR β x v) (ha : eNext isStr x s = .v z s') :
    ∃ c w', (Instr.next v isStr ty).run P w = .ok c w' ∧ VR β z c ∧ HR w0 β s' w' ∧ Ext β s β s' := by
  unfold eNext at ha
  cases hx with
  | ptr hb =>
    rename_i r o l
    cases o with
    | succ o => cases ha
    | zero =>
      rw [ESt.eta s] at ha
      simp only at ha
      cases hk : s.heap.get r with
      | none => rw [hk] at ha; cases ha
      | some k =>
        rw [hk] at ha
        cases k with
        | siter lst pos =>
          obtain ⟨h0, hs, b, hbs, hw⟩ := h.blk r l _ hb hk
          have hget : (getObj l.c).run P w = .ok (.stringIter b pos) w := by
            unfold getObj
            simp only [Sem.run, hw]
          cases isStr with
          | false => cases ha
          | true =>
            simp only at ha
            have hsz := hbs.len
            rw [List.length_map, Array.length_toList] at hsz
            cases hc : sNth lst pos with
            | none =>
              rw [hc] at ha
              injection ha with e1 e2
              subst e1 e2
              have hge : ¬ pos < b.size := fun hlt => by
                have hlt : pos < b.data.size := hlt
                obtain ⟨c, hc2⟩ := sNth_some (l := lst) (by omega : pos < sLen lst)
                rw [hc] at hc2
                cases hc2
              refine ⟨.tuple #[.bool false], w, ?_, .tup (.cons (.bool false) .nil), h, Ext.refl _ _⟩
              rw [hs]
              simp [Instr.next, hget, hge]
            | some c =>
              rw [hc] at ha
              simp only at ha
              cases h127 : sIntLe (sBnd c).hi 127 with
              | false => rw [h127] at ha; cases ha
              | true =>
                rw [h127] at ha
                injection ha with e1 e2
                subst e1 e2
                rw [sIntLe_iff] at h127
                obtain ⟨x, hx1, hx2, hx3⟩ := sNth_ok hbs hc
                have hx4 := sBnd_ok c hx3
                rw [List.getElem?_map] at hx1
                cases hq : b.data.toList[pos]? with
                | none => rw [hq] at hx1; cases hx1
                | some q =>
                  rw [hq] at hx1
                  obtain rfl := Option.some.inj hx1
                  have hx4 : (sBnd c).lo ≤ (q.toNat : Int) ∧ (q.toNat : Int) ≤ (sBnd c).hi := hx4
                  have hlt128 : q.toNat < 128 := by omega
                  rw [Array.getElem?_toList] at hq
                  have hdec := decode_low hq hlt128
                  have hlt : pos < b.size := (Array.getElem?_eq_some_iff.1 hq).1
                  have hset : (setObj l.c (.stringIter b (pos + 1))).run P w = .ok () { w with heap := w.heap.setIfInBounds l.c (.stringIter b (pos + 1)) } := by
                    unfold setObj
                    simp only [Sem.run, hw]
                  have hwr : IntKind.i32.wrap (q.toNat : Int) = (q.toNat : Int) := by
                    simp [IntKind.wrap, IntKind.bits, IntKind.signed]
                    omega
                  refine ⟨.tuple #[.bool true, .int .i64 (pos : Nat), .int .i32 (q.toNat : Nat)], { w with heap := w.heap.setIfInBounds l.c (.stringIter b (pos + 1)) }, ?_, .tup (.cons (.bool true) (.cons (.int _ _) (.cons (eMkX_ok hx3 hwr) .nil))), h.upd1 hb hk trivial trivial (upd_setObj _ _ _) ⟨h0, hs, b, hbs, blk_setObj hw⟩, Ext.upd1 hb⟩
                  rw [hs]
                  simp [Instr.next, hget, hlt, hdec, hset, goInt]
        | iter m since seen last =>
          cases isStr with
          | true => cases ha
          | false =>
            cases m with
            | some m => exact eNextM_run (lm := l) h hb hk ha
            | none =>
              obtain ⟨h0, hs, a1, a2, a3, hw⟩ := h.blk r l _ hb hk
              have hget : (getObj l.c).run P w = .ok (.mapIter none a1 a2 a3) w := by
                unfold getObj
                simp only [Sem.run, hw]
              have ha : EO.v (.tup [.bool false]) (.mk s.heap s.next) = .v z s' := ha
              injection ha with e1 e2
              subst e1 e2
              refine ⟨.tuple #[.bool false], w, ?_, .tup (.cons (.bool false) .nil), by rw [← ESt.eta s]; exact h, by rw [← ESt.eta s]; exact Ext.refl _ _⟩
              rw [hs]
              simp [Instr.next, hget]
        | _ => cases ha
  | _ => cases ha
theorem eAssert_run {t xt : TypeId} {d : TypeDesc} {ok : Bool} {x z : EV} {v : Value} (hd : eDesc P t = some d) (hz : eZero P t ≠ .bot) (hx : VR β x v) {iface : Bool} (hi : iface = true ↔ ∃ ms, d = .interface ms) (ha : eAssert P iface t ok x = some z) (w : World) :
    ∃ c, (Instr.typeAssert v xt t ok).run P w = .ok c w ∧ VR β z c := by
  have hu := run_underlying (eDesc_eq hd) w
  obtain ⟨zv, z1, z2⟩ := eZero_run (P := P) rfl hz β w
  cases hx with
  | ifc hv =>
    rename_i u y y'
    cases iface with
    | true => cases ha
    | false =>
      have hni : ∀ ms, d ≠ .interface ms := fun ms e => by have := hi.2 ⟨ms, e⟩; cases this
      unfold eAssert at ha
      simp only at ha
      cases hb : Nat.beq u t with
      | true =>
        rw [hb] at ha
        obtain rfl := Option.some.inj ha
        obtain rfl := Nat.eq_of_beq_eq_true hb
        cases ok with
        | true => exact ⟨.tuple #[y', .bool true], by cases d <;> first | exact absurd rfl (hni _) | simp [Instr.typeAssert, hu], .tup (.cons hv (.cons (.bool true) .nil))⟩
        | false => exact ⟨y', by cases d <;> first | exact absurd rfl (hni _) | simp [Instr.typeAssert, hu], hv⟩
      | false =>
        rw [hb] at ha
        have hne : u ≠ t := fun e => by subst e; simp at hb
        cases ok with
        | false => cases ha
        | true =>
          obtain rfl := Option.some.inj ha
          exact ⟨.tuple #[zv, .bool false], by cases d <;> first | exact absurd rfl (hni _) | simp [Instr.typeAssert, hu, hne, z1], .tup (.cons z2 (.cons (.bool false) .nil))⟩
  | nilI =>
    cases ok with
    | false => cases ha
    | true =>
      obtain rfl := Option.some.inj ha
      exact ⟨.tuple #[zv, .bool false], by cases d <;> simp [Instr.typeAssert, hu, z1], .tup (.cons z2 (.cons (.bool false) .nil))⟩
  | _ => cases ha
end
end Go.Proofs.YtjckpgcmfieaoaaGreatDoor
