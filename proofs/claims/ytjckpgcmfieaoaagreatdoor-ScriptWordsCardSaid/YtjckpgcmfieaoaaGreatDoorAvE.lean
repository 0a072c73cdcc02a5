/-
  The evaluator's lengths, ways through texts, assertions, further operations.
-/
import Derived.Test.YtjckpgcmfieaoaaGreatDoorAvD
namespace Go.Proofs.YtjckpgcmfieaoaaGreatDoor
open Go.RowKit

section
variable {P : Program} {w0 : World} {β : EMp} {s s' : ESt} {w : World}
theorem eLen_run {t ty : TypeId} {x z : EV} {v : Value} (h : HR w0 β s w) (hx : VR β x v) (ha : eLen P (eDesc P t) x s = some z) (types : Array TypeId) (args : Array Value) (h1 : types[0]? = some t) (h2 : args[0]? = some v) :
    ∃ c, (Builtin.len_ types ty args).run P w = .ok c w ∧ VR β z c := by
  unfold eLen at ha
  cases hd : eDesc P t with
  | none => rw [hd] at ha; cases ha
  | some d =>
    rw [hd] at ha
    have hu := run_underlying (eDesc_eq hd) w
    cases d with
    | string =>
      cases hx with
      | str hs =>
        obtain rfl := Option.some.inj ha
        rename_i l b
        have : b.size = l.length := by rw [← hs]; simp
        refine ⟨.int .i64 (l.length : Nat), ?_, .int _ _⟩
        simp [Builtin.len_, h1, h2, hu, goInt, this]
      | _ => cases ha
    | slice e =>
      cases x with
      | sl a n c z =>
        obtain ⟨a', c', rfl⟩ : ∃ a' c', v = .slice a' n c' := by cases hx <;> exact ⟨_, _, rfl⟩
        obtain rfl := Option.some.inj ha
        refine ⟨.int .i64 (n : Nat), ?_, .int _ _⟩
        simp [Builtin.len_, h1, h2, hu, goInt]
      | _ => cases ha
    | array n e =>
      obtain rfl := Option.some.inj ha
      refine ⟨.int .i64 (n : Nat), ?_, .int _ _⟩
      simp [Builtin.len_, h1, h2, hu, goInt]
    | map k e =>
      simp only at ha
      cases hx with
      | mnil =>
        obtain rfl := Option.some.inj ha
        refine ⟨.int .i64 0, ?_, .int _ _⟩
        simp [Builtin.len_, h1, h2, hu, goInt]
      | map hb =>
        simp only at ha
        rename_i r l
        cases hm : s.mapAt (.map (some r)) with
        | none => rw [hm] at ha; cases ha
        | some p =>
          obtain ⟨r', es, c⟩ := p
          rw [hm] at ha
          obtain rfl := Option.some.inj ha
          obtain ⟨e1, e2, l', es', e3, e4, e5, e6, e7⟩ := h.mapAt (.map hb) hm
          injection e1 with e1
          injection e1 with e1
          subst e1
          rw [hb] at e3
          obtain rfl := Option.some.inj e3
          have hl : es.length = es'.size := by simpa using e7.len
          refine ⟨.int .i64 (es.length : Nat), ?_, .int _ _⟩
          simp [Builtin.len_, h1, h2, hu, getObj_map e6, goInt, hl]
      | _ => cases ha
    | pointer u =>
      simp only at ha
      cases hd2 : eDesc P u with
      | none => rw [hd2] at ha; cases ha
      | some d2 =>
        rw [hd2] at ha
        have hu2 := run_underlying (eDesc_eq hd2) w
        cases d2 with
        | array n e =>
          obtain rfl := Option.some.inj ha
          refine ⟨.int .i64 (n : Nat), ?_, .int _ _⟩
          simp [Builtin.len_, h1, h2, hu, hu2, goInt]
        | _ => cases ha
    | _ => cases ha
/-- A way through a text. -/
theorem eRange_run {t : TypeId} {x z : EV} {v : Value} (h : HR w0 β s w) (hx : VR β x v) (ha : eRange (eDesc P t) x s = .v z s') :
    ∃ β' c w', (Instr.range t v).run P w = .ok c w' ∧ VR β' z c ∧ HR w0 β' s' w' ∧ Ext β s β' s' := by
  unfold eRange at ha
  cases hd : eDesc P t with
  | none => rw [hd] at ha; cases ha
  | some d =>
    rw [hd] at ha
    have hu := run_underlying (eDesc_eq hd) w
    cases d with
    | string =>
      cases hx with
      | str hs =>
        rename_i l b
        simp only at ha
        have hf : FreshOk w0 β (.siter l 0) (fun b => .ptr (some (b, 0))) w (.pointer (some ⟨w.heap.size, 0, none⟩)) (w.alloc (.stringIter b 0)) ⟨w.heap.size, 0, 0⟩ :=
          ⟨(Upd.refl _ _).alloc _, Nat.le_refl _, fun β' q _ hb => ⟨by simpa using VR.ptr (β := β') (o := 0) hb, h.up.size, rfl, b, hs, blk_alloc _ _⟩⟩
        obtain ⟨β', g1, g2, g3⟩ := h.fresh ha hf
        exact ⟨β', _, _, by simp [Instr.range, hu], g1, g2, g3⟩
      | _ => cases ha
    | _ => cases ha
theorem decode_low {b : ByteArray} {pos : Nat} {c : UInt8} (h : b.data[pos]? = some c) (hc : c.toNat < 128) : Utf8.decode b pos = (c.toNat, 1) := by
  have hlt := (Array.getElem?_eq_some_iff.1 h).1
  have hg : b.get! pos = c := by
    show b.data[pos]! = c
    rw [getElem!_pos b.data pos hlt]
    exact (Array.getElem?_eq_some_iff.1 h).2
  unfold Utf8.decode
  simp [hg, hc]
theorem eNext_run {ty : TypeId} {isStr : Bool} {x z : EV} {v : Value} (h : HR w0 β s w) (hx : VR β x v) (ha : eNext isStr x s = .v z s') :
    ∃ c w', (Instr.next v isStr ty).run P w = .ok c w' ∧ VR β z c ∧ HR w0 β s' w' ∧ Ext β s β s' := by
  unfold eNext at ha
  cases hx with
  | ptr hb =>
    rename_i r o l
    cases o with
    | succ o => cases ha
    | zero =>
      rw [ESt.eta s] at ha
      simp only at ha
      cases hk : s.heap.get r with
      | none => rw [hk] at ha; cases ha
      | some k =>
        rw [hk] at ha
        cases k with
        | siter lst pos =>
          obtain ⟨h0, hs, b, hbs, hw⟩ := h.blk r l _ hb hk
          have hget : (getObj l.c).run P w = .ok (.stringIter b pos) w := by
            unfold getObj
            simp only [Sem.run, hw]
          cases isStr with
          | false => cases ha
          | true =>
            simp only at ha
            rw [eNth_eq] at ha
            have hsz : b.size = lst.length := by rw [← hbs]; simp
            cases hc : lst[pos]? with
            | none =>
              rw [hc] at ha
              injection ha with e1 e2
              subst e1 e2
              have hge : ¬ pos < b.size := by
                rw [hsz]
                intro hlt
                rw [List.getElem?_eq_getElem hlt] at hc
                cases hc
              refine ⟨.tuple #[.bool false], w, ?_, .tup (.cons (.bool false) .nil), h, Ext.refl _ _⟩
              rw [hs]
              simp [Instr.next, hget, hge]
            | some c =>
              rw [hc] at ha
              simp only at ha
              cases h128 : Nat.ble 128 c with
              | true => rw [h128] at ha; cases ha
              | false =>
                rw [h128] at ha
                injection ha with e1 e2
                subst e1 e2
                have hlt128 : c < 128 := by
                  rcases Nat.lt_or_ge c 128 with h | h
                  · exact h
                  · rw [Nat.ble_eq_true_of_le h] at h128; cases h128
                rw [← hbs, List.getElem?_map] at hc
                cases hq : b.data.toList[pos]? with
                | none => rw [hq] at hc; cases hc
                | some q =>
                  rw [hq] at hc
                  obtain rfl := Option.some.inj hc
                  rw [Array.getElem?_toList] at hq
                  have hdec := decode_low hq hlt128
                  have hlt : pos < b.size := (Array.getElem?_eq_some_iff.1 hq).1
                  have hset : (setObj l.c (.stringIter b (pos + 1))).run P w = .ok () { w with heap := w.heap.setIfInBounds l.c (.stringIter b (pos + 1)) } := by
                    unfold setObj
                    simp only [Sem.run, hw]
                  refine ⟨.tuple #[.bool true, .int .i64 (pos : Nat), .int .i32 (q.toNat : Nat)], { w with heap := w.heap.setIfInBounds l.c (.stringIter b (pos + 1)) }, ?_, .tup (.cons (.bool true) (.cons (.int _ _) (.cons (.int _ _) .nil))), h.upd1 hb hk trivial trivial (upd_setObj _ _ _) ⟨h0, hs, b, hbs, blk_setObj hw⟩, Ext.upd1 hb⟩
                  rw [hs]
                  simp [Instr.next, hget, hlt, hdec, hset, goInt]
        | _ => cases ha
  | _ => cases ha
theorem eAssert_run {t xt : TypeId} {d : TypeDesc} {ok : Bool} {x z : EV} {v : Value} (hd : eDesc P t = some d) (hz : eZero P t ≠ .bot) (hx : VR β x v) {iface : Bool} (hi : iface = true ↔ ∃ ms, d = .interface ms) (ha : eAssert P iface t ok x = some z) (w : World) :
    ∃ c, (Instr.typeAssert v xt t ok).run P w = .ok c w ∧ VR β z c := by
  have hu := run_underlying (eDesc_eq hd) w
  obtain ⟨zv, z1, z2⟩ := eZero_run (P := P) rfl hz β w
  cases hx with
  | ifc hv =>
    rename_i u y y'
    cases iface with
    | true => cases ha
    | false =>
      have hni : ∀ ms, d ≠ .interface ms := fun ms e => by have := hi.2 ⟨ms, e⟩; cases this
      unfold eAssert at ha
      simp only at ha
      cases hb : Nat.beq u t with
      | true =>
        rw [hb] at ha
        obtain rfl := Option.some.inj ha
        obtain rfl := Nat.eq_of_beq_eq_true hb
        cases ok with
        | true => exact ⟨.tuple #[y', .bool true], by cases d <;> first | exact absurd rfl (hni _) | simp [Instr.typeAssert, hu], .tup (.cons hv (.cons (.bool true) .nil))⟩
        | false => exact ⟨y', by cases d <;> first | exact absurd rfl (hni _) | simp [Instr.typeAssert, hu], hv⟩
      | false =>
        rw [hb] at ha
        have hne : u ≠ t := fun e => by subst e; simp at hb
        cases ok with
        | false => cases ha
        | true =>
          obtain rfl := Option.some.inj ha
          exact ⟨.tuple #[zv, .bool false], by cases d <;> first | exact absurd rfl (hni _) | simp [Instr.typeAssert, hu, hne, z1], .tup (.cons z2 (.cons (.bool false) .nil))⟩
  | nilI =>
    cases ok with
    | false => cases ha
    | true =>
      obtain rfl := Option.some.inj ha
      exact ⟨.tuple #[zv, .bool false], by cases d <;> simp [Instr.typeAssert, hu, z1], .tup (.cons z2 (.cons (.bool false) .nil))⟩
  | _ => cases ha
end
end Go.Proofs.YtjckpgcmfieaoaaGreatDoor
