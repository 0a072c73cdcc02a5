/-
  The evaluator's rows of operations, calls, code.
-/
import Derived.Test.YtjckpgcmfieaoaaGreatDoorAvF
namespace Go.Proofs.YtjckpgcmfieaoaaGreatDoor
open Go.RowKit

/-- The lowest blocks are the package's variables. -/
def GB (β : EMp) : Prop := ∀ g, g < 1024 → ∃ m, β g = some ⟨g, 0, m⟩
/-- The temporaries stand for an activation's. -/
def RT (β : EMp) (tm : ERg) (a : Act) : Prop := ∀ t, t < 256 → VR β (ERg.get t tm) (a.tmps.getD t undef)
/-- What was deferred. -/
inductive RD (β : EMp) : EDf → List Deferred → Prop
  | nil : RD β [] []
  | cons {f : Fn} {x y : List EV} {x' y' as : Array Value} {args : List EV} {df : EDf} {ds : List Deferred} (hx : VRs β x x'.toList) (hy : VRs β y y'.toList) (ha : VRs β args as.toList) (t : RD β df ds) : RD β ((.fn f x y, args) :: df) ({ target := .fn f y', args := x' ++ as } :: ds)
theorem GB.mono {β β' : EMp} (h : GB β) (k : β.le β') : GB β' := fun g hg => by obtain ⟨m, hm⟩ := h g hg; exact ⟨m, k _ _ hm⟩
theorem RT.mono {β β' : EMp} {tm : ERg} {a : Act} (h : RT β tm a) (k : β.le β') : RT β' tm a := fun t ht => (h t ht).mono k
theorem RD.mono {β β' : EMp} (k : β.le β') : ∀ {df : EDf} {ds : List Deferred}, RD β df ds → RD β' df ds
  | _, _, .nil => .nil
  | _, _, .cons a b c t => .cons (a.mono k) (b.mono k) (c.mono k) (t.mono k)
/-- A call, whatever does it. -/
def CallOk (P : Program) (f : FuncId) (args : Array Value) (w : World) (R : Value → World → Prop) : Prop :=
  (∃ v w', (callFunc f args).run P w = .ok (.value v) w' ∧ R v w') ∨ ((callFunc f args).run P w = .ok (.enter f args) w ∧ Calls P f args w fun e w' => ∃ v, e = .returned v ∧ R v w')
/-- What a call that the evaluator has done comes to. -/
def KOk (P : Program) (f : FuncId) (args : List EV) (s : ESt) (x : EV) (s' : ESt) : Prop :=
  ∀ (w0 : World) (β : EMp) (w : World) (as : Array Value), GB β → HR w0 β s w → VRs β args as.toList → CallOk P f as w fun v w' => ∃ β', VR β' x v ∧ HR w0 β' s' w' ∧ Ext β s β' s'
def KS (P : Program) (k : ECall) : Prop := ∀ f args s x s', k f args s = .v x s' → KOk P f args s x s'

section
variable {P : Program} {w0 : World} {β : EMp} {s s' : ESt} {w : World} {tm : ERg} {k : ECall} {x : EV} {a : Act}
theorem ev_VR (hg : GB β) (h : RT β tm a) (ha : a.tmps.size ≤ 256) (y : Operand) : VR β ((eEvC y).f tm) (a.eval y) := by
  cases y with
  | tmp t =>
    by_cases ht : t < 256
    · have e : (eEvC (.tmp t)).f tm = ERg.get t tm := by
        have : Nat.blt t 256 = true := Nat.ble_eq_true_of_le ht
        show ((match Nat.blt t 256 with | true => ⟨fun tm => (eGetC (d16 (t % 16))).f ((eGetC (d16 (t / 16))).f tm)⟩ | false => ⟨fun _ => .bot⟩ : EEv)).f tm = _
        rw [this]
        rfl
      rw [e]
      exact h t ht
    · have e : (eEvC (.tmp t)).f tm = .bot := by
        have : Nat.blt t 256 = false := by
          cases hb : Nat.blt t 256 with
          | false => rfl
          | true => exact absurd (Nat.le_of_ble_eq_true hb) ht
        show ((match Nat.blt t 256 with | true => ⟨fun tm => (eGetC (d16 (t % 16))).f ((eGetC (d16 (t / 16))).f tm)⟩ | false => ⟨fun _ => .bot⟩ : EEv)).f tm = _
        rw [this]
      rw [e]
      exact .bot _
  | const v => exact eVal_VR β v
  | global g =>
    show VR β ((match Nat.blt g 1024 with | true => ⟨fun _ => .ptr (some (g, 0))⟩ | false => ⟨fun _ => .bot⟩ : EEv).f tm) _
    cases hb : Nat.blt g 1024 with
    | false => exact .bot _
    | true =>
      obtain ⟨m, hm⟩ := hg g (Nat.le_of_ble_eq_true hb)
      exact VR.ptr (o := 0) hm
  | func f => exact .fn .nil .nil
theorem RT.put (h : RT β tm a) {d : Nat} {v : Value} (hd : d < a.tmps.size) (hs : a.tmps.size ≤ 256) (hx : VR β x v) : RT β (tm.set d x) (a.put (some d) v) := fun t ht => by
  by_cases e : d = t
  · subst e
    rw [ERg.get_set]
    simp only [Act.put]
    rw [Array.getD_eq_getD_getElem?, Array.getElem?_setIfInBounds_self_of_lt hd]
    exact hx
  · rw [ERg.get_set_ne _ _ (by omega) ht e]
    simp only [Act.put]
    rw [Array.getD_eq_getD_getElem?, Array.getElem?_setIfInBounds_ne e, ← Array.getD_eq_getD_getElem?]
    exact h t ht
theorem put_size (a : Act) (d : Option Tmp) (v : Value) : (a.put d v).tmps.size = a.tmps.size := by cases d <;> simp [Act.put]
theorem put_defers (a : Act) (d : Option Tmp) (v : Value) : (a.put d v).defers = a.defers := by cases d <;> rfl
theorem RT.putD (h : RT β tm a) {d : Option Tmp} {v : Value} (hd : ∀ t, d = some t → t < a.tmps.size) (hs : a.tmps.size ≤ 256) (hx : VR β x v) : RT β (ePutD d tm x) (a.put d v) := by
  cases d with
  | none => exact h
  | some d => exact h.put (hd d rfl) hs hx
/-- An operation by itself: what its value, and the world behind it, fulfil. -/
def OpDone (P : Program) (o : Oper) (ρ : Operand → Value) (w : World) (R : Value → World → Prop) : Prop :=
  (∃ v w', ((execOp ρ o).run P w = .ok (.value v) w' ∨ ((execOp ρ o).run P w = .ok .skip w' ∧ v = undef)) ∧ R v w') ∨
    ∃ f args, (execOp ρ o).run P w = .ok (.enter f args) w ∧ Calls P f args w fun e w' => ∃ v, e = .returned v ∧ R v w'
theorem OpDone.wp {o : Oper} {R : Value → World → Prop} {K : Act → World → Prop} {Q : Exit → Act → World → Prop} (h : OpDone P o a.eval w R) (hk : ∀ v w', R v w' → K (a.put o.dst v) w') : o.wp P a w K Q := by
  unfold Oper.wp
  rcases h with ⟨v, w', e | ⟨e, rfl⟩, hr⟩ | ⟨f, args, e, hc⟩
  · rw [e]; exact hk _ _ hr
  · rw [e]; exact hk _ _ hr
  · rw [e]
    refine hc.mono fun e w'' he => ?_
    obtain ⟨v, rfl, hv⟩ := he
    exact hk _ _ hv
theorem OpDone.mono {o : Oper} {ρ : Operand → Value} {R R' : Value → World → Prop} (h : OpDone P o ρ w R) (hr : ∀ v w', R v w' → R' v w') : OpDone P o ρ w R' := by
  rcases h with ⟨v, w', e, h⟩ | ⟨f, args, e, hc⟩
  · exact .inl ⟨v, w', e, hr _ _ h⟩
  · exact .inr ⟨f, args, e, hc.mono fun e w' he => by obtain ⟨v, h1, h2⟩ := he; exact ⟨v, h1, hr _ _ h2⟩⟩
theorem OpSpec.done {o : Oper} {ρ : Operand → Value} (h : HR w0 β s w) (hs : OpSpec P o ρ w0 β s w x s') : OpDone P o ρ w fun v w' => ∃ β', VR β' x v ∧ HR w0 β' s' w' ∧ Ext β s β' s' := by
  unfold OpSpec at hs
  cases hc : eCls P o with
  | fresh =>
    rw [hc] at hs
    obtain ⟨k, f, h1, v, w', l, h2, h3⟩ := hs
    obtain ⟨β', g1, g2, g3⟩ := h.fresh h1 h3
    exact .inl ⟨v, w', .inl h2, β', g1, g2, g3⟩
  | eff =>
    rw [hc] at hs
    obtain ⟨β', v, w', h1, h2, h3, h4⟩ := hs
    exact .inl ⟨v, w', h1, β', h2, h3, h4⟩
  | pure =>
    rw [hc] at hs
    obtain ⟨rfl, v, h1, h2⟩ := hs
    exact .inl ⟨v, w, .inl h1, β, h2, h, Ext.refl _ _⟩
  | look =>
    rw [hc] at hs
    obtain ⟨rfl, v, h1, h2⟩ := hs
    exact .inl ⟨v, w, .inl h1, β, h2, h, Ext.refl _ _⟩
theorem vr_fn {f : Fn} {x y : List EV} {v : Value} (h : VR β (.fn f x y) v) : ∃ x' y', v = .func f x' y' ∧ VRs β x x'.toList ∧ VRs β y y'.toList := by cases h; exact ⟨_, _, rfl, ‹_›, ‹_›⟩
/-- A call of a value. -/
theorem call_run (hk : KS P k) {o : Oper} {c : Call} (ho : o.op = .call c) {f : Operand} (hf : c.callee = .value f) (hg : GB β) {ρ : Operand → Value} (hρ : ∀ y ∈ o.op.operands, VR β ((eEvC y).f tm) (ρ y)) (h : HR w0 β s w) (ha : (eOp P o).f k tm s = .v x s') :
    OpDone P o ρ w fun v w' => ∃ β', VR β' x v ∧ HR w0 β' s' w' ∧ Ext β s β' s' := by
  obtain ⟨dst, op, type, pos, after, guard⟩ := o
  simp only at ho hρ
  subst ho
  obtain ⟨callee, args, types⟩ := c
  simp only at hf
  subst hf
  have hfv := hρ f (by simp [Op.operands, Call.operands])
  have hargs := eEvs_VRs (β := β) (tm := tm) (ρ := ρ) args.toList fun y hy => hρ y (by simp [Op.operands, Call.operands]; exact .inr (by simpa using hy))
  have ha : (match (eEvC f).f tm with
      | .fn (.func g) first caps => k g (first ++ eEvs args.toList tm ++ caps) s
      | _ => .er) = .v x s' := ha
  generalize (eEvC f).f tm = ef at hfv ha
  cases ef <;> first | (cases ha; done) | skip
  rename_i g first caps
  cases g <;> first | (cases ha; done) | skip
  rename_i g
  obtain ⟨x', y', hv, h1, h2⟩ := vr_fn hfv
  have hexec : ∀ w, (execOp ρ ⟨dst, .call ⟨.value f, args, types⟩, type, pos, after, guard⟩).run P w = (callFunc g (x' ++ args.map ρ ++ y')).run P w := fun w => by
    simp [execOp, resolve, Deferred.ofValue, hv, invoke]
  rcases hk g _ s x s' ha w0 β w (x' ++ args.map ρ ++ y') hg h (by
    rw [Array.toList_append, Array.toList_append, Array.toList_map]
    exact (h1.app hargs).app h2) with ⟨v, w', e, hr⟩ | ⟨e, hc⟩
  · exact .inl ⟨v, w', .inl (by rw [hexec, e]), hr⟩
  · exact .inr ⟨g, _, by rw [hexec, e], hc⟩
/-- An operation, whatever it is: what the evaluator has done is done. -/
theorem oper_run (hk : KS P k) {o : Oper} (hg : GB β) {ρ : Operand → Value} (hρ : ∀ y ∈ o.op.operands, VR β ((eEvC y).f tm) (ρ y)) (h : HR w0 β s w) (ha : (eOp P o).f k tm s = .v x s') :
    OpDone P o ρ w fun v w' => ∃ β', VR β' x v ∧ HR w0 β' s' w' ∧ Ext β s β' s' := by
  by_cases hc : ∃ c f, o.op = .call c ∧ c.callee = .value f
  · obtain ⟨c, f, ho, hf⟩ := hc
    exact call_run hk ho hf hg hρ h ha
  · refine (eOp_run (fun c ho => ?_) hρ h ha).done h
    cases hcl : c.callee with
    | value f => exact absurd ⟨c, f, ho, hcl⟩ hc
    | builtin b => exact ⟨b, rfl⟩
    | invoke r n =>
      exfalso
      obtain ⟨dst, op, type, pos, after, guard⟩ := o
      simp only at ho
      subst ho
      obtain ⟨callee, args, types⟩ := c
      simp only at hcl
      subst hcl
      cases ha
end
end Go.Proofs.YtjckpgcmfieaoaaGreatDoor
