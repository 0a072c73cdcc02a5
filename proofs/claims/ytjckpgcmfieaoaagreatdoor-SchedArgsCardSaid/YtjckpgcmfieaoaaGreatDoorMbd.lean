/-
  The evaluator's rows of operations, calls, code.
-/
import Derived.Test.YtjckpgcmfieaoaaGreatDoorAvF
set_option linter.unusedVariables false
set_option linter.unusedSimpArgs false
namespace Go.Proofs.YtjckpgcmfieaoaaGreatDoor
open Go.RowKit

/-- The lowest blocks are the package's variables. -/
def GB (β : EMp) : Prop := ∀ g, g < 1024 → ∃ m, β g = some ⟨g, 0, m⟩
/-- The temporaries stand for an activation's. -/
def RT (β : EMp) (tm : ERg) (a : Act) : Prop := ∀ t, t < 256 → VR β (ERg.get t tm) (a.tmps.getD t undef)
/-- What was deferred. -/
inductive RD (β : EMp) : EDf → List Deferred → Prop
  | nil : RD β [] []
  | cons {f : Fn} {x y : List EV} {x' y' as : Array Value} {args : List EV} {df : EDf} {ds : List Deferred} (hx : VRs β x x'.toList) (hy : VRs β y y'.toList) (ha : VRs β args as.toList) (t : RD β df ds) : RD β ((.fn f x y, args) :: df) ({ target := .fn f y', args := x' ++ as } :: ds)
theorem GB.mono {β β' : EMp} (h : GB β) (k : β.le β') : GB β' := fun g hg => by obtain ⟨m, hm⟩ := h g hg; exact ⟨m, k _ _ hm⟩
theorem RT.mono {β β' : EMp} {tm : ERg} {a : Act} (h : RT β tm a) (k : β.le β') : RT β' tm a := fun t ht => (h t ht).mono k
theorem RD.mono {β β' : EMp} (k : β.le β') : ∀ {df : EDf} {ds : List Deferred}, RD β df ds → RD β' df ds
  | _, _, .nil => .nil
  | _, _, .cons a b c t => .cons (a.mono k) (b.mono k) (c.mono k) (t.mono k)
/-- A call, whatever does it. -/
def CallOk (P : Program) (f : FuncId) (args : Array Value) (w : World) (R : Value → World → Prop) : Prop :=
  (∃ v w', (callFunc f args).run P w = .ok (.value v) w' ∧ R v w') ∨ ((callFunc f args).run P w = .ok (.enter f args) w ∧ Calls P f args w fun e w' => ∃ v, e = .returned v ∧ R v w')
/-- What a call that the evaluator has done comes to. -/
def KOk (P : Program) (f : FuncId) (args : List EV) (s : ESt) (x : EV) (s' : ESt) : Prop :=
  ∀ (w0 : World) (β : EMp) (w : World) (as : Array Value), GB β → HR w0 β s w → VRs β args as.toList → CallOk P f as w fun v w' => ∃ β', VR β' x v ∧ HR w0 β' s' w' ∧ Ext β s β' s'
def KS (P : Program) (k : ECall) : Prop := ∀ f args s x s', k f args s = .v x s' → KOk P f args s x s'

section
variable {P : Program} {w0 : World} {β : EMp} {s s' : ESt} {w : World} {tm : ERg} {k : ECall} {x : EV} {a : Act}
theorem ev_VR (hg : GB β) (h : RT β tm a) (ha : a.tmps.size ≤ 256) (y : Operand) : VR β ((eEvC y).f tm) (a.eval y) := by
  cases y with
  | tmp t =>
    by_cases ht : t < 256
    · have e : (eEvC (.tmp t)).f tm = ERg.get t tm := by
        have : Nat.blt t 256 = true := Nat.ble_eq_true_of_le ht
        show ((match Nat.blt t 256 with | true => ⟨fun tm => (eGetC (d16 (t % 16))).f ((eGetC (d16 (t / 16))).f tm)⟩ | false => ⟨fun _ => .bot⟩ : EEv)).f tm = _
        rw [this]
        rfl
      rw [e]
      exact h t ht
    · have e : (eEvC (.tmp t)).f tm = .bot := by
        have : Nat.blt t 256 = false := by
          cases hb : Nat.blt t 256 with
          | false => rfl
          | true => exact absurd (Nat.le_of_ble_eq_true hb) ht
        show ((match Nat.blt t 256 with | true => ⟨fun tm => (eGetC (d16 (t % 16))).f ((eGetC (d16 (t / 16))).f tm)⟩ | false => ⟨fun _ => .bot⟩ : EEv)).f tm = _
        rw [this]
      rw [e]
      exact .bot _
  | const v => exact eVal_VR β v
  | global g =>
    show VR β ((match Nat.blt g 1024 with | true => ⟨fun _ => .ptr (some (g, 0))⟩ | false => ⟨fun _ => .bot⟩ : EEv).f tm) _
    cases hb : Nat.blt g 1024 with
    | false => exact .bot _
    | true =>
      obtain ⟨m, hm⟩ := hg g (Nat.le_of_ble_eq_true hb)
      exact VR.ptr (o := 0) hm
  | func f => exact .fn .nil .nil
theorem RT.put (h : RT β tm a) {d : Nat} {v : Value} (hd : d < a.tmps.size) (hs : a.tmps.size ≤ 256) (hx : VR β x v) : RT β (tm.set d x) (a.put (some d) v) := fun t ht => by
  by_cases e : d = t
  · subst e
    rw [ERg.get_set]
    simp only [Act.put]
    rw [Array.getD_eq_getD_getElem?, Array.getElem?_setIfInBounds_self_of_lt hd]
    exact hx
  · rw [ERg.get_set_ne _ _ (by omega) ht e]
    simp only [Act.put]
    rw [Array.getD_eq_getD_getElem?, Array.getElem?_setIfInBounds_ne e, ← Array.getD_eq_getD_getElem?]
    exact h t ht
theorem put_size (a : Act) (d : Option Tmp) (v : Value) : (a.put d v).tmps.size = a.tmps.size := by cases d <;> simp [Act.put]
theorem put_defers (a : Act) (d : Option Tmp) (v : Value) : (a.put d v).defers = a.defers := by cases d <;> rfl
theorem RT.putD (h : RT β tm a) {d : Option Tmp} {v : Value} (hd : ∀ t, d = some t → t < a.tmps.size) (hs : a.tmps.size ≤ 256) (hx : VR β x v) : RT β (ePutD d tm x) (a.put d v) := by
  cases d with
  | none => exact h
  | some d => exact h.put (hd d rfl) hs hx
/-- An operation by itself: what its value, and the world behind it, fulfil. -/
def OpDone (P : Program) (o : Oper) (ρ : Operand → Value) (w : World) (R : Value → World → Prop) : Prop :=
  (∃ v w', ((execOp ρ o).run P w = .ok (.value v) w' ∨ ((execOp ρ o).run P w = .ok .skip w' ∧ v = undef)) ∧ R v w') ∨
    ∃ f args, (execOp ρ o).run P w = .ok (.enter f args) w ∧ Calls P f args w fun e w' => ∃ v, e = .returned v ∧ R v w'
theorem OpDone.wp {o : Oper} {R : Value → World → Prop} {K : Act → World → Prop} {Q : Exit → Act → World → Prop} (h : OpDone P o a.eval w R) (hk : ∀ v w', R v w' → K (a.put o.dst v) w') : o.wp P a w K Q := by
  unfold Oper.wp
  rcases h with ⟨v, w', e | ⟨e, rfl⟩, hr⟩ | ⟨f, args, e, hc⟩
  · rw [e]; exact hk _ _ hr
  · rw [e]; exact hk _ _ hr
  · rw [e]
    refine hc.mono fun e w'' he => ?_
    obtain ⟨v, rfl, hv⟩ := he
    exact hk _ _ hv
theorem OpDone.mono {o : Oper} {ρ : Operand → Value} {R R' : Value → World → Prop} (h : OpDone P o ρ w R) (hr : ∀ v w', R v w' → R' v w') : OpDone P o ρ w R' := by
  rcases h with ⟨v, w', e, h⟩ | ⟨f, args, e, hc⟩
  · exact .inl ⟨v, w', e, hr _ _ h⟩
  · exact .inr ⟨f, args, e, hc.mono fun e w' he => by obtain ⟨v, h1, h2⟩ := he; exact ⟨v, h1, hr _ _ h2⟩⟩
theorem OpSpec.done {o : Oper} {ρ : Operand → Value} (h : HR w0 β s w) (hs : OpSpec P o ρ w0 β s w x s') : OpDone P o ρ w fun v w' => ∃ β', VR β' x v ∧ HR w0 β' s' w' ∧ Ext β s β' s' := by
  unfold OpSpec at hs
  cases hc : eCls P o with
  | fresh =>
    rw [hc] at hs
    obtain ⟨k, f, h1, v, w', l, h2, h3⟩ := hs
    obtain ⟨β', g1, g2, g3⟩ := h.fresh h1 h3
    exact .inl ⟨v, w', .inl h2, β', g1, g2, g3⟩
  | eff =>
    rw [hc] at hs
    obtain ⟨β', v, w', h1, h2, h3, h4⟩ := hs
    exact .inl ⟨v, w', h1, β', h2, h3, h4⟩
  | pure =>
    rw [hc] at hs
    obtain ⟨rfl, v, h1, h2⟩ := hs
    exact .inl ⟨v, w, .inl h1, β, h2, h, Ext.refl _ _⟩
  | look =>
    rw [hc] at hs
    obtain ⟨rfl, v, h1, h2⟩ := hs
    exact .inl ⟨v, w, .inl h1, β, h2, h, Ext.refl _ _⟩
theorem vr_fn {f : Fn} {x y : List EV} {v : Value} (h : VR β (.fn f x y) v) : ∃ x' y', v = .func f x' y' ∧ VRs β x x'.toList ∧ VRs β y y'.toList := by cases h; exact ⟨_, _, rfl, ‹_›, ‹_›⟩
/-- A call of a value. -/
theorem call_run (hk : KS P k) {o : Oper} {c : Call} (ho : o.op = .call c) {f : Operand} (hf : c.callee = .value f) (hg : GB β) {ρ : Operand → Value} (hρ : ∀ y ∈ o.op.operands, VR β ((eEvC y).f tm) (ρ y)) (h : HR w0 β s w) (ha : (eOp P o).f k tm s = .v x s') :
    OpDone P o ρ w fun v w' => ∃ β', VR β' x v ∧ HR w0 β' s' w' ∧ Ext β s β' s' := by
  obtain ⟨dst, op, type, pos, after, guard⟩ := o
  simp only at ho hρ
  subst ho
  obtain ⟨callee, args, types⟩ := c
  simp only at hf
  subst hf
  have hfv := hρ f (by simp [Op.operands, Call.operands])
  have hargs := eEvs_VRs (β := β) (tm := tm) (ρ := ρ) args.toList fun y hy => hρ y (by simp [Op.operands, Call.operands]; exact .inr (by simpa using hy))
  have ha : (match (eEvC f).f tm with
      | .fn (.func g) first caps => k g (first ++ eEvs args.toList tm ++ caps) s
      | _ => .er) = .v x s' := ha
  generalize (eEvC f).f tm = ef at hfv ha
  cases ef <;> first | (cases ha; done) | skip
  rename_i g first caps
  cases g <;> first | (cases ha; done) | skip
  rename_i g
  obtain ⟨x', y', hv, h1, h2⟩ := vr_fn hfv
  have hexec : ∀ w, (execOp ρ ⟨dst, .call ⟨.value f, args, types⟩, type, pos, after, guard⟩).run P w = (callFunc g (x' ++ args.map ρ ++ y')).run P w := fun w => by
    simp [execOp, resolve, Deferred.ofValue, hv, invoke]
  rcases hk g _ s x s' ha w0 β w (x' ++ args.map ρ ++ y') hg h (by
    rw [Array.toList_append, Array.toList_append, Array.toList_map]
    exact (h1.app hargs).app h2) with ⟨v, w', e, hr⟩ | ⟨e, hc⟩
  · exact .inl ⟨v, w', .inl (by rw [hexec, e]), hr⟩
  · exact .inr ⟨g, _, by rw [hexec, e], hc⟩
/-- An operation, whatever it is: what the evaluator has done is done. -/
theorem oper_run (hk : KS P k) {o : Oper} (hg : GB β) {ρ : Operand → Value} (hρ : ∀ y ∈ o.op.operands, VR β ((eEvC y).f tm) (ρ y)) (h : HR w0 β s w) (ha : (eOp P o).f k tm s = .v x s') :
    OpDone P o ρ w fun v w' => ∃ β', VR β' x v ∧ HR w0 β' s' w' ∧ Ext β s β' s' := by
  by_cases hc : ∃ c f, o.op = .call c ∧ c.callee = .value f
  · obtain ⟨c, f, ho, hf⟩ := hc
    exact call_run hk ho hf hg hρ h ha
  · refine (eOp_run (fun c ho => ?_) hρ h ha).done h
    cases hcl : c.callee with
    | value f => exact absurd ⟨c, f, ho, hcl⟩ hc
    | builtin b => exact ⟨b, rfl⟩
    | invoke r n =>
      exfalso
      obtain ⟨dst, op, type, pos, after, guard⟩ := o
      simp only at ho
      subst ho
      obtain ⟨callee, args, types⟩ := c
      simp only at hcl
      subst hcl
      cases ha
end

theorem GB.ext {β β' : EMp} {s s' : ESt} (h : GB β) (k : Ext β s β' s') : GB β' := h.mono k.le
/-- Where an activation stands. -/
structure SA (w0 : World) (N : Nat) (β : EMp) (tm : ERg) (df : EDf) (s : ESt) (a : Act) (w : World) : Prop where
  hr : HR w0 β s w
  rt : RT β tm a
  rd : RD β df a.defers
  sz : a.tmps.size = N
  gb : GB β
/-- The same, counted from where it began. -/
def ST (w0 : World) (β : EMp) (s : ESt) (N : Nat) (tm : ERg) (df : EDf) (s' : ESt) (a : Act) (w : World) : Prop := ∃ β', SA w0 N β' tm df s' a w ∧ Ext β s β' s'
def QE (w0 : World) (β : EMp) (s : ESt) (N : Nat) (out : EOut) : Exit → Act → World → Prop
  | .normal, a, w => ∃ tm df s', out = .n tm df s' ∧ ST w0 β s N tm df s' a w
  | .exit i, a, w => ∃ tm df s', out = .x i tm df s' ∧ ST w0 β s N tm df s' a w
  | .ret, a, w => ∃ tm df s', out = .r tm df s' ∧ ST w0 β s N tm df s' a w
  | _, _, _ => False
theorem SA.put {w0 : World} {N : Nat} {β : EMp} {tm : ERg} {df : EDf} {s : ESt} {a : Act} {w : World} (h : SA w0 N β tm df s a w) (hN : N ≤ 256) {d : Option Tmp} (hd : ∀ t, d = some t → t < N) {x : EV} {v : Value} (hx : VR β x v) : SA w0 N β (ePutD d tm x) df s (a.put d v) w :=
  ⟨h.hr, h.rt.putD (by rw [h.sz]; exact hd) (by rw [h.sz]; exact hN) hx, by rw [put_defers]; exact h.rd, by rw [put_size]; exact h.sz, h.gb⟩
theorem ST.refl {w0 : World} {N : Nat} {β : EMp} {tm : ERg} {df : EDf} {s : ESt} {a : Act} {w : World} (h : SA w0 N β tm df s a w) : ST w0 β s N tm df s a w := ⟨β, h, Ext.refl _ _⟩

section
variable {P : Program} {w0 : World} {k : ECall} {N : Nat}
theorem SA.done {β : EMp} {tm : ERg} {df : EDf} {s s' : ESt} {a : Act} {w : World} (h : SA w0 N β tm df s a w) (hN : N ≤ 256) (hk : KS P k) {o : Oper} {x : EV} (ha : (eOp P o).f k tm s = .v x s') :
    OpDone P o a.eval w fun v w' => ∃ β', VR β' x v ∧ HR w0 β' s' w' ∧ Ext β s β' s' :=
  oper_run hk h.gb (fun y _ => ev_VR h.gb h.rt (by rw [h.sz]; exact hN) y) h.hr ha
theorem er_inv {r : EO} {f : EV → ESt → EOut} {out : EOut} (h : EO.rec (motive := fun _ => EOut) .er f r = out) (ho : out ≠ .er) : ∃ x s', r = .v x s' ∧ f x s' = out := by
  cases r with
  | er => exact absurd h.symm ho
  | v x s' => exact ⟨x, s', rfl, h⟩
theorem dstOk {o : Oper} (h : eDstOk N o = true) : ∀ t, o.dst = some t → t < N := fun t e => by
  unfold eDstOk at h
  rw [e] at h
  exact Nat.le_of_ble_eq_true h
/-- A guard. -/
theorem guard_inv {all : List Oper} {g : Option (Nat × Bool)} {o : Oper} (hg : o.guard = g) {go ih : ECl} {tm : ERg} {df : EDf} {s : ESt} {out : EOut} (h : (eGuarded all N o go ih).f k tm df s = out) (ho : out ≠ .er) {β : EMp} {a : Act} (hr : RT β tm a) :
    (Region.wanted o (yielded all.toArray a.tmps) = true ∧ go.f k tm df s = out) ∨ (Region.wanted o (yielded all.toArray a.tmps) = false ∧ (∀ t, o.dst = some t → t < N) ∧ ih.f k (ePutD o.dst tm (.tup [])) df s = out) := by
  subst hg
  unfold eGuarded at h
  cases hg : o.guard with
  | none =>
    rw [hg] at h
    exact .inl ⟨by simp [Region.wanted, hg], h⟩
  | some gw =>
    obtain ⟨j, want⟩ := gw
    have hq : ∀ q, eNth all j = some q → all.toArray[j]? = some q := fun q h => by simpa [eNth_eq] using h
    cases hn : eNth all j with
    | none => simp only [hg, eGuard, hn] at h; exact absurd h.symm ho
    | some q =>
      cases hd : q.dst with
      | none => simp only [hg, eGuard, hn, hd] at h; exact absurd h.symm ho
      | some p =>
        simp only [hg, eGuard, hn, hd] at h
        cases hp : (Nat.blt p 256 && eDstOk N o) with
        | false => rw [hp] at h; exact absurd h.symm ho
        | true =>
          rw [hp] at h
          simp only at h
          rw [Bool.and_eq_true] at hp
          have hdN := dstOk hp.2
          have hv := hr p (Nat.le_of_ble_eq_true hp.1)
          have hy : yielded all.toArray a.tmps j = match a.tmps.getD p undef with | .bool b => some b | _ => none := by
            unfold yielded
            rw [hq q hn]
            simp only [Option.bind_some, hd]
            rw [Array.getD_eq_getD_getElem?]
            cases a.tmps[p]? with
            | none => rfl
            | some v => cases v <;> rfl
          generalize a.tmps.getD p undef = v at hv hy
          cases he : ERg.get p tm <;> rw [he] at h hv <;> first | exact absurd h.symm ho | skip
          · rename_i b
            obtain rfl := vr_bool hv
            simp only at hy
            have hwt : Region.wanted o (yielded all.toArray a.tmps) = (some b == some want) := by simp only [Region.wanted, hg, hy]
            cases b <;> cases want <;> first | exact .inl ⟨hwt, h⟩ | exact .inr ⟨hwt, hdN, h⟩
          · rename_i l
            cases l with
            | cons _ _ => exact absurd h.symm ho
            | nil =>
              obtain ⟨arr, rfl, -⟩ := vr_tup hv
              simp only at hy
              exact .inr ⟨by simp [Region.wanted, hg, hy], hdN, h⟩
theorem def_run {β : EMp} {tm : ERg} {df : EDf} {s : ESt} {a : Act} {w : World} (h : SA w0 N β tm df s a w) (hN : N ≤ 256) {o : Oper} {c : Call} (ho : o.op = .defer c) {f : Operand} (hf : c.callee = .value f) (hd : o.dst = none) {g : Fn} {x y : List EV} (he : (eEvC f).f tm = .fn g x y) {K : Act → World → Prop} {Q : Exit → Act → World → Prop}
    (hk : ∀ a', SA w0 N β tm ((.fn g x y, eEvs c.args.toList tm) :: df) s a' w → K a' w) : o.wp P a w K Q := by
  have hev := fun y => ev_VR h.gb h.rt (by rw [h.sz]; exact hN) y
  have hfv := hev f
  rw [he] at hfv
  obtain ⟨x', y', hv, h1, h2⟩ := vr_fn hfv
  have hargs := eEvs_VRs (β := β) (tm := tm) (ρ := a.eval) c.args.toList fun y _ => hev y
  obtain ⟨dst, op, type, pos, after, guard⟩ := o
  simp only at ho hd
  subst ho
  subst hd
  obtain ⟨callee, args, types⟩ := c
  simp only at hf
  subst hf
  have hx : (execOp a.eval ⟨none, .defer ⟨.value f, args, types⟩, type, pos, after, guard⟩).run P w = .ok (.defer ⟨.fn g y', x' ++ args.map a.eval⟩) w := by
    simp [execOp, resolve, Deferred.ofValue, hv]
  unfold Oper.wp
  rw [hx]
  refine hk _ ⟨h.hr, h.rt, ?_, h.sz, h.gb⟩
  exact .cons h1 h2 (by simpa using hargs) h.rd
/-- A step that defers nothing. -/
noncomputable def eStepP (P : Program) (N : Nat) (o : Oper) (ih : ECl) : ECl := match o.dst with
    | some d => match Nat.blt d N with
      | true => ⟨fun k tm df s => EO.rec (motive := fun _ => EOut) .er (fun x s' => ih.f k (ERg.set tm d x) df s') ((eOp P o).f k tm s)⟩
      | false => ⟨fun _ _ _ _ => .er⟩
    | none => ⟨fun k tm df s => EO.rec (motive := fun _ => EOut) .er (fun _ s' => ih.f k tm df s') ((eOp P o).f k tm s)⟩
theorem step_plain {o : Oper} (hc : ∀ c, o.op ≠ .defer c) (ih : ECl) : eStepP P N o ih = eStep P N o ih := by
  unfold eStep eStepP
  cases hop : o.op <;> first | (exact absurd hop (hc _)) | (cases o.dst <;> rfl)
theorem ops_run (hk : KS P k) (hN : N ≤ 256) {β : EMp} {s : ESt} {all : List Oper} {out : EOut} (ho : out ≠ .er) : ∀ (l : List Oper) {tm : ERg} {df : EDf} {s1 : ESt} {a : Act} {w : World}, ST w0 β s N tm df s1 a w → (eOps P all N l).f k tm df s1 = out → wpList P all.toArray (QE w0 β s N out) l a w
  | [], tm, df, s1, a, w, hs, h => ⟨tm, df, s1, h.symm, hs⟩
  | o :: l, tm, df, s1, a, w, hs, h => by
    obtain ⟨β', hs, he⟩ := hs
    have IH := fun {tm : ERg} {df : EDf} {s1 : ESt} {a : Act} {w : World} => ops_run hk hN ho (β := β) (s := s) (all := all) l (tm := tm) (df := df) (s1 := s1) (a := a) (w := w)
    unfold wpList
    rcases guard_inv rfl (show (eGuarded all N o (eStep P N o (eOps P all N l)) (eOps P all N l)).f k tm df s1 = out from h) ho hs.rt with ⟨hw, h⟩ | ⟨hw, hd, h⟩
    · rw [if_pos hw]
      refine .inl ?_
      have plain : ∀ (_ : (eStepP P N o (eOps P all N l)).f k tm df s1 = out), o.wp P a w (wpList P all.toArray (QE w0 β s N out) l) (QE w0 β s N out) := fun h => by
        unfold eStepP at h
        have : ∃ x s', (eOp P o).f k tm s1 = .v x s' ∧ (eOps P all N l).f k (ePutD o.dst tm x) df s' = out ∧ ∀ t, o.dst = some t → t < N := by
          cases hd : o.dst with
          | none =>
            rw [hd] at h
            obtain ⟨x, s', h1, h2⟩ := er_inv h ho
            exact ⟨x, s', h1, h2, fun t e => by cases e⟩
          | some d =>
            rw [hd] at h
            simp only at h
            cases hb : Nat.blt d N with
            | false => rw [hb] at h; exact absurd h.symm ho
            | true =>
              rw [hb] at h
              obtain ⟨x, s', h1, h2⟩ := er_inv h ho
              exact ⟨x, s', h1, h2, fun t e => by injection e with e; subst e; exact Nat.le_of_ble_eq_true hb⟩
        obtain ⟨x, s', h1, h2, h3⟩ := this
        refine (hs.done hN hk h1).wp fun v w' hv => ?_
        obtain ⟨β'', g1, g2, g3⟩ := hv
        have hs' : SA w0 N β'' tm df s' a w' := ⟨g2, hs.rt.mono g3.le, hs.rd.mono g3.le, hs.sz, hs.gb.mono g3.le⟩
        exact IH ⟨β'', hs'.put hN h3 g1, he.trans g3⟩ h2
      by_cases hc : ∃ c, o.op = .defer c
      · obtain ⟨c, hc⟩ := hc
        unfold eStep at h
        rw [hc] at h
        simp only at h
        cases hcl : c.callee with
        | value f =>
          rw [hcl] at h
          simp only at h
          cases hd : o.dst with
          | some _ => rw [hd] at h; exact absurd h.symm ho
          | none =>
            rw [hd] at h
            simp only at h
            cases hx : (eEvC f).f tm <;> rw [hx] at h <;> first | exact absurd h.symm ho | skip
            exact def_run hs hN hc hcl hd hx fun a' ha' => IH ⟨β', ha', he⟩ h
        | builtin b => rw [hcl] at h; exact absurd h.symm ho
        | invoke b c => rw [hcl] at h; exact absurd h.symm ho
      · refine plain ?_
        rw [← step_plain fun c hop => hc ⟨c, hop⟩] at h
        exact h
    · rw [if_neg (by rw [hw]; simp)]
      exact IH ⟨β', hs.put hN hd (.tup .nil), he⟩ h
end
end Go.Proofs.YtjckpgcmfieaoaaGreatDoor
