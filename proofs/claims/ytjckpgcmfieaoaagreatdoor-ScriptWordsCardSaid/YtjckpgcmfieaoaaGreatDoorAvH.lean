/-
  The evaluator's regions whose order is the text's.
-/
import Derived.Test.YtjckpgcmfieaoaaGreatDoorAvG
namespace Go.Proofs.YtjckpgcmfieaoaaGreatDoor
open Go.RowKit

theorem GB.ext {β β' : EMp} {s s' : ESt} (h : GB β) (k : Ext β s β' s') : GB β' := h.mono k.le
/-- Where an activation stands. -/
structure SA (w0 : World) (N : Nat) (β : EMp) (tm : ERg) (df : EDf) (s : ESt) (a : Act) (w : World) : Prop where
  hr : HR w0 β s w
  rt : RT β tm a
  rd : RD β df a.defers
  sz : a.tmps.size = N
  gb : GB β
/-- The same, counted from where it began. -/
def ST (w0 : World) (β : EMp) (s : ESt) (N : Nat) (tm : ERg) (df : EDf) (s' : ESt) (a : Act) (w : World) : Prop := ∃ β', SA w0 N β' tm df s' a w ∧ Ext β s β' s'
def QE (w0 : World) (β : EMp) (s : ESt) (N : Nat) (out : EOut) : Exit → Act → World → Prop
  | .normal, a, w => ∃ tm df s', out = .n tm df s' ∧ ST w0 β s N tm df s' a w
  | .exit i, a, w => ∃ tm df s', out = .x i tm df s' ∧ ST w0 β s N tm df s' a w
  | .ret, a, w => ∃ tm df s', out = .r tm df s' ∧ ST w0 β s N tm df s' a w
  | _, _, _ => False
theorem SA.put {w0 : World} {N : Nat} {β : EMp} {tm : ERg} {df : EDf} {s : ESt} {a : Act} {w : World} (h : SA w0 N β tm df s a w) (hN : N ≤ 256) {d : Option Tmp} (hd : ∀ t, d = some t → t < N) {x : EV} {v : Value} (hx : VR β x v) : SA w0 N β (ePutD d tm x) df s (a.put d v) w :=
  ⟨h.hr, h.rt.putD (by rw [h.sz]; exact hd) (by rw [h.sz]; exact hN) hx, by rw [put_defers]; exact h.rd, by rw [put_size]; exact h.sz, h.gb⟩
theorem ST.refl {w0 : World} {N : Nat} {β : EMp} {tm : ERg} {df : EDf} {s : ESt} {a : Act} {w : World} (h : SA w0 N β tm df s a w) : ST w0 β s N tm df s a w := ⟨β, h, Ext.refl _ _⟩

section
variable {P : Program} {w0 : World} {k : ECall} {N : Nat}
theorem SA.done {β : EMp} {tm : ERg} {df : EDf} {s s' : ESt} {a : Act} {w : World} (h : SA w0 N β tm df s a w) (hN : N ≤ 256) (hk : KS P k) {o : Oper} {x : EV} (ha : (eOp P o).f k tm s = .v x s') :
    OpDone P o a.eval w fun v w' => ∃ β', VR β' x v ∧ HR w0 β' s' w' ∧ Ext β s β' s' :=
  oper_run hk h.gb (fun y _ => ev_VR h.gb h.rt (by rw [h.sz]; exact hN) y) h.hr ha
theorem er_inv {r : EO} {f : EV → ESt → EOut} {out : EOut} (h : EO.rec (motive := fun _ => EOut) .er f r = out) (ho : out ≠ .er) : ∃ x s', r = .v x s' ∧ f x s' = out := by
  cases r with
  | er => exact absurd h.symm ho
  | v x s' => exact ⟨x, s', rfl, h⟩
theorem dstOk {o : Oper} (h : eDstOk N o = true) : ∀ t, o.dst = some t → t < N := fun t e => by
  unfold eDstOk at h
  rw [e] at h
  exact Nat.le_of_ble_eq_true h
/-- A guard. -/
theorem guard_inv {all : List Oper} {g : Option (Nat × Bool)} {o : Oper} (hg : o.guard = g) {go ih : ECl} {tm : ERg} {df : EDf} {s : ESt} {out : EOut} (h : (eGuarded all N o go ih).f k tm df s = out) (ho : out ≠ .er) {β : EMp} {a : Act} (hr : RT β tm a) :
    (Region.wanted o (yielded all.toArray a.tmps) = true ∧ go.f k tm df s = out) ∨ (Region.wanted o (yielded all.toArray a.tmps) = false ∧ (∀ t, o.dst = some t → t < N) ∧ ih.f k (ePutD o.dst tm (.tup [])) df s = out) := by
  subst hg
  unfold eGuarded at h
  cases hg : o.guard with
  | none =>
    rw [hg] at h
    exact .inl ⟨by simp [Region.wanted, hg], h⟩
  | some gw =>
    obtain ⟨j, want⟩ := gw
    have hq : ∀ q, eNth all j = some q → all.toArray[j]? = some q := fun q h => by simpa [eNth_eq] using h
    cases hn : eNth all j with
    | none => simp only [hg, eGuard, hn] at h; exact absurd h.symm ho
    | some q =>
      cases hd : q.dst with
      | none => simp only [hg, eGuard, hn, hd] at h; exact absurd h.symm ho
      | some p =>
        simp only [hg, eGuard, hn, hd] at h
        cases hp : (Nat.blt p 256 && eDstOk N o) with
        | false => rw [hp] at h; exact absurd h.symm ho
        | true =>
          rw [hp] at h
          simp only at h
          rw [Bool.and_eq_true] at hp
          have hdN := dstOk hp.2
          have hv := hr p (Nat.le_of_ble_eq_true hp.1)
          have hy : yielded all.toArray a.tmps j = match a.tmps.getD p undef with | .bool b => some b | _ => none := by
            unfold yielded
            rw [hq q hn]
            simp only [Option.bind_some, hd]
            rw [Array.getD_eq_getD_getElem?]
            cases a.tmps[p]? with
            | none => rfl
            | some v => cases v <;> rfl
          generalize a.tmps.getD p undef = v at hv hy
          cases he : ERg.get p tm <;> rw [he] at h hv <;> first | exact absurd h.symm ho | skip
          · rename_i b
            obtain rfl := vr_bool hv
            simp only at hy
            have hwt : Region.wanted o (yielded all.toArray a.tmps) = (some b == some want) := by simp only [Region.wanted, hg, hy]
            cases b <;> cases want <;> first | exact .inl ⟨hwt, h⟩ | exact .inr ⟨hwt, hdN, h⟩
          · rename_i l
            cases l with
            | cons _ _ => exact absurd h.symm ho
            | nil =>
              obtain ⟨arr, rfl, -⟩ := vr_tup hv
              simp only at hy
              exact .inr ⟨by simp [Region.wanted, hg, hy], hdN, h⟩
theorem def_run {β : EMp} {tm : ERg} {df : EDf} {s : ESt} {a : Act} {w : World} (h : SA w0 N β tm df s a w) (hN : N ≤ 256) {o : Oper} {c : Call} (ho : o.op = .defer c) {f : Operand} (hf : c.callee = .value f) (hd : o.dst = none) {g : Fn} {x y : List EV} (he : (eEvC f).f tm = .fn g x y) {K : Act → World → Prop} {Q : Exit → Act → World → Prop}
    (hk : ∀ a', SA w0 N β tm ((.fn g x y, eEvs c.args.toList tm) :: df) s a' w → K a' w) : o.wp P a w K Q := by
  have hev := fun y => ev_VR h.gb h.rt (by rw [h.sz]; exact hN) y
  have hfv := hev f
  rw [he] at hfv
  obtain ⟨x', y', hv, h1, h2⟩ := vr_fn hfv
  have hargs := eEvs_VRs (β := β) (tm := tm) (ρ := a.eval) c.args.toList fun y _ => hev y
  obtain ⟨dst, op, type, pos, after, guard⟩ := o
  simp only at ho hd
  subst ho
  subst hd
  obtain ⟨callee, args, types⟩ := c
  simp only at hf
  subst hf
  have hx : (execOp a.eval ⟨none, .defer ⟨.value f, args, types⟩, type, pos, after, guard⟩).run P w = .ok (.defer ⟨.fn g y', x' ++ args.map a.eval⟩) w := by
    simp [execOp, resolve, Deferred.ofValue, hv]
  unfold Oper.wp
  rw [hx]
  refine hk _ ⟨h.hr, h.rt, ?_, h.sz, h.gb⟩
  exact .cons h1 h2 (by simpa using hargs) h.rd
/-- A step that defers nothing. -/
noncomputable def eStepP (P : Program) (N : Nat) (o : Oper) (ih : ECl) : ECl := match o.dst with
    | some d => match Nat.blt d N with
      | true => ⟨fun k tm df s => EO.rec (motive := fun _ => EOut) .er (fun x s' => ih.f k (ERg.set tm d x) df s') ((eOp P o).f k tm s)⟩
      | false => ⟨fun _ _ _ _ => .er⟩
    | none => ⟨fun k tm df s => EO.rec (motive := fun _ => EOut) .er (fun _ s' => ih.f k tm df s') ((eOp P o).f k tm s)⟩
theorem step_plain {o : Oper} (hc : ∀ c, o.op ≠ .defer c) (ih : ECl) : eStepP P N o ih = eStep P N o ih := by
  unfold eStep eStepP
  cases hop : o.op <;> first | (exact absurd hop (hc _)) | (cases o.dst <;> rfl)
theorem ops_run (hk : KS P k) (hN : N ≤ 256) {β : EMp} {s : ESt} {all : List Oper} {out : EOut} (ho : out ≠ .er) : ∀ (l : List Oper) {tm : ERg} {df : EDf} {s1 : ESt} {a : Act} {w : World}, ST w0 β s N tm df s1 a w → (eOps P all N l).f k tm df s1 = out → wpList P all.toArray (QE w0 β s N out) l a w
  | [], tm, df, s1, a, w, hs, h => ⟨tm, df, s1, h.symm, hs⟩
  | o :: l, tm, df, s1, a, w, hs, h => by
    obtain ⟨β', hs, he⟩ := hs
    have IH := fun {tm : ERg} {df : EDf} {s1 : ESt} {a : Act} {w : World} => ops_run hk hN ho (β := β) (s := s) (all := all) l (tm := tm) (df := df) (s1 := s1) (a := a) (w := w)
    unfold wpList
    rcases guard_inv rfl (show (eGuarded all N o (eStep P N o (eOps P all N l)) (eOps P all N l)).f k tm df s1 = out from h) ho hs.rt with ⟨hw, h⟩ | ⟨hw, hd, h⟩
    · rw [if_pos hw]
      refine .inl ?_
      have plain : ∀ (_ : (eStepP P N o (eOps P all N l)).f k tm df s1 = out), o.wp P a w (wpList P all.toArray (QE w0 β s N out) l) (QE w0 β s N out) := fun h => by
        unfold eStepP at h
        have : ∃ x s', (eOp P o).f k tm s1 = .v x s' ∧ (eOps P all N l).f k (ePutD o.dst tm x) df s' = out ∧ ∀ t, o.dst = some t → t < N := by
          cases hd : o.dst with
          | none =>
            rw [hd] at h
            obtain ⟨x, s', h1, h2⟩ := er_inv h ho
            exact ⟨x, s', h1, h2, fun t e => by cases e⟩
          | some d =>
            rw [hd] at h
            simp only at h
            cases hb : Nat.blt d N with
            | false => rw [hb] at h; exact absurd h.symm ho
            | true =>
              rw [hb] at h
              obtain ⟨x, s', h1, h2⟩ := er_inv h ho
              exact ⟨x, s', h1, h2, fun t e => by injection e with e; subst e; exact Nat.le_of_ble_eq_true hb⟩
        obtain ⟨x, s', h1, h2, h3⟩ := this
        refine (hs.done hN hk h1).wp fun v w' hv => ?_
        obtain ⟨β'', g1, g2, g3⟩ := hv
        have hs' : SA w0 N β'' tm df s' a w' := ⟨g2, hs.rt.mono g3.le, hs.rd.mono g3.le, hs.sz, hs.gb.mono g3.le⟩
        exact IH ⟨β'', hs'.put hN h3 g1, he.trans g3⟩ h2
      by_cases hc : ∃ c, o.op = .defer c
      · obtain ⟨c, hc⟩ := hc
        unfold eStep at h
        rw [hc] at h
        simp only at h
        cases hcl : c.callee with
        | value f =>
          rw [hcl] at h
          simp only at h
          cases hd : o.dst with
          | some _ => rw [hd] at h; exact absurd h.symm ho
          | none =>
            rw [hd] at h
            simp only at h
            cases hx : (eEvC f).f tm <;> rw [hx] at h <;> first | exact absurd h.symm ho | skip
            exact def_run hs hN hc hcl hd hx fun a' ha' => IH ⟨β', ha', he⟩ h
        | builtin b => rw [hcl] at h; exact absurd h.symm ho
        | invoke b c => rw [hcl] at h; exact absurd h.symm ho
      · refine plain ?_
        rw [← step_plain fun c hop => hc ⟨c, hop⟩] at h
        exact h
    · rw [if_neg (by rw [hw]; simp)]
      exact IH ⟨β', hs.put hN hd (.tup .nil), he⟩ h
end
end Go.Proofs.YtjckpgcmfieaoaaGreatDoor
