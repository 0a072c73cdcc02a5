/-
  The evaluator's code.
-/
import Derived.Test.YtjckpgcmfieaoaaGreatDoorMbd
set_option linter.unusedVariables false
set_option linter.unusedSimpArgs false
namespace Go.Proofs.YtjckpgcmfieaoaaGreatDoor
open Go.RowKit

/-- Regions that draw their order. -/
def DrawOk (P : Program) : Prop := ∀ (w0 : World) (k : ECall) (N : Nat) (β : EMp) (s : ESt) (id : Nat) (all : List Oper) (out : EOut) (tm : ERg) (df : EDf) (s1 : ESt) (a : Act) (w : World),
  KS P k → N ≤ 256 → out ≠ .er → ST w0 β s N tm df s1 a w → (eRegion P N all true).f k tm df s1 = out → (Code.region id all.toArray true).wp P (QE w0 β s N out) a w
section
variable {P : Program} {w0 : World} {k : ECall} {N : Nat}
theorem out_inv {r out : EOut} {fn : ERg → EDf → ESt → EOut} {fx : Nat → ERg → EDf → ESt → EOut} {fr : ERg → EDf → ESt → EOut} (h : EOut.rec (motive := fun _ => EOut) .er fn fx fr r = out) (ho : out ≠ .er) :
    (∃ tm df s, r = .n tm df s ∧ fn tm df s = out) ∨ (∃ i tm df s, r = .x i tm df s ∧ fx i tm df s = out) ∨ (∃ tm df s, r = .r tm df s ∧ fr tm df s = out) := by
  cases r with
  | er => exact absurd h.symm ho
  | n tm df s => exact .inl ⟨tm, df, s, rfl, h⟩
  | x i tm df s => exact .inr (.inl ⟨i, tm, df, s, rfl, h⟩)
  | r tm df s => exact .inr (.inr ⟨tm, df, s, rfl, h⟩)
/-- Rounds of a loop: where they end. -/
def Rnd (P : Program) (w0 : World) (β : EMp) (s : ESt) (N : Nat) (c : Code) (out : EOut) (a : Act) (w : World) : Prop :=
  ∀ (b : Frame) (k : List Item) (cs : List Frame), ∃ e a' w', QE w0 β s N out e a' w' ∧ match e with
    | .normal => Steps P (lone (b.at a (.code c :: .inLoop c :: k)) cs w) (lone (b.at a' (.code c :: .inLoop c :: k)) cs w')
    | e => Arrives P (lone (b.at a (.code c :: .inLoop c :: k)) cs w) b k cs e a' w'
theorem Rnd.one {β : EMp} {s : ESt} {c : Code} {out : EOut} {a : Act} {w : World} (h : c.wp P (QE w0 β s N out) a w) : Rnd P w0 β s N c out a w := fun b k cs => by
  obtain ⟨e, a₁, w₁, hq, harr⟩ := h b (.inLoop c :: k) cs
  refine ⟨e, a₁, w₁, hq, ?_⟩
  cases e with
  | normal => exact Steps.trans harr (.one step_inLoop)
  | exit id => exact .pass (x := .inLoop c) rfl (fun _ _ => .inl (by simp)) harr
  | goto l => exact .pass (x := .inLoop c) rfl (fun _ _ => .inl (by simp)) harr
  | ret => exact .pass (x := .inLoop c) rfl (fun _ _ => .inl (by simp)) harr
  | panic ch => exact .pass (x := .inLoop c) rfl (fun _ _ => .inl (by simp)) harr
  | outgrown => exact .pass (x := .inLoop c) rfl (fun _ _ => .inl (by simp)) harr
theorem loop_run {β : EMp} {s : ESt} {c : Code} {body : ERg → EDf → ESt → EOut} (hb : ∀ {tm : ERg} {df : EDf} {s1 : ESt} {a : Act} {w : World} {out : EOut}, out ≠ .er → ST w0 β s N tm df s1 a w → body tm df s1 = out → c.wp P (QE w0 β s N out) a w) :
    ∀ (f : EF) {tm : ERg} {df : EDf} {s1 : ESt} {a : Act} {w : World} {out : EOut}, out ≠ .er → ST w0 β s N tm df s1 a w → eLoopF f body tm df s1 = out → Rnd P w0 β s N c out a w
  | .one, _, _, _, _, _, _, ho, hs, h => Rnd.one (hb ho hs h)
  | .two f, tm, df, s1, a, w, out, ho, hs, h => by
    rcases out_inv (show EOut.rec (motive := fun _ => EOut) .er (fun tm df s => eLoopF f body tm df s) (fun i tm df s => .x i tm df s) (fun tm df s => .r tm df s) (eLoopF f body tm df s1) = out from h) ho with ⟨tm', df', s', h1, h2⟩ | ⟨i, tm', df', s', h1, h2⟩ | ⟨tm', df', s', h1, h2⟩
    · intro b k cs
      obtain ⟨e, a₁, w₁, hq, hst⟩ := loop_run hb f (by simp) hs h1 b k cs
      cases e with
      | normal =>
        obtain ⟨_, _, _, e, hs'⟩ := hq
        injection e with e1 e2 e3
        subst e1 e2 e3
        obtain ⟨e, a₂, w₂, hq₂, hst₂⟩ := loop_run hb f ho hs' h2 b k cs
        refine ⟨e, a₂, w₂, hq₂, ?_⟩
        cases e with
        | normal => exact Steps.trans hst hst₂
        | exit id => exact .of_steps hst hst₂
        | goto l => exact .of_steps hst hst₂
        | ret => exact .of_steps hst hst₂
        | panic ch => exact .of_steps hst hst₂
        | outgrown => exact .of_steps hst hst₂
      | exit id => obtain ⟨_, _, _, e, _⟩ := hq; cases e
      | ret => obtain ⟨_, _, _, e, _⟩ := hq; cases e
      | goto l => exact hq.elim
      | panic ch => exact hq.elim
      | outgrown => exact hq.elim
    · rw [← h2]; exact loop_run hb f (by simp) hs h1
    · rw [← h2]; exact loop_run hb f (by simp) hs h1
theorem code_run (hD : DrawOk P) (hk : KS P k) (hN : N ≤ 256) {β : EMp} {s : ESt} (c : Code) : ∀ {tm : ERg} {df : EDf} {s1 : ESt} {a : Act} {w : World} {out : EOut}, out ≠ .er → ST w0 β s N tm df s1 a w → (eCode P N c).f k tm df s1 = out → c.wp P (QE w0 β s N out) a w := by
  induction c with
  | skip => exact fun ho hs h => wp_skip ⟨_, _, _, h.symm, hs⟩
  | region id ops draw =>
    intro tm df s1 a w out ho hs h
    cases draw with
    | false => exact wp_region_list (ops_run hk hN ho ops.toList hs h)
    | true => exact hD w0 k N β s id ops.toList out tm df s1 a w hk hN ho hs h
  | seq x y ia ib =>
    intro tm df s1 a w out ho hs h
    rcases out_inv (show EOut.rec (motive := fun _ => EOut) .er (fun tm df s => (eCode P N y).f k tm df s) (fun i tm df s => .x i tm df s) (fun tm df s => .r tm df s) ((eCode P N x).f k tm df s1) = out from h) ho with ⟨tm', df', s', h1, h2⟩ | ⟨i, tm', df', s', h1, h2⟩ | ⟨tm', df', s', h1, h2⟩
    · refine wp_seq (wp_mono (ia (by simp) hs h1) fun e a w q => ?_)
      cases e with
      | normal =>
        obtain ⟨_, _, _, e, hs'⟩ := q
        injection e with e1 e2 e3
        subst e1 e2 e3
        exact ib ho hs' h2
      | exit id => obtain ⟨_, _, _, e, _⟩ := q; cases e
      | ret => obtain ⟨_, _, _, e, _⟩ := q; cases e
      | goto l => exact q.elim
      | panic ch => exact q.elim
      | outgrown => exact q.elim
    · rw [← h2]
      refine wp_seq (wp_mono (ia (by simp) hs h1) fun e a w q => ?_)
      cases e with
      | normal => obtain ⟨_, _, _, e, _⟩ := q; cases e
      | _ => exact q
    · rw [← h2]
      refine wp_seq (wp_mono (ia (by simp) hs h1) fun e a w q => ?_)
      cases e with
      | normal => obtain ⟨_, _, _, e, _⟩ := q; cases e
      | _ => exact q
  | cond c x y ia ib =>
    intro tm df s1 a w out ho hs h
    have h : (match (eEvC c).f tm with
      | .bool true => (eCode P N x).f k tm df s1
      | .bool false => (eCode P N y).f k tm df s1
      | _ => .er) = out := h
    obtain ⟨β', hs', he⟩ := hs
    have hv := ev_VR hs'.gb hs'.rt (by rw [hs'.sz]; exact hN) c
    cases hq : (eEvC c).f tm <;> rw [hq] at h hv <;> first | exact absurd h.symm ho | skip
    rename_i b
    have hv := vr_bool hv
    cases b with
    | true => exact wp_cond_true hv (ia ho ⟨β', hs', he⟩ h)
    | false => exact wp_cond_false hv (ib ho ⟨β', hs', he⟩ h)
  | block id x ia =>
    intro tm df s1 a w out ho hs h
    rcases out_inv (show EOut.rec (motive := fun _ => EOut) .er (fun tm df s => .n tm df s) (fun i tm df s => match Nat.beq i id with
        | true => .n tm df s
        | false => .x i tm df s) (fun tm df s => .r tm df s) ((eCode P N x).f k tm df s1) = out from h) ho with ⟨tm', df', s', h1, h2⟩ | ⟨i, tm', df', s', h1, h2⟩ | ⟨tm', df', s', h1, h2⟩
    · rw [← h2]
      refine wp_block (wp_mono (ia (by simp) hs h1) fun e a w q => ?_)
      cases e with
      | exit id => obtain ⟨_, _, _, e, _⟩ := q; cases e
      | _ => exact q
    · refine wp_block (wp_mono (ia (by simp) hs h1) fun e a w q => ?_)
      cases e with
      | exit id' =>
        obtain ⟨_, _, _, e, hs'⟩ := q
        injection e with e0 e1 e2 e3
        subst e0 e1 e2 e3
        cases hb : Nat.beq i id with
        | true =>
          rw [hb] at h2
          show (if i = id then _ else _)
          rw [if_pos (Nat.eq_of_beq_eq_true hb)]
          exact ⟨_, _, _, h2.symm, hs'⟩
        | false =>
          rw [hb] at h2
          show (if i = id then _ else _)
          rw [if_neg (Nat.ne_of_beq_eq_false hb)]
          exact ⟨_, _, _, h2.symm, hs'⟩
      | normal => obtain ⟨_, _, _, e, _⟩ := q; cases e
      | ret => obtain ⟨_, _, _, e, _⟩ := q; cases e
      | goto l => exact q.elim
      | panic ch => exact q.elim
      | outgrown => exact q.elim
    · rw [← h2]
      refine wp_block (wp_mono (ia (by simp) hs h1) fun e a w q => ?_)
      cases e with
      | exit id => obtain ⟨_, _, _, e, _⟩ := q; cases e
      | _ => exact q
  | loop x ia =>
    intro tm df s1 a w out ho hs h
    have key : ∀ {out'}, eLoopF (eFuel 14) ((eCode P N x).f k) tm df s1 = out' → out' ≠ .er → (∀ tm df s, out' ≠ .n tm df s) → (Code.loop x).wp P (QE w0 β s N out') a w := fun h1 ho' hn b kk cs => by
      obtain ⟨e, a₁, w₁, hq, hst⟩ := loop_run (P := P) (fun ho hs h => ia ho hs h) (eFuel 14) ho' hs h1 b kk cs
      refine ⟨e, a₁, w₁, hq, ?_⟩
      cases e with
      | normal => obtain ⟨_, _, _, e, _⟩ := hq; exact absurd e (hn _ _ _)
      | exit id => exact .of_steps (.one step_loop) hst
      | goto l => exact .of_steps (.one step_loop) hst
      | ret => exact .of_steps (.one step_loop) hst
      | panic ch => exact .of_steps (.one step_loop) hst
      | outgrown => exact .of_steps (.one step_loop) hst
    rcases out_inv (show EOut.rec (motive := fun _ => EOut) .er (fun _ _ _ => .er) (fun i tm df s => .x i tm df s) (fun tm df s => .r tm df s) (eLoopF (eFuel 14) ((eCode P N x).f k) tm df s1) = out from h) ho with ⟨tm', df', s', h1, h2⟩ | ⟨i, tm', df', s', h1, h2⟩ | ⟨tm', df', s', h1, h2⟩
    · exact absurd h2.symm ho
    · rw [← h2]; exact key h1 (by simp) (by simp)
    · rw [← h2]; exact key h1 (by simp) (by simp)
  | rangeFunc => exact fun ho hs h => absurd h.symm ho
  | exit id => exact fun ho hs h => wp_exit ⟨_, _, _, h.symm, hs⟩
  | scope => exact fun ho hs h => absurd h.symm ho
  | label id => exact fun ho hs h => wp_label ⟨_, _, _, h.symm, hs⟩
  | goto => exact fun ho hs h => absurd h.symm ho
  | ret => exact fun ho hs h => wp_ret ⟨_, _, _, h.symm, hs⟩
  | refuse => exact fun ho hs h => absurd h.symm ho
end

section
variable {P : Program} {w0 : World} {k : ECall} {N : Nat}
theorem eRegs_cons (x : EV) (l : List EV) (i : Nat) (t : ERg) : eRegs (x :: l) i t = eRegs l (i + 1) (t.set i x) := rfl
theorem eRegs_get : ∀ (l : List EV) (t : ERg) (i j : Nat), j < 256 → i + l.length ≤ 256 → ERg.get j (eRegs l i t) = if i ≤ j ∧ j < i + l.length then l.getD (j - i) .bot else ERg.get j t
  | [], t, i, j, _, _ => by
    rw [if_neg (by simp only [List.length_nil]; omega)]
    rfl
  | x :: l, t, i, j, hj, hl => by
    simp only [List.length_cons] at hl ⊢
    rw [eRegs_cons, eRegs_get l _ (i + 1) j hj (by omega)]
    by_cases h1 : i = j
    · subst h1
      rw [if_neg (by omega), if_pos (by omega), ERg.get_set, Nat.sub_self]
      rfl
    · rw [ERg.get_set_ne _ _ (by omega) hj h1]
      by_cases h2 : i + 1 ≤ j ∧ j < i + 1 + l.length
      · rw [if_pos h2, if_pos (by omega)]
        obtain ⟨q, hq⟩ : ∃ q, j - i = q + 1 := ⟨j - i - 1, by omega⟩
        rw [hq, show j - (i + 1) = q by omega]
        rfl
      · rw [if_neg h2, if_neg (by omega)]
/-- An activation, where a function begins. -/
theorem SA.start {β : EMp} {s : ESt} {w : World} {args : List EV} {as : Array Value} (hg : GB β) (h : HR w0 β s w) (ha : VRs β args as.toList) (hl : args.length ≤ N) (hN : N ≤ 256) :
    SA w0 N β (eRegs args 0 eRg0) [] s { tmps := as ++ Array.replicate (N - as.size) undef, defers := [] } w := by
  have hlen : args.length = as.size := by rw [ha.len, Array.length_toList]
  refine ⟨h, fun t ht => ?_, .nil, by simp; omega, hg⟩
  rw [eRegs_get args eRg0 0 t ht (by omega)]
  by_cases hc : t < args.length
  · rw [if_pos (by omega), Nat.sub_zero]
    obtain ⟨v, h1, h2⟩ := ha.get (List.getElem?_eq_getElem hc)
    have e1 : args.getD t .bot = args[t] := by rw [List.getD_eq_getElem?_getD, List.getElem?_eq_getElem hc]; rfl
    have e2 : (as ++ Array.replicate (N - as.size) undef).getD t undef = v := by
      rw [Array.getD_eq_getD_getElem?, Array.getElem?_append_left (by omega)]
      have : as[t]? = some v := by simpa using h1
      rw [this]; rfl
    rw [e1]
    show VR β _ ((as ++ Array.replicate (N - as.size) undef).getD t undef)
    rw [e2]; exact h2
  · rw [if_neg (by omega), eRg0_get]
    have e2 : (as ++ Array.replicate (N - as.size) undef).getD t undef = undef := by
      rw [Array.getD_eq_getD_getElem?, Array.getElem?_append_right (by omega), Array.getElem?_replicate]
      split <;> rfl
    show VR β _ ((as ++ Array.replicate (N - as.size) undef).getD t undef)
    rw [e2]; exact .tup .nil
/-- The results. -/
theorem eResVs_cons (r : ResultVar) (l : List ResultVar) (tm : ERg) (s : ESt) : eResVs P (r :: l) tm s = match eResV P r tm s with
    | some v => match eResVs P l tm s with
      | some l => some (v :: l)
      | none => none
    | none => none := rfl
def resVar (tmps : Array Value) (r : ResultVar) : Sem Value := match r with
    | .tmp t => pure (tmps.getD t undef)
    | .cell a t => do loadVar t (← asAddr (tmps.getD a undef))
theorem results_eq (fn : Func) (tmps : Array Value) : results fn tmps = (do
    let vs ← fn.results.mapM (resVar tmps)
    pure (if h : vs.size = 1 then vs[0] else .tuple vs)) := by
  unfold results
  congr 1
theorem eResV_run {β : EMp} {s : ESt} {w : World} {tm : ERg} {a : Act} (h : HR w0 β s w) (hr : RT β tm a) {r : ResultVar} {x : EV} (hx : eResV P r tm s = some x) : ∃ v, (resVar a.tmps r).run P w = .ok v w ∧ VR β x v := by
  cases r with
  | tmp t =>
    have hx : (match Nat.blt t 256 with | true => some (ERg.get t tm) | false => none) = some x := hx
    cases hb : Nat.blt t 256 with
    | false => rw [hb] at hx; cases hx
    | true =>
      rw [hb] at hx
      obtain rfl := Option.some.inj hx
      exact ⟨_, rfl, hr t (Nat.le_of_ble_eq_true hb)⟩
  | cell c t =>
    have hx : (match Nat.blt c 256 with
      | true => match eLd (eAgg P t) s (ERg.get c tm) with
        | .v y _ => some y
        | .er => none
      | false => none) = some x := hx
    cases hb : Nat.blt c 256 with
    | false => rw [hb] at hx; cases hx
    | true =>
      rw [hb] at hx
      simp only at hx
      cases hl : eLd (eAgg P t) s (ERg.get c tm) with
      | er => rw [hl] at hx; cases hx
      | v y s' =>
        rw [hl] at hx
        obtain rfl := Option.some.inj hx
        obtain ⟨-, u, h1, -, ad, h2, h3⟩ := eLd_run h (hr c (Nat.le_of_ble_eq_true hb)) hl
        exact ⟨u, by simp [resVar, h2, asAddr, h3], h1⟩
theorem eResVs_run {β : EMp} {s : ESt} {w : World} {tm : ERg} {a : Act} (h : HR w0 β s w) (hr : RT β tm a) : ∀ {l : List ResultVar} {xs : List EV}, eResVs P l tm s = some xs → ∃ vs, (l.mapM (resVar a.tmps)).run P w = .ok vs w ∧ VRs β xs vs
  | [], xs, hx => by
    obtain rfl := Option.some.inj (show some [] = some xs from hx)
    exact ⟨[], by simp, .nil⟩
  | r :: l, xs, hx => by
    rw [eResVs_cons] at hx
    cases h1 : eResV P r tm s with
    | none => rw [h1] at hx; cases hx
    | some x =>
      cases h2 : eResVs P l tm s with
      | none => rw [h1, h2] at hx; cases hx
      | some ys =>
        rw [h1, h2] at hx
        obtain rfl := Option.some.inj hx
        obtain ⟨v, g1, g2⟩ := eResV_run h hr h1
        obtain ⟨vs, g3, g4⟩ := eResVs_run h hr h2
        exact ⟨v :: vs, by simp [List.mapM_cons, g1, g3], .cons g2 g4⟩
theorem eRes_run {β : EMp} {s s' : ESt} {w : World} {tm : ERg} {a : Act} (h : HR w0 β s w) (hr : RT β tm a) {fn : Func} {x : EV} (hx : eRes P fn tm s = .v x s') : s' = s ∧ ∃ v, (results fn a.tmps).run P w = .ok v w ∧ VR β x v := by
  unfold eRes at hx
  cases hq : eResVs P fn.results.toList tm s with
  | none => rw [hq] at hx; cases hx
  | some xs =>
    rw [hq] at hx
    injection hx with e1 e2
    subst e1 e2
    obtain ⟨vs, g1, g2⟩ := eResVs_run h hr hq
    have hm : fn.results.mapM (resVar a.tmps) = List.toArray <$> fn.results.toList.mapM (resVar a.tmps) := by
      rw [Array.mapM_eq_mapM_toList]
    refine ⟨rfl, if h : vs.toArray.size = 1 then vs.toArray[0] else .tuple vs.toArray, ?_, ?_⟩
    · rw [results_eq, hm]
      simp [g1]
    · cases g2 with
      | nil => exact .tup .nil
      | cons ha hl =>
        cases hl with
        | nil => exact ha
        | cons hb hl => exact .tup (.cons ha (.cons hb hl))
end

section
variable {P : Program} {w0 : World} {k : ECall}
theorem out_inv2 {r : EOut} {x : EV} {s' : ESt} {f : ERg → EDf → ESt → EO} (h : EOut.rec (motive := fun _ => EO) .er (fun tm df s => f tm df s) (fun _ _ _ _ => .er) (fun tm df s => f tm df s) r = .v x s') :
    r ≠ .er ∧ ∃ tm df s, (r = .n tm df s ∨ r = .r tm df s) ∧ f tm df s = .v x s' := by
  cases r with
  | er => cases h
  | n tm df s => exact ⟨by simp, tm, df, s, .inl rfl, h⟩
  | x i tm df s => cases h
  | r tm df s => exact ⟨by simp, tm, df, s, .inr rfl, h⟩
/-- What a function gives back. -/
def RV (w0 : World) (β : EMp) (s : ESt) (x : EV) (s' : ESt) (e : Ending) (w' : World) : Prop := ∃ v, e = .returned v ∧ ∃ β', VR β' x v ∧ HR w0 β' s' w' ∧ Ext β s β' s'
theorem body_run (hD : DrawOk P) (hk : KS P k) {g : FuncId} {args : List EV} {s s' : ESt} {x : EV} (h : (eBody P g).f k args s = .v x s') {β : EMp} {w : World} {as : Array Value} (hg : GB β) (hr : HR w0 β s w) (ha : VRs β args as.toList) :
    ∃ fn c, P.funcs[g]? = some fn ∧ fn.body = some c ∧ (callFunc g as).run P w = .ok (.enter g as) w ∧ c.wp P (bodyPost P fn (RV w0 β s x s')) { tmps := as ++ Array.replicate (fn.ntmps - as.size) undef, defers := [] } w := by
  unfold eBody at h
  cases hf : eNth P.funcs.toList g with
  | none => rw [hf] at h; cases h
  | some fn =>
    rw [hf] at h
    simp only at h
    cases hb : fn.body with
    | none => rw [hb] at h; cases h
    | some c =>
      rw [hb] at h
      simp only at h
      cases hn : (Nat.ble fn.ntmps 256 && !(fn.name == "runtime.NumGoroutine")) with
      | false => rw [hn] at h; cases h
      | true =>
        rw [hn] at h
        simp only at h
        rw [Bool.and_eq_true] at hn
        obtain ⟨hn, hnm⟩ := hn
        cases hl : Nat.ble args.length fn.ntmps with
        | false => rw [hl] at h; cases h
        | true =>
          rw [hl] at h
          simp only at h
          have hf' : P.funcs[g]? = some fn := by rw [eNth_eq] at hf; simpa using hf
          have hN := Nat.le_of_ble_eq_true hn
          obtain ⟨ho, tm, df, s1, h1, h2⟩ := out_inv2 (f := fun tm df s => match df with | [] => eRes P fn tm s | _ => .er) h
          refine ⟨fn, c, hf', hb, by simp at hnm; simp [callFunc, hf', hb, hnm], ?_⟩
          refine wp_mono (code_run hD hk hN c ho (ST.refl (SA.start hg hr ha (Nat.le_of_ble_eq_true hl) hN)) rfl) fun e a w' q => ?_
          have fin : ST w0 β s fn.ntmps tm df s1 a w' → a.defers = [] ∧ ∃ v, (results fn a.tmps).run P w' = .ok v w' ∧ RV w0 β s x s' (.returned v) w' := fun hs => by
            obtain ⟨β', hs, he⟩ := hs
            cases df with
            | cons _ _ => cases h2
            | nil =>
              obtain ⟨rfl, v, g1, g2⟩ := eRes_run hs.hr hs.rt h2
              have hdn : a.defers = [] := by
                have hrd := hs.rd
                generalize a.defers = ds at hrd
                cases hrd
                rfl
              exact ⟨hdn, v, g1, v, rfl, β', g2, hs.hr, he⟩
          rcases h1 with h1 | h1 <;> rw [h1] at q
          · cases e with
            | normal =>
              obtain ⟨_, _, _, e, hs⟩ := q
              injection e with e1 e2 e3
              subst e1 e2 e3
              exact fin hs
            | exit id => obtain ⟨_, _, _, e, _⟩ := q; cases e
            | ret => obtain ⟨_, _, _, e, _⟩ := q; cases e
            | goto l => exact q.elim
            | panic ch => exact q.elim
            | outgrown => exact q.elim
          · cases e with
            | ret =>
              obtain ⟨_, _, _, e, hs⟩ := q
              injection e with e1 e2 e3
              subst e1 e2 e3
              exact fin hs
            | exit id => obtain ⟨_, _, _, e, _⟩ := q; cases e
            | normal => obtain ⟨_, _, _, e, _⟩ := q; cases e
            | goto l => exact q.elim
            | panic ch => exact q.elim
            | outgrown => exact q.elim
theorem eDefers_cons (d : EV × List EV) (l : EDf) (s : ESt) : eDefers P k (d :: l) s = match d.1 with
    | .fn (.func g) first caps => match (eBody P g).f k (first ++ d.2 ++ caps) s with
      | .v _ s' => eDefers P k l s'
      | .er => none
    | _ => none := rfl
/-- The calls that were deferred. -/
theorem leaves_run (hD : DrawOk P) (hk : KS P k) {fn : Func} {tmps : Array Value} {R : Ending → World → Prop} {s2 : ESt} : ∀ {df : EDf} {ds : List Deferred} {s1 : ESt} {β : EMp} {w : World}, GB β → HR w0 β s1 w → RD β df ds → eDefers P k df s1 = some s2 →
    (∀ β' w', HR w0 β' s2 w' → Ext β s1 β' s2 → ∃ v, (results fn tmps).run P w' = .ok v w' ∧ R (.returned v) w') → Leaves P fn tmps R ds .returning w
  | [], _, s1, β, w, hg, hr, .nil, h, hR => by
    obtain rfl := Option.some.inj (show some s1 = some s2 from h)
    exact hR β w hr (Ext.refl _ _)
  | _ :: df, _, s1, β, w, hg, hr, .cons (f := f) (x := x) (y := y) (x' := x') (y' := y') (as := as) (args := args) hx hy ha ht, h, hR => by
    rw [eDefers_cons] at h
    cases f <;> first | (cases h; done) | skip
    rename_i g
    simp only at h
    cases hb : (eBody P g).f k (x ++ args ++ y) s1 with
    | er => rw [hb] at h; cases h
    | v z s' =>
      rw [hb] at h
      simp only at h
      have has : VRs β (x ++ args ++ y) (x' ++ as ++ y').toList := by
        rw [Array.toList_append, Array.toList_append]
        exact (hx.app ha).app hy
      obtain ⟨fn', c, h1, h2, h3, h4⟩ := body_run hD hk hb hg hr has
      refine leaves_cons (by simp) (by simpa [invoke] using h3) ((callsD_of_wp h1 h2 h4).mono fun e u' w' q => ?_)
      obtain ⟨rfl, v, rfl, β', g1, g2, g3⟩ := q
      exact leaves_run hD hk (hg.ext g3) g2 (ht.mono g3.le) h fun β'' w'' k1 k2 => hR β'' w'' k1 (g3.trans k2)
theorem fn_run (hD : DrawOk P) (hk : KS P k) {g : FuncId} {args : List EV} {s s' : ESt} {x : EV} (h : (eFn P g).f k args s = .v x s') : KOk P g args s x s' := fun w0 β w as hg hr ha => by
  unfold eFn at h
  cases hf : eNth P.funcs.toList g with
  | none => rw [hf] at h; cases h
  | some fn =>
    rw [hf] at h
    simp only at h
    cases hb : fn.body with
    | none => rw [hb] at h; cases h
    | some c =>
      rw [hb] at h
      simp only at h
      cases hn : (Nat.ble fn.ntmps 256 && !(fn.name == "runtime.NumGoroutine")) with
      | false => rw [hn] at h; cases h
      | true =>
        rw [hn] at h
        simp only at h
        rw [Bool.and_eq_true] at hn
        obtain ⟨hn, hnm⟩ := hn
        cases hl : Nat.ble args.length fn.ntmps with
        | false => rw [hl] at h; cases h
        | true =>
          rw [hl] at h
          simp only at h
          have hf' : P.funcs[g]? = some fn := by rw [eNth_eq] at hf; simpa using hf
          have hN := Nat.le_of_ble_eq_true hn
          obtain ⟨ho, tm, df, s1, h1, h2⟩ := out_inv2 (f := fun tm df s => match eDefers P k df s with | some s' => eRes P fn tm s' | none => .er) h
          refine .inr ⟨by simp at hnm; simp [callFunc, hf', hb, hnm], ?_⟩
          refine calls_of_wp_defers hf' hb (wp_mono (code_run hD hk hN c ho (ST.refl (SA.start hg hr ha (Nat.le_of_ble_eq_true hl) hN)) rfl) fun e a w' q => ?_)
          have fin : ST w0 β s fn.ntmps tm df s1 a w' → Leaves P fn a.tmps (RV w0 β s x s') a.defers .returning w' := fun hs => by
            obtain ⟨β', hs, he⟩ := hs
            cases hd : eDefers P k df s1 with
            | none => simp only [hd] at h2; cases h2
            | some s2 =>
              simp only [hd] at h2
              refine leaves_run hD hk hs.gb hs.hr hs.rd hd fun β'' w'' k1 k2 => ?_
              obtain ⟨rfl, v, g1, g2⟩ := eRes_run k1 (hs.rt.mono k2.le) h2
              exact ⟨v, g1, v, rfl, β'', g2, k1, he.trans k2⟩
          rcases h1 with h1 | h1 <;> rw [h1] at q
          · cases e with
            | normal =>
              obtain ⟨_, _, _, e, hs⟩ := q
              injection e with e1 e2 e3
              subst e1 e2 e3
              exact fin hs
            | exit id => obtain ⟨_, _, _, e, _⟩ := q; cases e
            | ret => obtain ⟨_, _, _, e, _⟩ := q; cases e
            | goto l => exact q.elim
            | panic ch => exact q.elim
            | outgrown => exact q.elim
          · cases e with
            | ret =>
              obtain ⟨_, _, _, e, hs⟩ := q
              injection e with e1 e2 e3
              subst e1 e2 e3
              exact fin hs
            | exit id => obtain ⟨_, _, _, e, _⟩ := q; cases e
            | normal => obtain ⟨_, _, _, e, _⟩ := q; cases e
            | goto l => exact q.elim
            | panic ch => exact q.elim
            | outgrown => exact q.elim
/-- What is taken of functions whose contract is known. -/
def IOk (P : Program) (I : FuncId → Option (ECall → List EV → ESt → EO)) : Prop := ∀ f g, I f = some g → ∀ k, KS P k → ∀ args s x s', g k args s = .v x s' → KOk P f args s x s'
theorem call_KS (hD : DrawOk P) {I : FuncId → Option (ECall → List EV → ESt → EO)} (hI : IOk P I) : ∀ d, KS P (eCall P I d)
  | 0 => fun f args s x s' h => by cases h
  | d + 1 => fun f args s x s' h => by
    have h : (match I f with
      | some g => g (eCall P I d) args s
      | none => (eFn P f).f (eCall P I d) args s) = .v x s' := h
    cases hi : I f with
    | some g => rw [hi] at h; exact hI f g hi _ (call_KS hD hI d) args s x s' h
    | none => rw [hi] at h; exact fn_run hD (call_KS hD hI d) h
end

section
variable {P : Program} {w0 : World} {β : EMp} {s s' : ESt} {w : World} {tm : ERg} {k : ECall} {x : EV} {ρ : Operand → Value}
/-- What makes a block makes it in every world. -/
theorem eFresh_run {o : Oper} (hc : eCls P o = .fresh) (hρ : ∀ y ∈ o.op.operands, VR β ((eEvC y).f tm) (ρ y)) (hw : w0.heap.size ≤ w.heap.size) (ha : (eOp P o).f k tm s = .v x s') :
    ∃ k f, s.blk k f = .v x s' ∧ ∃ v w' l, (execOp ρ o).run P w = .ok (.value v) w' ∧ FreshOk w0 β k f w v w' l := by
  obtain ⟨dst, op, type, pos, after, guard⟩ := o
  simp only at hρ
  cases op with
  | alloc t =>
    have ha : ((match eZero P t with
      | .bot => (⟨fun _ _ _ => .er⟩ : ECl1)
      | z => ⟨fun _ _ s => s.rowT t z.cells fun b => .ptr (some (b, 0))⟩)).f k tm s = .v x s' := ha
    have hz : eZero P t ≠ .bot := fun e => by rw [e] at ha; cases ha
    have ha : s.rowT t (eZero P t).cells (fun b => .ptr (some (b, 0))) = .v x s' := by
      cases hq : eZero P t <;> rw [hq] at ha hz <;> first | exact absurd rfl hz | exact ha
    obtain ⟨v, w', l, g1, g2⟩ := alloc_run (P := P) (β := β) (w := w) rfl hz hw
    exact ⟨_, _, ha, v, w', l, by simp [execOp, g1], g2⟩
  | box t y =>
    have hy := hρ y (by simp [Op.operands])
    have ha : (match (eEvC y).f tm with
      | .bot => EO.er
      | z => s.rowT t z.cells fun b => .ptr (some (b, 0))) = .v x s' := ha
    have hz : (eEvC y).f tm ≠ .bot := fun e => by rw [e] at ha; cases ha
    have ha : s.rowT t ((eEvC y).f tm).cells (fun b => .ptr (some (b, 0))) = .v x s' := by
      cases hq : (eEvC y).f tm <;> rw [hq] at ha hz <;> first | exact absurd rfl hz | exact ha
    obtain ⟨v, w', l, g1, g2⟩ := box_run (P := P) (t := t) hy hz hw
    exact ⟨_, _, ha, v, w', l, by simp [execOp, g1], g2⟩
  | convert src dst2 y =>
    have hy := hρ y (by simp [Op.operands])
    have ha : eConv (eDesc P src) (eDesc P dst2) (eByteSl P (match eDesc P dst2 with | some .string => eDesc P src | d => d)) ((eEvC y).f tm) s = .v x s' := ha
    by_cases hd : ∃ e, eDesc P dst2 = some (.slice e)
    · obtain ⟨e, hd⟩ := hd
      obtain ⟨q, f, g1, c, w', l, g2, g3⟩ := eConv_fresh hw hy hd ha
      exact ⟨q, f, g1, c, w', l, by simp [execOp, g2], g3⟩
    · have hcls : eCls P ⟨dst, .convert src dst2 y, type, pos, after, guard⟩ = .look := by
        show (match eDesc P dst2 with | some (.slice _) => ECls.fresh | _ => .look) = .look
        cases hq : eDesc P dst2 with
        | none => rfl
        | some d => cases d <;> first | rfl | exact absurd ⟨_, hq⟩ hd
      rw [hcls] at hc
      cases hc
  | makeMap t r =>
    have hm := mapOk (w0 := w0) (β := β) hw
    cases r with
    | none => exact ⟨.map [] 0, fun b => .map (some b), ha, _, _, _, by simp [execOp, Instr.makeMap], hm⟩
    | some r =>
      cases r with
      | const v =>
        cases v with
        | int q n =>
          have ha : ((match eDesc P t with
            | some (.map _ _) => (⟨fun _ _ s => s.blk (.map [] 0) fun b => .map (some b)⟩ : ECl1)
            | _ => ⟨fun _ _ _ => .er⟩)).f k tm s = .v x s' := ha
          cases hd : eDesc P t with
          | none => rw [hd] at ha; cases ha
          | some d =>
            rw [hd] at ha
            have hu := run_underlying (eDesc_eq hd) w
            have hv := hρ (.const (.int q n)) (by simp [Op.operands])
            have hv : ρ (.const (.int q n)) = .int q n := by
              have e : (eEvC (.const (.int q n))).f tm = .int q n := rfl
              rw [e] at hv
              exact vr_int hv
            cases d with
            | map a b => exact ⟨.map [] 0, fun b => .map (some b), ha, _, _, _, by simp [execOp, Instr.makeMap, hu, hv, asInt, asIntOf], hm⟩
            | _ => cases ha
        | _ => cases ha
      | _ => cases ha
  | buildSlice t len ps =>
    have ha : ((match eDesc P t with
      | some (.slice e) => (match eInfo P e with
        | some i => (match eZero P e with
          | .bot => ⟨fun _ _ _ => .er⟩
          | z => (match Nat.beq z.cells.length i.size && Nat.ble (len * i.size) 10000 with
            | true => ⟨fun _ tm s => (match eFill (fun j => some (j * i.size, i.size)) (eEvps ps.toList tm) (eRepl z.cells len) with
              | some l => s.row l fun b => .sl (some (b, 0)) len len 0
              | none => .er)⟩
            | false => ⟨fun _ _ _ => .er⟩))
        | none => ⟨fun _ _ _ => .er⟩)
      | _ => ⟨fun _ _ _ => .er⟩ : ECl1)).f k tm s = .v x s' := ha
    cases hd : eDesc P t with
    | none => rw [hd] at ha; cases ha
    | some d =>
      rw [hd] at ha
      cases d with
      | slice e =>
        simp only at ha
        cases hi : eInfo P e with
        | none => rw [hi] at ha; cases ha
        | some i =>
          rw [hi] at ha
          simp only at ha
          have hz : eZero P e ≠ .bot := fun e => by rw [e] at ha; cases ha
          have ha : ((match Nat.beq (eZero P e).cells.length i.size && Nat.ble (len * i.size) 10000 with
            | true => ⟨fun _ tm s => (match eFill (fun j => some (j * i.size, i.size)) (eEvps ps.toList tm) (eRepl (eZero P e).cells len) with
              | some l => s.row l fun b => .sl (some (b, 0)) len len 0
              | none => .er)⟩
            | false => ⟨fun _ _ _ => .er⟩ : ECl1)).f k tm s = .v x s' := by
            cases hq : eZero P e <;> rw [hq] at ha hz <;> first | exact absurd rfl hz | exact ha
          cases hb : Nat.beq (eZero P e).cells.length i.size && Nat.ble (len * i.size) 10000 with
          | false => rw [hb] at ha; cases ha
          | true =>
            rw [hb] at ha
            simp only at ha
            rw [Bool.and_eq_true] at hb
            cases hf : eFill (fun j => some (j * i.size, i.size)) (eEvps ps.toList tm) (eRepl (eZero P e).cells len) with
            | none => rw [hf] at ha; cases ha
            | some l =>
              rw [hf] at ha
              obtain ⟨v, w', loc, g1, g2⟩ := buildSlice_run (w0 := w0) (β := β) (w := w) (ρ := ρ) hw hd hi rfl hz (Nat.eq_of_beq_eq_true hb.1) (Nat.le_of_ble_eq_true hb.2) (fun p hp => hρ p.2 (by simp [Op.operands]; exact ⟨p.1, by simpa using hp⟩)) hf
              refine ⟨_, _, ha, v, w', loc, ?_, g2⟩
              simpa [execOp] using congrArg (fun r => Result.andThen r fun v w' => Result.ok (Next.value v) w') g1
      | _ => cases ha
  | makeSlice t l c =>
    have hl := hρ l (by simp [Op.operands])
    have hc2 := hρ c (by simp [Op.operands])
    have ha : ((match eDesc P t with
      | some (.slice e) => (match eInfo P e with
        | some i => (match eZero P e with
          | .bot => ⟨fun _ _ _ => .er⟩
          | z => (match Nat.beq z.cells.length i.size with
            | true => ⟨fun _ tm s => (match (eEvC l).f tm with
              | .int _ (.ofNat l) => (match (eEvC c).f tm with
                | .int _ (.ofNat c) => (match Nat.ble l c && Nat.ble c 1000000 && Nat.ble (i.bytes * c) 1000000000 with
                  | true => s.row (eRepl z.cells c) fun b => .sl (some (b, 0)) l c 0
                  | false => .er)
                | _ => .er)
              | _ => .er)⟩
            | false => ⟨fun _ _ _ => .er⟩))
        | none => ⟨fun _ _ _ => .er⟩)
      | _ => ⟨fun _ _ _ => .er⟩ : ECl1)).f k tm s = .v x s' := ha
    cases hd : eDesc P t with
    | none => rw [hd] at ha; cases ha
    | some d =>
      rw [hd] at ha
      cases d with
      | slice e =>
        simp only at ha
        cases hi : eInfo P e with
        | none => rw [hi] at ha; cases ha
        | some i =>
          rw [hi] at ha
          simp only at ha
          have hz : eZero P e ≠ .bot := fun e => by rw [e] at ha; cases ha
          have ha : ((match Nat.beq (eZero P e).cells.length i.size with
            | true => ⟨fun _ tm s => (match (eEvC l).f tm with
              | .int _ (.ofNat l) => (match (eEvC c).f tm with
                | .int _ (.ofNat c) => (match Nat.ble l c && Nat.ble c 1000000 && Nat.ble (i.bytes * c) 1000000000 with
                  | true => s.row (eRepl (eZero P e).cells c) fun b => .sl (some (b, 0)) l c 0
                  | false => .er)
                | _ => .er)
              | _ => .er)⟩
            | false => ⟨fun _ _ _ => .er⟩ : ECl1)).f k tm s = .v x s' := by
            cases hq : eZero P e <;> rw [hq] at ha hz <;> first | exact absurd rfl hz | exact ha
          cases hb : Nat.beq (eZero P e).cells.length i.size with
          | false => rw [hb] at ha; cases ha
          | true =>
            rw [hb] at ha
            simp only at ha
            generalize (eEvC l).f tm = el at hl ha
            generalize (eEvC c).f tm = ec at hc2 ha
            cases el <;> first | (cases ha; done) | skip
            rename_i k1 n1
            cases n1 <;> first | (cases ha; done) | skip
            rename_i l1
            cases ec <;> first | (cases ha; done) | skip
            rename_i k2 n2
            cases n2 <;> first | (cases ha; done) | skip
            rename_i c1
            simp only at ha
            cases hq : Nat.ble l1 c1 && Nat.ble c1 1000000 && Nat.ble (i.bytes * c1) 1000000000 with
            | false => rw [hq] at ha; cases ha
            | true =>
              rw [hq] at ha
              rw [Bool.and_eq_true, Bool.and_eq_true] at hq
              obtain ⟨v, w', loc, g1, g2⟩ := makeSlice_run (P := P) (w0 := w0) (β := β) (w := w) (k1 := k1) (k2 := k2) hw hd hi rfl hz (Nat.eq_of_beq_eq_true hb) (Nat.le_of_ble_eq_true hq.1.1) (Nat.le_of_ble_eq_true hq.1.2) (Nat.le_of_ble_eq_true hq.2)
              exact ⟨_, _, ha, v, w', loc, by simpa [execOp, vr_int hl, vr_int hc2] using congrArg (fun r => Result.andThen r fun v w' => Result.ok (Next.value v) w') g1, g2⟩
      | _ => cases ha
  | call c =>
    obtain ⟨callee, args, types⟩ := c
    cases callee with
    | builtin b => cases b <;> cases hc
    | _ => cases hc
  | _ => cases hc
/-- A state that has all blocks of another one. -/
def Ups (s s2 : ESt) : Prop := ∀ b B, s.heap.get b = some B → s2.heap.get b = some B
theorem cells_ups {s2 : ESt} (h : Ups s s2) {b : Nat} {r : Nat × ETr EV} (hl : s.cells b = some r) : s2.cells b = some r := by
  unfold ESt.cells at hl ⊢
  rw [ESt.eta s] at hl
  rw [ESt.eta s2]
  simp only at hl ⊢
  cases hg : s.heap.get b with
  | none => rw [hg] at hl; cases hl
  | some B => rw [hg] at hl; rw [h _ _ hg]; exact hl
theorem loadN_ups {s2 : ESt} (h : Ups s s2) {b o n : Nat} {l : List EV} (hl : s.loadN b o n = some l) : s2.loadN b o n = some l := by
  unfold ESt.loadN at hl ⊢
  cases hg : s.cells b with
  | none => rw [hg] at hl; cases hl
  | some r => rw [hg] at hl; rw [cells_ups h hg]; exact hl
theorem load1_ups {s2 : ESt} (h : Ups s s2) {b o : Nat} {l : EV} (hl : s.load1 b o = some l) : s2.load1 b o = some l := by
  unfold ESt.load1 at hl ⊢
  cases hg : s.cells b with
  | none => rw [hg] at hl; cases hl
  | some r => rw [hg] at hl; rw [cells_ups h hg]; exact hl
theorem mapAt_ups {s2 : ESt} (h : Ups s s2) {y : EV} {r : Nat × List (EV × EV × Nat) × Nat} (hl : s.mapAt y = some r) : s2.mapAt y = some r := by
  unfold ESt.mapAt at hl ⊢
  rw [ESt.eta s] at hl
  rw [ESt.eta s2]
  cases y <;> first | (cases hl; done) | skip
  rename_i a
  cases a with
  | none => cases hl
  | some a =>
    simp only at hl ⊢
    cases hg : s.heap.get a with
    | none => rw [hg] at hl; cases hl
    | some B => rw [hg] at hl; rw [h _ _ hg]; exact hl
/-- What does not look at the state. -/
theorem pure_stay {o : Oper} (hc : eCls P o = .pure) : ∃ r : Option EV, ∀ s, (eOp P o).f k tm s = eOptV r s := by
  obtain ⟨dst, op, type, pos, after, guard⟩ := o
  cases op with
  | call c =>
    obtain ⟨callee, args, types⟩ := c
    cases callee with
    | builtin b =>
      cases b <;> first | (cases hc; done) | skip
      all_goals (
        unfold eOp
        simp only
        unfold eBuiltin
        simp only
        repeat' (first | exact ⟨none, fun s => rfl⟩ | exact ⟨some _, fun s => rfl⟩ | split | (dsimp only; split)))
    | _ => cases hc
  | convert src dst2 y =>
    have hc : (match eDesc P dst2 with | some (.slice _) => ECls.fresh | _ => .look) = .pure := hc
    split at hc <;> cases hc
  | typeAssert y t0 t ok =>
    have key : ∀ (r : Option EV), ∃ r' : Option EV, ∀ s, (eIfZ (eZero P t) ⟨fun _ _ s => eOptV r s⟩).f k tm s = eOptV r' s := fun r => by
      cases eZero P t <;> first | exact ⟨none, fun s => rfl⟩ | exact ⟨r, fun s => rfl⟩
    have h : ∀ b, ∃ r' : Option EV, ∀ s, (eIfZ (eZero P t) ⟨fun _ tm s => eOptV (eAssert P b t ok ((eEvC y).f tm)) s⟩).f k tm s = eOptV r' s := fun b => by
      cases eZero P t <;> first | exact ⟨none, fun s => rfl⟩ | exact ⟨_, fun s => rfl⟩
    unfold eOp
    simp only
    split
    · exact h true
    · exact h false
    · exact ⟨none, fun s => rfl⟩
  | _ =>
    first
    | (cases hc; done)
    | exact ⟨some _, fun s => rfl⟩
    | exact ⟨_, fun s => rfl⟩
    | (unfold eOp
       simp only
       repeat' (first | exact ⟨none, fun s => rfl⟩ | exact ⟨some _, fun s => rfl⟩ | exact ⟨_, fun s => rfl⟩ | split | (dsimp only; split)))
    | (simp only [eCls] at hc; split at hc <;> cases hc)
/-- What looks at the state, and does not write. -/
theorem look_stay {o : Oper} (hc : eCls P o = .look) (ha : (eOp P o).f k tm s = .v x s') : s' = s ∧ ∀ s2, Ups s s2 → (eOp P o).f k tm s2 = .v x s2 := by
  have opt : ∀ (r : ESt → Option EV), (∀ s2, Ups s s2 → ∀ y, r s = some y → r s2 = some y) → eOptV (r s) s = .v x s' → s' = s ∧ ∀ s2, Ups s s2 → eOptV (r s2) s2 = .v x s2 := fun r hr h => by
    obtain ⟨h1, rfl⟩ := eOptV_inv h
    exact ⟨rfl, fun s2 hu => by rw [hr s2 hu x h1]; rfl⟩
  obtain ⟨dst, op, type, pos, after, guard⟩ := o
  cases op with
  | load t y =>
    have ha : eLd (eAgg P t) s ((eEvC y).f tm) = .v x s' := ha
    show _ ∧ ∀ s2, Ups s s2 → eLd (eAgg P t) s2 ((eEvC y).f tm) = .v x s2
    unfold eLd at ha ⊢
    split at ha <;> first | (cases ha; done) | skip
    split at ha <;> first | (cases ha; done) | skip
    · split at ha
      · rename_i l hl
        injection ha with e1 e2
        subst e1 e2
        exact ⟨rfl, fun s2 hu => by simp only [loadN_ups hu hl]⟩
      · cases ha
    · split at ha
      · rename_i l hl
        injection ha with e1 e2
        subst e1 e2
        exact ⟨rfl, fun s2 hu => by simp only [load1_ups hu hl]⟩
      · cases ha
  | lookup t y kk ok =>
    unfold eOp at ha ⊢
    simp only at ha ⊢
    split at ha <;> first | (cases ha; done) | skip
    split at ha <;> first | (cases ha; done) | skip
    rename_i d hd
    obtain ⟨hz, ha⟩ := eIfZ_inv ha
    have : ∀ (z : EV) (c : ECl1), z ≠ .bot → eIfZ z c = c := fun z c hz => by cases z <;> first | exact absurd rfl hz | rfl
    rw [this _ _ hz]
    refine opt (fun s => eLookup d _ _ ok ((eEvC y).f tm) ((eEvC kk).f tm) s) (fun s2 hu v hv => ?_) ha
    generalize (eEvC y).f tm = m at hv
    unfold eLookup at hv ⊢
    split at hv
    · exact hv
    · split at hv
      · rename_i hm
        simp only [mapAt_ups hu hm]
        exact hv
      · cases hv
  | convert src dst2 y =>
    have ha : eConv (eDesc P src) (eDesc P dst2) (eByteSl P (match eDesc P dst2 with | some .string => eDesc P src | d => d)) ((eEvC y).f tm) s = .v x s' := ha
    show _ ∧ ∀ s2, Ups s s2 → eConv (eDesc P src) (eDesc P dst2) (eByteSl P (match eDesc P dst2 with | some .string => eDesc P src | d => d)) ((eEvC y).f tm) s2 = .v x s2
    have hc : (match eDesc P dst2 with | some (.slice _) => ECls.fresh | _ => .look) = .look := hc
    generalize eByteSl P _ = bs at ha
    generalize (eEvC y).f tm = m at ha
    generalize eDesc P src = ds at ha
    generalize eDesc P dst2 = dd at ha hc
    unfold eConv at ha ⊢
    split at ha <;> first | (cases ha; done) | skip
    · split at ha <;> first | (cases ha; done) | skip
      split at ha <;> first | (cases ha; done) | skip
      · injection ha with e1 e2
        subst e1 e2
        exact ⟨rfl, fun s2 hu => rfl⟩
      · split at ha <;> first | (cases ha; done) | skip
        rename_i hy
        injection ha with e1 e2
        subst e1 e2
        exact ⟨rfl, fun s2 hu => by simp only [hy]⟩
    · split at ha <;> first | (cases ha; done) | skip
      · split at ha <;> first | (cases ha; done) | skip
        · injection ha with e1 e2
          subst e1 e2
          exact ⟨rfl, fun s2 hu => rfl⟩
        · injection ha with e1 e2
          subst e1 e2
          exact ⟨rfl, fun s2 hu => rfl⟩
      · split at ha <;> first | (cases ha; done) | skip
        split at ha <;> first | (cases ha; done) | skip
        · injection ha with e1 e2
          subst e1 e2
          exact ⟨rfl, fun s2 hu => rfl⟩
        · split at ha <;> first | (cases ha; done) | skip
          rename_i hl
          split at ha <;> first | (cases ha; done) | skip
          · rename_i hn
            injection ha with e1 e2
            subst e1 e2
            exact ⟨rfl, fun s2 hu => by simp only [loadN_ups hu hl, hn]⟩
          · rename_i hn
            split at ha <;> first | (cases ha; done) | skip
            rename_i hn2
            injection ha with e1 e2
            subst e1 e2
            exact ⟨rfl, fun s2 hu => by simp only [loadN_ups hu hl, hn, hn2]⟩
    · cases hc
  | call c =>
    obtain ⟨callee, args, types⟩ := c
    cases callee with
    | builtin b =>
      cases b <;> first | (cases hc; done) | skip
      unfold eOp at ha ⊢
      simp only at ha ⊢
      unfold eBuiltin at ha ⊢
      simp only at ha ⊢
      split at ha <;> first | (cases ha; done) | skip
      split at ha <;> first | (cases ha; done) | skip
      rename_i t _ _ _ y _ _
      refine opt (fun s => eLen P (eDesc P t) ((eEvC y).f tm) s) (fun s2 hu v hv => ?_) ha
      generalize (eEvC y).f tm = m at hv
      unfold eLen at hv ⊢
      split at hv <;> first | exact hv | skip
      split at hv
      · exact hv
      · split at hv
        · rename_i hm
          simp only [mapAt_ups hu hm]
          exact hv
        · cases hv
    | _ => cases hc
  | _ => cases hc
end
end Go.Proofs.YtjckpgcmfieaoaaGreatDoor
