/-
  The evaluator's code.
-/
import Derived.Test.YtjckpgcmfieaoaaGreatDoorAvH
namespace Go.Proofs.YtjckpgcmfieaoaaGreatDoor
open Go.RowKit

/-- Regions that draw their order. -/
def DrawOk (P : Program) : Prop := ∀ (w0 : World) (k : ECall) (N : Nat) (β : EMp) (s : ESt) (id : Nat) (all : List Oper) (out : EOut) (tm : ERg) (df : EDf) (s1 : ESt) (a : Act) (w : World),
  KS P k → N ≤ 256 → out ≠ .er → ST w0 β s N tm df s1 a w → (eRegion P N all true).f k tm df s1 = out → (Code.region id all.toArray true).wp P (QE w0 β s N out) a w
section
variable {P : Program} {w0 : World} {k : ECall} {N : Nat}
theorem out_inv {r out : EOut} {fn : ERg → EDf → ESt → EOut} {fx : Nat → ERg → EDf → ESt → EOut} {fr : ERg → EDf → ESt → EOut} (h : EOut.rec (motive := fun _ => EOut) .er fn fx fr r = out) (ho : out ≠ .er) :
    (∃ tm df s, r = .n tm df s ∧ fn tm df s = out) ∨ (∃ i tm df s, r = .x i tm df s ∧ fx i tm df s = out) ∨ (∃ tm df s, r = .r tm df s ∧ fr tm df s = out) := by
  cases r with
  | er => exact absurd h.symm ho
  | n tm df s => exact .inl ⟨tm, df, s, rfl, h⟩
  | x i tm df s => exact .inr (.inl ⟨i, tm, df, s, rfl, h⟩)
  | r tm df s => exact .inr (.inr ⟨tm, df, s, rfl, h⟩)
/-- Rounds of a loop: where they end. -/
def Rnd (P : Program) (w0 : World) (β : EMp) (s : ESt) (N : Nat) (c : Code) (out : EOut) (a : Act) (w : World) : Prop :=
  ∀ (b : Frame) (k : List Item) (cs : List Frame), ∃ e a' w', QE w0 β s N out e a' w' ∧ match e with
    | .normal => Steps P (lone (b.at a (.code c :: .inLoop c :: k)) cs w) (lone (b.at a' (.code c :: .inLoop c :: k)) cs w')
    | e => Arrives P (lone (b.at a (.code c :: .inLoop c :: k)) cs w) b k cs e a' w'
theorem Rnd.one {β : EMp} {s : ESt} {c : Code} {out : EOut} {a : Act} {w : World} (h : c.wp P (QE w0 β s N out) a w) : Rnd P w0 β s N c out a w := fun b k cs => by
  obtain ⟨e, a₁, w₁, hq, harr⟩ := h b (.inLoop c :: k) cs
  refine ⟨e, a₁, w₁, hq, ?_⟩
  cases e with
  | normal => exact Steps.trans harr (.one step_inLoop)
  | exit id => exact .pass (x := .inLoop c) rfl (fun _ _ => .inl (by simp)) harr
  | goto l => exact .pass (x := .inLoop c) rfl (fun _ _ => .inl (by simp)) harr
  | ret => exact .pass (x := .inLoop c) rfl (fun _ _ => .inl (by simp)) harr
  | panic ch => exact .pass (x := .inLoop c) rfl (fun _ _ => .inl (by simp)) harr
  | outgrown => exact .pass (x := .inLoop c) rfl (fun _ _ => .inl (by simp)) harr
theorem loop_run {β : EMp} {s : ESt} {c : Code} {body : ERg → EDf → ESt → EOut} (hb : ∀ {tm : ERg} {df : EDf} {s1 : ESt} {a : Act} {w : World} {out : EOut}, out ≠ .er → ST w0 β s N tm df s1 a w → body tm df s1 = out → c.wp P (QE w0 β s N out) a w) :
    ∀ (f : EF) {tm : ERg} {df : EDf} {s1 : ESt} {a : Act} {w : World} {out : EOut}, out ≠ .er → ST w0 β s N tm df s1 a w → eLoopF f body tm df s1 = out → Rnd P w0 β s N c out a w
  | .one, _, _, _, _, _, _, ho, hs, h => Rnd.one (hb ho hs h)
  | .two f, tm, df, s1, a, w, out, ho, hs, h => by
    rcases out_inv (show EOut.rec (motive := fun _ => EOut) .er (fun tm df s => eLoopF f body tm df s) (fun i tm df s => .x i tm df s) (fun tm df s => .r tm df s) (eLoopF f body tm df s1) = out from h) ho with ⟨tm', df', s', h1, h2⟩ | ⟨i, tm', df', s', h1, h2⟩ | ⟨tm', df', s', h1, h2⟩
    · intro b k cs
      obtain ⟨e, a₁, w₁, hq, hst⟩ := loop_run hb f (by simp) hs h1 b k cs
      cases e with
      | normal =>
        obtain ⟨_, _, _, e, hs'⟩ := hq
        injection e with e1 e2 e3
        subst e1 e2 e3
        obtain ⟨e, a₂, w₂, hq₂, hst₂⟩ := loop_run hb f ho hs' h2 b k cs
        refine ⟨e, a₂, w₂, hq₂, ?_⟩
        cases e with
        | normal => exact Steps.trans hst hst₂
        | exit id => exact .of_steps hst hst₂
        | goto l => exact .of_steps hst hst₂
        | ret => exact .of_steps hst hst₂
        | panic ch => exact .of_steps hst hst₂
        | outgrown => exact .of_steps hst hst₂
      | exit id => obtain ⟨_, _, _, e, _⟩ := hq; cases e
      | ret => obtain ⟨_, _, _, e, _⟩ := hq; cases e
      | goto l => exact hq.elim
      | panic ch => exact hq.elim
      | outgrown => exact hq.elim
    · rw [← h2]; exact loop_run hb f (by simp) hs h1
    · rw [← h2]; exact loop_run hb f (by simp) hs h1
theorem code_run (hD : DrawOk P) (hk : KS P k) (hN : N ≤ 256) {β : EMp} {s : ESt} (c : Code) : ∀ {tm : ERg} {df : EDf} {s1 : ESt} {a : Act} {w : World} {out : EOut}, out ≠ .er → ST w0 β s N tm df s1 a w → (eCode P N c).f k tm df s1 = out → c.wp P (QE w0 β s N out) a w := by
  induction c with
  | skip => exact fun ho hs h => wp_skip ⟨_, _, _, h.symm, hs⟩
  | region id ops draw =>
    intro tm df s1 a w out ho hs h
    cases draw with
    | false => exact wp_region_list (ops_run hk hN ho ops.toList hs h)
    | true => exact hD w0 k N β s id ops.toList out tm df s1 a w hk hN ho hs h
  | seq x y ia ib =>
    intro tm df s1 a w out ho hs h
    rcases out_inv (show EOut.rec (motive := fun _ => EOut) .er (fun tm df s => (eCode P N y).f k tm df s) (fun i tm df s => .x i tm df s) (fun tm df s => .r tm df s) ((eCode P N x).f k tm df s1) = out from h) ho with ⟨tm', df', s', h1, h2⟩ | ⟨i, tm', df', s', h1, h2⟩ | ⟨tm', df', s', h1, h2⟩
    · refine wp_seq (wp_mono (ia (by simp) hs h1) fun e a w q => ?_)
      cases e with
      | normal =>
        obtain ⟨_, _, _, e, hs'⟩ := q
        injection e with e1 e2 e3
        subst e1 e2 e3
        exact ib ho hs' h2
      | exit id => obtain ⟨_, _, _, e, _⟩ := q; cases e
      | ret => obtain ⟨_, _, _, e, _⟩ := q; cases e
      | goto l => exact q.elim
      | panic ch => exact q.elim
      | outgrown => exact q.elim
    · rw [← h2]
      refine wp_seq (wp_mono (ia (by simp) hs h1) fun e a w q => ?_)
      cases e with
      | normal => obtain ⟨_, _, _, e, _⟩ := q; cases e
      | _ => exact q
    · rw [← h2]
      refine wp_seq (wp_mono (ia (by simp) hs h1) fun e a w q => ?_)
      cases e with
      | normal => obtain ⟨_, _, _, e, _⟩ := q; cases e
      | _ => exact q
  | cond c x y ia ib =>
    intro tm df s1 a w out ho hs h
    have h : (match (eEvC c).f tm with
      | .bool true => (eCode P N x).f k tm df s1
      | .bool false => (eCode P N y).f k tm df s1
      | _ => .er) = out := h
    obtain ⟨β', hs', he⟩ := hs
    have hv := ev_VR hs'.gb hs'.rt (by rw [hs'.sz]; exact hN) c
    cases hq : (eEvC c).f tm <;> rw [hq] at h hv <;> first | exact absurd h.symm ho | skip
    rename_i b
    have hv := vr_bool hv
    cases b with
    | true => exact wp_cond_true hv (ia ho ⟨β', hs', he⟩ h)
    | false => exact wp_cond_false hv (ib ho ⟨β', hs', he⟩ h)
  | block id x ia =>
    intro tm df s1 a w out ho hs h
    rcases out_inv (show EOut.rec (motive := fun _ => EOut) .er (fun tm df s => .n tm df s) (fun i tm df s => match Nat.beq i id with
        | true => .n tm df s
        | false => .x i tm df s) (fun tm df s => .r tm df s) ((eCode P N x).f k tm df s1) = out from h) ho with ⟨tm', df', s', h1, h2⟩ | ⟨i, tm', df', s', h1, h2⟩ | ⟨tm', df', s', h1, h2⟩
    · rw [← h2]
      refine wp_block (wp_mono (ia (by simp) hs h1) fun e a w q => ?_)
      cases e with
      | exit id => obtain ⟨_, _, _, e, _⟩ := q; cases e
      | _ => exact q
    · refine wp_block (wp_mono (ia (by simp) hs h1) fun e a w q => ?_)
      cases e with
      | exit id' =>
        obtain ⟨_, _, _, e, hs'⟩ := q
        injection e with e0 e1 e2 e3
        subst e0 e1 e2 e3
        cases hb : Nat.beq i id with
        | true =>
          rw [hb] at h2
          show (if i = id then _ else _)
          rw [if_pos (Nat.eq_of_beq_eq_true hb)]
          exact ⟨_, _, _, h2.symm, hs'⟩
        | false =>
          rw [hb] at h2
          show (if i = id then _ else _)
          rw [if_neg (Nat.ne_of_beq_eq_false hb)]
          exact ⟨_, _, _, h2.symm, hs'⟩
      | normal => obtain ⟨_, _, _, e, _⟩ := q; cases e
      | ret => obtain ⟨_, _, _, e, _⟩ := q; cases e
      | goto l => exact q.elim
      | panic ch => exact q.elim
      | outgrown => exact q.elim
    · rw [← h2]
      refine wp_block (wp_mono (ia (by simp) hs h1) fun e a w q => ?_)
      cases e with
      | exit id => obtain ⟨_, _, _, e, _⟩ := q; cases e
      | _ => exact q
  | loop x ia =>
    intro tm df s1 a w out ho hs h
    have key : ∀ {out'}, eLoopF (eFuel 14) ((eCode P N x).f k) tm df s1 = out' → out' ≠ .er → (∀ tm df s, out' ≠ .n tm df s) → (Code.loop x).wp P (QE w0 β s N out') a w := fun h1 ho' hn b kk cs => by
      obtain ⟨e, a₁, w₁, hq, hst⟩ := loop_run (P := P) (fun ho hs h => ia ho hs h) (eFuel 14) ho' hs h1 b kk cs
      refine ⟨e, a₁, w₁, hq, ?_⟩
      cases e with
      | normal => obtain ⟨_, _, _, e, _⟩ := hq; exact absurd e (hn _ _ _)
      | exit id => exact .of_steps (.one step_loop) hst
      | goto l => exact .of_steps (.one step_loop) hst
      | ret => exact .of_steps (.one step_loop) hst
      | panic ch => exact .of_steps (.one step_loop) hst
      | outgrown => exact .of_steps (.one step_loop) hst
    rcases out_inv (show EOut.rec (motive := fun _ => EOut) .er (fun _ _ _ => .er) (fun i tm df s => .x i tm df s) (fun tm df s => .r tm df s) (eLoopF (eFuel 14) ((eCode P N x).f k) tm df s1) = out from h) ho with ⟨tm', df', s', h1, h2⟩ | ⟨i, tm', df', s', h1, h2⟩ | ⟨tm', df', s', h1, h2⟩
    · exact absurd h2.symm ho
    · rw [← h2]; exact key h1 (by simp) (by simp)
    · rw [← h2]; exact key h1 (by simp) (by simp)
  | rangeFunc => exact fun ho hs h => absurd h.symm ho
  | exit id => exact fun ho hs h => wp_exit ⟨_, _, _, h.symm, hs⟩
  | scope => exact fun ho hs h => absurd h.symm ho
  | label id => exact fun ho hs h => wp_label ⟨_, _, _, h.symm, hs⟩
  | goto => exact fun ho hs h => absurd h.symm ho
  | ret => exact fun ho hs h => wp_ret ⟨_, _, _, h.symm, hs⟩
  | refuse => exact fun ho hs h => absurd h.symm ho
end
end Go.Proofs.YtjckpgcmfieaoaaGreatDoor
