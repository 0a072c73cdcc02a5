/-
  A round of law 19, what is dead forgotten behind it.
-/
import Derived.Test.YtjckpgcmfieaoaaGreatDoorMdc
import Derived.Test.YtjckpgcmfieaoaaGreatDoorMdj
set_option linter.unusedVariables false
set_option linter.unusedSimpArgs false
namespace Go.Proofs.YtjckpgcmfieaoaaGreatDoor
open Go.RowKit

noncomputable section
/-- Blocks from n0 on that are not in the list are forgotten. -/
def gKeep (n0 : Nat) (keep : List Nat) (h : ETr EBlk) : Nat → Nat → ETr EBlk :=
  ETr.rec (motive := fun _ => Nat → Nat → ETr EBlk) (fun _ _ => .e)
    (fun v _ _ il ir a m => .n (match v with | none => none | some k => match Nat.blt a n0 with
      | true => some k
      | false => match gElem a keep with
        | true => some k
        | false => none) (il (Nat.add a m) (Nat.mul 2 m)) (ir (Nat.add a (Nat.mul 2 m)) (Nat.mul 2 m))) h
def iRoundK (k0 : ECall) (keep : List Nat) (_ : ECall) (a : List EV) (s : ESt) : EO := match k0 19 a s with
  | .v x (.mk h n) => .v x (.mk (gKeep s.next keep h 0 1) n)
  | .er => .er
end
theorem gKeep_n (n0 : Nat) (keep : List Nat) (v : Option EBlk) (l r : ETr EBlk) (a m : Nat) : gKeep n0 keep (.n v l r) a m = .n (match v with | none => none | some k => match Nat.blt a n0 with
      | true => some k
      | false => match gElem a keep with
        | true => some k
        | false => none) (gKeep n0 keep l (a + m) (2 * m)) (gKeep n0 keep r (a + 2 * m) (2 * m)) := rfl
theorem gKeep_getP (n0 : Nat) (keep : List Nat) : ∀ (h : ETr EBlk) (a m : Nat) (p : EPth), (p.at_ a m < n0 → (gKeep n0 keep h a m).getP p = h.getP p) ∧ ((gKeep n0 keep h a m).getP p = h.getP p ∨ (gKeep n0 keep h a m).getP p = none)
  | .e, a, m, p => ⟨fun _ => rfl, .inl rfl⟩
  | .n v l r, a, m, p => by
    rw [gKeep_n]
    cases p with
    | z =>
      show (EPth.z.at_ a m < n0 → (match v with | none => none | some k => match Nat.blt a n0 with
        | true => some k
        | false => match gElem a keep with
          | true => some k
          | false => none) = v) ∧ ((match v with | none => none | some k => match Nat.blt a n0 with
        | true => some k
        | false => match gElem a keep with
          | true => some k
          | false => none) = v ∨ (match v with | none => none | some k => match Nat.blt a n0 with
        | true => some k
        | false => match gElem a keep with
          | true => some k
          | false => none) = none)
      rw [EPth.at_z]
      cases v with
      | none => exact ⟨fun _ => rfl, .inl rfl⟩
      | some k =>
        simp only
        cases hb : Nat.blt a n0 with
        | true => exact ⟨fun _ => rfl, .inl rfl⟩
        | false =>
          refine ⟨fun h => ?_, ?_⟩
          · have : Nat.blt a n0 = true := Nat.ble_eq_true_of_le h
            rw [hb] at this
            cases this
          · cases gElem a keep with
            | true => exact .inl rfl
            | false => exact .inr rfl
    | l p =>
      have := gKeep_getP n0 keep l (a + m) (2 * m) p
      rw [EPth.at_l]
      exact this
    | r p =>
      have := gKeep_getP n0 keep r (a + 2 * m) (2 * m) p
      rw [EPth.at_r]
      exact this
theorem gKeep_get (n0 : Nat) (keep : List Nat) (h : ETr EBlk) (b : Nat) : (b < n0 → (gKeep n0 keep h 0 1).get b = h.get b) ∧ ((gKeep n0 keep h 0 1).get b = h.get b ∨ (gKeep n0 keep h 0 1).get b = none) := by
  have := gKeep_getP n0 keep h 0 1 (ePath b)
  have e : (ePath b).at_ 0 1 = b := by
    unfold EPth.at_ ePath
    rw [ePathF_val _ _ (Nat.lt_succ_self _)]
    omega
  rw [e] at this
  exact this
theorem iRoundK_ok {k0 : ECall} (hk : KS Tryz.prog k0) {keep : List Nat} {k : ECall} {args : List EV} {s s' : ESt} {x : EV} (ha : iRoundK k0 keep k args s = .v x s') : KOk Tryz.prog 19 args s x s' := fun w0 β w av hg hr hv => by
  unfold iRoundK at ha
  split at ha <;> first | (cases ha; done) | skip
  rename_i y h n hkk
  injection ha with e1 e2
  subst e1 e2
  have fin : ∀ {v : Value} {w' : World}, (∃ β', VR β' y v ∧ HR w0 β' (.mk h n) w' ∧ Ext β s β' (.mk h n)) → ∃ β', VR β' y v ∧ HR w0 β' (.mk (gKeep s.next keep h 0 1) n) w' ∧ Ext β s β' (.mk (gKeep s.next keep h 0 1) n) := by
    rintro v w' ⟨β', h1, h2, h3⟩
    have hb := gKeep_get s.next keep h
    refine ⟨β', h1, ⟨h2.up, h2.lt, fun b l k e hk => ?_, fun b b' l l' k k' e e' g g' v1 v2 ec => ?_⟩, h3.le, h3.next, fun b hl e => ?_⟩
    · have hk : (gKeep s.next keep h 0 1).get b = some k := hk
      rcases (hb b).2 with h4 | h4
      · rw [h4] at hk; exact h2.blk b l k e hk
      · rw [h4] at hk; cases hk
    · have g : (gKeep s.next keep h 0 1).get b = some k := g
      have g' : (gKeep s.next keep h 0 1).get b' = some k' := g'
      rcases (hb b).2 with h4 | h4
      · rcases (hb b').2 with h5 | h5
        · rw [h4] at g
          rw [h5] at g'
          exact h2.inj b b' l l' k k' e e' g g' v1 v2 ec
        · rw [h5] at g'; cases g'
      · rw [h4] at g; cases g
    · obtain ⟨g1, g2⟩ := h3.un b hl e
      exact ⟨g1, by rw [← g2]; exact (hb b).1 hl⟩
  rcases hk _ _ _ _ _ hkk w0 β w av hg hr hv with ⟨v, w'', q, r⟩ | ⟨q1, q⟩
  · exact .inl ⟨v, w'', q, fin r⟩
  · refine .inr ⟨q1, q.mono ?_⟩
    rintro e w'' ⟨v, rfl, r⟩
    exact ⟨v, rfl, fin r⟩

noncomputable def intK (keep : List Nat) (r : ECall → List EV → ESt → EO) (f : FuncId) : Option (ECall → List EV → ESt → EO) := match f with
  | 19 => some (iRoundK (eCall Tryz.prog intS 90) keep)
  | f => intD r f
theorem intK_ok {keep : List Nat} {r : ECall → List EV → ESt → EO} (hr : ∀ k, KS Tryz.prog k → ∀ args s x s', r k args s = .v x s' → KOk Tryz.prog 15 args s x s') : IOk Tryz.prog (intK keep r) := fun f g hi k hk args s x s' ha => by
  unfold intK at hi
  split at hi
  · obtain rfl := Option.some.inj hi
    exact iRoundK_ok (intS_KS 90) ha
  · exact intD_ok hr f g hi k hk args s x s' ha
end Go.Proofs.YtjckpgcmfieaoaaGreatDoor
