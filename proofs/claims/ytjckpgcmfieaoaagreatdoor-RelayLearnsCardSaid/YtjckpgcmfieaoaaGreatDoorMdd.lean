/-
  A cell told anew; blocks forgotten, symbols told anew.
-/
import Derived.Test.YtjckpgcmfieaoaaGreatDoorMdc
import Derived.ProofKit
import Derived.IntWalk
set_option linter.unusedVariables false
set_option linter.unusedSimpArgs false
namespace Go.Proofs.YtjckpgcmfieaoaaGreatDoor
open Go.RowKit

noncomputable section
/-- Are all symbols of a form below nx? -/
def gVars (nx : Nat) (e : SX) : Bool :=
  SX.rec (motive := fun _ => Bool) (fun n _ _ => Nat.blt (1024 + n) nx) (fun _ _ _ ih => ih) (fun _ _ ih => ih) (fun _ => true) (fun _ _ _ ia ir => match ia with | true => ir | false => false) true (fun _ _ ia ir => match ia with | true => ir | false => false) e
def gRefA (nx : Nat) (a : Option (Nat × Nat)) : Bool := match a with | none => true | some p => Nat.blt p.1 nx
/-- Is all that a value names below nx? -/
def gRefS (nx : Nat) (x : EV) : Bool := match x with
  | .bot => true
  | .bool _ => true
  | .int _ _ => true
  | .str _ => true
  | .ptr a => gRefA nx a
  | .sl a _ _ _ => gRefA nx a
  | .map none => true
  | .map (some r) => Nat.blt r nx
  | .nilF => true
  | .nilI => true
  | .sint _ e => gVars nx e
  | .sstr l => gVars nx l
  | _ => false
def gRefL (nx : Nat) (l : List EV) : Bool := List.rec (motive := fun _ => Bool) true (fun x _ ih => match gRefS nx x with | true => ih | false => false) l
def gRef (nx : Nat) (x : EV) : Bool := match x with
  | .agg l => gRefL nx l
  | .tup l => gRefL nx l
  | .fn _ a b => match gRefL nx a with | true => gRefL nx b | false => false
  | .ifc _ v => match v with
    | .agg l => gRefL nx l
    | v => gRefS nx v
  | x => gRefS nx x
def gRefC (nx : Nat) (c : ETr EV) : Bool := ETr.rec (motive := fun _ => Bool) true (fun v _ _ il ir => match (match v with | none => true | some x => gRef nx x) with | true => (match il with | true => ir | false => false) | false => false) c
def gRefM (nx : Nat) (es : List (EV × EV × Nat)) : Bool := List.rec (motive := fun _ => Bool) true (fun e _ ih => match gRef nx e.1 && gRef nx e.2.1 with | true => ih | false => false) es
def gRefB (nx : Nat) (k : EBlk) : Bool := match k with
  | .row _ c => gRefC nx c
  | .tab _ c => gRefC nx c
  | .map es _ => gRefM nx es
  | .iter none _ _ _ => true
  | .iter (some m) _ _ _ => Nat.blt m nx
  | .siter s _ => gVars nx s
  | .dead => true
def gRefT (nx : Nat) (h : ETr EBlk) : Bool := ETr.rec (motive := fun _ => Bool) true (fun v _ _ il ir => match (match v with | none => true | some x => gRefB nx x) with | true => (match il with | true => ir | false => false) | false => false) h
def gElem (a : Nat) (l : List Nat) : Bool := List.rec (motive := fun _ => Bool) false (fun x _ ih => match Nat.beq x a with | true => true | false => ih) l
/-- Blocks from n0 on that are not in the list are let go. -/
def gDead (n0 : Nat) (keep : List Nat) (h : ETr EBlk) : Nat → Nat → ETr EBlk :=
  ETr.rec (motive := fun _ => Nat → Nat → ETr EBlk) (fun _ _ => .e)
    (fun v _ _ il ir a m => .n (match v with | none => none | some k => match Nat.blt a n0 with
      | true => some k
      | false => match gElem a keep with
        | true => some k
        | false => some .dead) (il (Nat.add a m) (Nat.mul 2 m)) (ir (Nat.add a (Nat.mul 2 m)) (Nat.mul 2 m))) h
end
theorem gDead_n (n0 : Nat) (keep : List Nat) (v : Option EBlk) (l r : ETr EBlk) (a m : Nat) : gDead n0 keep (.n v l r) a m = .n (match v with | none => none | some k => match Nat.blt a n0 with
      | true => some k
      | false => match gElem a keep with
        | true => some k
        | false => some .dead) (gDead n0 keep l (a + m) (2 * m)) (gDead n0 keep r (a + 2 * m) (2 * m)) := rfl
theorem gDead_getP (n0 : Nat) (keep : List Nat) : ∀ (h : ETr EBlk) (a m : Nat) (p : EPth), (p.at_ a m < n0 → (gDead n0 keep h a m).getP p = h.getP p) ∧ ((gDead n0 keep h a m).getP p = h.getP p ∨ (gDead n0 keep h a m).getP p = some .dead)
  | .e, a, m, p => ⟨fun _ => rfl, .inl rfl⟩
  | .n v l r, a, m, p => by
    rw [gDead_n]
    cases p with
    | z =>
      show (EPth.z.at_ a m < n0 → (match v with | none => none | some k => match Nat.blt a n0 with
        | true => some k
        | false => match gElem a keep with
          | true => some k
          | false => some .dead) = v) ∧ ((match v with | none => none | some k => match Nat.blt a n0 with
        | true => some k
        | false => match gElem a keep with
          | true => some k
          | false => some .dead) = v ∨ (match v with | none => none | some k => match Nat.blt a n0 with
        | true => some k
        | false => match gElem a keep with
          | true => some k
          | false => some .dead) = some .dead)
      rw [EPth.at_z]
      cases v with
      | none => exact ⟨fun _ => rfl, .inl rfl⟩
      | some k =>
        simp only
        cases hb : Nat.blt a n0 with
        | true => exact ⟨fun _ => rfl, .inl rfl⟩
        | false =>
          refine ⟨fun h => ?_, ?_⟩
          · have : Nat.blt a n0 = true := Nat.ble_eq_true_of_le h
            rw [hb] at this
            cases this
          · cases gElem a keep with
            | true => exact .inl rfl
            | false => exact .inr rfl
    | l p =>
      have := gDead_getP n0 keep l (a + m) (2 * m) p
      rw [EPth.at_l]
      exact this
    | r p =>
      have := gDead_getP n0 keep r (a + 2 * m) (2 * m) p
      rw [EPth.at_r]
      exact this
theorem gDead_get (n0 : Nat) (keep : List Nat) (h : ETr EBlk) (b : Nat) : (b < n0 → (gDead n0 keep h 0 1).get b = h.get b) ∧ ((gDead n0 keep h 0 1).get b = h.get b ∨ (gDead n0 keep h 0 1).get b = some .dead) := by
  have := gDead_getP n0 keep h 0 1 (ePath b)
  have e : (ePath b).at_ 0 1 = b := by
    unfold EPth.at_ ePath
    rw [ePathF_val _ _ (Nat.lt_succ_self _)]
    omega
  rw [e] at this
  exact this
theorem HR.gdead {w0 w : World} {β : EMp} {h : ETr EBlk} {n : Nat} (hr : HR w0 β (.mk h n) w) (n0 : Nat) (keep : List Nat) : HR w0 β (.mk (gDead n0 keep h 0 1) n) w := by
  refine ⟨hr.up, hr.lt, fun b l k e hk => ?_, fun b b' l l' k k' e e' g g' v1 v2 ec => ?_⟩
  · have hk : (gDead n0 keep h 0 1).get b = some k := hk
    rcases (gDead_get n0 keep h b).2 with h1 | h1
    · rw [h1] at hk
      exact hr.blk b l k e hk
    · rw [h1] at hk
      obtain rfl := Option.some.inj hk
      trivial
  · have g : (gDead n0 keep h 0 1).get b = some k := g
    have g' : (gDead n0 keep h 0 1).get b' = some k' := g'
    rcases (gDead_get n0 keep h b).2 with h1 | h1
    · rcases (gDead_get n0 keep h b').2 with h2 | h2
      · rw [h1] at g
        rw [h2] at g'
        exact hr.inj b b' l l' k k' e e' g g' v1 v2 ec
      · rw [h2] at g'
        obtain rfl := Option.some.inj g'
        exact v2.elim
    · rw [h1] at g
      obtain rfl := Option.some.inj g
      exact v1.elim
theorem gVars_den {nx : Nat} {σ τ : Nat → Option Nat} (hs : ∀ n, 1024 + n < nx → τ n = σ n) : ∀ (e : SX), gVars nx e = true → e.den τ = e.den σ
  | .var n lo hi, h => by
    unfold SX.den
    rw [hs n (Nat.le_of_ble_eq_true h)]
  | .dm m M e, h => by
    unfold SX.den
    rw [gVars_den hs e h]
  | .sha i l, h => by
    unfold SX.den
    rw [gVars_den hs l h]
  | .cst c, _ => rfl
  | .term c a r, h => by
    have h : (match gVars nx a with | true => gVars nx r | false => false) = true := h
    split at h
    · rename_i ha
      unfold SX.den
      rw [gVars_den hs a ha, gVars_den hs r h]
    · cases h
  | .nil, _ => rfl
  | .cons a r, h => by
    have h : (match gVars nx a with | true => gVars nx r | false => false) = true := h
    split at h
    · rename_i ha
      unfold SX.den
      rw [gVars_den hs a ha, gVars_den hs r h]
    · cases h
section
variable {nx : Nat} {β γ : EMp}
theorem sym_eq (hβ : ∀ b, b < nx → γ b = β b) : ∀ n, 1024 + n < nx → symOf γ n = symOf β n := fun n hn => by
  unfold symOf
  rw [hβ _ hn]
theorem gRefS_ok (hβ : ∀ b, b < nx → γ b = β b) {x : EV} {v : Value} (h : gRefS nx x = true) (hv : VR β x v) : VR γ x v := by
  have adr : ∀ {b : Nat} {l : ELoc}, Nat.blt b nx = true → β b = some l → γ b = some l := fun hb hl => by rw [hβ _ (Nat.le_of_ble_eq_true hb)]; exact hl
  cases hv with
  | bot v => exact .bot v
  | bool b => exact .bool b
  | int k n => exact .int k n
  | str e => exact .str e
  | pnil => exact .pnil
  | ptr e => exact .ptr (adr h e)
  | snil => exact .snil
  | sl e a b => exact .sl (adr h e) a b
  | sle e => exact .sle (adr h e)
  | mnil => exact .mnil
  | map e => exact .map (adr h e)
  | fn _ _ => cases h
  | nilF => exact .nilF
  | ifc _ => cases h
  | nilI => exact .nilI
  | agg _ => cases h
  | tup _ => cases h
  | sint e k =>
    obtain ⟨bs, hd⟩ := e
    exact .sint ⟨bs, by rw [gVars_den (sym_eq hβ) _ h]; exact hd⟩ k
  | sstr e =>
    obtain ⟨z, hd⟩ := e
    exact .sstr ⟨z, by rw [gVars_den (sym_eq hβ) _ h]; exact hd⟩
theorem gRefL_ok (hβ : ∀ b, b < nx → γ b = β b) : ∀ {l : List EV} {vs : List Value}, gRefL nx l = true → VRs β l vs → VRs γ l vs
  | _, _, _, .nil => .nil
  | x :: l, _, h, .cons a t => by
    have h : (match gRefS nx x with | true => gRefL nx l | false => false) = true := h
    split at h
    · rename_i hx
      exact .cons (gRefS_ok hβ hx a) (gRefL_ok hβ h t)
    · cases h
theorem gRef_ok (hβ : ∀ b, b < nx → γ b = β b) {x : EV} {v : Value} (h : gRef nx x = true) (hv : VR β x v) : VR γ x v := by
  unfold gRef at h
  split at h
  · cases hv with | agg a => exact .agg (gRefL_ok hβ h a)
  · cases hv with | tup a => exact .tup (gRefL_ok hβ h a)
  · cases hv with
    | fn a b =>
      split at h
      · rename_i ha
        exact .fn (gRefL_ok hβ ha a) (gRefL_ok hβ h b)
      · cases h
  · cases hv with
    | ifc a =>
      split at h
      · cases a with | agg a => exact .ifc (.agg (gRefL_ok hβ h a))
      · exact .ifc (gRefS_ok hβ h a)
  · exact gRefS_ok hβ h hv
theorem gRefC_get : ∀ {c : ETr EV}, gRefC nx c = true → ∀ p x, c.getP p = some x → gRef nx x = true
  | .e, _, p, x, h => by rw [ETr.getP_e] at h; cases h
  | .n v l r, hc, p, x, h => by
    have hc : (match (match v with | none => true | some x => gRef nx x) with | true => (match gRefC nx l with | true => gRefC nx r | false => false) | false => false) = true := hc
    split at hc
    · rename_i hv
      split at hc
      · rename_i hl
        cases p with
        | z =>
          have h : v = some x := h
          rw [h] at hv
          exact hv
        | l p => exact gRefC_get hl p x h
        | r p => exact gRefC_get hc p x h
      · cases hc
    · cases hc
theorem gRefT_get : ∀ {c : ETr EBlk}, gRefT nx c = true → ∀ p x, c.getP p = some x → gRefB nx x = true
  | .e, _, p, x, h => by rw [ETr.getP_e] at h; cases h
  | .n v l r, hc, p, x, h => by
    have hc : (match (match v with | none => true | some x => gRefB nx x) with | true => (match gRefT nx l with | true => gRefT nx r | false => false) | false => false) = true := hc
    split at hc
    · rename_i hv
      split at hc
      · rename_i hl
        cases p with
        | z =>
          have h : v = some x := h
          rw [h] at hv
          exact hv
        | l p => exact gRefT_get hl p x h
        | r p => exact gRefT_get hc p x h
      · cases hc
    · cases hc
theorem gRefM_ok (hβ : ∀ b, b < nx → γ b = β b) : ∀ {es : List (EV × EV × Nat)} {fs : List MapEntry}, gRefM nx es = true → MR β es fs → MR γ es fs
  | _, _, _, .nil => .nil
  | (k, v, b) :: es, _, h, .cons hk hv t => by
    have h : (match gRef nx k && gRef nx v with | true => gRefM nx es | false => false) = true := h
    split at h
    · rename_i hc
      rw [Bool.and_eq_true] at hc
      exact .cons (gRef_ok hβ hc.1 hk) (gRef_ok hβ hc.2 hv) (gRefM_ok hβ h t)
    · cases h
theorem BR.low {w0 w : World} {k : EBlk} {l : ELoc} (hβ : ∀ b, b < nx → γ b = β b) (h : gRefB nx k = true) (b : BR w0 β k l w) : BR w0 γ k l w := by
  have cr : ∀ {n : Nat} {cs : ETr EV} {sh : Nat} {a : Array Value}, gRefC nx cs = true → CR β n cs sh a → CR γ n cs sh a := fun hc c i hi => by
    obtain ⟨x, v, h1, h2, h3⟩ := c i hi
    exact ⟨x, v, h1, h2, gRef_ok hβ (gRefC_get hc _ x h1) h3⟩
  unfold BR at *
  cases k with
  | row n cs => obtain ⟨h0, a, T, fz, h1, h2, h3, h4, h5⟩ := b; exact ⟨h0, a, T, fz, h1, h2, h3, h4, cr h h5⟩
  | tab n cs => obtain ⟨h0, a, T, fz, h1, h2, h3, h5⟩ := b; exact ⟨h0, a, T, fz, h1, h2, h3, cr h h5⟩
  | map es ck => obtain ⟨h0, es', h1, h2⟩ := b; exact ⟨h0, es', h1, gRefM_ok hβ h h2⟩
  | iter m since seen last =>
    cases m with
    | none => exact b
    | some m => obtain ⟨h0, hs, lm, h1, h2⟩ := b; exact ⟨h0, hs, lm, by rw [hβ m (Nat.le_of_ble_eq_true h)]; exact h1, h2⟩
  | siter s pos =>
    obtain ⟨h0, hs, x, ⟨z, h1⟩, h2⟩ := b
    exact ⟨h0, hs, x, ⟨z, by rw [gVars_den (sym_eq hβ) _ h]; exact h1⟩, h2⟩
  | dead => trivial
end
section
variable {w0 w : World} {β : EMp} {s : ESt}
/-- Blocks from nx on are forgotten; what stands at nx is a symbol. -/
noncomputable def lowMap (β : EMp) (nx v : Nat) : EMp := fun b => if b < nx then β b else if b = nx then some ⟨v, 0, 0⟩ else none
theorem HR.low (h : HR w0 β s w) {B : ETr EBlk} {nx : Nat} (v : Nat) (he : ∀ b, b < nx → s.heap.get b = B.get b) (hr : gRefT nx B = true) (hn : B.get nx = none) : HR w0 (lowMap β nx v) (.mk B (nx + 1)) w := by
  have hβ : ∀ b, b < nx → lowMap β nx v b = β b := fun b hb => if_pos hb
  have inv : ∀ b l, lowMap β nx v b = some l → (b < nx ∧ β b = some l) ∨ b = nx := fun b l e => by
    unfold lowMap at e
    split at e
    · rename_i hb; exact .inl ⟨hb, e⟩
    · split at e
      · rename_i hb; exact .inr hb
      · cases e
  have hget : ∀ {b : Nat} {k : EBlk}, b < nx → (ESt.mk B (nx + 1)).heap.get b = some k → s.heap.get b = some k := fun hb hk => by
    rw [he _ hb]
    exact hk
  refine ⟨h.up, fun b l e => ?_, fun b l k e hk => ?_, fun b b' l l' k k' e e' g g' v1 v2 ec => ?_⟩
  · show b < nx + 1
    rcases inv b l e with ⟨hb, -⟩ | rfl <;> omega
  · rcases inv b l e with ⟨hb, e⟩ | rfl
    · exact (h.blk b l k e (hget hb hk)).low hβ (gRefT_get hr _ k hk)
    · have hk : B.get b = some k := hk
      rw [hn] at hk
      cases hk
  · rcases inv b l e with ⟨hb, e⟩ | rfl
    · rcases inv b' l' e' with ⟨hb', e'⟩ | rfl
      · exact h.inj b b' l l' k k' e e' (hget hb g) (hget hb' g') v1 v2 ec
      · have g' : B.get b' = some k' := g'
        rw [hn] at g'
        cases g'
    · have g : B.get b = some k := g
      rw [hn] at g
      cases g
/-- A cell told anew. -/
theorem HR.cellPut (h : HR w0 β s w) {b i : Nat} {x : EV} (hx : ∀ l v, β b = some l → w.cell? ⟨l.c, l.sh + i, none⟩ = some v → VR β x v) : HR w0 β (.mk (gPut s.heap b i x) s.next) w := by
  unfold gPut
  split
  · rename_i n c hk
    split
    · rename_i hi
      have hi : i < n := Nat.le_of_ble_eq_true hi
      have old : ∀ (y : Nat) (ky : EBlk), (s.heap.set b (.row n (c.set i x))).get y = some ky → ky.live → ∃ kz, s.heap.get y = some kz ∧ kz.live := fun y ky hy hv => by
        by_cases hyb : b = y
        · subst hyb; exact ⟨_, hk, trivial⟩
        · rw [ETr.get_set_ne _ _ hyb] at hy; exact ⟨ky, hy, hv⟩
      refine ⟨h.up, h.lt, fun b2 l k e hk2 => ?_, fun b1 b2 l1 l2 k1 k2 e1 e2 g1 g2 v1 v2 ec => ?_⟩
      · by_cases hb : b = b2
        · subst hb
          have hk2 : (s.heap.set b (.row n (c.set i x))).get b = some k := hk2
          rw [ETr.get_set] at hk2
          obtain rfl := Option.some.inj hk2
          obtain ⟨h0, a, T, fz, h1, h2, h3, ⟨h4, h6⟩, h5⟩ := h.blk b l _ e hk
          refine ⟨h0, a, T, fz, h1, h2, h3, ⟨h4, fun t v ev => h6 t v (by rw [ETr.get_set_ne _ _ (by omega)] at ev; exact ev)⟩, fun j hj => ?_⟩
          by_cases hij : i = j
          · subst hij
            obtain ⟨y, v, g1, g2, g3⟩ := h5 i hi
            exact ⟨x, v, ETr.get_set _ _ _, g2, hx l v e (by rw [blk_cell h1, g2])⟩
          · obtain ⟨y, v, g1, g2, g3⟩ := h5 j hj
            exact ⟨y, v, by rw [ETr.get_set_ne _ _ hij]; exact g1, g2, g3⟩
        · have hk2 : (s.heap.set b (.row n (c.set i x))).get b2 = some k := hk2
          rw [ETr.get_set_ne _ _ hb] at hk2
          exact h.blk b2 l k e hk2
      · obtain ⟨y1, z1, t1⟩ := old b1 k1 g1 v1
        obtain ⟨y2, z2, t2⟩ := old b2 k2 g2 v2
        exact h.inj b1 b2 l1 l2 y1 y2 e1 e2 z1 z2 t1 t2 ec
    · rw [← ESt.eta s]; exact h
  · rw [← ESt.eta s]; exact h
theorem gPut_get (h : ETr EBlk) {b i y : Nat} (x : EV) (hy : b ≠ y) : (gPut h b i x).get y = h.get y := by
  unfold gPut
  split
  · split
    · exact ETr.get_set_ne _ _ hy
    · rfl
  · rfl
theorem gPuts_cons (x : EV) (i b : Nat) (bs : List Nat) (h : ETr EBlk) : gPuts x i (b :: bs) h = gPuts x i bs (gPut h b i x) := rfl
theorem gPuts_get {i y : Nat} (x : EV) : ∀ (bs : List Nat) (h : ETr EBlk), y ∉ bs → (gPuts x i bs h).get y = h.get y
  | [], _, _ => rfl
  | b :: bs, h, hy => by
    rw [gPuts_cons, gPuts_get x bs _ fun hm => hy (List.mem_cons_of_mem _ hm)]
    exact gPut_get h x fun e => hy (by rw [e]; exact List.mem_cons_self ..)
theorem HR.cellPuts {i : Nat} {x : EV} : ∀ (bs : List Nat) {s : ESt}, HR w0 β s w → (∀ b ∈ bs, ∀ l v, β b = some l → w.cell? ⟨l.c, l.sh + i, none⟩ = some v → VR β x v) → HR w0 β (.mk (gPuts x i bs s.heap) s.next) w
  | [], s, h, _ => by
    show HR w0 β (.mk s.heap s.next) w
    rw [← ESt.eta s]
    exact h
  | b :: bs, s, h, hx => by
    rw [gPuts_cons]
    have h1 := h.cellPut (i := i) (x := x) (hx b (List.mem_cons_self ..))
    exact HR.cellPuts bs h1 fun b hb => hx b (List.mem_cons_of_mem _ hb)
end

noncomputable section
/-- n rounds. -/
def gIter (k : ECall) (a : List EV) (n : Nat) : ESt → Option ESt :=
  Nat.rec (motive := fun _ => ESt → Option ESt) (fun s => some s) (fun _ ih s => match k 19 a s with
    | .v (.tup []) s' => ih s'
    | _ => none) n
def gPath (s : ESt) (path : List Nat) : Nat → Option Nat :=
  List.rec (motive := fun _ => Nat → Option Nat) (fun b => some b) (fun o _ ih b => match s.load1 b o with
    | some (.ptr (some (c, _))) => ih c
    | some (.sl (some (c, _)) _ _ _) => ih c
    | _ => none) path
def gPaths (s : ESt) (w : Nat) (ps : List (List Nat)) : Option (List Nat) :=
  List.rec (motive := fun _ => Option (List Nat)) (some []) (fun p _ ih => match gPath s p w with
    | some b => match ih with | some r => some (b :: r) | none => none
    | none => none) ps
def gAre (s : ESt) (x : EV) (bs : List Nat) : Bool := List.rec (motive := fun _ => Bool) true (fun b _ ih => match gEqO (s.load1 b 5) (some x) with | true => ih | false => false) bs
def gForm (nx : Nat) (r : Int) : EV := .sint .i64 (.term 3 (.var (Nat.sub nx 1024) 0 100000) (.cst r))
def gI (B : ETr EBlk) (bs : List Nat) (nx : Nat) (r : Int) : ESt := .mk (gPuts (gForm nx r) 5 bs B) (Nat.succ nx)
def gStep (k : ECall) (a : List EV) (s : ESt) : Option ESt := match k 19 a s with
  | .v (.tup []) s' => some s'
  | _ => none
def gBack (B : ETr EBlk) (bs : List Nat) (nx : Nat) (s : ESt) : Bool := match s with
  | .mk h n => match gAre (.mk h n) (gForm nx 3) bs with
    | true => gEqT nx B (gPuts .bot 5 bs h) 0 1
    | false => false
def gLinks : List (List Nat) := [[0, 1, 1], [1, 1, 1], [1, 1, 3], [2, 1, 1]]
def gIdle (k : ECall) (a : List EV) (B : ETr EBlk) (bs : List Nat) (nx : Nat) : Bool := match B.get nx with
  | some _ => false
  | none => match gRefT nx B with
    | false => false
    | true => match gStep k a (gI B bs nx 0) with
      | none => false
      | some s1 => match gStep k a s1 with
        | none => false
        | some s2 => match gStep k a s2 with
          | none => false
          | some s3 => gBack B bs nx s3
def gRest (k : ECall) (a : List EV) (w : Nat) (t : ESt) : EO := match t with
  | .mk h nx => match gPaths t w gLinks with
    | none => .er
    | some bs => match gAre t (.int .i64 15) bs with
      | false => .er
      | true => match gIdle k a (gPuts .bot 5 bs h) bs nx with
        | false => .er
        | true => .v (.tup []) (gI (gPuts .bot 5 bs h) bs nx 0)
/-- Blocks that are made in the rounds, and stay. -/
def gLive : List Nat := [4404, 5059, 5405, 5603]
def iRests (k : ECall) (a : List EV) (s : ESt) : EO := match a with
  | [.ptr (some (w, 0))] => match gIter k a 15 s with
    | none => .er
    | some (.mk h nx) => gRest k a w (.mk (gDead s.next gLive h 0 1) nx)
  | _ => .er
end
theorem gIter_succ {k : ECall} {a : List EV} {n : Nat} {s t : ESt} (h : gIter k a (n + 1) s = some t) : ∃ s', k 19 a s = .v (.tup []) s' ∧ gIter k a n s' = some t := by
  have h : (match k 19 a s with
    | .v (.tup []) s' => gIter k a n s'
    | _ => none) = some t := h
  split at h
  · rename_i s' hk
    exact ⟨s', hk, h⟩
  · cases h
theorem gStep_inv {k : ECall} {a : List EV} {s s' : ESt} (h : gStep k a s = some s') : k 19 a s = .v (.tup []) s' := by
  unfold gStep at h
  split at h
  · rename_i s1 hk
    obtain rfl := Option.some.inj h
    exact hk
  · cases h
theorem gBack_inv {B : ETr EBlk} {bs : List Nat} {nx : Nat} {s : ESt} (h : gBack B bs nx s = true) : gAre s (gForm nx 3) bs = true ∧ gEqT nx B (gPuts .bot 5 bs s.heap) 0 1 = true := by
  obtain ⟨g, n⟩ := s
  have h : (match gAre (.mk g n) (gForm nx 3) bs with
    | true => gEqT nx B (gPuts .bot 5 bs g) 0 1
    | false => false) = true := h
  split at h
  · rename_i ha
    exact ⟨ha, h⟩
  · cases h
section
variable {w0 w : World} {β : EMp} {s : ESt}
theorem gPath_ok (h : HR w0 β s w) : ∀ {path : List Nat} {b c : Nat} {l : ELoc}, β b = some l → gPath s path b = some c → ∃ l', β c = some l'
  | [], b, c, l, hb, hp => by
    obtain rfl := Option.some.inj (show some b = some c from hp)
    exact ⟨l, hb⟩
  | o :: path, b, c, l, hb, hp => by
    have hp : (match s.load1 b o with
      | some (.ptr (some (c, _))) => gPath s path c
      | some (.sl (some (c, _)) _ _ _) => gPath s path c
      | _ => none) = some c := hp
    split at hp
    · rename_i hl
      obtain ⟨v, v1, -⟩ := h.load1 hb hl
      cases v1 with
      | ptr hb => exact gPath_ok h hb hp
    · rename_i hl
      obtain ⟨v, v1, -⟩ := h.load1 hb hl
      cases v1 with
      | sl hb _ _ => exact gPath_ok h hb hp
      | sle hb => exact gPath_ok h hb hp
    · cases hp
theorem gPaths_ok (h : HR w0 β s w) {wb : Nat} {l : ELoc} (hb : β wb = some l) : ∀ {ps : List (List Nat)} {bs : List Nat}, gPaths s wb ps = some bs → ∀ b ∈ bs, ∃ l', β b = some l'
  | [], bs, hp => by
    obtain rfl := Option.some.inj (show some [] = some bs from hp)
    intro b hb; cases hb
  | p :: ps, bs, hp => by
    have hp : (match gPath s p wb with
      | some b => (match gPaths s wb ps with | some r => some (b :: r) | none => none)
      | none => none) = some bs := hp
    split at hp
    · rename_i c hc
      split at hp
      · rename_i r hr
        obtain rfl := Option.some.inj hp
        intro b hm
        rcases List.mem_cons.1 hm with rfl | hm
        · exact gPath_ok h hb hc
        · exact gPaths_ok h hb hr b hm
      · cases hp
    · cases hp
theorem gAre_ok {x : EV} : ∀ {bs : List Nat}, gAre s x bs = true → ∀ b ∈ bs, s.load1 b 5 = some x
  | [], _, b, hb => by cases hb
  | c :: bs, h, b, hb => by
    have h : (match gEqO (s.load1 c 5) (some x) with | true => gAre s x bs | false => false) = true := h
    split at h
    · rename_i hc
      rcases List.mem_cons.1 hb with rfl | hb
      · exact gEqO_eq hc
      · exact gAre_ok h b hb
    · cases h
theorem lowMap_lt {nx v b : Nat} (hb : b < nx) : lowMap β nx v b = β b := if_pos hb
theorem lowMap_at (nx v : Nat) : lowMap β nx v nx = some ⟨v, 0, 0⟩ := by
  unfold lowMap
  rw [if_neg (Nat.lt_irrefl _), if_pos rfl]
/-- The ticks, as a form, where their number is so. -/
theorem gForm_ok {nx q : Nat} {r : Int} (hn : 1024 ≤ nx) (hq : q ≤ 100000) (hr : 0 ≤ r ∧ r ≤ 3) (hβ : β nx = some ⟨q, 0, 0⟩) : VR β (gForm nx r) (.int .i64 (3 * q + r)) := by
  refine .sint (SN.term (c := 3) (x := (q : Int)) ⟨[], ?_⟩ (.cst r)) ?_
  · unfold SX.den
    have : symOf β (Nat.sub nx 1024) = some q := by
      unfold symOf
      rw [show 1024 + Nat.sub nx 1024 = nx by show 1024 + (nx - 1024) = nx; omega, hβ]
    rw [this]
    simp only
    rw [if_pos ⟨Nat.zero_le _, hq⟩]
  · simp [IntKind.wrap, IntKind.bits, IntKind.signed]
    omega
theorem gForm_inv {nx q : Nat} {r : Int} {v : Value} (hn : 1024 ≤ nx) (hβ : β nx = some ⟨q, 0, 0⟩) (hv : VR β (gForm nx r) v) : v = .int .i64 (3 * q + r) := by
  cases hv with
  | sint h _ =>
    obtain ⟨x, y, hx, hy, rfl⟩ := h.term_inv
    rw [hy.cst_inv]
    obtain ⟨bs, hx⟩ := hx
    unfold SX.den at hx
    have : symOf β (Nat.sub nx 1024) = some q := by
      unfold symOf
      rw [show 1024 + Nat.sub nx 1024 = nx by show 1024 + (nx - 1024) = nx; omega, hβ]
    rw [this] at hx
    simp only at hx
    split at hx
    · simp only [Option.some.injEq, Prod.mk.injEq] at hx
      rw [← hx.1]
    · cases hx
/-- From any state that is B below nx, but for the ticks, to the idle one. -/
theorem to_idle (h : HR w0 β s w) {B : ETr EBlk} {bs : List Nat} {nx q z : Nat} {r : Int} (hn : 1024 ≤ nx) (hns : nx ≤ s.next) (he : ∀ b, b < nx → (gPuts .bot 5 bs s.heap).get b = B.get b) (hr : gRefT nx B = true) (h0 : B.get nx = none)
    (hbs : ∀ b ∈ bs, b < nx) (hz : ∀ b ∈ bs, ∀ l, β b = some l → w.cell? ⟨l.c, l.sh + 5, none⟩ = some (.int .i64 (z : Int))) (hq : q ≤ 100000) (hr3 : 0 ≤ r ∧ r ≤ 3) (hzq : (z : Int) = 3 * q + r) :
    HR w0 (lowMap β nx q) (gI B bs nx r) w := by
  have h1 := h.cellPuts (i := 5) (x := .bot) bs fun b _ l v _ _ => .bot v
  have h2 := h1.low (B := B) (nx := nx) q he hr h0
  have h3 := h2.cellPuts (i := 5) (x := gForm nx r) bs fun b hb l v hl hc => by
    rw [lowMap_lt (hbs b hb)] at hl
    rw [hz b hb l hl] at hc
    obtain rfl := Option.some.inj hc
    rw [hzq]
    exact gForm_ok hn hq hr3 (lowMap_at nx q)
  exact h3
end
set_option maxRecDepth 100000 in
set_option maxHeartbeats 2000000 in
/-- A walk of rests, by what holds between the rounds. -/
theorem rests_walk (p : Value) (C : Nat → World → Prop) (w : World) (h0 : C 0 w)
    (hs : ∀ i, i < 150 → ∀ w', C i w' → Calls Tryz.prog 19 #[p] w' fun e w'' => e = .returned (.tuple #[]) ∧ C (i + 1) w'') :
    Calls Tryz.prog 15 #[p] w fun e w' => e = .returned (.tuple #[]) ∧ C 150 w' := by
  go_enter Tryz.func15, Tryz.ntmps15
  have H0 := hide h0
  have HS := hide hs
  clear h0 hs
  go_wp2_with fail
  go_loopw [2] (fun iv wr => ∃ i : Nat, iv = .int .i64 (i : Int) ∧ i ≤ 150 ∧ Hid (C i wr)) (fun iv _ => 150 - (intOf iv).toNat)
  case atStart => exact ⟨0, rfl, Nat.zero_le _, H0⟩
  case round =>
    obtain ⟨i, rfl, hi, hC⟩ := hrel
    obtain ⟨wq, rfl⟩ : ∃ wq : World, wq = wr := ⟨_, rfl⟩
    by_cases hlt : i < 150
    · have hil : (i : Int) < 150 := by omega
      have hcall := unhide HS i hlt wq (unhide hC)
      clear hC
      go_wp2_with fail
      refine hcall.mono ?_
      rintro e w3 ⟨rfl, hC3⟩
      have hC3 := hide hC3
      clear hcall
      go_wp2_with fail
      go_roundw
      case rel => exact ⟨i + 1, by go_num, hlt, hC3⟩
      case measure => simp [intOf]; omega
    · obtain rfl : i = 150 := by omega
      go_wp2_with fail
      go_end0
      exact ⟨rfl, unhide hC⟩
end Go.Proofs.YtjckpgcmfieaoaaGreatDoor
