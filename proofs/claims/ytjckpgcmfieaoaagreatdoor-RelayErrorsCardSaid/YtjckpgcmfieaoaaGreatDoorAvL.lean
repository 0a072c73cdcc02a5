/-
  The evaluator's operations, seen from other states.
-/
import Derived.Test.YtjckpgcmfieaoaaGreatDoorMbf
set_option linter.unusedVariables false
set_option linter.unusedSimpArgs false
namespace Go.Proofs.YtjckpgcmfieaoaaGreatDoor
open Go.RowKit

section
variable {P : Program} {w0 : World} {β : EMp} {s s' : ESt} {w : World} {tm : ERg} {k : ECall} {x : EV} {ρ : Operand → Value}
/-- What makes a block makes it in every world. -/
theorem eFresh_run {o : Oper} (hc : eCls P o = .fresh) (hρ : ∀ y ∈ o.op.operands, VR β ((eEvC y).f tm) (ρ y)) (hw : w0.heap.size ≤ w.heap.size) (ha : (eOp P o).f k tm s = .v x s') :
    ∃ k f, s.blk k f = .v x s' ∧ ∃ v w' l, (execOp ρ o).run P w = .ok (.value v) w' ∧ FreshOk w0 β k f w v w' l := by
  obtain ⟨dst, op, type, pos, after, guard⟩ := o
  simp only at hρ
  cases op with
  | alloc t =>
    have ha : ((match eZero P t with
      | .bot => (⟨fun _ _ _ => .er⟩ : ECl1)
      | z => ⟨fun _ _ s => s.rowT t z.cells fun b => .ptr (some (b, 0))⟩)).f k tm s = .v x s' := ha
    have hz : eZero P t ≠ .bot := fun e => by rw [e] at ha; cases ha
    have ha : s.rowT t (eZero P t).cells (fun b => .ptr (some (b, 0))) = .v x s' := by
      cases hq : eZero P t <;> rw [hq] at ha hz <;> first | exact absurd rfl hz | exact ha
    obtain ⟨v, w', l, g1, g2⟩ := alloc_run (P := P) (β := β) (w := w) rfl hz hw
    exact ⟨_, _, ha, v, w', l, by simp [execOp, g1], g2⟩
  | box t y =>
    have hy := hρ y (by simp [Op.operands])
    have ha : (match (eEvC y).f tm with
      | .bot => EO.er
      | z => s.rowT t z.cells fun b => .ptr (some (b, 0))) = .v x s' := ha
    have hz : (eEvC y).f tm ≠ .bot := fun e => by rw [e] at ha; cases ha
    have ha : s.rowT t ((eEvC y).f tm).cells (fun b => .ptr (some (b, 0))) = .v x s' := by
      cases hq : (eEvC y).f tm <;> rw [hq] at ha hz <;> first | exact absurd rfl hz | exact ha
    obtain ⟨v, w', l, g1, g2⟩ := box_run (P := P) (t := t) hy hz hw
    exact ⟨_, _, ha, v, w', l, by simp [execOp, g1], g2⟩
  | convert src dst2 y =>
    have hy := hρ y (by simp [Op.operands])
    have ha : eConv (eDesc P src) (eDesc P dst2) (eByteSl P (match eDesc P dst2 with | some .string => eDesc P src | d => d)) ((eEvC y).f tm) s = .v x s' := ha
    by_cases hd : ∃ e, eDesc P dst2 = some (.slice e)
    · obtain ⟨e, hd⟩ := hd
      obtain ⟨q, f, g1, c, w', l, g2, g3⟩ := eConv_fresh hw hy hd ha
      exact ⟨q, f, g1, c, w', l, by simp [execOp, g2], g3⟩
    · have hcls : eCls P ⟨dst, .convert src dst2 y, type, pos, after, guard⟩ = .look := by
        show (match eDesc P dst2 with | some (.slice _) => ECls.fresh | _ => .look) = .look
        cases hq : eDesc P dst2 with
        | none => rfl
        | some d => cases d <;> first | rfl | exact absurd ⟨_, hq⟩ hd
      rw [hcls] at hc
      cases hc
  | makeMap t r =>
    have hm := mapOk (w0 := w0) (β := β) hw
    cases r with
    | none => exact ⟨.map [] 0, fun b => .map (some b), ha, _, _, _, by simp [execOp, Instr.makeMap], hm⟩
    | some r =>
      cases r with
      | const v =>
        cases v with
        | int q n =>
          have ha : ((match eDesc P t with
            | some (.map _ _) => (⟨fun _ _ s => s.blk (.map [] 0) fun b => .map (some b)⟩ : ECl1)
            | _ => ⟨fun _ _ _ => .er⟩)).f k tm s = .v x s' := ha
          cases hd : eDesc P t with
          | none => rw [hd] at ha; cases ha
          | some d =>
            rw [hd] at ha
            have hu := run_underlying (eDesc_eq hd) w
            have hv := hρ (.const (.int q n)) (by simp [Op.operands])
            have hv : ρ (.const (.int q n)) = .int q n := by
              have e : (eEvC (.const (.int q n))).f tm = .int q n := rfl
              rw [e] at hv
              exact vr_int hv
            cases d with
            | map a b => exact ⟨.map [] 0, fun b => .map (some b), ha, _, _, _, by simp [execOp, Instr.makeMap, hu, hv, asInt, asIntOf], hm⟩
            | _ => cases ha
        | _ => cases ha
      | _ => cases ha
  | buildSlice t len ps =>
    have ha : ((match eDesc P t with
      | some (.slice e) => (match eInfo P e with
        | some i => (match eZero P e with
          | .bot => ⟨fun _ _ _ => .er⟩
          | z => (match Nat.beq z.cells.length i.size && Nat.ble (len * i.size) 10000 with
            | true => ⟨fun _ tm s => (match eFill (fun j => some (j * i.size, i.size)) (eEvps ps.toList tm) (eRepl z.cells len) with
              | some l => s.row l fun b => .sl (some (b, 0)) len len 0
              | none => .er)⟩
            | false => ⟨fun _ _ _ => .er⟩))
        | none => ⟨fun _ _ _ => .er⟩)
      | _ => ⟨fun _ _ _ => .er⟩ : ECl1)).f k tm s = .v x s' := ha
    cases hd : eDesc P t with
    | none => rw [hd] at ha; cases ha
    | some d =>
      rw [hd] at ha
      cases d with
      | slice e =>
        simp only at ha
        cases hi : eInfo P e with
        | none => rw [hi] at ha; cases ha
        | some i =>
          rw [hi] at ha
          simp only at ha
          have hz : eZero P e ≠ .bot := fun e => by rw [e] at ha; cases ha
          have ha : ((match Nat.beq (eZero P e).cells.length i.size && Nat.ble (len * i.size) 10000 with
            | true => ⟨fun _ tm s => (match eFill (fun j => some (j * i.size, i.size)) (eEvps ps.toList tm) (eRepl (eZero P e).cells len) with
              | some l => s.row l fun b => .sl (some (b, 0)) len len 0
              | none => .er)⟩
            | false => ⟨fun _ _ _ => .er⟩ : ECl1)).f k tm s = .v x s' := by
            cases hq : eZero P e <;> rw [hq] at ha hz <;> first | exact absurd rfl hz | exact ha
          cases hb : Nat.beq (eZero P e).cells.length i.size && Nat.ble (len * i.size) 10000 with
          | false => rw [hb] at ha; cases ha
          | true =>
            rw [hb] at ha
            simp only at ha
            rw [Bool.and_eq_true] at hb
            cases hf : eFill (fun j => some (j * i.size, i.size)) (eEvps ps.toList tm) (eRepl (eZero P e).cells len) with
            | none => rw [hf] at ha; cases ha
            | some l =>
              rw [hf] at ha
              obtain ⟨v, w', loc, g1, g2⟩ := buildSlice_run (w0 := w0) (β := β) (w := w) (ρ := ρ) hw hd hi rfl hz (Nat.eq_of_beq_eq_true hb.1) (Nat.le_of_ble_eq_true hb.2) (fun p hp => hρ p.2 (by simp [Op.operands]; exact ⟨p.1, by simpa using hp⟩)) hf
              refine ⟨_, _, ha, v, w', loc, ?_, g2⟩
              simpa [execOp] using congrArg (fun r => Result.andThen r fun v w' => Result.ok (Next.value v) w') g1
      | _ => cases ha
  | makeSlice t l c =>
    have hl := hρ l (by simp [Op.operands])
    have hc2 := hρ c (by simp [Op.operands])
    have ha : ((match eDesc P t with
      | some (.slice e) => (match eInfo P e with
        | some i => (match eZero P e with
          | .bot => ⟨fun _ _ _ => .er⟩
          | z => (match Nat.beq z.cells.length i.size with
            | true => ⟨fun _ tm s => (match (eEvC l).f tm with
              | .int _ (.ofNat l) => (match (eEvC c).f tm with
                | .int _ (.ofNat c) => (match Nat.ble l c && Nat.ble c 1000000 && Nat.ble (i.bytes * c) 1000000000 with
                  | true => s.row (eRepl z.cells c) fun b => .sl (some (b, 0)) l c 0
                  | false => .er)
                | _ => .er)
              | _ => .er)⟩
            | false => ⟨fun _ _ _ => .er⟩))
        | none => ⟨fun _ _ _ => .er⟩)
      | _ => ⟨fun _ _ _ => .er⟩ : ECl1)).f k tm s = .v x s' := ha
    cases hd : eDesc P t with
    | none => rw [hd] at ha; cases ha
    | some d =>
      rw [hd] at ha
      cases d with
      | slice e =>
        simp only at ha
        cases hi : eInfo P e with
        | none => rw [hi] at ha; cases ha
        | some i =>
          rw [hi] at ha
          simp only at ha
          have hz : eZero P e ≠ .bot := fun e => by rw [e] at ha; cases ha
          have ha : ((match Nat.beq (eZero P e).cells.length i.size with
            | true => ⟨fun _ tm s => (match (eEvC l).f tm with
              | .int _ (.ofNat l) => (match (eEvC c).f tm with
                | .int _ (.ofNat c) => (match Nat.ble l c && Nat.ble c 1000000 && Nat.ble (i.bytes * c) 1000000000 with
                  | true => s.row (eRepl (eZero P e).cells c) fun b => .sl (some (b, 0)) l c 0
                  | false => .er)
                | _ => .er)
              | _ => .er)⟩
            | false => ⟨fun _ _ _ => .er⟩ : ECl1)).f k tm s = .v x s' := by
            cases hq : eZero P e <;> rw [hq] at ha hz <;> first | exact absurd rfl hz | exact ha
          cases hb : Nat.beq (eZero P e).cells.length i.size with
          | false => rw [hb] at ha; cases ha
          | true =>
            rw [hb] at ha
            simp only at ha
            generalize (eEvC l).f tm = el at hl ha
            generalize (eEvC c).f tm = ec at hc2 ha
            cases el <;> first | (cases ha; done) | skip
            rename_i k1 n1
            cases n1 <;> first | (cases ha; done) | skip
            rename_i l1
            cases ec <;> first | (cases ha; done) | skip
            rename_i k2 n2
            cases n2 <;> first | (cases ha; done) | skip
            rename_i c1
            simp only at ha
            cases hq : Nat.ble l1 c1 && Nat.ble c1 1000000 && Nat.ble (i.bytes * c1) 1000000000 with
            | false => rw [hq] at ha; cases ha
            | true =>
              rw [hq] at ha
              rw [Bool.and_eq_true, Bool.and_eq_true] at hq
              obtain ⟨v, w', loc, g1, g2⟩ := makeSlice_run (P := P) (w0 := w0) (β := β) (w := w) (k1 := k1) (k2 := k2) hw hd hi rfl hz (Nat.eq_of_beq_eq_true hb) (Nat.le_of_ble_eq_true hq.1.1) (Nat.le_of_ble_eq_true hq.1.2) (Nat.le_of_ble_eq_true hq.2)
              exact ⟨_, _, ha, v, w', loc, by simpa [execOp, vr_int hl, vr_int hc2] using congrArg (fun r => Result.andThen r fun v w' => Result.ok (Next.value v) w') g1, g2⟩
      | _ => cases ha
  | call c =>
    obtain ⟨callee, args, types⟩ := c
    cases callee with
    | builtin b => cases b <;> cases hc
    | _ => cases hc
  | _ => cases hc
/-- A state that has all blocks of another one. -/
def Ups (s s2 : ESt) : Prop := ∀ b B, s.heap.get b = some B → s2.heap.get b = some B
theorem cells_ups {s2 : ESt} (h : Ups s s2) {b : Nat} {r : Nat × ETr EV} (hl : s.cells b = some r) : s2.cells b = some r := by
  unfold ESt.cells at hl ⊢
  rw [ESt.eta s] at hl
  rw [ESt.eta s2]
  simp only at hl ⊢
  cases hg : s.heap.get b with
  | none => rw [hg] at hl; cases hl
  | some B => rw [hg] at hl; rw [h _ _ hg]; exact hl
theorem loadN_ups {s2 : ESt} (h : Ups s s2) {b o n : Nat} {l : List EV} (hl : s.loadN b o n = some l) : s2.loadN b o n = some l := by
  unfold ESt.loadN at hl ⊢
  cases hg : s.cells b with
  | none => rw [hg] at hl; cases hl
  | some r => rw [hg] at hl; rw [cells_ups h hg]; exact hl
theorem load1_ups {s2 : ESt} (h : Ups s s2) {b o : Nat} {l : EV} (hl : s.load1 b o = some l) : s2.load1 b o = some l := by
  unfold ESt.load1 at hl ⊢
  cases hg : s.cells b with
  | none => rw [hg] at hl; cases hl
  | some r => rw [hg] at hl; rw [cells_ups h hg]; exact hl
theorem mapAt_ups {s2 : ESt} (h : Ups s s2) {y : EV} {r : Nat × List (EV × EV × Nat) × Nat} (hl : s.mapAt y = some r) : s2.mapAt y = some r := by
  unfold ESt.mapAt at hl ⊢
  rw [ESt.eta s] at hl
  rw [ESt.eta s2]
  cases y <;> first | (cases hl; done) | skip
  rename_i a
  cases a with
  | none => cases hl
  | some a =>
    simp only at hl ⊢
    cases hg : s.heap.get a with
    | none => rw [hg] at hl; cases hl
    | some B => rw [hg] at hl; rw [h _ _ hg]; exact hl
/-- What does not look at the state. -/
theorem pure_stay {o : Oper} (hc : eCls P o = .pure) : ∃ r : Option EV, ∀ s, (eOp P o).f k tm s = eOptV r s := by
  obtain ⟨dst, op, type, pos, after, guard⟩ := o
  cases op with
  | call c =>
    obtain ⟨callee, args, types⟩ := c
    cases callee with
    | builtin b =>
      cases b <;> first | (cases hc; done) | skip
      all_goals (
        unfold eOp
        simp only
        unfold eBuiltin
        simp only
        repeat' (first | exact ⟨none, fun s => rfl⟩ | exact ⟨some _, fun s => rfl⟩ | split | (dsimp only; split)))
    | _ => cases hc
  | convert src dst2 y =>
    have hc : (match eDesc P dst2 with | some (.slice _) => ECls.fresh | _ => .look) = .pure := hc
    split at hc <;> cases hc
  | typeAssert y t0 t ok =>
    have key : ∀ (r : Option EV), ∃ r' : Option EV, ∀ s, (eIfZ (eZero P t) ⟨fun _ _ s => eOptV r s⟩).f k tm s = eOptV r' s := fun r => by
      cases eZero P t <;> first | exact ⟨none, fun s => rfl⟩ | exact ⟨r, fun s => rfl⟩
    have h : ∀ b, ∃ r' : Option EV, ∀ s, (eIfZ (eZero P t) ⟨fun _ tm s => eOptV (eAssert P b t ok ((eEvC y).f tm)) s⟩).f k tm s = eOptV r' s := fun b => by
      cases eZero P t <;> first | exact ⟨none, fun s => rfl⟩ | exact ⟨_, fun s => rfl⟩
    unfold eOp
    simp only
    split
    · exact h true
    · exact h false
    · exact ⟨none, fun s => rfl⟩
  | _ =>
    first
    | (cases hc; done)
    | exact ⟨some _, fun s => rfl⟩
    | exact ⟨_, fun s => rfl⟩
    | (unfold eOp
       simp only
       repeat' (first | exact ⟨none, fun s => rfl⟩ | exact ⟨some _, fun s => rfl⟩ | exact ⟨_, fun s => rfl⟩ | split | (dsimp only; split)))
    | (simp only [eCls] at hc; split at hc <;> cases hc)
/-- What looks at the state, and does not write. -/
theorem look_stay {o : Oper} (hc : eCls P o = .look) (ha : (eOp P o).f k tm s = .v x s') : s' = s ∧ ∀ s2, Ups s s2 → (eOp P o).f k tm s2 = .v x s2 := by
  have opt : ∀ (r : ESt → Option EV), (∀ s2, Ups s s2 → ∀ y, r s = some y → r s2 = some y) → eOptV (r s) s = .v x s' → s' = s ∧ ∀ s2, Ups s s2 → eOptV (r s2) s2 = .v x s2 := fun r hr h => by
    obtain ⟨h1, rfl⟩ := eOptV_inv h
    exact ⟨rfl, fun s2 hu => by rw [hr s2 hu x h1]; rfl⟩
  obtain ⟨dst, op, type, pos, after, guard⟩ := o
  cases op with
  | load t y =>
    have ha : eLd (eAgg P t) s ((eEvC y).f tm) = .v x s' := ha
    show _ ∧ ∀ s2, Ups s s2 → eLd (eAgg P t) s2 ((eEvC y).f tm) = .v x s2
    unfold eLd at ha ⊢
    split at ha <;> first | (cases ha; done) | skip
    split at ha <;> first | (cases ha; done) | skip
    · split at ha
      · rename_i l hl
        injection ha with e1 e2
        subst e1 e2
        exact ⟨rfl, fun s2 hu => by simp only [loadN_ups hu hl]⟩
      · cases ha
    · split at ha
      · rename_i l hl
        injection ha with e1 e2
        subst e1 e2
        exact ⟨rfl, fun s2 hu => by simp only [load1_ups hu hl]⟩
      · cases ha
  | lookup t y kk ok =>
    unfold eOp at ha ⊢
    simp only at ha ⊢
    split at ha <;> first | (cases ha; done) | skip
    split at ha <;> first | (cases ha; done) | skip
    rename_i d hd
    obtain ⟨hz, ha⟩ := eIfZ_inv ha
    have : ∀ (z : EV) (c : ECl1), z ≠ .bot → eIfZ z c = c := fun z c hz => by cases z <;> first | exact absurd rfl hz | rfl
    rw [this _ _ hz]
    refine opt (fun s => eLookup d _ _ ok ((eEvC y).f tm) ((eEvC kk).f tm) s) (fun s2 hu v hv => ?_) ha
    generalize (eEvC y).f tm = m at hv
    unfold eLookup at hv ⊢
    split at hv
    · exact hv
    · split at hv
      · rename_i hm
        simp only [mapAt_ups hu hm]
        exact hv
      · cases hv
  | convert src dst2 y =>
    have ha : eConv (eDesc P src) (eDesc P dst2) (eByteSl P (match eDesc P dst2 with | some .string => eDesc P src | d => d)) ((eEvC y).f tm) s = .v x s' := ha
    show _ ∧ ∀ s2, Ups s s2 → eConv (eDesc P src) (eDesc P dst2) (eByteSl P (match eDesc P dst2 with | some .string => eDesc P src | d => d)) ((eEvC y).f tm) s2 = .v x s2
    have hc : (match eDesc P dst2 with | some (.slice _) => ECls.fresh | _ => .look) = .look := hc
    generalize eByteSl P _ = bs at ha
    generalize (eEvC y).f tm = m at ha
    generalize eDesc P src = ds at ha
    generalize eDesc P dst2 = dd at ha hc
    unfold eConv at ha ⊢
    split at ha <;> first | (cases ha; done) | skip
    · split at ha <;> first | (cases ha; done) | skip
      split at ha <;> first | (cases ha; done) | skip
      · injection ha with e1 e2
        subst e1 e2
        exact ⟨rfl, fun s2 hu => rfl⟩
      · split at ha <;> first | (cases ha; done) | skip
        rename_i hy
        injection ha with e1 e2
        subst e1 e2
        exact ⟨rfl, fun s2 hu => by simp only [hy]⟩
    · split at ha <;> first | (cases ha; done) | skip
      · split at ha <;> first | (cases ha; done) | skip
        · injection ha with e1 e2
          subst e1 e2
          exact ⟨rfl, fun s2 hu => rfl⟩
        · injection ha with e1 e2
          subst e1 e2
          exact ⟨rfl, fun s2 hu => rfl⟩
      · split at ha <;> first | (cases ha; done) | skip
        split at ha <;> first | (cases ha; done) | skip
        · injection ha with e1 e2
          subst e1 e2
          exact ⟨rfl, fun s2 hu => rfl⟩
        · split at ha <;> first | (cases ha; done) | skip
          rename_i hl
          split at ha <;> first | (cases ha; done) | skip
          · rename_i hn
            injection ha with e1 e2
            subst e1 e2
            exact ⟨rfl, fun s2 hu => by simp only [loadN_ups hu hl, hn]⟩
          · rename_i hn
            split at ha <;> first | (cases ha; done) | skip
            rename_i hn2
            injection ha with e1 e2
            subst e1 e2
            exact ⟨rfl, fun s2 hu => by simp only [loadN_ups hu hl, hn, hn2]⟩
    · cases hc
  | call c =>
    obtain ⟨callee, args, types⟩ := c
    cases callee with
    | builtin b =>
      cases b <;> first | (cases hc; done) | skip
      unfold eOp at ha ⊢
      simp only at ha ⊢
      unfold eBuiltin at ha ⊢
      simp only at ha ⊢
      split at ha <;> first | (cases ha; done) | skip
      split at ha <;> first | (cases ha; done) | skip
      rename_i t _ _ _ y _ _
      refine opt (fun s => eLen P (eDesc P t) ((eEvC y).f tm) s) (fun s2 hu v hv => ?_) ha
      generalize (eEvC y).f tm = m at hv
      unfold eLen at hv ⊢
      split at hv <;> first | exact hv | skip
      split at hv
      · exact hv
      · split at hv
        · rename_i hm
          simp only [mapAt_ups hu hm]
          exact hv
        · cases hv
    | _ => cases hc
  | _ => cases hc
end
end Go.Proofs.YtjckpgcmfieaoaaGreatDoor
