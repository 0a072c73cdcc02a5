/-
  The evaluator's operations, one and all (but calls).
-/
import Derived.Test.YtjckpgcmfieaoaaGreatDoorMbb
set_option linter.unusedVariables false
set_option linter.unusedSimpArgs false
namespace Go.Proofs.YtjckpgcmfieaoaaGreatDoor
open Go.RowKit

/-- What an operation does that the evaluator has done, by its class. -/
def OpSpec (P : Program) (o : Oper) (ρ : Operand → Value) (w0 : World) (β : EMp) (s : ESt) (w : World) (x : EV) (s' : ESt) : Prop := match eCls P o with
  | .fresh => ∃ k f, s.blk k f = .v x s' ∧ ∃ v w' l, (execOp ρ o).run P w = .ok (.value v) w' ∧ FreshOk w0 β k f w v w' l
  | .eff => ∃ β' v w', ((execOp ρ o).run P w = .ok (.value v) w' ∨ ((execOp ρ o).run P w = .ok .skip w' ∧ v = undef)) ∧ VR β' x v ∧ HR w0 β' s' w' ∧ Ext β s β' s'
  | _ => s' = s ∧ ∃ v, (execOp ρ o).run P w = .ok (.value v) w ∧ VR β x v
section
variable {P : Program} {w0 : World} {β : EMp} {s s' : ESt} {w : World} {tm : ERg} {k : ECall} {x : EV} {ρ : Operand → Value}
theorem eOptV_inv {r : Option EV} (h : eOptV r s = .v x s') : r = some x ∧ s' = s := by
  cases r with
  | none => cases h
  | some y => injection h with e1 e2; exact ⟨by rw [e1], e2.symm⟩
theorem eSto_inv {r : Option ESt} (h : eSto r = .v x s') : r = some s' ∧ x = .bot := by
  cases r with
  | none => cases h
  | some y => injection h with e1 e2; exact ⟨by rw [e2], e1.symm⟩
theorem eEvs_VRs : ∀ (l : List Operand), (∀ y ∈ l, VR β ((eEvC y).f tm) (ρ y)) → VRs β (eEvs l tm) (l.map ρ)
  | [], _ => .nil
  | y :: l, h => .cons (h y (List.mem_cons_self ..)) (eEvs_VRs l fun z hz => h z (List.mem_cons_of_mem _ hz))
theorem eEvo_OVR (o : Option Operand) (h : ∀ y ∈ o, VR β ((eEvC y).f tm) (ρ y)) : OVR β (eEvo o tm) (o.map ρ) := by
  cases o with
  | none => exact .none
  | some y => exact .some (h y rfl)
theorem vr_bool {b : Bool} {v : Value} (h : VR β (.bool b) v) : v = .bool b := by cases h; rfl
theorem vr_int {q : IntKind} {n : Int} {v : Value} (h : VR β (.int q n) v) : v = .int q n := by cases h; rfl
theorem vr_ptr {b o : Nat} {v : Value} (h : VR β (.ptr (some (b, o))) v) : ∃ l, β b = some l ∧ v = .pointer (some ⟨l.c, l.sh + o, none⟩) := by cases h; exact ⟨_, ‹_›, rfl⟩
theorem vr_agg {l : List EV} {v : Value} (h : VR β (.agg l) v) : ∃ a, v = .agg a ∧ VRs β l a.toList := by cases h; exact ⟨_, rfl, ‹_›⟩
theorem vr_tup {l : List EV} {v : Value} (h : VR β (.tup l) v) : ∃ a, v = .tuple a ∧ VRs β l a.toList := by cases h; exact ⟨_, rfl, ‹_›⟩
theorem eIfZ_inv {z : EV} {c : ECl1} (h : (eIfZ z c).f k tm s = .v x s') : z ≠ .bot ∧ c.f k tm s = .v x s' := by
  cases z <;> first | (cases h; done) | exact ⟨fun e => by (cases e), h⟩
/-- All but calls. -/
theorem eOp_run {o : Oper} (hc : ∀ c, o.op = .call c → ∃ b, c.callee = .builtin b) (hρ : ∀ y ∈ o.op.operands, VR β ((eEvC y).f tm) (ρ y)) (h : HR w0 β s w) (ha : (eOp P o).f k tm s = .v x s') : OpSpec P o ρ w0 β s w x s' := by
  obtain ⟨dst, op, type, pos, after, guard⟩ := o
  simp only at hρ
  cases op with
  | move y =>
    injection (show EO.v ((eEvC y).f tm) s = .v x s' from ha) with e1 e2
    subst e1 e2
    exact ⟨rfl, ρ y, rfl, hρ y (by simp [Op.operands])⟩
  | assign y =>
    injection (show EO.v ((eEvC y).f tm) s = .v x s' from ha) with e1 e2
    subst e1 e2
    exact ⟨rfl, ρ y, rfl, hρ y (by simp [Op.operands])⟩
  | pick c y z =>
    have hcv := hρ c (by simp [Op.operands])
    have hy := hρ y (by simp [Op.operands])
    have hz := hρ z (by simp [Op.operands])
    have ha : (match (eEvC c).f tm with
      | .bool true => EO.v ((eEvC y).f tm) s
      | .bool false => .v ((eEvC z).f tm) s
      | _ => .er) = .v x s' := ha
    cases hq : (eEvC c).f tm with
    | bool b =>
      rw [hq] at ha hcv
      have hb := vr_bool hcv
      cases b with
      | true =>
        injection ha with e1 e2
        subst e1 e2
        exact ⟨rfl, ρ y, by simp [execOp, hb, asBool], hy⟩
      | false =>
        injection ha with e1 e2
        subst e1 e2
        exact ⟨rfl, ρ z, by simp [execOp, hb, asBool], hz⟩
    | _ => rw [hq] at ha; cases ha
  | alloc t =>
    have ha : ((match eZero P t with
      | .bot => (⟨fun _ _ _ => .er⟩ : ECl1)
      | z => ⟨fun _ _ s => s.rowT t z.cells fun b => .ptr (some (b, 0))⟩)).f k tm s = .v x s' := ha
    have hz : eZero P t ≠ .bot := fun e => by rw [e] at ha; cases ha
    have ha : s.rowT t (eZero P t).cells (fun b => .ptr (some (b, 0))) = .v x s' := by
      cases hq : eZero P t <;> rw [hq] at ha hz <;> first | exact absurd rfl hz | exact ha
    obtain ⟨v, w', l, g1, g2⟩ := alloc_run (P := P) (β := β) (w := w) rfl hz h.up.size
    exact ⟨_, _, ha, v, w', l, by simp [execOp, g1], g2⟩
  | box t y =>
    have hy := hρ y (by simp [Op.operands])
    have ha : (match (eEvC y).f tm with
      | .bot => EO.er
      | z => s.rowT t z.cells fun b => .ptr (some (b, 0))) = .v x s' := ha
    have hz : (eEvC y).f tm ≠ .bot := fun e => by rw [e] at ha; cases ha
    have ha : s.rowT t ((eEvC y).f tm).cells (fun b => .ptr (some (b, 0))) = .v x s' := by
      cases hq : (eEvC y).f tm <;> rw [hq] at ha hz <;> first | exact absurd rfl hz | exact ha
    obtain ⟨v, w', l, g1, g2⟩ := box_run (P := P) (t := t) hy hz h.up.size
    exact ⟨_, _, ha, v, w', l, by simp [execOp, g1], g2⟩
  | build t ps =>
    obtain ⟨e1, rfl⟩ := eOptV_inv (show eOptV (eBuild P t ps tm) s = .v x s' from ha)
    obtain ⟨c, g1, g2⟩ := eBuild_run (ρ := ρ) e1 (fun p hp => hρ p.2 (by simp [Op.operands]; exact ⟨p.1, by simpa using hp⟩)) w
    exact ⟨rfl, c, by simpa [execOp] using congrArg (fun r => Result.andThen r fun v w' => Result.ok (Next.value v) w') g1, g2⟩
  | load t y =>
    have hy := hρ y (by simp [Op.operands])
    obtain ⟨rfl, u, g1, g2, -⟩ := eLd_run h hy (show eLd (eAgg P t) s ((eEvC y).f tm) = .v x s' from ha)
    exact ⟨rfl, u, by simp [execOp, g2], g1⟩
  | store t y z =>
    have hy := hρ y (by simp [Op.operands])
    have hz := hρ z (by simp [Op.operands])
    have ha : ((match eInfo P t with
      | some i => (⟨fun _ tm s => eSt i.size s ((eEvC y).f tm) ((eEvC z).f tm)⟩ : ECl1)
      | none => ⟨fun _ _ _ => .er⟩)).f k tm s = .v x s' := ha
    cases hi : eInfo P t with
    | none => rw [hi] at ha; cases ha
    | some i =>
      rw [hi] at ha
      obtain ⟨rfl, w', g1, g2, g3⟩ := eSt_run hi h hy hz ha
      exact ⟨β, undef, w', .inr ⟨by simp [execOp, g1], rfl⟩, .bot _, g2, g3⟩
  | nilCheck y =>
    have hy := hρ y (by simp [Op.operands])
    have ha : (match (eEvC y).f tm with
      | .ptr (some a) => EO.v (.ptr (some a)) s
      | .fn (.func f) a b => .v (.fn (.func f) a b) s
      | .ifc t v => .v (.ifc t v) s
      | .map r => .v (.map r) s
      | .sl a l c z => .v (.sl a l c z) s
      | _ => .er) = .v x s' := ha
    generalize (eEvC y).f tm = ey at hy ha
    generalize hv : ρ y = v at hy
    cases hy with
    | ptr hb => injection ha with e1 e2; subst e1 e2; exact ⟨rfl, ρ y, by simp [execOp, hv], by rw [hv]; exact .ptr hb⟩
    | fn a b =>
      rename_i f _ _ _ _
      cases f <;> first | (cases ha; done) | (injection ha with e1 e2; subst e1 e2; exact ⟨rfl, ρ y, by simp [execOp, hv], by rw [hv]; exact .fn a b⟩)
    | ifc a => injection ha with e1 e2; subst e1 e2; exact ⟨rfl, ρ y, by simp [execOp, hv], by rw [hv]; exact .ifc a⟩
    | mnil => injection ha with e1 e2; subst e1 e2; exact ⟨rfl, ρ y, by simp [execOp, hv], by rw [hv]; exact .mnil⟩
    | map a => injection ha with e1 e2; subst e1 e2; exact ⟨rfl, ρ y, by simp [execOp, hv], by rw [hv]; exact .map a⟩
    | snil => injection ha with e1 e2; subst e1 e2; exact ⟨rfl, ρ y, by simp [execOp, hv], by rw [hv]; exact .snil⟩
    | sl a b c => injection ha with e1 e2; subst e1 e2; exact ⟨rfl, ρ y, by simp [execOp, hv], by rw [hv]; exact .sl a b c⟩
    | sle a => injection ha with e1 e2; subst e1 e2; exact ⟨rfl, ρ y, by simp [execOp, hv], by rw [hv]; exact .sle a⟩
    | _ => cases ha
  | binOp op t y z yt =>
    have hy := hρ y (by simp [Op.operands])
    have hz := hρ z (by simp [Op.operands])
    obtain ⟨e1, rfl⟩ := eOptV_inv (show eOptV (eBin op (eDesc P t) (eLeaves P t) ((eEvC y).f tm) ((eEvC z).f tm)) s = .v x s' from ha)
    obtain ⟨c, g1, g2⟩ := eBin_run e1 hy hz y z w
    refine ⟨rfl, c, ?_, g2⟩
    simp only [Sem.run_bind] at g1
    simp only [execOp, Sem.run_bind, Sem.run_pure]
    generalize (eqGuard op t y z (ρ y) (ρ z)).run P w = r at g1 ⊢
    cases r with
    | ok q w1 =>
      simp only [Result.andThen_ok] at g1 ⊢
      rw [g1]
      rfl
    | halt q w1 => cases g1
  | unOp op t y =>
    have hy := hρ y (by simp [Op.operands])
    obtain ⟨e1, rfl⟩ := eOptV_inv (show eOptV (eUn op ((eEvC y).f tm)) s = .v x s' from ha)
    generalize (eEvC y).f tm = ey at hy e1
    cases op with
    | not =>
      cases ey <;> first | (cases e1; done) | skip
      rename_i b
      obtain rfl := Option.some.inj e1
      exact ⟨rfl, .bool (!b), by simp [execOp, vr_bool hy, Op.unary], .bool _⟩
    | neg =>
      cases ey <;> first | (cases e1; done) | skip
      rename_i q n
      obtain rfl := Option.some.inj e1
      rw [eWrap_eq]
      exact ⟨rfl, .int q (q.wrap (0 - n)), by simp [execOp, vr_int hy, Op.unary, Op.intArith], .int _ _⟩
    | xor =>
      cases ey <;> first | (cases e1; done) | skip
      rename_i q n
      obtain ⟨c, g1, g2⟩ := eBin2_run (P := P) (β := β) (show eBin2 .xor q (eOnes q) n = some x from e1) (by simp) (by simp) 0 w
      have g3 : (Op.intBits .xor q (if q.signed then -1 else q.max) n).run P w = .ok c w := by simpa [binOp, eOnes] using g1
      exact ⟨rfl, c, by simp [execOp, vr_int hy, Op.unary, g3], g2⟩
    | _ => cases e1
  | convert src dst2 y =>
    have hy := hρ y (by simp [Op.operands])
    have ha : eConv (eDesc P src) (eDesc P dst2) (eByteSl P (match eDesc P dst2 with | some .string => eDesc P src | d => d)) ((eEvC y).f tm) s = .v x s' := ha
    unfold OpSpec
    by_cases hd : ∃ e, eDesc P dst2 = some (.slice e)
    · obtain ⟨e, hd⟩ := hd
      have hcls : eCls P ⟨dst, .convert src dst2 y, type, pos, after, guard⟩ = .fresh := by
        show (match eDesc P dst2 with | some (.slice _) => ECls.fresh | _ => .look) = .fresh
        rw [hd]
      rw [hcls]
      obtain ⟨q, f, g1, c, w', l, g2, g3⟩ := eConv_fresh h.up.size hy hd ha
      exact ⟨q, f, g1, c, w', l, by simp [execOp, g2], g3⟩
    · have hcls : eCls P ⟨dst, .convert src dst2 y, type, pos, after, guard⟩ = .look := by
        show (match eDesc P dst2 with | some (.slice _) => ECls.fresh | _ => .look) = .look
        cases hq : eDesc P dst2 with
        | none => rfl
        | some d => cases d <;> first | rfl | exact absurd ⟨_, hq⟩ hd
      rw [hcls]
      obtain ⟨rfl, c, g2, g3⟩ := eConv_run h hy ha fun e he => hd ⟨e, he⟩
      exact ⟨rfl, c, by simp [execOp, g2], g3⟩
  | makeInterface t y =>
    have hy := hρ y (by simp [Op.operands])
    have ha : ((match eDesc P t with
      | some (.interface _) => (⟨fun _ _ _ => .er⟩ : ECl1)
      | none => ⟨fun _ _ _ => .er⟩
      | some _ => ⟨fun _ tm s => .v (.ifc t ((eEvC y).f tm)) s⟩)).f k tm s = .v x s' := ha
    cases hd : eDesc P t with
    | none => rw [hd] at ha; cases ha
    | some d =>
      rw [hd] at ha
      have hu := run_underlying (eDesc_eq hd) w
      have : x = .ifc t ((eEvC y).f tm) ∧ s' = s ∧ ∀ ms, d ≠ .interface ms := by
        cases d <;> first | (cases ha; done) | (injection ha with e1 e2; exact ⟨e1.symm, e2.symm, fun _ e => by cases e⟩)
      obtain ⟨rfl, rfl, hni⟩ := this
      exact ⟨rfl, .iface t (ρ y), by cases d <;> first | exact absurd rfl (hni _) | simp [execOp, Instr.makeInterface, hu], .ifc hy⟩
  | makeFunc f first caps =>
    injection (show EO.v (.fn f (eEvs first.toList tm) (eEvs caps.toList tm)) s = .v x s' from ha) with e1 e2
    subst e1 e2
    refine ⟨rfl, .func f (first.map ρ) (caps.map ρ), by simp [execOp, Instr.makeFunc], .fn ?_ ?_⟩
    · rw [Array.toList_map]
      exact eEvs_VRs _ fun y hy => hρ y (by simp [Op.operands]; exact .inl (by simpa using hy))
    · rw [Array.toList_map]
      exact eEvs_VRs _ fun y hy => hρ y (by simp [Op.operands]; exact .inr (by simpa using hy))
  | makeMap t r =>
    have hm := mapOk (w0 := w0) (β := β) h.up.size
    cases r with
    | none => exact ⟨.map [] 0, fun b => .map (some b), ha, _, _, _, by simp [execOp, Instr.makeMap], hm⟩
    | some r =>
      cases r with
      | const v =>
        cases v with
        | int q n =>
          have ha : ((match eDesc P t with
            | some (.map _ _) => (⟨fun _ _ s => s.blk (.map [] 0) fun b => .map (some b)⟩ : ECl1)
            | _ => ⟨fun _ _ _ => .er⟩)).f k tm s = .v x s' := ha
          cases hd : eDesc P t with
          | none => rw [hd] at ha; cases ha
          | some d =>
            rw [hd] at ha
            have hu := run_underlying (eDesc_eq hd) w
            have hv := hρ (.const (.int q n)) (by simp [Op.operands])
            have hv : ρ (.const (.int q n)) = .int q n := by
              have e : (eEvC (.const (.int q n))).f tm = .int q n := rfl
              rw [e] at hv
              exact vr_int hv
            cases d with
            | map a b => exact ⟨.map [] 0, fun b => .map (some b), ha, _, _, _, by simp [execOp, Instr.makeMap, hu, hv, asInt, asIntOf], hm⟩
            | _ => cases ha
        | _ => cases ha
      | _ => cases ha
  | fieldAddr t y f =>
    have hy := hρ y (by simp [Op.operands])
    have ha : ((match eDesc P t with
      | some (.struct fs) => (match eNth fs.toList f with
        | some f => (match eInfo P f.type with
          | some j => (match Nat.ble 1 j.size with
            | true => ⟨fun _ tm s => (match (eEvC y).f tm with
              | .ptr (some (b, o)) => .v (.ptr (some (b, o + f.offset))) s
              | _ => .er)⟩
            | false => ⟨fun _ _ _ => .er⟩)
          | none => ⟨fun _ _ _ => .er⟩)
        | none => ⟨fun _ _ _ => .er⟩)
      | _ => ⟨fun _ _ _ => .er⟩ : ECl1)).f k tm s = .v x s' := ha
    cases hd : eDesc P t with
    | none => rw [hd] at ha; cases ha
    | some d =>
      rw [hd] at ha
      have hu := run_underlying (eDesc_eq hd) w
      cases d with
      | struct fs =>
        simp only at ha
        rw [eNth_eq] at ha
        cases hf : fs.toList[f]? with
        | none => rw [hf] at ha; cases ha
        | some fd =>
          rw [hf] at ha
          simp only at ha
          cases hi : eInfo P fd.type with
          | none => rw [hi] at ha; cases ha
          | some j =>
            rw [hi] at ha
            simp only at ha
            cases hb : Nat.ble 1 j.size with
            | false => rw [hb] at ha; cases ha
            | true =>
              rw [hb] at ha
              have hb := Nat.le_of_ble_eq_true hb
              simp only at ha
              generalize (eEvC y).f tm = ey at hy ha
              cases ey <;> first | (cases ha; done) | skip
              rename_i p
              cases p with
              | none => cases ha
              | some p =>
                injection ha with e1 e2
                subst e1 e2
                obtain ⟨l, hl, hv⟩ := vr_ptr hy
                have hsz := (eInfo_run hi w).2
                have hf' : fs[f]? = some fd := by simpa using hf
                have hne : ¬ j.size = 0 := by omega
                refine ⟨rfl, .pointer (some ⟨l.c, l.sh + (p.2 + fd.offset), none⟩), ?_, .ptr hl⟩
                simp [execOp, Instr.fieldAt, hu, hf', hv, Instr.sureAddr, fieldPlace, hsz, hne, addr_add, Nat.add_assoc]
      | _ => cases ha
  | field t y f =>
    have hy := hρ y (by simp [Op.operands])
    have ha : ((match eDesc P t with
      | some (.struct fs) => (match eNth fs.toList f with
        | some f => ⟨fun _ tm s => (match (eEvC y).f tm with
          | .agg cs => eOptV (ePart (eAgg P f.type) cs f.offset) s
          | _ => .er)⟩
        | none => ⟨fun _ _ _ => .er⟩)
      | _ => ⟨fun _ _ _ => .er⟩ : ECl1)).f k tm s = .v x s' := ha
    cases hd : eDesc P t with
    | none => rw [hd] at ha; cases ha
    | some d =>
      rw [hd] at ha
      have hu := run_underlying (eDesc_eq hd) w
      cases d with
      | struct fs =>
        simp only at ha
        rw [eNth_eq] at ha
        cases hf : fs.toList[f]? with
        | none => rw [hf] at ha; cases ha
        | some fd =>
          rw [hf] at ha
          simp only at ha
          generalize (eEvC y).f tm = ey at hy ha
          cases ey <;> first | (cases ha; done) | skip
          obtain ⟨e1, rfl⟩ := eOptV_inv ha
          obtain ⟨a, hv, hc⟩ := vr_agg hy
          obtain ⟨v, g1, g2⟩ := ePart_run e1 hc w
          have hf' : fs[f]? = some fd := by simpa using hf
          exact ⟨rfl, v, by simp [execOp, Instr.field, hu, hf', hv, asAgg, g1], g2⟩
      | _ => cases ha
  | extract y i =>
    have hy := hρ y (by simp [Op.operands])
    have ha : (match (eEvC y).f tm with
      | .tup l => eOptV (eNth l i) s
      | _ => EO.er) = .v x s' := ha
    generalize (eEvC y).f tm = ey at hy ha
    cases ey <;> first | (cases ha; done) | skip
    obtain ⟨e1, rfl⟩ := eOptV_inv ha
    obtain ⟨a, hv, hc⟩ := vr_tup hy
    rw [eNth_eq] at e1
    obtain ⟨v, g1, g2⟩ := hc.get e1
    have g1 : a[i]? = some v := by simpa using g1
    exact ⟨rfl, v, by simp [execOp, hv, Instr.extract, g1], g2⟩
  | slice t y lo hi mx =>
    have hy := hρ y (by simp [Op.operands])
    obtain ⟨e1, rfl⟩ := eOptV_inv (show eOptV (eSlice P (eDesc P t) ((eEvC y).f tm) (eEvo lo tm) (eEvo hi tm) (eEvo mx tm)) s = .v x s' from ha)
    have h1 := eEvo_OVR (β := β) (tm := tm) (ρ := ρ) lo fun q hq => hρ q (by cases hq; simp [Op.operands])
    have h2 := eEvo_OVR (β := β) (tm := tm) (ρ := ρ) hi fun q hq => hρ q (by cases hq; simp [Op.operands])
    have h3 := eEvo_OVR (β := β) (tm := tm) (ρ := ρ) mx fun q hq => hρ q (by cases hq; simp [Op.operands])
    obtain ⟨c, g1, g2⟩ := eSlice_run e1 hy h1 h2 h3 w
    exact ⟨rfl, c, by simp [execOp, g1], g2⟩
  | buildSlice t len ps =>
    have ha : ((match eDesc P t with
      | some (.slice e) => (match eInfo P e with
        | some i => (match eZero P e with
          | .bot => ⟨fun _ _ _ => .er⟩
          | z => (match Nat.beq z.cells.length i.size && Nat.ble (len * i.size) 10000 with
            | true => ⟨fun _ tm s => (match eFill (fun j => some (j * i.size, i.size)) (eEvps ps.toList tm) (eRepl z.cells len) with
              | some l => s.row l fun b => .sl (some (b, 0)) len len 0
              | none => .er)⟩
            | false => ⟨fun _ _ _ => .er⟩))
        | none => ⟨fun _ _ _ => .er⟩)
      | _ => ⟨fun _ _ _ => .er⟩ : ECl1)).f k tm s = .v x s' := ha
    cases hd : eDesc P t with
    | none => rw [hd] at ha; cases ha
    | some d =>
      rw [hd] at ha
      cases d with
      | slice e =>
        simp only at ha
        cases hi : eInfo P e with
        | none => rw [hi] at ha; cases ha
        | some i =>
          rw [hi] at ha
          simp only at ha
          have hz : eZero P e ≠ .bot := fun e => by rw [e] at ha; cases ha
          have ha : ((match Nat.beq (eZero P e).cells.length i.size && Nat.ble (len * i.size) 10000 with
            | true => ⟨fun _ tm s => (match eFill (fun j => some (j * i.size, i.size)) (eEvps ps.toList tm) (eRepl (eZero P e).cells len) with
              | some l => s.row l fun b => .sl (some (b, 0)) len len 0
              | none => .er)⟩
            | false => ⟨fun _ _ _ => .er⟩ : ECl1)).f k tm s = .v x s' := by
            cases hq : eZero P e <;> rw [hq] at ha hz <;> first | exact absurd rfl hz | exact ha
          cases hb : Nat.beq (eZero P e).cells.length i.size && Nat.ble (len * i.size) 10000 with
          | false => rw [hb] at ha; cases ha
          | true =>
            rw [hb] at ha
            simp only at ha
            rw [Bool.and_eq_true] at hb
            cases hf : eFill (fun j => some (j * i.size, i.size)) (eEvps ps.toList tm) (eRepl (eZero P e).cells len) with
            | none => rw [hf] at ha; cases ha
            | some l =>
              rw [hf] at ha
              obtain ⟨v, w', loc, g1, g2⟩ := buildSlice_run (w0 := w0) (β := β) (w := w) (ρ := ρ) h.up.size hd hi rfl hz (Nat.eq_of_beq_eq_true hb.1) (Nat.le_of_ble_eq_true hb.2) (fun p hp => hρ p.2 (by simp [Op.operands]; exact ⟨p.1, by simpa using hp⟩)) hf
              refine ⟨_, _, ha, v, w', loc, ?_, g2⟩
              simpa [execOp] using congrArg (fun r => Result.andThen r fun v w' => Result.ok (Next.value v) w') g1
      | _ => cases ha
  | makeSlice t l c =>
    have hl := hρ l (by simp [Op.operands])
    have hc2 := hρ c (by simp [Op.operands])
    have ha : ((match eDesc P t with
      | some (.slice e) => (match eInfo P e with
        | some i => (match eZero P e with
          | .bot => ⟨fun _ _ _ => .er⟩
          | z => (match Nat.beq z.cells.length i.size with
            | true => ⟨fun _ tm s => (match (eEvC l).f tm with
              | .int _ (.ofNat l) => (match (eEvC c).f tm with
                | .int _ (.ofNat c) => (match Nat.ble l c && Nat.ble c 1000000 && Nat.ble (i.bytes * c) 1000000000 with
                  | true => s.row (eRepl z.cells c) fun b => .sl (some (b, 0)) l c 0
                  | false => .er)
                | _ => .er)
              | _ => .er)⟩
            | false => ⟨fun _ _ _ => .er⟩))
        | none => ⟨fun _ _ _ => .er⟩)
      | _ => ⟨fun _ _ _ => .er⟩ : ECl1)).f k tm s = .v x s' := ha
    cases hd : eDesc P t with
    | none => rw [hd] at ha; cases ha
    | some d =>
      rw [hd] at ha
      cases d with
      | slice e =>
        simp only at ha
        cases hi : eInfo P e with
        | none => rw [hi] at ha; cases ha
        | some i =>
          rw [hi] at ha
          simp only at ha
          have hz : eZero P e ≠ .bot := fun e => by rw [e] at ha; cases ha
          have ha : ((match Nat.beq (eZero P e).cells.length i.size with
            | true => ⟨fun _ tm s => (match (eEvC l).f tm with
              | .int _ (.ofNat l) => (match (eEvC c).f tm with
                | .int _ (.ofNat c) => (match Nat.ble l c && Nat.ble c 1000000 && Nat.ble (i.bytes * c) 1000000000 with
                  | true => s.row (eRepl (eZero P e).cells c) fun b => .sl (some (b, 0)) l c 0
                  | false => .er)
                | _ => .er)
              | _ => .er)⟩
            | false => ⟨fun _ _ _ => .er⟩ : ECl1)).f k tm s = .v x s' := by
            cases hq : eZero P e <;> rw [hq] at ha hz <;> first | exact absurd rfl hz | exact ha
          cases hb : Nat.beq (eZero P e).cells.length i.size with
          | false => rw [hb] at ha; cases ha
          | true =>
            rw [hb] at ha
            simp only at ha
            generalize (eEvC l).f tm = el at hl ha
            generalize (eEvC c).f tm = ec at hc2 ha
            cases el <;> first | (cases ha; done) | skip
            rename_i k1 n1
            cases n1 <;> first | (cases ha; done) | skip
            rename_i l1
            cases ec <;> first | (cases ha; done) | skip
            rename_i k2 n2
            cases n2 <;> first | (cases ha; done) | skip
            rename_i c1
            simp only at ha
            cases hq : Nat.ble l1 c1 && Nat.ble c1 1000000 && Nat.ble (i.bytes * c1) 1000000000 with
            | false => rw [hq] at ha; cases ha
            | true =>
              rw [hq] at ha
              rw [Bool.and_eq_true, Bool.and_eq_true] at hq
              obtain ⟨v, w', loc, g1, g2⟩ := makeSlice_run (P := P) (w0 := w0) (β := β) (w := w) (k1 := k1) (k2 := k2) h.up.size hd hi rfl hz (Nat.eq_of_beq_eq_true hb) (Nat.le_of_ble_eq_true hq.1.1) (Nat.le_of_ble_eq_true hq.1.2) (Nat.le_of_ble_eq_true hq.2)
              exact ⟨_, _, ha, v, w', loc, by simpa [execOp, vr_int hl, vr_int hc2] using congrArg (fun r => Result.andThen r fun v w' => Result.ok (Next.value v) w') g1, g2⟩
      | _ => cases ha
  | insert t m y z =>
    have hm := hρ m (by simp [Op.operands])
    have hy := hρ y (by simp [Op.operands])
    have hz := hρ z (by simp [Op.operands])
    have ha : ((match eDesc P t with
      | some (.map kt _) => (match eDesc P kt with
        | some d => ⟨fun _ tm s => eSto (eUpdate d (eLeaves P kt) ((eEvC m).f tm) ((eEvC y).f tm) ((eEvC z).f tm) s)⟩
        | none => ⟨fun _ _ _ => .er⟩)
      | _ => ⟨fun _ _ _ => .er⟩ : ECl1)).f k tm s = .v x s' := ha
    cases hd : eDesc P t with
    | none => rw [hd] at ha; cases ha
    | some d =>
      rw [hd] at ha
      cases d with
      | map kt e =>
        simp only at ha
        cases hk : eDesc P kt with
        | none => rw [hk] at ha; cases ha
        | some d =>
          rw [hk] at ha
          obtain ⟨e1, rfl⟩ := eSto_inv ha
          obtain ⟨w', g1, g2, g3⟩ := eUpdate_run hd hk h hm hy hz e1
          exact ⟨β, undef, w', .inr ⟨by simp [execOp, g1], rfl⟩, .bot _, g2, g3⟩
      | _ => cases ha
  | mapUpdate t m y z =>
    have hm := hρ m (by simp [Op.operands])
    have hy := hρ y (by simp [Op.operands])
    have hz := hρ z (by simp [Op.operands])
    have ha : ((match eDesc P t with
      | some (.map kt _) => (match eDesc P kt with
        | some d => ⟨fun _ tm s => eSto (eUpdate d (eLeaves P kt) ((eEvC m).f tm) ((eEvC y).f tm) ((eEvC z).f tm) s)⟩
        | none => ⟨fun _ _ _ => .er⟩)
      | _ => ⟨fun _ _ _ => .er⟩ : ECl1)).f k tm s = .v x s' := ha
    cases hd : eDesc P t with
    | none => rw [hd] at ha; cases ha
    | some d =>
      rw [hd] at ha
      cases d with
      | map kt e =>
        simp only at ha
        cases hk : eDesc P kt with
        | none => rw [hk] at ha; cases ha
        | some d =>
          rw [hk] at ha
          obtain ⟨e1, rfl⟩ := eSto_inv ha
          obtain ⟨w', g1, g2, g3⟩ := eUpdate_run hd hk h hm hy hz e1
          exact ⟨β, undef, w', .inr ⟨by simp [execOp, g1], rfl⟩, .bot _, g2, g3⟩
      | _ => cases ha
  | lookup t y z ok =>
    have hy := hρ y (by simp [Op.operands])
    have hz := hρ z (by simp [Op.operands])
    have ha : ((match eDesc P t with
      | some (.map kt e) => (match eDesc P kt with
        | some d => eIfZ (eZero P e) ⟨fun _ tm s => eOptV (eLookup d (eLeaves P kt) (eZero P e) ok ((eEvC y).f tm) ((eEvC z).f tm) s) s⟩
        | none => ⟨fun _ _ _ => .er⟩)
      | _ => ⟨fun _ _ _ => .er⟩ : ECl1)).f k tm s = .v x s' := ha
    cases hd : eDesc P t with
    | none => rw [hd] at ha; cases ha
    | some d =>
      rw [hd] at ha
      cases d with
      | map kt e =>
        simp only at ha
        cases hk : eDesc P kt with
        | none => rw [hk] at ha; cases ha
        | some d =>
          rw [hk] at ha
          obtain ⟨hzb, ha⟩ := eIfZ_inv ha
          obtain ⟨e1, rfl⟩ := eOptV_inv ha
          obtain ⟨c, g1, g2⟩ := eLookup_run hd hk hzb h hy hz e1
          exact ⟨rfl, c, by simp [execOp, g1], g2⟩
      | _ => cases ha
  | indexAddr t y i =>
    have hy := hρ y (by simp [Op.operands])
    have hi := hρ i (by simp [Op.operands])
    have ha : ((match eDesc P t with
      | some (.array n e) => (match eInfo P e with
        | some j => ⟨fun _ tm s => eOptV (eIdxA j.size (some n) ((eEvC i).f tm) ((eEvC y).f tm)) s⟩
        | none => ⟨fun _ _ _ => .er⟩)
      | some (.slice e) => (match eInfo P e with
        | some j => ⟨fun _ tm s => eOptV (eIdxA j.size none ((eEvC i).f tm) ((eEvC y).f tm)) s⟩
        | none => ⟨fun _ _ _ => .er⟩)
      | _ => ⟨fun _ _ _ => .er⟩ : ECl1)).f k tm s = .v x s' := ha
    cases hd : eDesc P t with
    | none => rw [hd] at ha; cases ha
    | some d =>
      rw [hd] at ha
      cases d with
      | array n e =>
        simp only at ha
        cases hj : eInfo P e with
        | none => rw [hj] at ha; cases ha
        | some j =>
          rw [hj] at ha
          obtain ⟨e1, rfl⟩ := eOptV_inv ha
          obtain ⟨c, g1, g2⟩ := eIdxA_run hj (.inl ⟨n, hd, rfl⟩) e1 hi hy w
          exact ⟨rfl, c, by simp [execOp, g1], g2⟩
      | slice e =>
        simp only at ha
        cases hj : eInfo P e with
        | none => rw [hj] at ha; cases ha
        | some j =>
          rw [hj] at ha
          obtain ⟨e1, rfl⟩ := eOptV_inv ha
          obtain ⟨c, g1, g2⟩ := eIdxA_run hj (.inr ⟨hd, rfl⟩) e1 hi hy w
          exact ⟨rfl, c, by simp [execOp, g1], g2⟩
      | _ => cases ha
  | index t y i =>
    have hy := hρ y (by simp [Op.operands])
    have hi := hρ i (by simp [Op.operands])
    have ha : ((match eDesc P t with
      | some (.array n e) => (match eInfo P e with
        | some j => ⟨fun _ tm s => eOptV (eIdx (eAgg P e) j.size (some n) ((eEvC i).f tm) ((eEvC y).f tm)) s⟩
        | none => ⟨fun _ _ _ => .er⟩)
      | some .string => ⟨fun _ tm s => eOptV (eIdx .no 0 none ((eEvC i).f tm) ((eEvC y).f tm)) s⟩
      | _ => ⟨fun _ _ _ => .er⟩ : ECl1)).f k tm s = .v x s' := ha
    cases hd : eDesc P t with
    | none => rw [hd] at ha; cases ha
    | some d =>
      rw [hd] at ha
      cases d with
      | array n e =>
        simp only at ha
        cases hj : eInfo P e with
        | none => rw [hj] at ha; cases ha
        | some j =>
          rw [hj] at ha
          obtain ⟨e1, rfl⟩ := eOptV_inv ha
          obtain ⟨c, g1, g2⟩ := eIdx_arr hj hd e1 hi hy w
          exact ⟨rfl, c, by simp [execOp, g1], g2⟩
      | string =>
        simp only at ha
        obtain ⟨e1, rfl⟩ := eOptV_inv ha
        obtain ⟨c, g1, g2⟩ := eIdx_str hd e1 hi hy w
        exact ⟨rfl, c, by simp [execOp, g1], g2⟩
      | _ => cases ha
  | range t y =>
    have hy := hρ y (by simp [Op.operands])
    obtain ⟨β', c, w', g1, g2, g3, g4⟩ := eRange_run h hy (show eRange (eDesc P t) ((eEvC y).f tm) s = .v x s' from ha)
    exact ⟨β', c, w', .inl (by simp [execOp, g1]), g2, g3, g4⟩
  | next y b =>
    have hy := hρ y (by simp [Op.operands])
    obtain ⟨c, w', g1, g2, g3, g4⟩ := eNext_run (P := P) (ty := type) h hy (show eNext b ((eEvC y).f tm) s = .v x s' from ha)
    exact ⟨β, c, w', .inl (by simp [execOp, g1]), g2, g3, g4⟩
  | entry y =>
    have hy := hρ y (by simp [Op.operands])
    obtain ⟨rfl, c, g1, g2⟩ := eEntry_run (P := P) h hy (show eEntry ((eEvC y).f tm) s = .v x s' from ha)
    exact ⟨β, c, w, .inl (by simp [execOp, g1]), g2, h, Ext.refl _ _⟩
  | typeAssert y xt t ok =>
    have hy := hρ y (by simp [Op.operands])
    have ha : ((match eDesc P t with
      | some (.interface _) => eIfZ (eZero P t) ⟨fun _ tm s => eOptV (eAssert P true t ok ((eEvC y).f tm)) s⟩
      | some _ => eIfZ (eZero P t) ⟨fun _ tm s => eOptV (eAssert P false t ok ((eEvC y).f tm)) s⟩
      | none => ⟨fun _ _ _ => .er⟩ : ECl1)).f k tm s = .v x s' := ha
    cases hd : eDesc P t with
    | none => rw [hd] at ha; cases ha
    | some d =>
      rw [hd] at ha
      have key : ∃ b, (b = true ↔ ∃ ms, d = .interface ms) ∧ (eIfZ (eZero P t) ⟨fun _ tm s => eOptV (eAssert P b t ok ((eEvC y).f tm)) s⟩).f k tm s = .v x s' := by
        cases d <;> first | exact ⟨true, by simp, ha⟩ | exact ⟨false, by simp, ha⟩
      obtain ⟨b, hb, ha⟩ := key
      obtain ⟨hzb, ha⟩ := eIfZ_inv ha
      obtain ⟨e1, rfl⟩ := eOptV_inv ha
      obtain ⟨c, g1, g2⟩ := eAssert_run (xt := xt) hd hzb hy hb e1 w
      exact ⟨rfl, c, by simp [execOp, g1], g2⟩
  | call c =>
    obtain ⟨b, hb⟩ := hc c rfl
    obtain ⟨callee, args, types⟩ := c
    simp only at hb
    subst hb
    have hexec : execOp ρ ⟨dst, .call ⟨.builtin b, args, types⟩, type, pos, after, guard⟩ = builtin b types type (args.map fun | .const _ => true | _ => false) (args.map ρ) := rfl
    have ha : (eBuiltin P b args.toList types.toList).f k tm s = .v x s' := ha
    have hargs : ∀ y ∈ args.toList, VR β ((eEvC y).f tm) (ρ y) := fun y hy => hρ y (by simp [Op.operands, Call.operands]; simpa using hy)
    have arr : ∀ {α : Type} {a : Array α} {l : List α}, a.toList = l → a = l.toArray := fun h => by rw [← h]
    cases b with
    | append =>
      unfold eBuiltin at ha
      simp only at ha
      cases ht : types.toList with
      | nil => rw [ht] at ha; cases ha
      | cons t ts =>
        rw [ht] at ha
        cases ts with
        | nil => cases ha
        | cons u us =>
          cases us with
          | cons _ _ => cases ha
          | nil =>
            simp only at ha
            cases hq : args.toList with
            | nil => rw [hq] at ha; cases ha
            | cons y ys =>
              rw [hq] at ha
              cases ys with
              | nil => cases ha
              | cons z zs =>
                cases zs with
                | cons _ _ => cases ha
                | nil =>
                  simp only at ha
                  cases hd : eDesc P t with
                  | none => rw [hd] at ha; cases ha
                  | some d =>
                    rw [hd] at ha
                    cases d with
                    | slice e =>
                      simp only at ha
                      cases hi : eInfo P e with
                      | none => rw [hi] at ha; cases ha
                      | some i =>
                        rw [hi] at ha
                        simp only at ha
                        have hz : eZero P e ≠ .bot := fun e => by rw [e] at ha; cases ha
                        have ha : ((match Nat.ble i.bytes 1000000 && Nat.beq (eZero P e).cells.length i.size && (match eDesc P u with | some (.slice _) => true | some .string => true | _ => false) with
                          | true => ⟨fun _ tm s => eAppend i.size ((eEvC y).f tm) ((eEvC z).f tm) s⟩
                          | false => ⟨fun _ _ _ => .er⟩ : ECl1)).f k tm s = .v x s' := by
                          cases hq : eZero P e <;> rw [hq] at ha hz <;> first | exact absurd rfl hz | exact ha
                        cases hb : Nat.ble i.bytes 1000000 && Nat.beq (eZero P e).cells.length i.size && (match eDesc P u with | some (.slice _) => true | some .string => true | _ => false) with
                        | false => rw [hb] at ha; cases ha
                        | true =>
                          rw [hb] at ha
                          rw [Bool.and_eq_true, Bool.and_eq_true] at hb
                          have hu : (∃ e, eDesc P u = some (.slice e)) ∨ eDesc P u = some .string := by
                            have := hb.2
                            cases hq : eDesc P u with
                            | none => rw [hq] at this; cases this
                            | some d => rw [hq] at this; cases d <;> first | exact .inl ⟨_, rfl⟩ | exact .inr rfl | cases this
                          rw [hq] at hargs
                          obtain ⟨β', c, w', g1, g2, g3, g4⟩ := eAppend_run (ty := type) hd hi hu (Nat.le_of_ble_eq_true hb.1.1) rfl hz (Nat.eq_of_beq_eq_true hb.1.2) h (hargs y (by simp)) (hargs z (by simp)) ha
                          refine ⟨β', c, w', .inl ?_, g2, g3, g4⟩
                          rw [hexec, arr ht, arr hq]
                          simp [builtin, g1]
                    | _ => cases ha
    | copy =>
      unfold eBuiltin at ha
      simp only at ha
      cases ht : types.toList with
      | nil => rw [ht] at ha; cases ha
      | cons t ts =>
        rw [ht] at ha
        simp only at ha
        cases hq : args.toList with
        | nil => rw [hq] at ha; cases ha
        | cons y ys =>
          rw [hq] at ha
          cases ys with
          | nil => cases ha
          | cons z zs =>
            cases zs with
            | cons _ _ => cases ha
            | nil =>
              simp only at ha
              cases hd : eDesc P t with
              | none => rw [hd] at ha; cases ha
              | some d =>
                rw [hd] at ha
                cases d with
                | slice e =>
                  simp only at ha
                  cases hi : eInfo P e with
                  | none => rw [hi] at ha; cases ha
                  | some i =>
                    rw [hi] at ha
                    rw [hq] at hargs
                    obtain ⟨c, w', g1, g2, g3, g4⟩ := eCopy_run (ty := type) (u := 0) hd hi h (hargs y (by simp)) (hargs z (by simp)) ha ts
                    refine ⟨β, c, w', .inl ?_, g2, g3, g4⟩
                    rw [hexec, arr ht, arr hq]
                    simp only [List.map_toArray, List.map_cons, List.map_nil]
                    simp [builtin, g1]
                | _ => cases ha
    | delete =>
      unfold eBuiltin at ha
      simp only at ha
      cases ht : types.toList with
      | nil => rw [ht] at ha; cases ha
      | cons t ts =>
        rw [ht] at ha
        simp only at ha
        cases hq : args.toList with
        | nil => rw [hq] at ha; cases ha
        | cons y ys =>
          rw [hq] at ha
          cases ys with
          | nil => cases ha
          | cons z zs =>
            cases zs with
            | cons _ _ => cases ha
            | nil =>
              simp only at ha
              cases hd : eDesc P t with
              | none => rw [hd] at ha; cases ha
              | some d =>
                rw [hd] at ha
                cases d with
                | map kt e =>
                  simp only at ha
                  cases hkd : eDesc P kt with
                  | none => rw [hkd] at ha; cases ha
                  | some dk =>
                    rw [hkd] at ha
                    rw [hq] at hargs
                    obtain ⟨w', g1, g2, g3, g4⟩ := eDelete_run (ty := type) hd hkd h (hargs y (by simp)) (hargs z (by simp)) ha ts
                    refine ⟨β, _, w', .inl ?_, g2, g3, g4⟩
                    rw [hexec, arr ht, arr hq]
                    simp only [List.map_toArray, List.map_cons, List.map_nil]
                    simp [builtin, g1]
                | _ => cases ha
    | len =>
      unfold eBuiltin at ha
      simp only at ha
      cases ht : types.toList with
      | nil => rw [ht] at ha; cases ha
      | cons t ts =>
        rw [ht] at ha
        simp only at ha
        cases hq : args.toList with
        | nil => rw [hq] at ha; cases ha
        | cons y ys =>
          rw [hq] at ha
          obtain ⟨e1, rfl⟩ := eOptV_inv ha
          rw [hq] at hargs
          obtain ⟨c, g1, g2⟩ := eLen_run (ty := type) h (hargs y (by simp)) e1 types (args.map ρ) (by rw [arr ht]; rfl) (by rw [arr hq]; simp)
          refine ⟨rfl, c, ?_, g2⟩
          rw [hexec]
          simp [builtin, g1]
    | min =>
      unfold eBuiltin at ha
      simp only at ha
      cases hq : args.toList with
      | nil => rw [hq] at ha; cases ha
      | cons y ys =>
        rw [hq] at ha
        cases ys with
        | nil => cases ha
        | cons z zs =>
          cases zs with
          | cons _ _ => cases ha
          | nil =>
            simp only at ha
            rw [hq] at hargs
            have hy := hargs y (by simp)
            have hz := hargs z (by simp)
            generalize (eEvC y).f tm = ey at hy ha
            generalize (eEvC z).f tm = ez at hz ha
            cases ey <;> first | (cases ha; done) | skip
            cases ez <;> first | (cases ha; done) | skip
            rename_i k1 a k2 b
            injection ha with e1 e2
            subst e1 e2
            refine ⟨rfl, .int k1 (if b < a then b else a), ?_, ?_⟩
            · rw [hexec, arr hq]
              simp [builtin, Builtin.min_, vr_int hy, vr_int hz, Builtin.min2]
            · rw [eIntLt_eq]
              by_cases hlt : b < a
              · simp [hlt]; exact .int _ _
              · simp [hlt]; exact .int _ _
    | max =>
      unfold eBuiltin at ha
      simp only at ha
      cases hq : args.toList with
      | nil => rw [hq] at ha; cases ha
      | cons y ys =>
        rw [hq] at ha
        cases ys with
        | nil => cases ha
        | cons z zs =>
          cases zs with
          | cons _ _ => cases ha
          | nil =>
            simp only at ha
            rw [hq] at hargs
            have hy := hargs y (by simp)
            have hz := hargs z (by simp)
            generalize (eEvC y).f tm = ey at hy ha
            generalize (eEvC z).f tm = ez at hz ha
            cases ey <;> first | (cases ha; done) | skip
            cases ez <;> first | (cases ha; done) | skip
            rename_i k1 a k2 b
            injection ha with e1 e2
            subst e1 e2
            refine ⟨rfl, .int k1 (if a < b then b else a), ?_, ?_⟩
            · rw [hexec, arr hq]
              simp [builtin, Builtin.max_, vr_int hy, vr_int hz, Builtin.max2]
            · rw [eIntLt_eq]
              by_cases hlt : a < b
              · simp [hlt]; exact .int _ _
              · simp [hlt]; exact .int _ _
    | _ => cases ha
  | _ => cases ha
end
end Go.Proofs.YtjckpgcmfieaoaaGreatDoor
