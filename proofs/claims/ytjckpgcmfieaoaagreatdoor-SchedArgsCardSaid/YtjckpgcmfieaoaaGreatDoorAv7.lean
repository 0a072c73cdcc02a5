/-
  The evaluator's ==, and binary operations whole.
-/
import Derived.Test.YtjckpgcmfieaoaaGreatDoorAn3
import Derived.Laws.StructEq
set_option linter.unusedVariables false
set_option linter.unusedSimpArgs false
namespace Go.Proofs.YtjckpgcmfieaoaaGreatDoor
open Go.RowKit

section
variable {P : Program} {β : EMp}
theorem eEqS_iff {x y : EV} {a b : Value} {r : Bool} (h : eEqS x y = some r) (hx : VR β x a) (hy : VR β y b) : r = true ↔ a = b := by
  have num : ∀ {k1 k2 : IntKind} {n1 n2 : Int}, a = .int k1 n1 → b = .int k2 n2 → (r = true ↔ a = b) := fun e1 e2 => by
    subst e1 e2
    obtain ⟨rfl, h2⟩ := eEqS_int h hx hy
    rw [h2]
    exact ⟨fun e => by rw [e], fun e => by injection e⟩
  have txt : ∀ {s1 s2 : ByteArray}, a = .string s1 → b = .string s2 → (r = true ↔ a = b) := fun e1 e2 => by
    subst e1 e2
    rw [eEqS_str h hx hy]
    exact ⟨fun e => by rw [e], fun e => by injection e⟩
  cases hx with
  | int k n =>
    cases hy with
    | int k' n' => exact num rfl rfl
    | sint _ _ => exact num rfl rfl
    | _ => cases h
  | sint _ _ =>
    cases hy with
    | int k' n' => exact num rfl rfl
    | sint _ _ => exact num rfl rfl
    | _ => cases h
  | str hs =>
    cases hy with
    | str ht => exact txt rfl rfl
    | sstr _ => exact txt rfl rfl
    | _ => cases h
  | sstr hs =>
    cases hy with
    | str ht => exact txt rfl rfl
    | sstr _ => exact txt rfl rfl
    | _ => cases h
  | bool b =>
    cases hy with
    | bool c =>
      obtain rfl := Option.some.inj h
      cases b <;> cases c <;> simp
    | _ => cases h
  | pnil =>
    cases hy with
    | pnil => obtain rfl := Option.some.inj h; simp
    | ptr _ => obtain rfl := Option.some.inj h; simp
    | _ => cases h
  | ptr _ =>
    cases hy with
    | pnil => obtain rfl := Option.some.inj h; simp
    | _ => cases h
  | _ => cases h
theorem eEqL_cons (x y : EV) (xs ys : List EV) : eEqL (x :: xs) (y :: ys) = match eEqS x y with
        | some true => eEqL xs ys
        | some false => some false
        | none => (match eEqL xs ys with
          | some false => some false
          | _ => none) := rfl
theorem eEqL_iff : ∀ {xs ys : List EV} {as bs : List Value} {r : Bool}, eEqL xs ys = some r → VRs β xs as → VRs β ys bs → (r = true ↔ as = bs)
  | [], [], _, _, _, h, .nil, .nil => by obtain rfl := Option.some.inj (show some true = some _ from h); simp
  | [], _ :: _, _, _, _, h, _, _ => by cases h
  | _ :: _, [], _, _, _, h, _, _ => by cases h
  | x :: xs, y :: ys, _, _, r, h, .cons ha ta, .cons hb tb => by
    rw [eEqL_cons] at h
    split at h
    · rename_i hs
      have h1 := eEqS_iff hs ha hb
      have h2 := eEqL_iff h ta tb
      rw [h1.1 rfl]
      simp [h2]
    · rename_i hs
      have h1 := eEqS_iff hs ha hb
      obtain rfl := Option.some.inj h
      have : ¬ (_ = _) := fun e => by have := h1.2 e; cases this
      simp [this]
    · split at h
      · rename_i hl
        have h2 := eEqL_iff hl ta tb
        obtain rfl := Option.some.inj h
        have : ¬ (_ = _) := fun e => by have := h2.2 e; cases this
        simp [this]
      · cases h
theorem eLeaves_eq {t : TypeId} {l : List Leaf} (h : eLeaves P t = some l) : eqB P 20 t = true ∧ flatF P 20 t = some l ∧ aggB P t = true := by
  unfold eLeaves at h
  cases hb : eqB P 20 t && aggB P t with
  | false => rw [hb] at h; cases h
  | true =>
    rw [hb] at h
    rw [Bool.and_eq_true] at hb
    exact ⟨hb.1, h, hb.2⟩
theorem eEq_none {d : TypeDesc} {fl : Option (List Leaf)} {x y : EV} {r : Bool} (h : eEq d fl x y = some r) (hx : ∀ xs, x ≠ .agg xs) (hd : ∀ k, d ≠ .int k) (h1 : d ≠ .bool) (h2 : d ≠ .string) (h3 : ∀ e, d ≠ .pointer e) (h4 : ∀ e, d ≠ .slice e) (h5 : ∀ k e, d ≠ .map k e) (h6 : ∀ a b c, d ≠ .func a b c) (h7 : ∀ m, d ≠ .interface m) : False := by
  cases d <;> (first | exact hd _ rfl | exact h1 rfl | exact h2 rfl | exact h3 _ rfl | exact h4 _ rfl | exact h5 _ _ rfl | exact h6 _ _ _ rfl | exact h7 _ rfl | (cases fl with
    | none => cases h
    | some l => cases x <;> first | exact hx _ rfl | cases h))
theorem eEq_agg {d : TypeDesc} {fl : Option (List Leaf)} {x y : EV} {xs : List EV} {r : Bool} (h : eEq d fl x y = some r) (hx : x = .agg xs) : ∃ l ys, fl = some l ∧ y = .agg ys ∧ eFits l xs = true ∧ eFits l ys = true ∧ eEqL xs ys = some r := by
  subst hx
  revert h
  have key : ∀ (h : (match fl with
      | some fl => (match y with
        | .agg ys => (match eFits fl xs && eFits fl ys with
          | true => eEqL xs ys
          | false => none)
        | _ => none)
      | none => none) = some r), ∃ l ys, fl = some l ∧ y = .agg ys ∧ eFits l xs = true ∧ eFits l ys = true ∧ eEqL xs ys = some r := by
    intro h
    cases fl with
    | none => cases h
    | some l =>
      cases y with
      | agg ys =>
        simp only at h
        cases hb : eFits l xs && eFits l ys with
        | false => rw [hb] at h; cases h
        | true =>
          rw [hb] at h
          rw [Bool.and_eq_true] at hb
          exact ⟨l, ys, rfl, rfl, hb.1, hb.2, h⟩
      | _ => cases h
  intro h
  cases d <;> first | (cases h; done) | exact key h
theorem eEq_bot {d : TypeDesc} {fl : Option (List Leaf)} {y : EV} {r : Bool} (h : eEq d fl .bot y = some r) : False := by
  cases d <;> first | (cases h; done) | (cases fl <;> cases h)
theorem eEq_bot2 {d : TypeDesc} {fl : Option (List Leaf)} {r : Bool} (h : eEq d fl .nilI .bot = some r) : False := by
  cases d <;> first | (cases h; done) | (cases fl <;> cases h)
theorem eEq_nil2 {d : TypeDesc} {fl : Option (List Leaf)} {r : Bool} (h : eEq d fl .nilI .nilI = some r) : False := by
  cases d <;> first | (cases h; done) | (cases fl <;> cases h)
/-- Equality by a type. -/
theorem eEq_run {t : TypeId} {d : TypeDesc} {x y : EV} {a b : Value} {r : Bool} (hd : eDesc P t = some d) (h : eEq d (eLeaves P t) x y = some r) (hx : VR β x a) (hy : VR β y b) (n : Nat) (hn : 20 ≤ n) (w : World) :
    (Op.equalIn n t a b).run P w = .ok r w := by
  obtain ⟨n, rfl⟩ : ∃ m, n = m + 1 := ⟨n - 1, by omega⟩
  have hu := eDesc_eq hd
  have agg : (∃ xs, x = .agg xs) → (Op.equalIn (n + 1) t a b).run P w = .ok r w := by
    rintro ⟨xs, rfl⟩
    obtain ⟨l, ys, h1, rfl, h2, h3, h4⟩ := eEq_agg h rfl
    cases hx with
    | agg hx =>
      cases hy with
      | agg hy =>
        rename_i A B
        obtain ⟨g1, g2, g3⟩ := eLeaves_eq h1
        have := equal_flat 20 (n + 1) t l A.toList B.toList hn g1 g2 (eFits_run hx h2) (eFits_run hy h3) r (eEqL_iff h4 hx hy) w
        unfold mkV at this
        rw [g3] at this
        simpa using this
  have num : ∀ {k : IntKind} {k1 k2 : IntKind} {n1 n2 : Int}, d = .int k → a = .int k1 n1 → b = .int k2 n2 → eEqS x y = some r → (Op.equalIn (n + 1) t a b).run P w = .ok r w := fun e0 e1 e2 hq => by
    subst e0 e1 e2
    obtain ⟨rfl, hi⟩ := eEqS_int hq hx hy
    rw [run_equalIn_int w n t _ _ _ _ hu]
    congr 1
    rw [Bool.eq_iff_iff, hi]
    simp
  have txt : ∀ {s1 s2 : ByteArray}, d = .string → a = .string s1 → b = .string s2 → eEqS x y = some r → (Op.equalIn (n + 1) t a b).run P w = .ok r w := fun e0 e1 e2 hq => by
    subst e0 e1 e2
    have hi := eEqS_str hq hx hy
    rw [run_equalIn_string w n t _ _ hu, strEq]
    congr 1
    rw [Bool.eq_iff_iff, eNatsEq_eq, hi]
    exact ⟨bytes_inj, fun e => by rw [e]⟩
  cases d with
  | int k =>
    cases hx with
    | int k1 n1 =>
      cases hy with
      | int k2 n2 => exact num rfl rfl rfl h
      | sint _ _ => exact num rfl rfl rfl h
      | _ => cases h
    | sint _ _ =>
      cases hy with
      | int k2 n2 => exact num rfl rfl rfl h
      | sint _ _ => exact num rfl rfl rfl h
      | _ => cases h
    | _ => cases h
  | bool =>
    cases hx with
    | bool b1 =>
      cases hy with
      | bool b2 =>
        have hi := eEqS_iff (β := β) (x := .bool b1) (y := .bool b2) h (.bool b1) (.bool b2)
        rw [run_equalIn_bool' w n t b1 b2 hu]
        congr 1
        rw [Bool.eq_iff_iff, hi]
        simp
      | _ => cases h
    | _ => cases h
  | string =>
    cases hx with
    | str h1 =>
      cases hy with
      | str h2 => exact txt rfl rfl rfl h
      | sstr _ => exact txt rfl rfl rfl h
      | _ => cases h
    | sstr h1 =>
      cases hy with
      | str h2 => exact txt rfl rfl rfl h
      | sstr _ => exact txt rfl rfl rfl h
      | _ => cases h
    | _ => cases h
  | pointer e =>
    cases hx with
    | pnil =>
      cases hy with
      | pnil => obtain rfl := Option.some.inj h; simp [Op.equalIn, run_underlying hu]
      | ptr _ => obtain rfl := Option.some.inj h; simp [Op.equalIn, run_underlying hu]
      | _ => cases h
    | ptr _ =>
      cases hy with
      | pnil => obtain rfl := Option.some.inj h; simp [Op.equalIn, run_underlying hu]
      | _ => cases h
    | _ => cases h
  | slice e =>
    cases hx with
    | snil =>
      cases hy with
      | snil => obtain rfl := Option.some.inj h; simp [Op.equalIn, run_underlying hu]
      | sl _ _ _ => obtain rfl := Option.some.inj h; simp [Op.equalIn, run_underlying hu]
      | sle _ => obtain rfl := Option.some.inj h; simp [Op.equalIn, run_underlying hu]
      | _ => cases h
    | sl _ _ _ =>
      cases hy with
      | snil => obtain rfl := Option.some.inj h; simp [Op.equalIn, run_underlying hu]
      | _ => cases h
    | sle _ =>
      cases hy with
      | snil => obtain rfl := Option.some.inj h; simp [Op.equalIn, run_underlying hu]
      | _ => cases h
    | _ => cases h
  | map k e =>
    cases hx with
    | mnil =>
      cases hy with
      | mnil => obtain rfl := Option.some.inj h; simp [Op.equalIn, run_underlying hu]
      | map _ => obtain rfl := Option.some.inj h; simp [Op.equalIn, run_underlying hu]
      | _ => cases h
    | map _ =>
      cases hy with
      | mnil => obtain rfl := Option.some.inj h; simp [Op.equalIn, run_underlying hu]
      | _ => cases h
    | _ => cases h
  | func a b c =>
    cases hx with
    | nilF =>
      cases hy with
      | nilF => obtain rfl := Option.some.inj h; simp [Op.equalIn, run_underlying hu]
      | fn _ _ => obtain rfl := Option.some.inj h; simp [Op.equalIn, run_underlying hu]
      | _ => cases h
    | fn _ _ =>
      cases hy with
      | nilF => obtain rfl := Option.some.inj h; simp [Op.equalIn, run_underlying hu]
      | _ => cases h
    | _ => cases h
  | interface ms =>
    cases hx with
    | nilI =>
      cases hy with
      | ifc _ => obtain rfl := Option.some.inj h; simp [Op.equalIn, run_underlying hu]
      | _ => cases h
    | ifc _ =>
      cases hy with
      | nilI => obtain rfl := Option.some.inj h; simp [Op.equalIn, run_underlying hu]
      | _ => cases h
    | _ => cases h
  | _ =>
    refine agg (Classical.byContradiction fun hn => eEq_none h (fun xs e => hn ⟨xs, e⟩) ?_ ?_ ?_ ?_ ?_ ?_ ?_ ?_) <;> intros <;> intro e <;> cases e
theorem depth_le : 20 ≤ P.depth := by unfold Program.depth Made.depth; omega
/-- A binary operation. -/
theorem eBin_run {op : BinOp} {t : TypeId} {x y z : EV} {a b : Value} (h : eBin op (eDesc P t) (eLeaves P t) x y = some z) (hx : VR β x a) (hy : VR β y b) (X Y : Operand) (w : World) :
    ∃ c, (do eqGuard op t X Y a b; binOp op t a b : Sem Value).run P w = .ok c w ∧ VR β z c := by
  have eql : ∀ d r, eDesc P t = some d → eEq d (eLeaves P t) x y = some r → (∀ s, a ≠ .string s) → (∀ k n, a ≠ .int k n) → (do eqGuard .eql t X Y a b; binOp .eql t a b : Sem Value).run P w = .ok (.bool r) w ∧ (do eqGuard .neq t X Y a b; binOp .neq t a b : Sem Value).run P w = .ok (.bool (!r)) w := by
    intro d r hd he h1 h2
    have hq : (Op.equal t a b).run P w = .ok r w := eEq_run hd he hx hy 10000 (by omega) w
    have hg : ∀ op, (eqGuard op t X Y a b).run P w = .ok () w := by
      intro op
      by_cases hag : ∃ u v, a = .agg u ∧ b = .agg v
      · obtain ⟨u, v, rfl, rfl⟩ := hag
        refine run_eqGuard_agg w op t X Y u v (eqB_guard 20 P.depth t depth_le ?_)
        cases hx with
        | bot _ => exact (eEq_bot he).elim
        | agg hxx => obtain ⟨l, ys, e1, -⟩ := eEq_agg he rfl; exact (eLeaves_eq e1).1
      · refine guard_free (fun u v e => hag ⟨u, v, e⟩) fun e => ?_
        obtain ⟨rfl, rfl⟩ := e
        cases hx with
        | bot _ => exact (eEq_bot he).elim
        | nilI =>
          cases hy with
          | bot _ => exact (eEq_bot2 he).elim
          | nilI => exact (eEq_nil2 he).elim
    have hb : ∀ c : Bool, (binOp (if c then .neq else .eql) t a b) = (if c then do pure (.bool (!(← Op.equal t a b))) else do pure (.bool (← Op.equal t a b))) := by
      intro c
      have nf : (∀ k f, a ≠ .float k f) ∧ (∀ k f g, a ≠ .complex k f g) := by
        constructor <;> intros <;> intro e <;> subst e <;> cases hx <;> exact (eEq_bot he).elim
      cases c <;> cases a <;> first | exact absurd rfl (h1 _) | exact absurd rfl (h2 _ _) | exact absurd rfl (nf.1 _ _) | exact absurd rfl (nf.2 _ _ _) | (cases b <;> rfl)
    have b0 := hb false
    have b1 := hb true
    simp only [Bool.false_eq_true, if_false, if_true] at b0 b1
    exact ⟨by simp [hg, b0, hq], by simp [hg, b1, hq]⟩
  have sym : ∀ {k k' : IntKind} {e f : SX} {n n' : Int}, SN (symOf β) e n → SN (symOf β) f n' → eBinX op k k' e f = some z → a = .int k n → b = .int k' n' → ∃ c, (do eqGuard op t X Y a b; binOp op t a b : Sem Value).run P w = .ok c w ∧ VR β z c := by
    intro k k' e f n n' h1 h2 h3 e1 e2
    subst e1 e2
    obtain ⟨c, g1, g2⟩ := eBinX_run (P := P) h3 h1 h2 t w
    have hg : (eqGuard op t X Y (.int k n) (.int k' n')).run P w = .ok () w := guard_free (fun _ _ e => by cases e.1) (fun e => by cases e.1)
    exact ⟨c, by simp [hg, g1], g2⟩
  have txt : ∀ {e f : SX} {s s' : ByteArray}, SB (symOf β) e (s.data.toList.map (·.toNat)) → SB (symOf β) f (s'.data.toList.map (·.toNat)) → eBinL op e f = some z → a = .string s → b = .string s' → ∃ c, (do eqGuard op t X Y a b; binOp op t a b : Sem Value).run P w = .ok c w ∧ VR β z c := by
    intro e f s s' h1 h2 h3 e1 e2
    subst e1 e2
    obtain ⟨c, g1, g2⟩ := eBinL_run (P := P) h3 h1 h2 t w
    have hg : (eqGuard op t X Y (.string s) (.string s')).run P w = .ok () w := guard_free (fun _ _ e => by cases e.1) (fun e => by cases e.1)
    exact ⟨c, by simp [hg, g1], g2⟩
  unfold eBin at h
  cases hx with
  | int k n =>
    cases hy with
    | int k' n' =>
      simp only at h
      have hg : ∀ op, (eqGuard op t X Y (.int k n) (.int k' n')).run P w = .ok () w := fun op => guard_free (fun _ _ e => by cases e.1) fun e => by cases e.1
      by_cases hs : op = .shl
      · subst hs
        obtain ⟨c, g1, g2⟩ := eShift_run (P := P) (β := β) (k' := k') h t w
        exact ⟨c, by simp [hg, g1], g2⟩
      · by_cases hr : op = .shr
        · subst hr
          obtain ⟨c, g1, g2⟩ := eShift_run (P := P) (β := β) (k' := k') h t w
          exact ⟨c, by simp [hg, g1], g2⟩
        · have h2 : (match k == k' with | true => eBin2 op k n n' | false => none) = some z := by
            cases op <;> first | exact absurd rfl hs | exact absurd rfl hr | exact h
          clear h
          cases hk : k == k' with
          | false => rw [hk] at h2; cases h2
          | true =>
            rw [hk] at h2
            rw [beq_iff_eq] at hk
            subst hk
            obtain ⟨c, g1, g2⟩ := eBin2_run (P := P) (β := β) h2 hs hr t w
            exact ⟨c, by simp [hg, g1], g2⟩
    | sint hb _ => exact sym (.cst _) hb h rfl rfl
    | _ => cases h
  | sint ha _ =>
    cases hy with
    | int k' n' => exact sym ha (.cst _) h rfl rfl
    | sint hb _ => exact sym ha hb h rfl rfl
    | _ => cases h
  | sstr ha =>
    cases hy with
    | str hb => subst hb; exact txt ha (sOf_bytes _) h rfl rfl
    | sstr hb => exact txt ha hb h rfl rfl
    | _ => cases h
  | str h1 =>
    cases hy with
    | str h2 =>
      simp only at h
      rename_i l s l' s'
      have hg : ∀ op, (eqGuard op t X Y (.string s) (.string s')).run P w = .ok () w := fun op => guard_free (fun _ _ e => by cases e.1) fun e => by cases e.1
      have e1 : s.size = l.length := by rw [← h1]; simp
      have e2 : s'.size = l'.length := by rw [← h2]; simp
      cases op <;> (try (cases h; done))
      case add =>
        simp only at h
        cases hl : Nat.ble (l.length + l'.length) 1000000000 with
        | false => rw [hl] at h; cases h
        | true =>
          rw [hl] at h
          obtain rfl := Option.some.inj h
          have hl := Nat.le_of_ble_eq_true hl
          refine ⟨.string (s ++ s'), ?_, .str (by rw [← h1, ← h2]; simp)⟩
          have : ¬ (((s.size + s'.size : Nat) : Int) > IntKind.i64.max) := by
            have : IntKind.i64.max = 9223372036854775807 := rfl
            omega
          simp [hg, binOp, Op.stringOp, this]
          omega
      case eql =>
        obtain rfl := Option.some.inj h
        refine ⟨.bool (s.toList == s'.toList), by simp [hg, binOp, Op.stringOp], ?_⟩
        rw [strEq, h1, h2]
        exact .bool _
      case neq =>
        obtain rfl := Option.some.inj h
        refine ⟨.bool (!(s.toList == s'.toList)), by simp [hg, binOp, Op.stringOp], ?_⟩
        rw [strEq, h1, h2]
        exact .bool _
    | sstr hb => subst h1; exact txt (sOf_bytes _) hb h rfl rfl
    | _ => cases h
  | _ =>
    simp only at h
    cases hd : eDesc P t with
    | none => rw [hd] at h; cases h
    | some d =>
      rw [hd] at h
      simp only at h
      cases op <;> (try (cases h; done))
      case eql =>
        simp only at h
        split at h
        · rename_i r he
          obtain rfl := Option.some.inj h
          obtain ⟨g1, -⟩ := eql d r hd he (fun _ e => by first | exact (eEq_bot he).elim | cases e) (fun _ _ e => by first | exact (eEq_bot he).elim | cases e)
          exact ⟨_, g1, .bool _⟩
        · cases h
      case neq =>
        simp only at h
        split at h
        · rename_i r he
          obtain rfl := Option.some.inj h
          obtain ⟨-, g1⟩ := eql d r hd he (fun _ e => by first | exact (eEq_bot he).elim | cases e) (fun _ _ e => by first | exact (eEq_bot he).elim | cases e)
          exact ⟨_, g1, .bool _⟩
        · cases h
end
end Go.Proofs.YtjckpgcmfieaoaaGreatDoor
