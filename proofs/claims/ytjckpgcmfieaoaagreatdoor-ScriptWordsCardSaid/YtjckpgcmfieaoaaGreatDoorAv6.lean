/-
  The evaluator's numbers, texts, comparisons.
-/
import Derived.Test.YtjckpgcmfieaoaaGreatDoorAv5
import Derived.Laws.Small
import Derived.Laws.StructEq
namespace Go.Proofs.YtjckpgcmfieaoaaGreatDoor
open Go.RowKit

theorem eMod_eq (k : IntKind) : (eMod k : Int) = 2 ^ k.bits ∧ eMod k = 2 ^ k.bits ∧ 0 < eMod k := by cases k <;> exact ⟨rfl, rfl, by decide⟩
theorem eLow_eq (k : IntKind) (x : Int) : (eLow k x : Int) = x % 2 ^ k.bits := by
  rw [← (eMod_eq k).1]
  have hp := (eMod_eq k).2.2
  cases x with
  | ofNat n => exact (Int.natCast_emod n (eMod k))
  | negSucc n =>
    show ((eMod k - 1 - n % eMod k : Nat) : Int) = (Int.negSucc n) % (eMod k : Int)
    have hlt := Nat.mod_lt n hp
    rw [Int.negSucc_emod _ (by omega)]
    omega
theorem eLow_lt (k : IntKind) (x : Int) : eLow k x < eMod k := by
  have h := eLow_eq k x
  rw [← (eMod_eq k).1] at h
  have hp := (eMod_eq k).2.2
  have := Int.emod_lt_of_pos x (show (0 : Int) < eMod k by omega)
  omega
theorem eWrapN_eq (k : IntKind) (n : Nat) (h : n < eMod k) : eWrapN k n = k.wrap n := by
  unfold eWrapN
  have hm : (n : Int) % 2 ^ k.bits = n := by
    rw [← (eMod_eq k).1]
    exact Int.emod_eq_of_lt (by omega) (by omega)
  unfold IntKind.wrap
  rw [hm]
  cases hb : Nat.ble (eHalf k) n with
  | true =>
    have hb := Nat.le_of_ble_eq_true hb
    cases k <;> simp only [eMod, eHalf, IntKind.signed, IntKind.bits] at * <;> (first | omega | skip)
    all_goals
      simp
      rw [if_pos (by omega)]
      rw [Int.negSucc_eq]
      omega
  | false =>
    have hb : ¬ eHalf k ≤ n := fun e => by rw [Nat.ble_eq_true_of_le e] at hb; cases hb
    cases k <;> simp only [eMod, eHalf, IntKind.signed, IntKind.bits] at * <;> simp <;> omega
theorem eWrap_eq (k : IntKind) (x : Int) : eWrap k x = k.wrap x := by
  unfold eWrap
  rw [eWrapN_eq k _ (eLow_lt k x)]
  unfold IntKind.wrap
  rw [eLow_eq, Int.emod_emod_of_dvd _ (Int.dvd_refl _)]
theorem eIntEq_eq (a b : Int) : eIntEq a b = (a == b) := by
  cases a <;> cases b <;> simp only [eIntEq] <;> rw [Bool.eq_iff_iff] <;> simp [Nat.beq_eq] <;> omega
theorem eIntLe_eq (a b : Int) : eIntLe a b = decide (a ≤ b) := by
  cases a <;> cases b <;> simp only [eIntLe] <;> rw [Bool.eq_iff_iff] <;> simp <;> omega
theorem eIntLt_eq (a b : Int) : eIntLt a b = decide (a < b) := by
  have e : eIntLt a b = !eIntLe b a := by unfold eIntLt; cases eIntLe b a <;> rfl
  rw [e, eIntLe_eq, Bool.eq_iff_iff]
  simp
theorem eNatsEq_eq : ∀ (a b : List Nat), eNatsEq a b = true ↔ a = b
  | [], [] => by simp [eNatsEq]
  | [], _ :: _ => by simp [eNatsEq]
  | x :: a, [] => by simp [eNatsEq]
  | x :: a, y :: b => by
    have e : eNatsEq (x :: a) (y :: b) = match Nat.beq x y with | true => eNatsEq a b | false => false := rfl
    rw [e]
    cases h : Nat.beq x y with
    | true =>
      obtain rfl := Nat.eq_of_beq_eq_true h
      simp [eNatsEq_eq a b]
    | false =>
      have : x ≠ y := fun e => by subst e; simp at h
      simp [this]
theorem bytes_inj {a b : ByteArray} (h : a.data.toList.map (·.toNat) = b.data.toList.map (·.toNat)) : a = b := by
  obtain ⟨a⟩ := a
  obtain ⟨b⟩ := b
  have : a.toList = b.toList := (List.map_inj_right fun x y e => UInt8.toNat_inj.1 e).1 h
  exact congrArg ByteArray.mk (Array.ext' this)
theorem strEq {a b : ByteArray} : (a.toList == b.toList) = eNatsEq (a.data.toList.map (·.toNat)) (b.data.toList.map (·.toNat)) := by
  rw [Bool.eq_iff_iff, eNatsEq_eq, beq_iff_eq, ByteArray.toList_eq, ByteArray.toList_eq]
  exact ⟨fun h => by rw [h], fun h => by rw [bytes_inj h]⟩

section
variable {P : Program} {β : EMp}
/-- Two numbers. -/
theorem eBin2_run {op : BinOp} {k : IntKind} {a b : Int} {z : EV} (h : eBin2 op k a b = some z) (hs : op ≠ .shl) (hr : op ≠ .shr) (t : TypeId) (w : World) : ∃ c, (binOp op t (.int k a) (.int k b)).run P w = .ok c w ∧ VR β z c := by
  have bits : ∀ (f : Nat → Nat → Nat) (g : BitVec k.bits → BitVec k.bits → BitVec k.bits), (∀ x y : BitVec k.bits, (g x y).toNat = f x.toNat y.toNat) →
      VR β (.int k (eWrapN k (f (eLow k a) (eLow k b)))) (.int k (k.wrap (g (BitVec.ofInt k.bits a) (BitVec.ofInt k.bits b)).toNat)) := by
    intro f g hg
    have low : ∀ x : Int, (BitVec.ofInt k.bits x).toNat = eLow k x := fun x => by
      have h1 := eLow_eq k x
      have h2 : ((BitVec.ofInt k.bits x).toNat : Int) = x % 2 ^ k.bits := by
        rw [BitVec.toNat_ofInt]
        rw [Int.toNat_of_nonneg (Int.emod_nonneg _ (by have := Nat.two_pow_pos k.bits; omega))]
        simp
      omega
    have hlt := (g (BitVec.ofInt k.bits a) (BitVec.ofInt k.bits b)).isLt
    rw [hg, low, low, ← (eMod_eq k).2.1] at hlt
    rw [hg, low, low, eWrapN_eq k _ hlt]
    exact .int _ _
  cases op <;> simp only [eBin2] at h <;> (try (cases h; done)) <;> (try (exact absurd rfl hs)) <;> (try (exact absurd rfl hr))
  case add => obtain rfl := Option.some.inj h; rw [eWrap_eq]; exact ⟨_, by simp [binOp, Op.intArith], .int _ _⟩
  case sub => obtain rfl := Option.some.inj h; rw [eWrap_eq]; exact ⟨_, by simp [binOp, Op.intArith]; rfl, .int _ _⟩
  case mul => obtain rfl := Option.some.inj h; rw [eWrap_eq]; exact ⟨_, by simp [binOp, Op.intArith], .int _ _⟩
  case quo =>
    cases hz : eIntEq b 0 with
    | true => rw [hz] at h; cases h
    | false =>
      rw [hz] at h
      obtain rfl := Option.some.inj h
      rw [eIntEq_eq] at hz
      have hz : b ≠ 0 := by simpa using hz
      rw [eWrap_eq]
      exact ⟨_, by simp [binOp, Op.intDiv, hz], .int _ _⟩
  case rem =>
    cases hz : eIntEq b 0 with
    | true => rw [hz] at h; cases h
    | false =>
      rw [hz] at h
      obtain rfl := Option.some.inj h
      rw [eIntEq_eq] at hz
      have hz : b ≠ 0 := by simpa using hz
      exact ⟨_, by simp [binOp, Op.intDiv, hz], .int _ _⟩
  case and => obtain rfl := Option.some.inj h; exact ⟨_, by simp [binOp, Op.intBits], bits Nat.land (· &&& ·) fun x y => BitVec.toNat_and x y⟩
  case or => obtain rfl := Option.some.inj h; exact ⟨_, by simp [binOp, Op.intBits], bits Nat.lor (· ||| ·) fun x y => BitVec.toNat_or x y⟩
  case xor => obtain rfl := Option.some.inj h; exact ⟨_, by simp [binOp, Op.intBits], bits Nat.xor (· ^^^ ·) fun x y => BitVec.toNat_xor x y⟩
  case eql => obtain rfl := Option.some.inj h; rw [eIntEq_eq]; exact ⟨_, by simp [binOp, Op.intCmp], .bool _⟩
  case neq => obtain rfl := Option.some.inj h; rw [eIntEq_eq]; exact ⟨_, by simp [binOp, Op.intCmp]; rfl, .bool _⟩
  case lss => obtain rfl := Option.some.inj h; rw [eIntLt_eq]; exact ⟨_, by simp [binOp, Op.intCmp], .bool _⟩
  case leq => obtain rfl := Option.some.inj h; rw [eIntLe_eq]; exact ⟨_, by simp [binOp, Op.intCmp], .bool _⟩
  case gtr => obtain rfl := Option.some.inj h; rw [eIntLt_eq]; exact ⟨_, by simp [binOp, Op.intCmp], .bool _⟩
  case geq => obtain rfl := Option.some.inj h; rw [eIntLe_eq]; exact ⟨_, by simp [binOp, Op.intCmp], .bool _⟩
theorem eShift_run {op : BinOp} {k k' : IntKind} {a b : Int} {z : EV} (h : eShift op k a b = some z) (t : TypeId) (w : World) : ∃ c, (binOp op t (.int k a) (.int k' b)).run P w = .ok c w ∧ VR β z c := by
  cases b with
  | negSucc n => cases h
  | ofNat n =>
    have hn : ¬ ((n : Int) < 0) := by omega
    have hm : ∀ x : Int, Int.mul a (Int.ofNat (Nat.pow 2 (Nat.min n k.bits))) = a * 2 ^ (min n k.bits) := fun _ => by
      show a * ((2 ^ (min n k.bits) : Nat) : Int) = _
      simp
    have hf : (Int.ofNat (Nat.pow 2 (Nat.min n k.bits))) = (2 : Int) ^ (min n k.bits) := by
      show ((2 ^ (min n k.bits) : Nat) : Int) = _
      simp
    cases op <;> simp only [eShift] at h <;> (try (cases h; done))
    · obtain rfl := Option.some.inj h
      rw [eWrap_eq, hm 0]
      exact ⟨_, by simp [binOp, Op.shift, hn], .int _ _⟩
    · obtain rfl := Option.some.inj h
      rw [hf]
      exact ⟨_, by simp [binOp, Op.shift, hn], .int _ _⟩
theorem guard_free {op : BinOp} {t : TypeId} {x y : Operand} {a b : Value} {w : World} (h : ∀ u v, ¬ (a = .agg u ∧ b = .agg v)) (hn : ¬ (a = .nilIface ∧ b = .nilIface)) : (eqGuard op t x y a b).run P w = .ok () w := by
  cases op <;> (first | rfl | (cases a <;> cases b <;> first | rfl | exact absurd ⟨rfl, rfl⟩ (h _ _) | exact absurd ⟨rfl, rfl⟩ hn))
theorem eqB_guard : ∀ (n d : Nat) (t : TypeId), n ≤ d → eqB P n t = true → P.eqGuardType d t = false
  | 0, _, _, _, h => by cases h
  | n + 1, d, t, hd, h => by
    obtain ⟨d, rfl⟩ : ∃ d', d = d' + 1 := ⟨d - 1, by omega⟩
    unfold eqB at h
    unfold Program.eqGuardType
    simp only [Bool.and_eq_true] at h
    obtain ⟨_, h⟩ := h
    cases hu : P.underlying t with
    | none => rfl
    | some dd =>
      rw [hu] at h
      cases dd with
      | struct fs =>
        simp only [Bool.and_eq_true, List.all_eq_true] at h
        simp only
        rw [← Bool.not_eq_true]
        intro e
        rw [Array.any_eq_true'] at e
        obtain ⟨f, hf, e⟩ := e
        have := h.2 f (by simpa using hf)
        simp only [Bool.and_eq_true] at e this
        rw [eqB_guard n d f.type (by omega) this.2] at e
        cases e.2
      | array m e => exact eqB_guard n d e (by omega) h
      | _ => first | rfl | cases h
theorem eFits_run : ∀ {fl : List Leaf} {xs : List EV} {vs : List Value}, VRs β xs vs → eFits fl xs = true → Fits fl vs
  | [], [], _, .nil, _ => rfl
  | [], _ :: _, _, _, h => by cases h
  | _ :: _, [], _, _, h => by cases h
  | l :: fl, x :: xs, _, .cons a t, h => by
    rename_i v vs
    cases l with
    | int k =>
      cases a with
      | int k' n =>
        have h2 : (match k == k' && eIntEq (eWrap k n) n with | true => eFits fl xs | false => false) = true := h
        clear h
        cases hk : k == k' && eIntEq (eWrap k n) n with
        | false => rw [hk] at h2; cases h2
        | true =>
          rw [hk] at h2
          simp only [Bool.and_eq_true, beq_iff_eq] at hk
          obtain ⟨rfl, hk⟩ := hk
          rw [eIntEq_eq, beq_iff_eq, eWrap_eq] at hk
          exact ⟨_, _, rfl, ⟨n, rfl, by rw [← hk]; exact wf_wrap k n⟩, eFits_run t h2⟩
      | _ => cases h
    | bool =>
      cases a with
      | bool b => exact ⟨_, _, rfl, ⟨b, rfl⟩, eFits_run t h⟩
      | _ => cases h
    | str =>
      cases a with
      | str hs =>
        rename_i l s
        have h : (match Nat.ble l.length 1000000000 with | true => eFits fl xs | false => false) = true := h
        cases hk : Nat.ble l.length 1000000000 with
        | false => rw [hk] at h; cases h
        | true =>
          rw [hk] at h
          have hk := Nat.le_of_ble_eq_true hk
          refine ⟨_, _, rfl, ⟨s, rfl, ?_⟩, eFits_run t h⟩
          have : s.size = l.length := by rw [← hs]; simp
          rw [this]
          exact Nat.le_trans hk (by decide)
      | _ => cases h
end
end Go.Proofs.YtjckpgcmfieaoaaGreatDoor
