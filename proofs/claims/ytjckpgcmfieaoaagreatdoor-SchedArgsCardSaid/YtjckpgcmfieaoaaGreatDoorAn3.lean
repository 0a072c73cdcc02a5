/-
  Numbers and texts that are not known: what operations make of them.
-/
import Derived.Test.YtjckpgcmfieaoaaGreatDoorMaf
set_option linter.unusedVariables false
set_option linter.unusedSimpArgs false
namespace Go.Proofs.YtjckpgcmfieaoaaGreatDoor
open Go.RowKit

section
variable {P : Program} {β : EMp}
theorem wrap_fit (k : IntKind) (z : Int) (h1 : (match k.signed with | true => -(eHalf k : Int) | false => 0) ≤ z) (h2 : z + 1 ≤ (eHalf k : Int)) : k.wrap z = z := by
  cases k <;> simp [eHalf, IntKind.signed, IntKind.wrap, IntKind.bits] at * <;> omega
theorem eFitX_ok {k : IntKind} {e : SX} {z : Int} (h : eFitX k e = true) (hz : SN (symOf β) e z) : k.wrap z = z ∧ z + 1 ≤ (eHalf k : Int) ∧ (k.signed = false → 0 ≤ z) := by
  have hb := sBnd_ok e hz
  unfold eFitX at h
  generalize sBnd e = b at h hb
  obtain ⟨lo, hi⟩ := b
  simp only at h hb
  split at h
  · rename_i h1
    rw [sIntLe_iff] at h1 h
    have h1 : (match k.signed with | true => -(eHalf k : Int) | false => 0) ≤ lo := h1
    have h : hi + 1 ≤ (eHalf k : Int) := h
    refine ⟨wrap_fit k z (Int.le_trans h1 hb.1) (by omega), by omega, fun hs => ?_⟩
    rw [hs] at h1
    simp only at h1
    omega
  · cases h
theorem eMkX_ok {k : IntKind} {e : SX} {z : Int} (h : SN (symOf β) e z) (hk : k.wrap z = z) : VR β (eMkX k e) (.int k z) := by
  unfold eMkX
  split
  · rw [h.cst_inv]; exact .int k _
  · exact .sint h hk
theorem eMkF_ok {k : IntKind} {e : SX} {z : Int} {y : EV} (hy : eMkF k e = some y) (h : SN (symOf β) e z) : k.wrap z = z ∧ VR β y (.int k z) := by
  unfold eMkF at hy
  split at hy
  · rename_i hf
    obtain rfl := Option.some.inj hy
    have := (eFitX_ok hf h).1
    exact ⟨this, eMkX_ok h this⟩
  · cases hy
theorem eMkO_ok {k : IntKind} {e : Option SX} {y : EV} (hy : eMkO k e = some y) : ∃ f, e = some f ∧ eMkF k f = some y := by
  unfold eMkO at hy
  split at hy
  · exact ⟨_, rfl, hy⟩
  · cases hy
theorem eLtX_ok {a b : SX} {x y : Int} {r : Bool} (hr : eLtX a b = some r) (ha : SN (symOf β) a x) (hb : SN (symOf β) b y) : r = decide (x < y) := by
  have hk := sBnd_ok _ (sSub_ok hb ha)
  unfold eLtX at hr
  generalize sBnd (sSub b a) = b0 at hr hk
  obtain ⟨lo, hi⟩ := b0
  simp only at hr hk
  split at hr
  · rename_i h1
    rw [sIntLe_iff] at h1
    obtain rfl := Option.some.inj hr
    rw [eq_comm, decide_eq_true_iff]
    omega
  · split at hr
    · rename_i h1
      rw [sIntLe_iff] at h1
      obtain rfl := Option.some.inj hr
      rw [eq_comm, decide_eq_false_iff_not]
      omega
    · cases hr
theorem eM256_ok {σ : Nat → Option Nat} : ∀ {f : SX} {z : Int}, eM256 f = true → SN σ f z → z % 256 = 0
  | .cst c, z, h, hz => by
    obtain rfl := hz.cst_inv
    exact (sIntEq_iff _ _).1 h
  | .term c a r, z, h, hz => by
    have h : (match sIntEq (Int.emod c 256) 0 with | true => eM256 r | false => false) = true := h
    obtain ⟨x, y, -, hy, rfl⟩ := hz.term_inv
    split at h
    · rename_i hc
      have h1 : c % 256 = 0 := (sIntEq_iff _ _).1 hc
      have h2 := eM256_ok h hy
      rw [Int.add_emod, Int.mul_emod, h1, h2]
      simp
    · cases h
  | .var .., z, h, _ => by cases h
  | .dm .., z, h, _ => by cases h
  | .sha .., z, h, _ => by cases h
  | .nil, z, h, _ => by cases h
  | .cons .., z, h, _ => by cases h
theorem eOrX_ok {a b f : SX} {x y : Int} (h : eOrX a b = some f) (ha : SN (symOf β) a x) (hb : SN (symOf β) b y) : SN (symOf β) f (x + y) ∧ x % 256 = 0 ∧ 0 ≤ x ∧ 0 ≤ y ∧ y < 256 := by
  unfold eOrX at h
  split at h
  · rename_i hm
    have h1 := sBnd_ok _ ha
    have h2 := sBnd_ok _ hb
    generalize sBnd a = s1 at h h1
    generalize sBnd b = s2 at h h2
    obtain ⟨la, ka⟩ := s1
    obtain ⟨lb, kb⟩ := s2
    simp only at h h1 h2
    split at h
    · rename_i hc
      rw [Bool.and_eq_true, Bool.and_eq_true, sIntLe_iff, sIntLe_iff, sIntLe_iff] at hc
      obtain rfl := Option.some.inj h
      exact ⟨sAdd_ok ha hb, eM256_ok hm ha, by omega, by omega, by omega⟩
    · cases h
  · cases h
theorem lor_add {x y : Nat} (hx : x % 256 = 0) (hy : y < 256) : Nat.lor x y = x + y := by
  obtain ⟨q, rfl⟩ : ∃ q, x = 2 ^ 8 * q := ⟨x / 256, by omega⟩
  exact (Nat.two_pow_add_eq_or_of_lt (i := 8) hy q).symm
theorem eBin2X_run {op : BinOp} {k : IntKind} {a b : SX} {x y : Int} {z : EV} (h : eBin2X op k a b = some z) (ha : SN (symOf β) a x) (hb : SN (symOf β) b y) (t : TypeId) (w : World) : ∃ c, (binOp op t (.int k x) (.int k y)).run P w = .ok c w ∧ VR β z c := by
  cases op <;> simp only [eBin2X] at h <;> (try (cases h; done))
  case add =>
    obtain ⟨h1, h2⟩ := eMkF_ok h (sAdd_ok ha hb)
    exact ⟨_, by simp [binOp, Op.intArith, h1], h2⟩
  case sub =>
    obtain ⟨h1, h2⟩ := eMkF_ok h (sSub_ok ha hb)
    exact ⟨_, by simp [binOp, Op.intArith, h1], h2⟩
  case mul =>
    split at h
    · rw [hb.cst_inv]
      obtain ⟨h1, h2⟩ := eMkF_ok h (sMul_ok _ ha)
      rw [Int.mul_comm] at h1 h2
      exact ⟨_, by simp [binOp, Op.intArith, h1], h2⟩
    · split at h
      · rw [ha.cst_inv]
        obtain ⟨h1, h2⟩ := eMkF_ok h (sMul_ok _ hb)
        exact ⟨_, by simp [binOp, Op.intArith, h1], h2⟩
      · cases h
  case quo =>
    split at h
    · rename_i m
      obtain ⟨f, hf, hm⟩ := eMkO_ok h
      obtain ⟨h0, hm1, hs⟩ := sDm_ok hf ha
      rw [if_pos rfl] at hs
      obtain ⟨h1, h2⟩ := eMkF_ok hm hs
      have hy := hb.cst_inv
      have hy : y = (m : Int) := hy
      subst hy
      have hne : ¬ (m = 0) := by omega
      have hd : x.tdiv m = x / m := Int.tdiv_eq_ediv_of_nonneg h0
      exact ⟨_, by simp [binOp, Op.intDiv, hne, hd, h1], h2⟩
    · cases h
  case rem =>
    split at h
    · rename_i m
      split at h
      · rename_i hm1
        have hm1 := Nat.le_of_ble_eq_true hm1
        obtain ⟨f, hf, hm⟩ := eMkO_ok h
        obtain ⟨h0, -, hs⟩ := sDm_ok hf ha
        rw [if_neg (by omega)] at hs
        obtain ⟨h1, h2⟩ := eMkF_ok hm hs
        have hy := hb.cst_inv
        have hy : y = (m : Int) := hy
        subst hy
        have hne : ¬ (m = 0) := by omega
        have hd : x.tmod m = x / ((1 : Nat) : Int) % m := by rw [Int.tmod_eq_emod_of_nonneg h0]; simp
        rw [← hd] at h2
        exact ⟨_, by simp [binOp, Op.intDiv, hne], h2⟩
      · cases h
    · cases h
  case or =>
    obtain ⟨f, hf, hm⟩ := eMkO_ok h
    obtain ⟨hs, h0, h1, h2, h3⟩ := eOrX_ok hf ha hb
    obtain ⟨g1, g2⟩ := eMkF_ok hm hs
    have hfit : eFitX k f = true := by
      unfold eMkF at hm
      split at hm
      · rename_i hh; exact hh
      · cases hm
    have hlt := (eFitX_ok hfit hs).2.1
    have hhm : eHalf k ≤ eMod k := by cases k <;> decide
    have low : ∀ u : Int, 0 ≤ u → u < eMod k → (BitVec.ofInt k.bits u).toNat = u.toNat := fun u u0 u1 => by
      have e2 : ((BitVec.ofInt k.bits u).toNat : Int) = u % 2 ^ k.bits := by
        rw [BitVec.toNat_ofInt]
        rw [Int.toNat_of_nonneg (Int.emod_nonneg _ (by have := Nat.two_pow_pos k.bits; omega))]
        simp
      rw [← (eMod_eq k).1, Int.emod_eq_of_lt u0 u1] at e2
      omega
    have hor : ((BitVec.ofInt k.bits x ||| BitVec.ofInt k.bits y).toNat : Int) = x + y := by
      rw [BitVec.toNat_or, low x h1 (by omega), low y h2 (by omega)]
      have := lor_add (x := x.toNat) (y := y.toNat) (by omega) (by omega)
      show ((Nat.lor x.toNat y.toNat : Nat) : Int) = _
      rw [this]
      omega
    refine ⟨.int k (k.wrap ((BitVec.ofInt k.bits x ||| BitVec.ofInt k.bits y).toNat : Int)), by simp [binOp, Op.intBits], ?_⟩
    rw [hor, g1]
    exact g2
  case and =>
    split at h
    · rename_i m
      split at h
      · rename_i hmk
        obtain ⟨f, hf, hm⟩ := eMkO_ok h
        unfold eAndX at hf
        split at hf
        · rename_i hc
          rw [Bool.and_eq_true] at hc
          have hc1 := Nat.eq_of_beq_eq_true hc.1
          have hc2 := Nat.le_of_ble_eq_true hc.2
          obtain ⟨h0, -, hs⟩ := sDm_ok hf ha
          rw [if_neg (by omega)] at hs
          obtain ⟨g1, g2⟩ := eMkF_ok hm hs
          have hy : y = (m : Int) := hb.cst_inv
          subst hy
          have hlow : ∀ u : Int, ((BitVec.ofInt k.bits u).toNat : Int) = u % 2 ^ k.bits := fun u => by
            rw [BitVec.toNat_ofInt]
            rw [Int.toNat_of_nonneg (Int.emod_nonneg _ (by have := Nat.two_pow_pos k.bits; omega))]
            simp
          obtain ⟨j, hj⟩ : ∃ j, j = Nat.log2 (Nat.succ m) := ⟨_, rfl⟩
          rw [← hj] at hc1 hc2
          have hc1 : 2 ^ j = m + 1 := hc1
          have hmlt : m < 2 ^ k.bits := by
            have : 2 ^ j ≤ 2 ^ k.bits := Nat.pow_le_pow_right (by decide) hc2
            omega
          have hb2 : (BitVec.ofInt k.bits (m : Int)).toNat = m := by
            have := hlow (m : Int)
            rw [Int.emod_eq_of_lt (by omega) (by exact_mod_cast hmlt)] at this
            omega
          obtain ⟨q, rfl⟩ := Int.eq_ofNat_of_zero_le h0
          have ha2 : (BitVec.ofInt k.bits (q : Int)).toNat = q % 2 ^ k.bits := by
            have := hlow (q : Int)
            exact_mod_cast this
          have hand : ((BitVec.ofInt k.bits (q : Int) &&& BitVec.ofInt k.bits (m : Int)).toNat : Int) = (q : Int) / ((1 : Nat) : Int) % ((m + 1 : Nat) : Int) := by
            rw [BitVec.toNat_and, ha2, hb2]
            have e1 : (q % 2 ^ k.bits) &&& m = q % (m + 1) := by
              have : m = 2 ^ j - 1 := by omega
              rw [show (q % 2 ^ k.bits) &&& m = (q % 2 ^ k.bits) &&& (2 ^ j - 1) by rw [← this], Nat.and_two_pow_sub_one_eq_mod, Nat.mod_mod_of_dvd _ (Nat.pow_dvd_pow 2 hc2), hc1]
            rw [e1]
            simp
          refine ⟨.int k (k.wrap ((BitVec.ofInt k.bits (q : Int) &&& BitVec.ofInt k.bits (m : Int)).toNat : Int)), by simp [binOp, Op.intBits], ?_⟩
          rw [hand]
          have g1' : k.wrap ((q : Int) / ((1 : Nat) : Int) % ((m + 1 : Nat) : Int)) = (q : Int) / ((1 : Nat) : Int) % ((m + 1 : Nat) : Int) := g1
          rw [g1']
          exact g2
        · cases hf
      · cases h
    · cases h
  case eql =>
    cases hs : sSame a b with
    | none => rw [hs] at h; cases h
    | some r =>
      rw [hs] at h
      obtain rfl := Option.some.inj h
      have hi := sSame_ok hs ha hb
      have : (x == y) = r := by rw [Bool.eq_iff_iff, beq_iff_eq, hi]
      exact ⟨.bool (x == y), by simp [binOp, Op.intCmp], by rw [this]; exact .bool _⟩
  case neq =>
    cases hs : sSame a b with
    | none => rw [hs] at h; cases h
    | some r =>
      rw [hs] at h
      obtain rfl := Option.some.inj h
      have hi := sSame_ok hs ha hb
      have : (x == y) = r := by rw [Bool.eq_iff_iff, beq_iff_eq, hi]
      exact ⟨.bool (!(x == y)), by simp [binOp, Op.intCmp]; rfl, by rw [this]; exact .bool _⟩
  case lss =>
    cases hs : eLtX a b with
    | none => rw [hs] at h; cases h
    | some r =>
      rw [hs] at h
      obtain rfl := Option.some.inj h
      have hi := eLtX_ok hs ha hb
      exact ⟨.bool (decide (x < y)), by simp [binOp, Op.intCmp], by rw [hi]; exact .bool _⟩
  case gtr =>
    cases hs : eLtX b a with
    | none => rw [hs] at h; cases h
    | some r =>
      rw [hs] at h
      obtain rfl := Option.some.inj h
      have hi := eLtX_ok hs hb ha
      exact ⟨.bool (decide (y < x)), by simp [binOp, Op.intCmp], by rw [hi]; exact .bool _⟩
  case leq =>
    cases hs : eLtX b a with
    | none => rw [hs] at h; cases h
    | some r =>
      rw [hs] at h
      obtain rfl := Option.some.inj h
      have hi := eLtX_ok hs hb ha
      have e : (!r) = decide (x ≤ y) := by rw [hi, Bool.eq_iff_iff]; simp
      exact ⟨.bool (decide (x ≤ y)), by simp [binOp, Op.intCmp], by rw [e]; exact .bool _⟩
  case geq =>
    cases hs : eLtX a b with
    | none => rw [hs] at h; cases h
    | some r =>
      rw [hs] at h
      obtain rfl := Option.some.inj h
      have hi := eLtX_ok hs ha hb
      have e : (!r) = decide (y ≤ x) := by rw [hi, Bool.eq_iff_iff]; simp
      exact ⟨.bool (decide (y ≤ x)), by simp [binOp, Op.intCmp], by rw [e]; exact .bool _⟩
theorem eBinX_run {op : BinOp} {k k' : IntKind} {a b : SX} {x y : Int} {z : EV} (h : eBinX op k k' a b = some z) (ha : SN (symOf β) a x) (hb : SN (symOf β) b y) (t : TypeId) (w : World) : ∃ c, (binOp op t (.int k x) (.int k' y)).run P w = .ok c w ∧ VR β z c := by
  have two : ∀ n : Nat, Int.ofNat (Nat.pow 2 (Nat.min n k.bits)) = (2 : Int) ^ (min n k.bits) := fun n => by
    show ((2 ^ (min n k.bits) : Nat) : Int) = _
    simp
  by_cases hs : op = .shl
  · subst hs
    simp only [eBinX] at h
    split at h
    · rename_i n
      have hy : y = (n : Int) := hb.cst_inv
      subst hy
      obtain ⟨h1, h2⟩ := eMkF_ok h (sMul_ok _ ha)
      rw [two, Int.mul_comm] at h1 h2
      have hn : ¬ ((n : Int) < 0) := by omega
      exact ⟨_, by simp [binOp, Op.shift, hn, h1], h2⟩
    · cases h
  · by_cases hr : op = .shr
    · subst hr
      simp only [eBinX] at h
      split at h
      · rename_i n
        have hy : y = (n : Int) := hb.cst_inv
        subst hy
        obtain ⟨f, hf, hm⟩ := eMkO_ok h
        obtain ⟨h0, hm1, hs⟩ := sDm_ok hf ha
        rw [if_pos rfl] at hs
        obtain ⟨h1, h2⟩ := eMkF_ok hm hs
        have hn : ¬ ((n : Int) < 0) := by omega
        have hd : Int.fdiv x (2 ^ (min n k.bits)) = x / ((Nat.pow 2 (Nat.min n k.bits) : Nat) : Int) := by
          have := two n
          rw [← this]
          exact Int.fdiv_eq_ediv_of_nonneg x (Int.natCast_nonneg _)
        refine ⟨_, ?_, h2⟩
        simp [binOp, Op.shift, hn]
        rw [hd]
        rfl
      · cases h
    · have h2 : (match k == k' with | true => eBin2X op k a b | false => none) = some z := by
        cases op <;> first | exact absurd rfl hs | exact absurd rfl hr | exact h
      split at h2
      · rename_i hk
        rw [beq_iff_eq] at hk
        subst hk
        exact eBin2X_run h2 ha hb t w
      · cases h2
theorem sOf_bytes (s : ByteArray) : SB (symOf β) (sOf (s.data.toList.map (·.toNat))) (s.data.toList.map (·.toNat)) := sOf_ok fun b hb => by
  obtain ⟨u, -, rfl⟩ := List.mem_map.1 hb
  exact u.toNat_lt
theorem eBinL_run {op : BinOp} {a b : SX} {s s' : ByteArray} {z : EV} (h : eBinL op a b = some z) (ha : SB (symOf β) a (s.data.toList.map (·.toNat))) (hb : SB (symOf β) b (s'.data.toList.map (·.toNat))) (t : TypeId) (w : World) : ∃ c, (binOp op t (.string s) (.string s')).run P w = .ok c w ∧ VR β z c := by
  have e1 : s.size = sLen a := by rw [ha.len]; simp
  have e2 : s'.size = sLen b := by rw [hb.len]; simp
  cases op <;> simp only [eBinL] at h <;> (try (cases h; done))
  case add =>
    split at h
    · rename_i hl
      have hl : sLen a + sLen b ≤ 1000000000 := Nat.le_of_ble_eq_true hl
      obtain rfl := Option.some.inj h
      refine ⟨.string (s ++ s'), ?_, .sstr (by simpa using sApp_ok hb ha)⟩
      have : ¬ (((s.size + s'.size : Nat) : Int) > IntKind.i64.max) := by
        have : IntKind.i64.max = 9223372036854775807 := rfl
        omega
      simp [binOp, Op.stringOp, this]
      omega
    · cases h
  case eql =>
    cases hs : sSameL a b with
    | none => rw [hs] at h; cases h
    | some r =>
      rw [hs] at h
      obtain rfl := Option.some.inj h
      have hi := sSameL_ok hs ha hb
      refine ⟨.bool (s.toList == s'.toList), by simp [binOp, Op.stringOp], ?_⟩
      have : (s.toList == s'.toList) = r := by rw [strEq, Bool.eq_iff_iff, eNatsEq_eq, hi]
      rw [this]
      exact .bool _
  case neq =>
    cases hs : sSameL a b with
    | none => rw [hs] at h; cases h
    | some r =>
      rw [hs] at h
      obtain rfl := Option.some.inj h
      have hi := sSameL_ok hs ha hb
      refine ⟨.bool (!(s.toList == s'.toList)), by simp [binOp, Op.stringOp], ?_⟩
      have : (s.toList == s'.toList) = r := by rw [strEq, Bool.eq_iff_iff, eNatsEq_eq, hi]
      rw [this]
      exact .bool _
theorem eMkS_ok {l : SX} {s : ByteArray} (h : SB (symOf β) l (s.data.toList.map (·.toNat))) : VR β (eMkS l) (.string s) := by
  unfold eMkS
  split
  · rename_i r hr
    exact .str (sKnown_ok hr h)
  · exact .sstr h
theorem u8_wrap {n : Nat} (h : n < 256) : IntKind.u8.wrap (n : Int) = n := by
  simp [IntKind.wrap, IntKind.bits, IntKind.signed]
  omega
theorem u8_range {z : Int} (h : IntKind.u8.wrap z = z) : 0 ≤ z ∧ z < 256 := by
  simp [IntKind.wrap, IntKind.bits, IntKind.signed] at h
  omega
theorem eCellsX_ok : ∀ {l : SX} {bs : List Nat}, SB (symOf β) l bs → VRs β (eCellsX l) (bs.map fun (b : Nat) => Value.int .u8 (b : Int))
  | .cons b l, bs, h => by
    obtain ⟨x, cs, h0, h1, h3, h2, rfl⟩ := h.cons_inv
    have hx : ((x.toNat : Nat) : Int) = x := Int.toNat_of_nonneg h0
    refine .cons ?_ (eCellsX_ok h2)
    show VR β (eMkX .u8 b) (.int .u8 ((x.toNat : Nat) : Int))
    rw [hx]
    exact eMkX_ok h3 (by rw [← hx]; exact u8_wrap (by omega))
  | .var .., bs, h => by rw [h.flat fun _ _ e => by cases e]; exact .nil
  | .dm .., bs, h => by rw [h.flat fun _ _ e => by cases e]; exact .nil
  | .sha .., bs, h => by rw [h.flat fun _ _ e => by cases e]; exact .nil
  | .cst .., bs, h => by rw [h.flat fun _ _ e => by cases e]; exact .nil
  | .term .., bs, h => by rw [h.flat fun _ _ e => by cases e]; exact .nil
  | .nil, bs, h => by rw [h.flat fun _ _ e => by cases e]; exact .nil
theorem eBytesX_ok : ∀ {l : List EV} {vs : List Value} {r : SX}, VRs β l vs → eBytesX l = some r → ∃ ns : List Int, vs = ns.map (Value.int .u8) ∧ (∀ n ∈ ns, n.toNat < 256) ∧ SB (symOf β) r (ns.map (·.toNat))
  | [], _, r, .nil, h => by obtain rfl := Option.some.inj (show some SX.nil = some r from h); exact ⟨[], rfl, (fun _ h => by cases h), .nil⟩
  | x :: l, _, r, .cons (vs := vs) a t, h => by
    have key : ∀ {b : SX} {n : Int}, 0 ≤ n → n < 256 → SN (symOf β) b n → (match eBytesX l with | some r => some (SX.cons b r) | none => none) = some r → ∃ ns : List Int, (Value.int .u8 n :: vs) = ns.map (Value.int .u8) ∧ (∀ n ∈ ns, n.toNat < 256) ∧ SB (symOf β) r (ns.map (·.toNat)) := by
      intro b n h0 h1 hb hq
      cases hl : eBytesX l with
      | none => rw [hl] at hq; cases hq
      | some q =>
        rw [hl] at hq
        obtain rfl := Option.some.inj hq
        obtain ⟨ns, e, h2, h3⟩ := eBytesX_ok t hl
        refine ⟨n :: ns, by rw [List.map_cons, ← e], fun m hm => ?_, .cons h0 h1 hb h3⟩
        rcases List.mem_cons.1 hm with rfl | hm
        · omega
        · exact h2 m hm
    cases a with
    | int k n =>
      cases k <;> (try (cases h; done))
      cases n with
      | negSucc n => cases h
      | ofNat n =>
        have h2 : (match Nat.ble n 255 with | true => (match eBytesX l with | some r => some (SX.cons (.cst (.ofNat n)) r) | none => none) | false => none) = some r := h
        clear h
        cases hn : Nat.ble n 255 with
        | false => rw [hn] at h2; cases h2
        | true =>
          rw [hn] at h2
          have hn := Nat.le_of_ble_eq_true hn
          exact key (n := (n : Int)) (by omega) (by omega) (.cst _) h2
    | sint hs hk =>
      rename_i k e z
      cases k <;> (try (cases h; done))
      obtain ⟨h0, h1⟩ := u8_range hk
      exact key h0 h1 hs h
    | _ => cases h
theorem eToX_ok {k : IntKind} {e : SX} {z : Int} {y : EV} (hy : eToX k e = some y) (h : SN (symOf β) e z) : VR β y (.int k (k.wrap z)) := by
  unfold eToX at hy
  split at hy
  · rename_i hf
    obtain rfl := Option.some.inj hy
    have := (eFitX_ok hf h).1
    rw [this]
    exact eMkX_ok h this
  · split at hy
    · cases hy
    · rename_i hs
      obtain ⟨f, hf, hm⟩ := eMkO_ok hy
      obtain ⟨h0, -, g⟩ := sDm_ok hf h
      obtain ⟨-, h2⟩ := eMkF_ok hm g
      have : k.wrap z = if eMod k = 0 then z / (1 : Nat) else z / (1 : Nat) % (eMod k : Nat) := by
        rw [if_neg (by have := (eMod_eq k).2.2; omega)]
        unfold IntKind.wrap
        rw [hs]
        simp [(eMod_eq k).2.1]
      rw [this]
      exact h2
/-- == of numbers, of texts. -/
theorem eEqS_int {x y : EV} {k1 k2 : IntKind} {n1 n2 : Int} {r : Bool} (h : eEqS x y = some r) (hx : VR β x (.int k1 n1)) (hy : VR β y (.int k2 n2)) : k1 = k2 ∧ (r = true ↔ n1 = n2) := by
  have key : ∀ {q : Option Bool}, (match k1 == k2 with | true => q | false => none) = some r → (q = some r → (r = true ↔ n1 = n2)) → k1 = k2 ∧ (r = true ↔ n1 = n2) := fun h g => by
    split at h
    · rename_i hk
      exact ⟨beq_iff_eq.1 hk, g h⟩
    · cases h
  cases hx with
  | bot _ => cases h
  | int _ _ =>
    cases hy with
    | bot _ => cases h
    | int _ _ =>
      refine key h fun e => ?_
      obtain rfl := Option.some.inj e
      rw [eIntEq_eq, beq_iff_eq]
    | sint hb _ => exact key h fun e => sSame_ok e (.cst _) hb
  | sint ha _ =>
    cases hy with
    | bot _ => cases h
    | int _ _ => exact key h fun e => sSame_ok e ha (.cst _)
    | sint hb _ => exact key h fun e => sSame_ok e ha hb
theorem eEqS_str {x y : EV} {s1 s2 : ByteArray} {r : Bool} (h : eEqS x y = some r) (hx : VR β x (.string s1)) (hy : VR β y (.string s2)) : r = true ↔ s1 = s2 := by
  have inj : s1 = s2 ↔ s1.data.toList.map (·.toNat) = s2.data.toList.map (·.toNat) := ⟨fun e => by rw [e], bytes_inj⟩
  rw [inj]
  cases hx with
  | bot _ => cases h
  | str ha =>
    cases hy with
    | bot _ => cases h
    | str hb =>
      obtain rfl := Option.some.inj h
      rw [eNatsEq_eq, ha, hb]
    | sstr hb => subst ha; exact sSameL_ok h (sOf_bytes _) hb
  | sstr ha =>
    cases hy with
    | bot _ => cases h
    | str hb => subst hb; exact sSameL_ok h ha (sOf_bytes _)
    | sstr hb => exact sSameL_ok h ha hb
end
end Go.Proofs.YtjckpgcmfieaoaaGreatDoor
