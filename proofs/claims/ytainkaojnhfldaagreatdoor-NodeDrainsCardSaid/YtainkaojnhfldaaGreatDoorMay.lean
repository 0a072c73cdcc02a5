/-
  wire.May.
-/
import Derived.Test.YtainkaojnhfldaaGreatDoorFld3
import Derived.Test.YtainkaojnhfldaaGreatDoorMcb
set_option linter.unusedVariables false
set_option linter.unusedSimpArgs false
namespace Go.Proofs.YtainkaojnhfldaaGreatDoor
open Go.RowKit

def zeros (xs : List Fld) (m : MsgV) : MsgV := xs.foldl (fun m x => x.zero m) m
theorem zeros_take {xs : List Fld} {i : Nat} {x : Fld} (h : xs[i]? = some x) (m : MsgV) : zeros (xs.take (i + 1)) m = x.zero (zeros (xs.take i) m) := by
  unfold zeros
  rw [List.take_add_one, h, List.foldl_append]
  rfl
set_option maxRecDepth 100000 in
set_option maxHeartbeats 1000000 in
theorem through_any (base A : Nat) (v : Value) (xs : List Fld) (m : MsgV) (w : World) (hv : FldsO base w v xs) (hA : MsB w A m) (hAb : A < base) (hxl : xs.length ≤ 100) :
    Calls Tryz.prog 112 #[pass0, v, .pointer (some ⟨A, 0, none⟩)] w fun e w' => e = .returned (.tuple #[]) ∧ MsB w' A (zeros xs m) ∧ Upd (· = A) w w' := by
  obtain ⟨vs, hrow, hvl, hcl⟩ := hv
  obtain ⟨va, vcap, hve⟩ := own_shape' hrow
  have hcell : ∀ (i : Nat) (u : Value), vs[i]? = some u → ∃ g, va = some ⟨g, 0, none⟩ ∧ base ≤ g ∧ w.cell? ⟨g, i, none⟩ = some u := by
    intro i u hu
    have hlt := (List.getElem?_eq_some_iff.1 hu).1
    rcases hrow.2 with ⟨e, e0⟩ | ⟨g, cap, cur, e, hb, hg, _, _, hs, ht⟩
    · omega
    · rw [hve] at e
      injection e with e1
      refine ⟨g, e1, hb, ?_⟩
      rw [blk_cell hg]
      have : cur.toList[i]? = some u := by
        rw [← hu, ← ht, List.getElem?_take_of_lt (by omega)]
      rwa [Array.getElem?_toList] at this
  subst hve
  clear hrow
  have HCELL := hide hcell
  have HCL := hide hcl
  clear hcell hcl
  unfold pass0
  go_enter Tryz.func112, Tryz.ntmps112
  go_upto_region 1 with fail
  have n1 : New w (w.alloc (.cells #[.pointer none, .pointer none] 214)) := (Upd.refl _ _).alloc _
  have hb := blk_alloc w (.cells #[.pointer none, .pointer none] 214)
  have hAw := hA.lt
  generalize w.alloc (.cells #[.pointer none, .pointer none] 214) = w1 at n1 hb ⊢
  have hBw : A ≠ w.heap.size := by omega
  generalize w.heap.size = B at hb hBw ⊢
  have HB := hide hb
  have HA1 := hide (hA.new n1)
  have N1 := hide n1
  have hxb : (xs.length : Int) ≤ 100 := by omega
  clear hb hA n1 hAw
  go_wp2_with fail
  go_loopw [7, 10] (fun _ iv wr => ∃ i : Nat, iv = .int .i64 (i : Int) ∧ i ≤ xs.length ∧ Hid (MsB wr A (zeros (xs.take i) m)) ∧ Upd (· = A) w1 wr) (fun _ iv _ => xs.length - (intOf iv).toNat)
  case atStart => exact ⟨0, rfl, Nat.zero_le _, HA1, Upd.refl _ _⟩
  case round =>
    obtain ⟨i, rfl, hi, hM, nr⟩ := hrel
    obtain ⟨wq, rfl⟩ : ∃ wq : World, wq = wr := ⟨_, rfl⟩
    by_cases hlt : i < xs.length
    · obtain ⟨x, hx⟩ : ∃ x, xs[i]? = some x := ⟨_, List.getElem?_eq_getElem hlt⟩
      obtain ⟨u, hu⟩ : ∃ u, vs[i]? = some u := ⟨_, List.getElem?_eq_getElem (by omega)⟩
      obtain ⟨g, rfl, hgb, hc⟩ := unhide HCELL i u hu
      have hf := unhide HCL i x u hx hu
      have hfq : FldV base wq u x := (hf.new (unhide N1)).upd nr (fun k hk e => by omega)
      have hcq : wq.cell? ⟨g, i, none⟩ = some u := nr.cell ((unhide N1).cell hc (fun h => h)) (by show ¬ g = A; omega)
      have hBq := nr.old (unhide HB) (fun e => hBw e.symm)
      have rP := rowN_whole hBq 2 rfl
      have d0 : wq.cell? ⟨B, 0, none⟩ = some (.pointer none) := blk_cell hBq 0
      have d1 : wq.cell? ⟨B, 1, none⟩ = some (.pointer none) := blk_cell hBq 1
      obtain ⟨F, caps, rfl, hE, hcall⟩ := field_any x base A _ u wq hfq (unhide hM) hAb
      have hzt := zeros_take hx m
      have HZ := hide hzt
      have hi0 : (i : Int) < (xs.length : Int) := by omega
      unfold pass0 at hcall
      clear hf hfq hc hBq hzt hx hu
      go_wp2_with fail
      refine hcall.mono ?_
      rintro e w3 ⟨rfl, hM3, u3⟩
      have hn3 := nr.trans u3
      have HM3 := hide hM3
      clear hcall rP d0 d1 hcq hE hM3 u3 nr
      go_wp2_with fail
      go_roundw
      case rel => exact ⟨i + 1, by go_num, by omega, by rw [unhide HZ]; exact HM3, hn3⟩
      case measure => simp [intOf]; omega
    · obtain rfl : i = xs.length := by omega
      rw [List.take_length] at hM
      go_wp2_with fail
      go_end0
      exact ⟨rfl, unhide hM, ((unhide N1).mono (fun _ _ h => h.elim)).trans nr⟩

-- equality of messages
theorem Tryz.flatMsg : flatF Tryz.prog 5 72 = some (.int .i64 :: .int .u32 :: .int .u64 :: .int .u64 :: (List.replicate 32 (.int .u8) ++ [.int .i64, .int .i64])) := by kernel_rfl
theorem Tryz.eqMsg : eqB Tryz.prog 5 72 = true := by kernel_rfl
theorem Tryz.aggMsg : aggB Tryz.prog 72 = true := by kernel_rfl
theorem wfI {n : Int} (h : -9223372036854775808 ≤ n ∧ n ≤ 9223372036854775807) : (Lit.int .i64 n).wf = true := by
  simp [Lit.wf, IntKind.min, IntKind.max, IntKind.signed, IntKind.bits]; omega
theorem wfU {n : Int} (h : 0 ≤ n ∧ n < 18446744073709551616) : (Lit.int .u64 n).wf = true := by
  simp [Lit.wf, IntKind.min, IntKind.max, IntKind.signed, IntKind.bits]; omega
theorem wfW {n : Int} (h : 0 ≤ n ∧ n < 4294967296) : (Lit.int .u32 n).wf = true := by
  simp [Lit.wf, IntKind.min, IntKind.max, IntKind.signed, IntKind.bits]; omega
theorem msg_fits {m : MsgV} (h : MsgOk m) : Fits (.int .i64 :: .int .u32 :: .int .u64 :: .int .u64 :: (List.replicate 32 (.int .u8) ++ [.int .i64, .int .i64])) m.cells :=
  ⟨_, _, rfl, ⟨_, rfl, wfI h.kind⟩, _, _, rfl, ⟨_, rfl, wfW h.ch⟩, _, _, rfl, ⟨_, rfl, wfU h.id⟩, _, _, rfl, ⟨_, rfl, wfU h.amount⟩, Fits.app (hsh_fits h.len h.hash) ⟨_, _, rfl, ⟨_, rfl, wfI h.expiry⟩, _, _, rfl, ⟨_, rfl, wfI h.number⟩, rfl⟩⟩
def eqMsg (x y : Value) : Sem Value := binOp .eql 72 x y
theorem eq_msg_fold (x y : Value) : binOp .eql 72 x y = eqMsg x y := rfl
theorem cells_inj {a b : MsgV} (ha : a.hash.length = 32) (hb : b.hash.length = 32) (h : a.cells = b.cells) : a = b := by
  obtain ⟨a1, a2, a3, a4, a5, a6, a7⟩ := a
  obtain ⟨b1, b2, b3, b4, b5, b6, b7⟩ := b
  unfold MsgV.cells at h
  simp only [List.cons.injEq, Value.int.injEq, true_and] at h
  obtain ⟨rfl, rfl, rfl, rfl, h⟩ := h
  have ha' : a5.length = 32 := ha
  have hb' : b5.length = 32 := hb
  have := List.append_inj h (by simp [ha', hb'])
  obtain ⟨h1, h2⟩ := this
  have h5 : a5 = b5 := hshV_inj h1
  simp only [List.cons.injEq, Value.int.injEq, true_and, and_true] at h2
  obtain ⟨rfl, rfl⟩ := h2
  rw [h5]
instance : DecidableEq MsgV := fun a b =>
  decidable_of_iff (a.kind = b.kind ∧ a.ch = b.ch ∧ a.id = b.id ∧ a.amount = b.amount ∧ a.hash = b.hash ∧ a.expiry = b.expiry ∧ a.number = b.number)
    ⟨by rintro ⟨h1, h2, h3, h4, h5, h6, h7⟩; cases a; cases b; simp_all, by rintro rfl; exact ⟨rfl, rfl, rfl, rfl, rfl, rfl, rfl⟩⟩
theorem eq_msg {a b : MsgV} (ha : MsgOk a) (hb : MsgOk b) (w : World) : (eqMsg (.agg a.cells.toArray) (.agg b.cells.toArray)).run Tryz.prog w = .ok (.bool (decide (a = b))) w := by
  refine run_eql_flat 5 (by decide) Tryz.eqMsg Tryz.flatMsg Tryz.aggMsg (msg_fits ha) (msg_fits hb) (decide (a = b)) ?_ w
  constructor
  · intro e
    rw [of_decide_eq_true e]
  · intro e
    exact decide_eq_true (cells_inj ha.len hb.len e)
theorem zero_ok {m : MsgV} (h : MsgOk m) (x : Fld) : MsgOk (x.zero m) := by
  have z : ∀ b ∈ z32i, 0 ≤ b ∧ b ≤ 255 := z32i_bytes
  cases x
  · exact ⟨h.kind, show (0 : Int) ≤ 0 ∧ (0 : Int) < 4294967296 by decide, h.id, h.amount, h.len, h.hash, h.expiry, h.number⟩
  · exact ⟨h.kind, h.ch, show (0 : Int) ≤ 0 ∧ (0 : Int) < 18446744073709551616 by decide, h.amount, h.len, h.hash, h.expiry, h.number⟩
  · exact ⟨h.kind, h.ch, h.id, show (0 : Int) ≤ 0 ∧ (0 : Int) < 18446744073709551616 by decide, h.len, h.hash, h.expiry, h.number⟩
  · exact ⟨h.kind, h.ch, h.id, h.amount, z32i_len, z, h.expiry, h.number⟩
  · exact ⟨h.kind, h.ch, h.id, h.amount, h.len, h.hash, show (-9223372036854775808 : Int) ≤ 0 ∧ (0 : Int) ≤ 9223372036854775807 by decide, h.number⟩
  · exact ⟨h.kind, h.ch, h.id, h.amount, h.len, h.hash, h.expiry, show (-9223372036854775808 : Int) ≤ 0 ∧ (0 : Int) ≤ 9223372036854775807 by decide⟩
theorem zeros_ok (xs : List Fld) : ∀ {m : MsgV}, MsgOk m → MsgOk (zeros xs m) := by
  induction xs with
  | nil => intro m h; exact h
  | cons x xs ih => intro m h; exact ih (zero_ok h x)
def kindMsg (k : Int) : MsgV := ⟨k, 0, 0, 0, z32i, 0, 0⟩
theorem kindMsg_ok {k : Int} (h : -9223372036854775808 ≤ k ∧ k ≤ 9223372036854775807) : MsgOk (kindMsg k) :=
  ⟨h, show (0 : Int) ≤ 0 ∧ (0 : Int) < 4294967296 by decide, show (0 : Int) ≤ 0 ∧ (0 : Int) < 18446744073709551616 by decide, show (0 : Int) ≤ 0 ∧ (0 : Int) < 18446744073709551616 by decide, z32i_len, z32i_bytes, show (-9223372036854775808 : Int) ≤ 0 ∧ (0 : Int) ≤ 9223372036854775807 by decide, show (-9223372036854775808 : Int) ≤ 0 ∧ (0 : Int) ≤ 9223372036854775807 by decide⟩
theorem zeros_kind (xs : List Fld) : ∀ m : MsgV, (zeros xs m).kind = m.kind := by
  induction xs with
  | nil => intro m; rfl
  | cons x xs ih => intro m; exact (ih _).trans (by cases x <;> rfl)
/-- A message that may be. -/
def mayMsg (m : MsgV) : Bool :=
  match fieldsOf m.kind with
  | none => false
  | some xs => if m.expiry < 0 ∨ 1073741824 < m.expiry ∨ m.number < 0 ∨ 65535 < m.number ∨ 1125899906842624 < m.amount then false else decide (zeros xs m = kindMsg m.kind)
theorem may_none {m : MsgV} (h : fieldsOf m.kind = none) : mayMsg m = false := by unfold mayMsg; rw [h]
theorem may_some {m : MsgV} {xs : List Fld} (h : fieldsOf m.kind = some xs) : mayMsg m = if m.expiry < 0 ∨ 1073741824 < m.expiry ∨ m.number < 0 ∨ 65535 < m.number ∨ 1125899906842624 < m.amount then false else decide (zeros xs m = kindMsg m.kind) := by unfold mayMsg; rw [h]
theorem fieldsOf_len {k : Int} {xs : List Fld} (h : fieldsOf k = some xs) : xs.length ≤ 100 := by
  unfold fieldsOf at h
  repeat' (split at h)
  all_goals first
    | (injection h with h; subst h; decide)
    | cases h

attribute [local go_sem ↓ high] ld_msg_fold st_msg_fold al_msg_fold bd_msg_fold eq_msg_fold
attribute [local go_sem] ld_msg st_msg al_msg rowN_drew
theorem bd_msg_kind (k : Int) (w : World) : (bdMsg #[(0, .int .i64 k)]).run Tryz.prog w = .ok (.agg (kindMsg k).cells.toArray) w := run_build w _ _ _ (by kernel_rfl)
set_option maxRecDepth 100000 in
set_option maxHeartbeats 1000000 in
theorem mayMsg_any (m : MsgV) (hm : MsgOk m) (w : World) : Calls Tryz.prog 116 #[.agg m.cells.toArray] w (Makes (.bool (mayMsg m)) w) := by
  go_enter Tryz.func116, Tryz.ntmps116
  go_upto_region 1 with fail
  have hA := ms_alloc w m hm.len
  have n1 : New w (w.alloc (.cells m.cells.toArray 72)) := (Upd.refl _ _).alloc _
  generalize w.alloc (.cells m.cells.toArray 72) = w1 at n1 hA ⊢
  obtain ⟨A, hAe⟩ : ∃ A, A = w.heap.size := ⟨_, rfl⟩
  rw [← hAe] at hA ⊢
  have hAl : w.heap.size ≤ A := by omega
  clear hAe
  obtain ⟨m0, -, -, -, -, -, -⟩ := hA.cells
  have HA := hide hA
  clear hA
  cases hk : fieldsOf m.kind with
  | none =>
    have HE := hide (may_none hk)
    have hf := fields_none m.kind hk w1
    clear hk hm
    go_wp2_with fail
    refine hf.mono ?_
    rintro e w2 ⟨rfl, n2⟩
    have n12 := n1.trans n2
    clear hf m0
    go_wp2_with fail
    go_ret
    exact ⟨by rw [unhide HE]; rfl, n12⟩
  | some xs =>
    have HE := hide (may_some hk)
    have hxl := fieldsOf_len hk
    have hf := fields_any m.kind xs hk w1
    have hkb := hm.kind
    have HM := hide hm
    clear hk hm
    go_wp2_with fail
    refine hf.mono ?_
    rintro e w2 ⟨v, rfl, n2, hfl⟩
    have hA2 := (unhide HA).new n2
    obtain ⟨-, -, -, m3, m36, m37, -⟩ := hA2.cells
    have n12 := n1.trans n2
    have HFL := hide hfl
    have hA1lt := (unhide HA).lt
    clear hf m0 hfl n1 n2
    by_cases e1 : m.expiry < 0
    · rw [if_pos (.inl e1)] at HE
      clear hA2
      go_wp2_with fail
      go_ret
      exact ⟨by rw [unhide HE]; rfl, n12⟩
    by_cases e2 : 1073741824 < m.expiry
    · rw [if_pos (.inr (.inl e2))] at HE
      clear hA2
      go_wp2_with fail
      go_ret
      exact ⟨by rw [unhide HE]; rfl, n12⟩
    by_cases e3 : m.number < 0
    · rw [if_pos (.inr (.inr (.inl e3)))] at HE
      clear hA2
      go_wp2_with fail
      go_ret
      exact ⟨by rw [unhide HE]; rfl, n12⟩
    by_cases e4 : 65535 < m.number
    · rw [if_pos (.inr (.inr (.inr (.inl e4))))] at HE
      clear hA2
      go_wp2_with fail
      go_ret
      exact ⟨by rw [unhide HE]; rfl, n12⟩
    by_cases e5 : 1125899906842624 < m.amount
    · rw [if_pos (.inr (.inr (.inr (.inr e5))))] at HE
      clear hA2
      go_wp2_with fail
      go_ret
      exact ⟨by rw [unhide HE]; rfl, n12⟩
    rw [if_neg (by omega)] at HE
    have hth := through_any w1.heap.size A v xs m w2 (unhide HFL) hA2 hA1lt hxl
    unfold pass0 at hth
    clear hA2
    go_wp2_with fail
    refine hth.mono ?_
    rintro e w3 ⟨rfl, hM3, u3⟩
    have n13 : New w w3 := n12.then u3 (fun i hi e => by omega)
    have hz := zeros_kind xs m
    have hok := zeros_ok xs (unhide HM)
    obtain ⟨z0, -, -, -, -, -, -⟩ := hM3.cells
    rw [hz] at z0
    have rM := hM3.row
    have hbd := fun W => bd_msg_kind m.kind W
    have heq := fun W => eq_msg hok (kindMsg_ok hkb) W
    clear hth u3 m3 m36 m37 hM3
    go_wp2_with fail
    go_ret
    exact ⟨by rw [unhide HE]; rfl, n13⟩

end Go.Proofs.YtainkaojnhfldaaGreatDoor
