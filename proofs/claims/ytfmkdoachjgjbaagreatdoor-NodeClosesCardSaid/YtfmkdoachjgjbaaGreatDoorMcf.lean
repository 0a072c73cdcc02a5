/-
  wire.May.
-/
import Derived.Test.YtfmkdoachjgjbaaGreatDoorFld3
import Derived.Test.YtfmkdoachjgjbaaGreatDoorMcc
import Derived.Maps.OwnSet
import Derived.Test.YtfmkdoachjgjbaaGreatDoorMbh
import Derived.Test.YtfmkdoachjgjbaaGreatDoorMaf
import Derived.Test.YtfmkdoachjgjbaaGreatDoorTxt
set_option linter.unusedVariables false
set_option linter.unusedSimpArgs false
namespace Go.Proofs.YtfmkdoachjgjbaaGreatDoor
open Go.RowKit

def zeros (xs : List Fld) (m : MsgV) : MsgV := xs.foldl (fun m x => x.zero m) m
theorem zeros_take {xs : List Fld} {i : Nat} {x : Fld} (h : xs[i]? = some x) (m : MsgV) : zeros (xs.take (i + 1)) m = x.zero (zeros (xs.take i) m) := by
  unfold zeros
  rw [List.take_add_one, h, List.foldl_append]
  rfl
set_option maxRecDepth 100000 in
set_option maxHeartbeats 1000000 in
theorem through_any (base A : Nat) (v : Value) (xs : List Fld) (m : MsgV) (w : World) (hv : FldsO base w v xs) (hA : MsB w A m) (hAb : A < base) (hxl : xs.length ≤ 100) :
    Calls Tryz.prog 139 #[pass0, v, .pointer (some ⟨A, 0, none⟩)] w fun e w' => e = .returned (.tuple #[]) ∧ MsB w' A (zeros xs m) ∧ Upd (· = A) w w' := by
  obtain ⟨vs, hrow, hvl, hcl⟩ := hv
  obtain ⟨va, vcap, hve⟩ := own_shape' hrow
  have hcell : ∀ (i : Nat) (u : Value), vs[i]? = some u → ∃ g, va = some ⟨g, 0, none⟩ ∧ base ≤ g ∧ w.cell? ⟨g, i, none⟩ = some u := by
    intro i u hu
    have hlt := (List.getElem?_eq_some_iff.1 hu).1
    rcases hrow.2 with ⟨e, e0⟩ | ⟨g, cap, cur, e, hb, hg, _, _, hs, ht⟩
    · omega
    · rw [hve] at e
      injection e with e1
      refine ⟨g, e1, hb, ?_⟩
      rw [blk_cell hg]
      have : cur.toList[i]? = some u := by
        rw [← hu, ← ht, List.getElem?_take_of_lt (by omega)]
      rwa [Array.getElem?_toList] at this
  subst hve
  clear hrow
  have HCELL := hide hcell
  have HCL := hide hcl
  clear hcell hcl
  unfold pass0
  go_enter Tryz.func139, Tryz.ntmps139
  go_upto_region 1 with fail
  have n1 : New w (w.alloc (.cells #[.pointer none, .pointer none] 234)) := (Upd.refl _ _).alloc _
  have hb := blk_alloc w (.cells #[.pointer none, .pointer none] 234)
  have hAw := hA.lt
  generalize w.alloc (.cells #[.pointer none, .pointer none] 234) = w1 at n1 hb ⊢
  have hBw : A ≠ w.heap.size := by omega
  generalize w.heap.size = B at hb hBw ⊢
  have HB := hide hb
  have HA1 := hide (hA.new n1)
  have N1 := hide n1
  have hxb : (xs.length : Int) ≤ 100 := by omega
  clear hb hA n1 hAw
  go_wp2_with fail
  go_loopw [7, 10] (fun _ iv wr => ∃ i : Nat, iv = .int .i64 (i : Int) ∧ i ≤ xs.length ∧ Hid (MsB wr A (zeros (xs.take i) m)) ∧ Upd (· = A) w1 wr) (fun _ iv _ => xs.length - (intOf iv).toNat)
  case atStart => exact ⟨0, rfl, Nat.zero_le _, HA1, Upd.refl _ _⟩
  case round =>
    obtain ⟨i, rfl, hi, hM, nr⟩ := hrel
    obtain ⟨wq, rfl⟩ : ∃ wq : World, wq = wr := ⟨_, rfl⟩
    by_cases hlt : i < xs.length
    · obtain ⟨x, hx⟩ : ∃ x, xs[i]? = some x := ⟨_, List.getElem?_eq_getElem hlt⟩
      obtain ⟨u, hu⟩ : ∃ u, vs[i]? = some u := ⟨_, List.getElem?_eq_getElem (by omega)⟩
      obtain ⟨g, rfl, hgb, hc⟩ := unhide HCELL i u hu
      have hf := unhide HCL i x u hx hu
      have hfq : FldV base wq u x := (hf.new (unhide N1)).upd nr (fun k hk e => by omega)
      have hcq : wq.cell? ⟨g, i, none⟩ = some u := nr.cell ((unhide N1).cell hc (fun h => h)) (by show ¬ g = A; omega)
      have hBq := nr.old (unhide HB) (fun e => hBw e.symm)
      have rP := rowN_whole hBq 2 rfl
      have d0 : wq.cell? ⟨B, 0, none⟩ = some (.pointer none) := blk_cell hBq 0
      have d1 : wq.cell? ⟨B, 1, none⟩ = some (.pointer none) := blk_cell hBq 1
      obtain ⟨F, caps, rfl, hE, hcall⟩ := field_any x base A _ u wq hfq (unhide hM) hAb
      have hzt := zeros_take hx m
      have HZ := hide hzt
      have hi0 : (i : Int) < (xs.length : Int) := by omega
      unfold pass0 at hcall
      clear hf hfq hc hBq hzt hx hu
      go_wp2_with fail
      refine hcall.mono ?_
      rintro e w3 ⟨rfl, hM3, u3⟩
      have hn3 := nr.trans u3
      have HM3 := hide hM3
      clear hcall rP d0 d1 hcq hE hM3 u3 nr
      go_wp2_with fail
      go_roundw
      case rel => exact ⟨i + 1, by go_num, by omega, by rw [unhide HZ]; exact HM3, hn3⟩
      case measure => simp [intOf]; omega
    · obtain rfl : i = xs.length := by omega
      rw [List.take_length] at hM
      go_wp2_with fail
      go_end0
      exact ⟨rfl, unhide hM, ((unhide N1).mono (fun _ _ h => h.elim)).trans nr⟩

-- equality of messages
theorem Tryz.flatMsg : flatF Tryz.prog 5 101 = some (.int .i64 :: .int .u32 :: .int .u64 :: .int .u64 :: (List.replicate 32 (.int .u8) ++ [.int .i64, .int .i64])) := by kernel_rfl
theorem Tryz.eqMsg : eqB Tryz.prog 5 101 = true := by kernel_rfl
theorem Tryz.aggMsg : aggB Tryz.prog 101 = true := by kernel_rfl
theorem wfI {n : Int} (h : -9223372036854775808 ≤ n ∧ n ≤ 9223372036854775807) : (Lit.int .i64 n).wf = true := by
  simp [Lit.wf, IntKind.min, IntKind.max, IntKind.signed, IntKind.bits]; omega
theorem wfU {n : Int} (h : 0 ≤ n ∧ n < 18446744073709551616) : (Lit.int .u64 n).wf = true := by
  simp [Lit.wf, IntKind.min, IntKind.max, IntKind.signed, IntKind.bits]; omega
theorem wfW {n : Int} (h : 0 ≤ n ∧ n < 4294967296) : (Lit.int .u32 n).wf = true := by
  simp [Lit.wf, IntKind.min, IntKind.max, IntKind.signed, IntKind.bits]; omega
theorem msg_fits {m : MsgV} (h : MsgOk m) : Fits (.int .i64 :: .int .u32 :: .int .u64 :: .int .u64 :: (List.replicate 32 (.int .u8) ++ [.int .i64, .int .i64])) m.cells :=
  ⟨_, _, rfl, ⟨_, rfl, wfI h.kind⟩, _, _, rfl, ⟨_, rfl, wfW h.ch⟩, _, _, rfl, ⟨_, rfl, wfU h.id⟩, _, _, rfl, ⟨_, rfl, wfU h.amount⟩, Fits.app (hsh_fits h.len h.hash) ⟨_, _, rfl, ⟨_, rfl, wfI h.expiry⟩, _, _, rfl, ⟨_, rfl, wfI h.number⟩, rfl⟩⟩
def eqMsg (x y : Value) : Sem Value := binOp .eql 101 x y
theorem eq_msg_fold (x y : Value) : binOp .eql 101 x y = eqMsg x y := rfl
theorem cells_inj {a b : MsgV} (ha : a.hash.length = 32) (hb : b.hash.length = 32) (h : a.cells = b.cells) : a = b := by
  obtain ⟨a1, a2, a3, a4, a5, a6, a7⟩ := a
  obtain ⟨b1, b2, b3, b4, b5, b6, b7⟩ := b
  unfold MsgV.cells at h
  simp only [List.cons.injEq, Value.int.injEq, true_and] at h
  obtain ⟨rfl, rfl, rfl, rfl, h⟩ := h
  have ha' : a5.length = 32 := ha
  have hb' : b5.length = 32 := hb
  have := List.append_inj h (by simp [ha', hb'])
  obtain ⟨h1, h2⟩ := this
  have h5 : a5 = b5 := hshV_inj h1
  simp only [List.cons.injEq, Value.int.injEq, true_and, and_true] at h2
  obtain ⟨rfl, rfl⟩ := h2
  rw [h5]
instance : DecidableEq MsgV := fun a b =>
  decidable_of_iff (a.kind = b.kind ∧ a.ch = b.ch ∧ a.id = b.id ∧ a.amount = b.amount ∧ a.hash = b.hash ∧ a.expiry = b.expiry ∧ a.number = b.number)
    ⟨by rintro ⟨h1, h2, h3, h4, h5, h6, h7⟩; cases a; cases b; simp_all, by rintro rfl; exact ⟨rfl, rfl, rfl, rfl, rfl, rfl, rfl⟩⟩
theorem eq_msg {a b : MsgV} (ha : MsgOk a) (hb : MsgOk b) (w : World) : (eqMsg (.agg a.cells.toArray) (.agg b.cells.toArray)).run Tryz.prog w = .ok (.bool (decide (a = b))) w := by
  refine run_eql_flat 5 (by decide) Tryz.eqMsg Tryz.flatMsg Tryz.aggMsg (msg_fits ha) (msg_fits hb) (decide (a = b)) ?_ w
  constructor
  · intro e
    rw [of_decide_eq_true e]
  · intro e
    exact decide_eq_true (cells_inj ha.len hb.len e)
theorem zero_ok {m : MsgV} (h : MsgOk m) (x : Fld) : MsgOk (x.zero m) := by
  have z : ∀ b ∈ z32i, 0 ≤ b ∧ b ≤ 255 := z32i_bytes
  cases x
  · exact ⟨h.kind, show (0 : Int) ≤ 0 ∧ (0 : Int) < 4294967296 by decide, h.id, h.amount, h.len, h.hash, h.expiry, h.number⟩
  · exact ⟨h.kind, h.ch, show (0 : Int) ≤ 0 ∧ (0 : Int) < 18446744073709551616 by decide, h.amount, h.len, h.hash, h.expiry, h.number⟩
  · exact ⟨h.kind, h.ch, h.id, show (0 : Int) ≤ 0 ∧ (0 : Int) < 18446744073709551616 by decide, h.len, h.hash, h.expiry, h.number⟩
  · exact ⟨h.kind, h.ch, h.id, h.amount, z32i_len, z, h.expiry, h.number⟩
  · exact ⟨h.kind, h.ch, h.id, h.amount, h.len, h.hash, show (-9223372036854775808 : Int) ≤ 0 ∧ (0 : Int) ≤ 9223372036854775807 by decide, h.number⟩
  · exact ⟨h.kind, h.ch, h.id, h.amount, h.len, h.hash, h.expiry, show (-9223372036854775808 : Int) ≤ 0 ∧ (0 : Int) ≤ 9223372036854775807 by decide⟩
theorem zeros_ok (xs : List Fld) : ∀ {m : MsgV}, MsgOk m → MsgOk (zeros xs m) := by
  induction xs with
  | nil => intro m h; exact h
  | cons x xs ih => intro m h; exact ih (zero_ok h x)
def kindMsg (k : Int) : MsgV := ⟨k, 0, 0, 0, z32i, 0, 0⟩
theorem kindMsg_ok {k : Int} (h : -9223372036854775808 ≤ k ∧ k ≤ 9223372036854775807) : MsgOk (kindMsg k) :=
  ⟨h, show (0 : Int) ≤ 0 ∧ (0 : Int) < 4294967296 by decide, show (0 : Int) ≤ 0 ∧ (0 : Int) < 18446744073709551616 by decide, show (0 : Int) ≤ 0 ∧ (0 : Int) < 18446744073709551616 by decide, z32i_len, z32i_bytes, show (-9223372036854775808 : Int) ≤ 0 ∧ (0 : Int) ≤ 9223372036854775807 by decide, show (-9223372036854775808 : Int) ≤ 0 ∧ (0 : Int) ≤ 9223372036854775807 by decide⟩
theorem zeros_kind (xs : List Fld) : ∀ m : MsgV, (zeros xs m).kind = m.kind := by
  induction xs with
  | nil => intro m; rfl
  | cons x xs ih => intro m; exact (ih _).trans (by cases x <;> rfl)
/-- A message that may be. -/
def mayMsg (m : MsgV) : Bool :=
  match fieldsOf m.kind with
  | none => false
  | some xs => if m.expiry < 0 ∨ 1073741824 < m.expiry ∨ m.number < 0 ∨ 65535 < m.number ∨ 1125899906842624 < m.amount then false else decide (zeros xs m = kindMsg m.kind)
theorem may_none {m : MsgV} (h : fieldsOf m.kind = none) : mayMsg m = false := by unfold mayMsg; rw [h]
theorem may_some {m : MsgV} {xs : List Fld} (h : fieldsOf m.kind = some xs) : mayMsg m = if m.expiry < 0 ∨ 1073741824 < m.expiry ∨ m.number < 0 ∨ 65535 < m.number ∨ 1125899906842624 < m.amount then false else decide (zeros xs m = kindMsg m.kind) := by unfold mayMsg; rw [h]
theorem fieldsOf_len {k : Int} {xs : List Fld} (h : fieldsOf k = some xs) : xs.length ≤ 100 := by
  unfold fieldsOf at h
  repeat' (split at h)
  all_goals first
    | (injection h with h; subst h; decide)
    | cases h

attribute [local go_sem ↓ high] ld_msg_fold st_msg_fold al_msg_fold bd_msg_fold eq_msg_fold
attribute [local go_sem] ld_msg st_msg al_msg rowN_drew
theorem bd_msg_kind (k : Int) (w : World) : (bdMsg #[(0, .int .i64 k)]).run Tryz.prog w = .ok (.agg (kindMsg k).cells.toArray) w := run_build w _ _ _ (by kernel_rfl)
set_option maxRecDepth 100000 in
set_option maxHeartbeats 1000000 in
theorem mayMsg_any (m : MsgV) (hm : MsgOk m) (w : World) : Calls Tryz.prog 143 #[.agg m.cells.toArray] w (Makes (.bool (mayMsg m)) w) := by
  go_enter Tryz.func143, Tryz.ntmps143
  go_upto_region 1 with fail
  have hA := ms_alloc w m hm.len
  have n1 : New w (w.alloc (.cells m.cells.toArray 101)) := (Upd.refl _ _).alloc _
  generalize w.alloc (.cells m.cells.toArray 101) = w1 at n1 hA ⊢
  obtain ⟨A, hAe⟩ : ∃ A, A = w.heap.size := ⟨_, rfl⟩
  rw [← hAe] at hA ⊢
  have hAl : w.heap.size ≤ A := by omega
  clear hAe
  obtain ⟨m0, -, -, -, -, -, -⟩ := hA.cells
  have HA := hide hA
  clear hA
  cases hk : fieldsOf m.kind with
  | none =>
    have HE := hide (may_none hk)
    have hf := fields_none m.kind hk w1
    clear hk hm
    go_wp2_with fail
    refine hf.mono ?_
    rintro e w2 ⟨rfl, n2⟩
    have n12 := n1.trans n2
    clear hf m0
    go_wp2_with fail
    go_ret
    exact ⟨by rw [unhide HE]; rfl, n12⟩
  | some xs =>
    have HE := hide (may_some hk)
    have hxl := fieldsOf_len hk
    have hf := fields_any m.kind xs hk w1
    have hkb := hm.kind
    have HM := hide hm
    clear hk hm
    go_wp2_with fail
    refine hf.mono ?_
    rintro e w2 ⟨v, rfl, n2, hfl⟩
    have hA2 := (unhide HA).new n2
    obtain ⟨-, -, -, m3, m36, m37, -⟩ := hA2.cells
    have n12 := n1.trans n2
    have HFL := hide hfl
    have hA1lt := (unhide HA).lt
    clear hf m0 hfl n1 n2
    by_cases e1 : m.expiry < 0
    · rw [if_pos (.inl e1)] at HE
      clear hA2
      go_wp2_with fail
      go_ret
      exact ⟨by rw [unhide HE]; rfl, n12⟩
    by_cases e2 : 1073741824 < m.expiry
    · rw [if_pos (.inr (.inl e2))] at HE
      clear hA2
      go_wp2_with fail
      go_ret
      exact ⟨by rw [unhide HE]; rfl, n12⟩
    by_cases e3 : m.number < 0
    · rw [if_pos (.inr (.inr (.inl e3)))] at HE
      clear hA2
      go_wp2_with fail
      go_ret
      exact ⟨by rw [unhide HE]; rfl, n12⟩
    by_cases e4 : 65535 < m.number
    · rw [if_pos (.inr (.inr (.inr (.inl e4))))] at HE
      clear hA2
      go_wp2_with fail
      go_ret
      exact ⟨by rw [unhide HE]; rfl, n12⟩
    by_cases e5 : 1125899906842624 < m.amount
    · rw [if_pos (.inr (.inr (.inr (.inr e5))))] at HE
      clear hA2
      go_wp2_with fail
      go_ret
      exact ⟨by rw [unhide HE]; rfl, n12⟩
    rw [if_neg (by omega)] at HE
    have hth := through_any w1.heap.size A v xs m w2 (unhide HFL) hA2 hA1lt hxl
    unfold pass0 at hth
    clear hA2
    go_wp2_with fail
    refine hth.mono ?_
    rintro e w3 ⟨rfl, hM3, u3⟩
    have n13 : New w w3 := n12.then u3 (fun i hi e => by omega)
    have hz := zeros_kind xs m
    have hok := zeros_ok xs (unhide HM)
    obtain ⟨z0, -, -, -, -, -, -⟩ := hM3.cells
    rw [hz] at z0
    have rM := hM3.row
    have hbd := fun W => bd_msg_kind m.kind W
    have heq := fun W => eq_msg hok (kindMsg_ok hkb) W
    clear hth u3 m3 m36 m37 hM3
    go_wp2_with fail
    go_ret
    exact ⟨by rw [unhide HE]; rfl, n13⟩

end Go.Proofs.YtfmkdoachjgjbaaGreatDoor
namespace Go.Proofs.YtfmkdoachjgjbaaGreatDoor
open Go.RowKit

/-- How a function value in the map is read. -/
def fnR (v : Value) : Option (DataW Unit × List MemPlace) :=
  match v with
  | .func (.func F) a b => if a.size = 0 ∧ b.size = 0 then some (.lit (.int .i64 F), []) else none
  | .nilFunc => some (.lit (.int .i64 (-1)), [])
  | _ => none
theorem fnR_inv {v : Value} {F : Nat} {ps : List MemPlace} (h : fnR v = some (.lit (.int .i64 F), ps)) : v = .func (.func F) #[] #[] := by
  unfold fnR at h
  split at h
  · split at h
    · rename_i hs
      simp only [Option.some.injEq, Prod.mk.injEq, DataW.lit.injEq, Lit.int.injEq, true_and] at h
      have e : _ = F := Int.ofNat.inj h.1
      rw [Array.eq_empty_of_size_eq_zero hs.1, Array.eq_empty_of_size_eq_zero hs.2, e]
    · cases h
  · simp only [Option.some.injEq, Prod.mk.injEq, DataW.lit.injEq, Lit.int.injEq, true_and] at h
    omega
  · cases h
def hearD : DataW Unit := ((((((((DataW.map []).put (.int .i64 3) (.lit (.int .i64 176))).put (.int .i64 4) (.lit (.int .i64 177))).put (.int .i64 5) (.lit (.int .i64 178))).put (.int .i64 6) (.lit (.int .i64 179))).put (.int .i64 7) (.lit (.int .i64 180))).put (.int .i64 8) (.lit (.int .i64 181))).put (.int .i64 9) (.lit (.int .i64 182)))
/-- The map of hearers, in block b. -/
def HearM (w : World) (b : Nat) : Prop := w.ownsMap Tryz.prog 3 fnR b 7 hearD
set_option maxRecDepth 100000 in
set_option maxHeartbeats 1000000 in
theorem hearers_any (w : World) : Calls Tryz.prog 144 #[] w fun e w' => ∃ b, e = .returned (.map (some b)) ∧ New w w' ∧ HearM w' b := by
  have K := Maps.int_keyed Tryz.underlying3
  have h0 := World.ownsMap_made w Tryz.prog 3 fnR
  have n0 : New w (w.alloc (.map #[] 0)) := (Upd.refl _ _).alloc _
  have key : ∀ k : Int, (Lit.int .i64 k).wf = true → keyOf Tryz.prog 3 (.int .i64 k) = some (.int .i64 k) := fun k hk => Maps.keyOf_int_mk Tryz.underlying3 hk
  have hmm := @run_makeMap Tryz.prog
  obtain ⟨w1, r1, h1, g1⟩ := h0.update K Tryz.underlying241 (by decide) (key 3 (by decide)) (val := .func (.func 176) #[] #[]) (d := .lit (.int .i64 176)) (ps := []) rfl
  obtain ⟨w2, r2, h2, g2⟩ := h1.update K Tryz.underlying241 (by decide) (key 4 (by decide)) (val := .func (.func 177) #[] #[]) (d := .lit (.int .i64 177)) (ps := []) rfl
  obtain ⟨w3, r3, h3, g3⟩ := h2.update K Tryz.underlying241 (by decide) (key 5 (by decide)) (val := .func (.func 178) #[] #[]) (d := .lit (.int .i64 178)) (ps := []) rfl
  obtain ⟨w4, r4, h4, g4⟩ := h3.update K Tryz.underlying241 (by decide) (key 6 (by decide)) (val := .func (.func 179) #[] #[]) (d := .lit (.int .i64 179)) (ps := []) rfl
  obtain ⟨w5, r5, h5, g5⟩ := h4.update K Tryz.underlying241 (by decide) (key 7 (by decide)) (val := .func (.func 180) #[] #[]) (d := .lit (.int .i64 180)) (ps := []) rfl
  obtain ⟨w6, r6, h6, g6⟩ := h5.update K Tryz.underlying241 (by decide) (key 8 (by decide)) (val := .func (.func 181) #[] #[]) (d := .lit (.int .i64 181)) (ps := []) rfl
  obtain ⟨w7, r7, h7, g7⟩ := h6.update K Tryz.underlying241 (by decide) (key 9 (by decide)) (val := .func (.func 182) #[] #[]) (d := .lit (.int .i64 182)) (ps := []) rfl
  have n7 : New w w7 := by
    have hb : ∀ {a b : World}, a.grownBy b (some w.heap.size) → New w a → New w b := fun g n => n.grown g (fun k hk hkk => by injection hk with hk; omega)
    exact hb g7 (hb g6 (hb g5 (hb g4 (hb g3 (hb g2 (hb g1 n0))))))
  have HM : HearM w7 w.heap.size := h7
  clear key K h0 h1 h2 h3 h4 h5 h6 h7 g1 g2 g3 g4 g5 g6 g7 n0
  go_enter Tryz.func144, Tryz.ntmps144
  go_wp2_with fail
  go_ret
  exact ⟨_, rfl, n7, HM⟩
theorem hear_look {w : World} {b : Nat} (h : HearM w b) (k : Int) (F : Nat) (hk : (Lit.int .i64 k).wf = true) (hh : Maps.has hearD (.int .i64 k) = true) (hd : hearD.atKey (.int .i64 k) (.lit (.int .i64 (-1))) = .lit (.int .i64 F)) :
    (Instr.lookup 241 (.map (some b)) (.int .i64 k) true).run Tryz.prog w = .ok (.tuple #[.func (.func F) #[] #[], .bool true]) w := by
  obtain ⟨v, ps, hr, hv⟩ := h.look_ok (Maps.int_keyed Tryz.underlying3) Tryz.underlying241 (z := .nilFunc) (zd := .lit (.int .i64 (-1))) (zp := []) (by kernel_rfl) rfl (Maps.keyOf_int_mk Tryz.underlying3 hk)
  rw [hd] at hv
  rw [hr, fnR_inv hv, hh]
theorem look_8 {w : World} {b : Nat} (h : HearM w b) : (Instr.lookup 241 (.map (some b)) (.int .i64 8) true).run Tryz.prog w = .ok (.tuple #[.func (.func 181) #[] #[], .bool true]) w := hear_look h 8 _ (by decide) (by decide +kernel) rfl

end Go.Proofs.YtfmkdoachjgjbaaGreatDoor
namespace Go.Proofs.YtfmkdoachjgjbaaGreatDoor
open Go.RowKit Go.Sort

theorem get!_of {X : List Item} {n : Nat} {x : Item} (h : X[n]? = some x) : X[n]! = x := by rw [List.getElem!_eq_getElem?_getD, h]; rfl
/-- From off on, block g holds the items X; to be read. -/
def HeldR (w : World) (g off : Nat) (X : List Item) : Prop :=
  ∃ C T fz, w.heap[g]? = some (.cells C T fz) ∧ off + X.length * 36 ≤ C.size ∧ ∀ i x, X[i]? = some x → ∀ j, j < 36 → C[off + i * 36 + j]? = (itemCells x)[j]?
theorem HeldR.row {w : World} {g off : Nat} {xs : List Item} (h : HeldR w g off xs) {i : Nat} {x : Item} (hi : xs[i]? = some x) : rowN w g (off + i * 36) 36 = some (itemCells x).toArray := by
  obtain ⟨C, T, fz, hb, hs, hc⟩ := h
  have hlt : i < xs.length := (List.getElem?_eq_some_iff.1 hi).1
  have hle : off + i * 36 + 36 ≤ C.size := by have := Nat.mul_le_mul_right 36 (show i + 1 ≤ xs.length from hlt); omega
  rw [rowN_blk hb _ _ hle]
  congr 1
  apply Array.ext'
  apply List.ext_getElem?
  intro j
  rw [Array.getElem?_toList, Array.getElem?_extract]
  by_cases hj : j < 36
  · rw [if_pos (by omega), hc i x hi j hj]
  · rw [if_neg (by omega), List.getElem?_eq_none (by rw [item_len]; omega)]
theorem HeldR.upd {S : Nat → Prop} {w w' : World} {b off : Nat} {xs : List Item} (h : HeldR w b off xs) (u : Upd S w w') (hn : ¬ S b) : HeldR w' b off xs := by
  obtain ⟨C, T, fz, hb, r⟩ := h
  exact ⟨C, T, fz, u.old hb hn, r⟩
theorem HeldR.lt {w : World} {g off : Nat} {xs : List Item} (h : HeldR w g off xs) : g < w.heap.size := by
  obtain ⟨C, T, fz, hb, r⟩ := h
  exact blk_lt hb
theorem Held.toR {w : World} {g off : Nat} {xs : List Item} (h : Held w g off xs) : HeldR w g off xs := by
  obtain ⟨C, T, hb, hs, hc⟩ := h
  refine ⟨C, T, _, hb, hs, fun i x hx j hj => ?_⟩
  rw [hc i (List.getElem?_eq_some_iff.1 hx).1 j hj, get!_of hx]
/-- What a slice of items holds; to be read. -/
def ItemsR (w : World) (v : Value) (X : List Item) : Prop := (∃ a c, v = .slice a 0 c ∧ X = []) ∨ ∃ g off cap, v = .slice (some ⟨g, off, none⟩) X.length cap ∧ HeldR w g off X
theorem ItemsR.new {w w' : World} {v : Value} {X : List Item} (h : ItemsR w v X) (u : New w w') : ItemsR w' v X := by
  rcases h with h | ⟨g, off, cap, e, h⟩
  · exact .inl h
  · exact .inr ⟨g, off, cap, e, h.upd u (fun h => h)⟩
theorem Items.toR {w : World} {v : Value} {X : List Item} (h : Items w v X) : ItemsR w v X := by
  rcases h with h | ⟨g, cap, e, h⟩
  · exact .inl h
  · exact .inr ⟨g, 0, cap, e, h.toR⟩
theorem ItemsR.slice {w : World} {v : Value} {X : List Item} (h : ItemsR w v X) : ∃ a c, v = .slice a X.length c := by
  rcases h with ⟨_, _, rfl, rfl⟩ | ⟨g, off, cap, rfl, _⟩
  · exact ⟨_, _, rfl⟩
  · exact ⟨_, _, rfl⟩

theorem ItemsR.at {w : World} {a : Option Addr} {n c : Nat} {X : List Item} (h : ItemsR w (.slice a n c) X) {i : Nat} {x : Item} (hi : X[i]? = some x) :
    ∃ b off, a = some ⟨b, off, none⟩ ∧ n = X.length ∧ rowN w b (off + i * 36) 36 = some (itemCells x).toArray := by
  rcases h with ⟨_, _, e, rfl⟩ | ⟨b, off, cap, e, hh⟩
  · simp at hi
  · cases e
    exact ⟨b, off, rfl, rfl, hh.row hi⟩

end Go.Proofs.YtfmkdoachjgjbaaGreatDoor
namespace Go.Proofs.YtfmkdoachjgjbaaGreatDoor
open Go.RowKit

end Go.Proofs.YtfmkdoachjgjbaaGreatDoor
namespace Go.Proofs.YtfmkdoachjgjbaaGreatDoor
open Go.RowKit Go.Sort

/-- The text of a view, as it is written. -/
def itStep (s : ByteArray) (x : Item) : ByteArray := s ++ numS (if x.offered then 1 else 0) 1 ++ numS x.h.id.toNat 8 ++ numS x.h.amount.toNat 8 ++ strOfNums x.h.hash.toList ++ numS (x.h.expiry % 18446744073709551616).toNat 8
def headS (ch n A B : Int) (m : Nat) : ByteArray := numS ch.toNat 4 ++ numS (n % 18446744073709551616).toNat 8 ++ numS A.toNat 8 ++ numS B.toNat 8 ++ numS (m % 65536) 2
def textS (ch n A B : Int) (X : List Item) : ByteArray := X.foldl itStep (headS ch n A B X.length)

theorem Tryz.infoHashT : (Tryz.prog.info? 35).map (·.size) = some 32 := by kernel_rfl
def ldHashT (x : Value) : Sem Value := Instr.loadAt 35 x
theorem ld_hasht_fold (x : Value) : Instr.loadAt 35 x = ldHashT x := rfl
theorem ld_hasht (b o : Nat) (w : World) : (ldHashT (.pointer (some ⟨b, o, none⟩))).run Tryz.prog w = match rowN w b o 32 with | some A => .ok (.agg A) w | none => slowLd Tryz.prog 35 w b o :=
  run_loadAt_rowN 35 32 _ Tryz.underlying35 rfl Tryz.infoHashT b o w
attribute [local go_sem ↓ high] ld_item_fold ld_hasht_fold
attribute [local go_sem] ld_item ld_hasht

end Go.Proofs.YtfmkdoachjgjbaaGreatDoor
