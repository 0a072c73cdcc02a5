/-
  wire.May.
-/
import Derived.Test.YtfmkdoachjgjbaaGreatDoorFld3
import Derived.Test.YtfmkdoachjgjbaaGreatDoorMcb
import Derived.Maps.OwnSet
import Derived.Test.YtfmkdoachjgjbaaGreatDoorMbg
import Derived.Test.YtfmkdoachjgjbaaGreatDoorMaf
import Derived.Test.YtfmkdoachjgjbaaGreatDoorTxt
set_option linter.unusedVariables false
set_option linter.unusedSimpArgs false
namespace Go.Proofs.YtfmkdoachjgjbaaGreatDoor
open Go.RowKit

def zeros (xs : List Fld) (m : MsgV) : MsgV := xs.foldl (fun m x => x.zero m) m
theorem zeros_take {xs : List Fld} {i : Nat} {x : Fld} (h : xs[i]? = some x) (m : MsgV) : zeros (xs.take (i + 1)) m = x.zero (zeros (xs.take i) m) := by
  unfold zeros
  rw [List.take_add_one, h, List.foldl_append]
  rfl
set_option maxRecDepth 100000 in
set_option maxHeartbeats 1000000 in
theorem through_any (base A : Nat) (v : Value) (xs : List Fld) (m : MsgV) (w : World) (hv : FldsO base w v xs) (hA : MsB w A m) (hAb : A < base) (hxl : xs.length ≤ 100) :
    Calls Tryz.prog 139 #[pass0, v, .pointer (some ⟨A, 0, none⟩)] w fun e w' => e = .returned (.tuple #[]) ∧ MsB w' A (zeros xs m) ∧ Upd (· = A) w w' := by
  obtain ⟨vs, hrow, hvl, hcl⟩ := hv
  obtain ⟨va, vcap, hve⟩ := own_shape' hrow
  have hcell : ∀ (i : Nat) (u : Value), vs[i]? = some u → ∃ g, va = some ⟨g, 0, none⟩ ∧ base ≤ g ∧ w.cell? ⟨g, i, none⟩ = some u := by
    intro i u hu
    have hlt := (List.getElem?_eq_some_iff.1 hu).1
    rcases hrow.2 with ⟨e, e0⟩ | ⟨g, cap, cur, e, hb, hg, _, _, hs, ht⟩
    · omega
    · rw [hve] at e
      injection e with e1
      refine ⟨g, e1, hb, ?_⟩
      rw [blk_cell hg]
      have : cur.toList[i]? = some u := by
        rw [← hu, ← ht, List.getElem?_take_of_lt (by omega)]
      rwa [Array.getElem?_toList] at this
  subst hve
  clear hrow
  have HCELL := hide hcell
  have HCL := hide hcl
  clear hcell hcl
  unfold pass0
  go_enter Tryz.func139, Tryz.ntmps139
  go_upto_region 1 with fail
  have n1 : New w (w.alloc (.cells #[.pointer none, .pointer none] 234)) := (Upd.refl _ _).alloc _
  have hb := blk_alloc w (.cells #[.pointer none, .pointer none] 234)
  have hAw := hA.lt
  generalize w.alloc (.cells #[.pointer none, .pointer none] 234) = w1 at n1 hb ⊢
  have hBw : A ≠ w.heap.size := by omega
  generalize w.heap.size = B at hb hBw ⊢
  have HB := hide hb
  have HA1 := hide (hA.new n1)
  have N1 := hide n1
  have hxb : (xs.length : Int) ≤ 100 := by omega
  clear hb hA n1 hAw
  go_wp2_with fail
  go_loopw [7, 10] (fun _ iv wr => ∃ i : Nat, iv = .int .i64 (i : Int) ∧ i ≤ xs.length ∧ Hid (MsB wr A (zeros (xs.take i) m)) ∧ Upd (· = A) w1 wr) (fun _ iv _ => xs.length - (intOf iv).toNat)
  case atStart => exact ⟨0, rfl, Nat.zero_le _, HA1, Upd.refl _ _⟩
  case round =>
    obtain ⟨i, rfl, hi, hM, nr⟩ := hrel
    obtain ⟨wq, rfl⟩ : ∃ wq : World, wq = wr := ⟨_, rfl⟩
    by_cases hlt : i < xs.length
    · obtain ⟨x, hx⟩ : ∃ x, xs[i]? = some x := ⟨_, List.getElem?_eq_getElem hlt⟩
      obtain ⟨u, hu⟩ : ∃ u, vs[i]? = some u := ⟨_, List.getElem?_eq_getElem (by omega)⟩
      obtain ⟨g, rfl, hgb, hc⟩ := unhide HCELL i u hu
      have hf := unhide HCL i x u hx hu
      have hfq : FldV base wq u x := (hf.new (unhide N1)).upd nr (fun k hk e => by omega)
      have hcq : wq.cell? ⟨g, i, none⟩ = some u := nr.cell ((unhide N1).cell hc (fun h => h)) (by show ¬ g = A; omega)
      have hBq := nr.old (unhide HB) (fun e => hBw e.symm)
      have rP := rowN_whole hBq 2 rfl
      have d0 : wq.cell? ⟨B, 0, none⟩ = some (.pointer none) := blk_cell hBq 0
      have d1 : wq.cell? ⟨B, 1, none⟩ = some (.pointer none) := blk_cell hBq 1
      obtain ⟨F, caps, rfl, hE, hcall⟩ := field_any x base A _ u wq hfq (unhide hM) hAb
      have hzt := zeros_take hx m
      have HZ := hide hzt
      have hi0 : (i : Int) < (xs.length : Int) := by omega
      unfold pass0 at hcall
      clear hf hfq hc hBq hzt hx hu
      go_wp2_with fail
      refine hcall.mono ?_
      rintro e w3 ⟨rfl, hM3, u3⟩
      have hn3 := nr.trans u3
      have HM3 := hide hM3
      clear hcall rP d0 d1 hcq hE hM3 u3 nr
      go_wp2_with fail
      go_roundw
      case rel => exact ⟨i + 1, by go_num, by omega, by rw [unhide HZ]; exact HM3, hn3⟩
      case measure => simp [intOf]; omega
    · obtain rfl : i = xs.length := by omega
      rw [List.take_length] at hM
      go_wp2_with fail
      go_end0
      exact ⟨rfl, unhide hM, ((unhide N1).mono (fun _ _ h => h.elim)).trans nr⟩

-- equality of messages
theorem Tryz.flatMsg : flatF Tryz.prog 5 101 = some (.int .i64 :: .int .u32 :: .int .u64 :: .int .u64 :: (List.replicate 32 (.int .u8) ++ [.int .i64, .int .i64])) := by kernel_rfl
theorem Tryz.eqMsg : eqB Tryz.prog 5 101 = true := by kernel_rfl
theorem Tryz.aggMsg : aggB Tryz.prog 101 = true := by kernel_rfl
theorem wfI {n : Int} (h : -9223372036854775808 ≤ n ∧ n ≤ 9223372036854775807) : (Lit.int .i64 n).wf = true := by
  simp [Lit.wf, IntKind.min, IntKind.max, IntKind.signed, IntKind.bits]; omega
theorem wfU {n : Int} (h : 0 ≤ n ∧ n < 18446744073709551616) : (Lit.int .u64 n).wf = true := by
  simp [Lit.wf, IntKind.min, IntKind.max, IntKind.signed, IntKind.bits]; omega
theorem wfW {n : Int} (h : 0 ≤ n ∧ n < 4294967296) : (Lit.int .u32 n).wf = true := by
  simp [Lit.wf, IntKind.min, IntKind.max, IntKind.signed, IntKind.bits]; omega
theorem msg_fits {m : MsgV} (h : MsgOk m) : Fits (.int .i64 :: .int .u32 :: .int .u64 :: .int .u64 :: (List.replicate 32 (.int .u8) ++ [.int .i64, .int .i64])) m.cells :=
  ⟨_, _, rfl, ⟨_, rfl, wfI h.kind⟩, _, _, rfl, ⟨_, rfl, wfW h.ch⟩, _, _, rfl, ⟨_, rfl, wfU h.id⟩, _, _, rfl, ⟨_, rfl, wfU h.amount⟩, Fits.app (hsh_fits h.len h.hash) ⟨_, _, rfl, ⟨_, rfl, wfI h.expiry⟩, _, _, rfl, ⟨_, rfl, wfI h.number⟩, rfl⟩⟩
def eqMsg (x y : Value) : Sem Value := binOp .eql 101 x y
theorem eq_msg_fold (x y : Value) : binOp .eql 101 x y = eqMsg x y := rfl
theorem cells_inj {a b : MsgV} (ha : a.hash.length = 32) (hb : b.hash.length = 32) (h : a.cells = b.cells) : a = b := by
  obtain ⟨a1, a2, a3, a4, a5, a6, a7⟩ := a
  obtain ⟨b1, b2, b3, b4, b5, b6, b7⟩ := b
  unfold MsgV.cells at h
  simp only [List.cons.injEq, Value.int.injEq, true_and] at h
  obtain ⟨rfl, rfl, rfl, rfl, h⟩ := h
  have ha' : a5.length = 32 := ha
  have hb' : b5.length = 32 := hb
  have := List.append_inj h (by simp [ha', hb'])
  obtain ⟨h1, h2⟩ := this
  have h5 : a5 = b5 := hshV_inj h1
  simp only [List.cons.injEq, Value.int.injEq, true_and, and_true] at h2
  obtain ⟨rfl, rfl⟩ := h2
  rw [h5]
instance : DecidableEq MsgV := fun a b =>
  decidable_of_iff (a.kind = b.kind ∧ a.ch = b.ch ∧ a.id = b.id ∧ a.amount = b.amount ∧ a.hash = b.hash ∧ a.expiry = b.expiry ∧ a.number = b.number)
    ⟨by rintro ⟨h1, h2, h3, h4, h5, h6, h7⟩; cases a; cases b; simp_all, by rintro rfl; exact ⟨rfl, rfl, rfl, rfl, rfl, rfl, rfl⟩⟩
theorem eq_msg {a b : MsgV} (ha : MsgOk a) (hb : MsgOk b) (w : World) : (eqMsg (.agg a.cells.toArray) (.agg b.cells.toArray)).run Tryz.prog w = .ok (.bool (decide (a = b))) w := by
  refine run_eql_flat 5 (by decide) Tryz.eqMsg Tryz.flatMsg Tryz.aggMsg (msg_fits ha) (msg_fits hb) (decide (a = b)) ?_ w
  constructor
  · intro e
    rw [of_decide_eq_true e]
  · intro e
    exact decide_eq_true (cells_inj ha.len hb.len e)
theorem zero_ok {m : MsgV} (h : MsgOk m) (x : Fld) : MsgOk (x.zero m) := by
  have z : ∀ b ∈ z32i, 0 ≤ b ∧ b ≤ 255 := z32i_bytes
  cases x
  · exact ⟨h.kind, show (0 : Int) ≤ 0 ∧ (0 : Int) < 4294967296 by decide, h.id, h.amount, h.len, h.hash, h.expiry, h.number⟩
  · exact ⟨h.kind, h.ch, show (0 : Int) ≤ 0 ∧ (0 : Int) < 18446744073709551616 by decide, h.amount, h.len, h.hash, h.expiry, h.number⟩
  · exact ⟨h.kind, h.ch, h.id, show (0 : Int) ≤ 0 ∧ (0 : Int) < 18446744073709551616 by decide, h.len, h.hash, h.expiry, h.number⟩
  · exact ⟨h.kind, h.ch, h.id, h.amount, z32i_len, z, h.expiry, h.number⟩
  · exact ⟨h.kind, h.ch, h.id, h.amount, h.len, h.hash, show (-9223372036854775808 : Int) ≤ 0 ∧ (0 : Int) ≤ 9223372036854775807 by decide, h.number⟩
  · exact ⟨h.kind, h.ch, h.id, h.amount, h.len, h.hash, h.expiry, show (-9223372036854775808 : Int) ≤ 0 ∧ (0 : Int) ≤ 9223372036854775807 by decide⟩
theorem zeros_ok (xs : List Fld) : ∀ {m : MsgV}, MsgOk m → MsgOk (zeros xs m) := by
  induction xs with
  | nil => intro m h; exact h
  | cons x xs ih => intro m h; exact ih (zero_ok h x)
def kindMsg (k : Int) : MsgV := ⟨k, 0, 0, 0, z32i, 0, 0⟩
theorem kindMsg_ok {k : Int} (h : -9223372036854775808 ≤ k ∧ k ≤ 9223372036854775807) : MsgOk (kindMsg k) :=
  ⟨h, show (0 : Int) ≤ 0 ∧ (0 : Int) < 4294967296 by decide, show (0 : Int) ≤ 0 ∧ (0 : Int) < 18446744073709551616 by decide, show (0 : Int) ≤ 0 ∧ (0 : Int) < 18446744073709551616 by decide, z32i_len, z32i_bytes, show (-9223372036854775808 : Int) ≤ 0 ∧ (0 : Int) ≤ 9223372036854775807 by decide, show (-9223372036854775808 : Int) ≤ 0 ∧ (0 : Int) ≤ 9223372036854775807 by decide⟩
theorem zeros_kind (xs : List Fld) : ∀ m : MsgV, (zeros xs m).kind = m.kind := by
  induction xs with
  | nil => intro m; rfl
  | cons x xs ih => intro m; exact (ih _).trans (by cases x <;> rfl)
/-- A message that may be. -/
def mayMsg (m : MsgV) : Bool :=
  match fieldsOf m.kind with
  | none => false
  | some xs => if m.expiry < 0 ∨ 1073741824 < m.expiry ∨ m.number < 0 ∨ 65535 < m.number ∨ 1125899906842624 < m.amount then false else decide (zeros xs m = kindMsg m.kind)
theorem may_none {m : MsgV} (h : fieldsOf m.kind = none) : mayMsg m = false := by unfold mayMsg; rw [h]
theorem may_some {m : MsgV} {xs : List Fld} (h : fieldsOf m.kind = some xs) : mayMsg m = if m.expiry < 0 ∨ 1073741824 < m.expiry ∨ m.number < 0 ∨ 65535 < m.number ∨ 1125899906842624 < m.amount then false else decide (zeros xs m = kindMsg m.kind) := by unfold mayMsg; rw [h]
theorem fieldsOf_len {k : Int} {xs : List Fld} (h : fieldsOf k = some xs) : xs.length ≤ 100 := by
  unfold fieldsOf at h
  repeat' (split at h)
  all_goals first
    | (injection h with h; subst h; decide)
    | cases h

attribute [local go_sem ↓ high] ld_msg_fold st_msg_fold al_msg_fold bd_msg_fold eq_msg_fold
attribute [local go_sem] ld_msg st_msg al_msg rowN_drew
theorem bd_msg_kind (k : Int) (w : World) : (bdMsg #[(0, .int .i64 k)]).run Tryz.prog w = .ok (.agg (kindMsg k).cells.toArray) w := run_build w _ _ _ (by kernel_rfl)
set_option maxRecDepth 100000 in
set_option maxHeartbeats 1000000 in
theorem mayMsg_any (m : MsgV) (hm : MsgOk m) (w : World) : Calls Tryz.prog 143 #[.agg m.cells.toArray] w (Makes (.bool (mayMsg m)) w) := by
  go_enter Tryz.func143, Tryz.ntmps143
  go_upto_region 1 with fail
  have hA := ms_alloc w m hm.len
  have n1 : New w (w.alloc (.cells m.cells.toArray 101)) := (Upd.refl _ _).alloc _
  generalize w.alloc (.cells m.cells.toArray 101) = w1 at n1 hA ⊢
  obtain ⟨A, hAe⟩ : ∃ A, A = w.heap.size := ⟨_, rfl⟩
  rw [← hAe] at hA ⊢
  have hAl : w.heap.size ≤ A := by omega
  clear hAe
  obtain ⟨m0, -, -, -, -, -, -⟩ := hA.cells
  have HA := hide hA
  clear hA
  cases hk : fieldsOf m.kind with
  | none =>
    have HE := hide (may_none hk)
    have hf := fields_none m.kind hk w1
    clear hk hm
    go_wp2_with fail
    refine hf.mono ?_
    rintro e w2 ⟨rfl, n2⟩
    have n12 := n1.trans n2
    clear hf m0
    go_wp2_with fail
    go_ret
    exact ⟨by rw [unhide HE]; rfl, n12⟩
  | some xs =>
    have HE := hide (may_some hk)
    have hxl := fieldsOf_len hk
    have hf := fields_any m.kind xs hk w1
    have hkb := hm.kind
    have HM := hide hm
    clear hk hm
    go_wp2_with fail
    refine hf.mono ?_
    rintro e w2 ⟨v, rfl, n2, hfl⟩
    have hA2 := (unhide HA).new n2
    obtain ⟨-, -, -, m3, m36, m37, -⟩ := hA2.cells
    have n12 := n1.trans n2
    have HFL := hide hfl
    have hA1lt := (unhide HA).lt
    clear hf m0 hfl n1 n2
    by_cases e1 : m.expiry < 0
    · rw [if_pos (.inl e1)] at HE
      clear hA2
      go_wp2_with fail
      go_ret
      exact ⟨by rw [unhide HE]; rfl, n12⟩
    by_cases e2 : 1073741824 < m.expiry
    · rw [if_pos (.inr (.inl e2))] at HE
      clear hA2
      go_wp2_with fail
      go_ret
      exact ⟨by rw [unhide HE]; rfl, n12⟩
    by_cases e3 : m.number < 0
    · rw [if_pos (.inr (.inr (.inl e3)))] at HE
      clear hA2
      go_wp2_with fail
      go_ret
      exact ⟨by rw [unhide HE]; rfl, n12⟩
    by_cases e4 : 65535 < m.number
    · rw [if_pos (.inr (.inr (.inr (.inl e4))))] at HE
      clear hA2
      go_wp2_with fail
      go_ret
      exact ⟨by rw [unhide HE]; rfl, n12⟩
    by_cases e5 : 1125899906842624 < m.amount
    · rw [if_pos (.inr (.inr (.inr (.inr e5))))] at HE
      clear hA2
      go_wp2_with fail
      go_ret
      exact ⟨by rw [unhide HE]; rfl, n12⟩
    rw [if_neg (by omega)] at HE
    have hth := through_any w1.heap.size A v xs m w2 (unhide HFL) hA2 hA1lt hxl
    unfold pass0 at hth
    clear hA2
    go_wp2_with fail
    refine hth.mono ?_
    rintro e w3 ⟨rfl, hM3, u3⟩
    have n13 : New w w3 := n12.then u3 (fun i hi e => by omega)
    have hz := zeros_kind xs m
    have hok := zeros_ok xs (unhide HM)
    obtain ⟨z0, -, -, -, -, -, -⟩ := hM3.cells
    rw [hz] at z0
    have rM := hM3.row
    have hbd := fun W => bd_msg_kind m.kind W
    have heq := fun W => eq_msg hok (kindMsg_ok hkb) W
    clear hth u3 m3 m36 m37 hM3
    go_wp2_with fail
    go_ret
    exact ⟨by rw [unhide HE]; rfl, n13⟩

end Go.Proofs.YtfmkdoachjgjbaaGreatDoor
namespace Go.Proofs.YtfmkdoachjgjbaaGreatDoor
open Go.RowKit

end Go.Proofs.YtfmkdoachjgjbaaGreatDoor
namespace Go.Proofs.YtfmkdoachjgjbaaGreatDoor
open Go.RowKit Go.Sort

theorem get!_of {X : List Item} {n : Nat} {x : Item} (h : X[n]? = some x) : X[n]! = x := by rw [List.getElem!_eq_getElem?_getD, h]; rfl
/-- From off on, block g holds the items X; to be read. -/
def HeldR (w : World) (g off : Nat) (X : List Item) : Prop :=
  ∃ C T fz, w.heap[g]? = some (.cells C T fz) ∧ off + X.length * 36 ≤ C.size ∧ ∀ i x, X[i]? = some x → ∀ j, j < 36 → C[off + i * 36 + j]? = (itemCells x)[j]?
theorem HeldR.row {w : World} {g off : Nat} {xs : List Item} (h : HeldR w g off xs) {i : Nat} {x : Item} (hi : xs[i]? = some x) : rowN w g (off + i * 36) 36 = some (itemCells x).toArray := by
  obtain ⟨C, T, fz, hb, hs, hc⟩ := h
  have hlt : i < xs.length := (List.getElem?_eq_some_iff.1 hi).1
  have hle : off + i * 36 + 36 ≤ C.size := by have := Nat.mul_le_mul_right 36 (show i + 1 ≤ xs.length from hlt); omega
  rw [rowN_blk hb _ _ hle]
  congr 1
  apply Array.ext'
  apply List.ext_getElem?
  intro j
  rw [Array.getElem?_toList, Array.getElem?_extract]
  by_cases hj : j < 36
  · rw [if_pos (by omega), hc i x hi j hj]
  · rw [if_neg (by omega), List.getElem?_eq_none (by rw [item_len]; omega)]
theorem HeldR.upd {S : Nat → Prop} {w w' : World} {b off : Nat} {xs : List Item} (h : HeldR w b off xs) (u : Upd S w w') (hn : ¬ S b) : HeldR w' b off xs := by
  obtain ⟨C, T, fz, hb, r⟩ := h
  exact ⟨C, T, fz, u.old hb hn, r⟩
theorem HeldR.lt {w : World} {g off : Nat} {xs : List Item} (h : HeldR w g off xs) : g < w.heap.size := by
  obtain ⟨C, T, fz, hb, r⟩ := h
  exact blk_lt hb
theorem Held.toR {w : World} {g off : Nat} {xs : List Item} (h : Held w g off xs) : HeldR w g off xs := by
  obtain ⟨C, T, hb, hs, hc⟩ := h
  refine ⟨C, T, _, hb, hs, fun i x hx j hj => ?_⟩
  rw [hc i (List.getElem?_eq_some_iff.1 hx).1 j hj, get!_of hx]
/-- What a slice of items holds; to be read. -/
def ItemsR (w : World) (v : Value) (X : List Item) : Prop := (∃ a c, v = .slice a 0 c ∧ X = []) ∨ ∃ g off cap, v = .slice (some ⟨g, off, none⟩) X.length cap ∧ HeldR w g off X
theorem ItemsR.new {w w' : World} {v : Value} {X : List Item} (h : ItemsR w v X) (u : New w w') : ItemsR w' v X := by
  rcases h with h | ⟨g, off, cap, e, h⟩
  · exact .inl h
  · exact .inr ⟨g, off, cap, e, h.upd u (fun h => h)⟩
theorem Items.toR {w : World} {v : Value} {X : List Item} (h : Items w v X) : ItemsR w v X := by
  rcases h with h | ⟨g, cap, e, h⟩
  · exact .inl h
  · exact .inr ⟨g, 0, cap, e, h.toR⟩
theorem ItemsR.slice {w : World} {v : Value} {X : List Item} (h : ItemsR w v X) : ∃ a c, v = .slice a X.length c := by
  rcases h with ⟨_, _, rfl, rfl⟩ | ⟨g, off, cap, rfl, _⟩
  · exact ⟨_, _, rfl⟩
  · exact ⟨_, _, rfl⟩

theorem own_ge {w : World} {base : Nat} {e : TypeId} {size : Nat} {v : Value} {n : Nat} {xs : List Value} (h : w.ownsRow base e size v n xs) : ∀ k, v.ownBlock = some k → base ≤ k := by
  intro k hk
  rcases h.2 with ⟨rfl, _⟩ | ⟨g, cap, cur, rfl, e2, _⟩
  · simp [Value.ownBlock] at hk
  · simp [Value.ownBlock] at hk; omega
theorem ItemsR.at {w : World} {a : Option Addr} {n c : Nat} {X : List Item} (h : ItemsR w (.slice a n c) X) {i : Nat} {x : Item} (hi : X[i]? = some x) :
    ∃ b off, a = some ⟨b, off, none⟩ ∧ n = X.length ∧ rowN w b (off + i * 36) 36 = some (itemCells x).toArray := by
  rcases h with ⟨_, _, e, rfl⟩ | ⟨b, off, cap, e, hh⟩
  · simp at hi
  · cases e
    exact ⟨b, off, rfl, rfl, hh.row hi⟩

end Go.Proofs.YtfmkdoachjgjbaaGreatDoor
namespace Go.Proofs.YtfmkdoachjgjbaaGreatDoor
open Go.RowKit

theorem number_int (g : Nat) (x : Int) (width : Nat) (wi : Int) (s : ByteArray) (w : World) (hwi : wi = width) (hg : Wr w g s) (hw1 : 1 ≤ width) (hw8 : width ≤ 8) (h0 : 0 ≤ x) (hn : x < 2 ^ (8 * width)) (hs : s.size ≤ 1073741824) :
    Calls Tryz.prog 92 #[.pointer (some ⟨g, 0, none⟩), .int .u64 x, .int .i64 wi] w fun e w' => e = .returned (.int .i64 0) ∧ Upd (fun k => k = g) w w' ∧ Wr w' g (s ++ numS x.toNat width) := by
  subst hwi
  obtain ⟨n, rfl⟩ := Int.eq_ofNat_of_zero_le h0
  rw [Int.toNat_natCast]
  exact number_any g n width s w hg hw1 hw8 (by exact_mod_cast hn) hs
theorem number_8 (g : Nat) (x : Int) (s : ByteArray) (w : World) (hg : Wr w g s) (h0 : 0 ≤ x) (hn : x < 18446744073709551616) (hs : s.size ≤ 1073741824) :
    Calls Tryz.prog 92 #[.pointer (some ⟨g, 0, none⟩), .int .u64 x, .int .i64 8] w fun e w' => e = .returned (.int .i64 0) ∧ Upd (fun k => k = g) w w' ∧ Wr w' g (s ++ numS x.toNat 8) :=
  number_int g x 8 8 s w rfl hg (by decide) (by decide) h0 hn hs
theorem number_4 (g : Nat) (x : Int) (s : ByteArray) (w : World) (hg : Wr w g s) (h0 : 0 ≤ x) (hn : x < 4294967296) (hs : s.size ≤ 1073741824) :
    Calls Tryz.prog 92 #[.pointer (some ⟨g, 0, none⟩), .int .u64 x, .int .i64 4] w fun e w' => e = .returned (.int .i64 0) ∧ Upd (fun k => k = g) w w' ∧ Wr w' g (s ++ numS x.toNat 4) :=
  number_int g x 4 4 s w rfl hg (by decide) (by decide) h0 hn hs
theorem number_2 (g : Nat) (x : Int) (s : ByteArray) (w : World) (hg : Wr w g s) (h0 : 0 ≤ x) (hn : x < 65536) (hs : s.size ≤ 1073741824) :
    Calls Tryz.prog 92 #[.pointer (some ⟨g, 0, none⟩), .int .u64 x, .int .i64 2] w fun e w' => e = .returned (.int .i64 0) ∧ Upd (fun k => k = g) w w' ∧ Wr w' g (s ++ numS x.toNat 2) :=
  number_int g x 2 2 s w rfl hg (by decide) (by decide) h0 hn hs
theorem number_1 (g : Nat) (x : Int) (s : ByteArray) (w : World) (hg : Wr w g s) (h0 : 0 ≤ x) (hn : x < 256) (hs : s.size ≤ 1073741824) :
    Calls Tryz.prog 92 #[.pointer (some ⟨g, 0, none⟩), .int .u64 x, .int .i64 1] w fun e w' => e = .returned (.int .i64 0) ∧ Upd (fun k => k = g) w w' ∧ Wr w' g (s ++ numS x.toNat 1) :=
  number_int g x 1 1 s w rfl hg (by decide) (by decide) h0 hn hs

end Go.Proofs.YtfmkdoachjgjbaaGreatDoor
namespace Go.Proofs.YtfmkdoachjgjbaaGreatDoor
open Go.RowKit Go.Sort

/-- The text of a view, as it is written. -/
def itStep (s : ByteArray) (x : Item) : ByteArray := s ++ numS (if x.offered then 1 else 0) 1 ++ numS x.h.id.toNat 8 ++ numS x.h.amount.toNat 8 ++ strOfNums x.h.hash.toList ++ numS (x.h.expiry % 18446744073709551616).toNat 8
def headS (ch n A B : Int) (m : Nat) : ByteArray := numS ch.toNat 4 ++ numS (n % 18446744073709551616).toNat 8 ++ numS A.toNat 8 ++ numS B.toNat 8 ++ numS (m % 65536) 2
def textS (ch n A B : Int) (X : List Item) : ByteArray := X.foldl itStep (headS ch n A B X.length)
theorem itStep_size (s : ByteArray) (x : Item) : (itStep s x).size = s.size + 57 := by
  unfold itStep
  simp only [ByteArray.size_append, numS_size, strOfNums_size]
  simp
theorem headS_size (ch n A B : Int) (m : Nat) : (headS ch n A B m).size = 30 := by
  unfold headS
  simp only [ByteArray.size_append, numS_size]
theorem fold_size (X : List Item) : ∀ s : ByteArray, (X.foldl itStep s).size = s.size + 57 * X.length := by
  induction X with
  | nil => intro s; simp
  | cons x X ih => intro s; rw [List.foldl_cons, ih, itStep_size, List.length_cons]; omega
theorem fold_take (X : List Item) (s : ByteArray) {k : Nat} {x : Item} (h : X[k]? = some x) : (X.take (k + 1)).foldl itStep s = itStep ((X.take k).foldl itStep s) x := by
  rw [List.take_add_one, h]
  simp
def zItem : Array Value := (.bool false :: .int .u64 0 :: .int .u64 0 :: (List.replicate 32 (.int .u8 0) ++ [.int .i64 0]) : List Value).toArray
theorem empty_app (s : ByteArray) : (ByteArray.mk #[]) ++ s = s := by
  apply ByteArray.ext
  simp
theorem item_cell (x : Item) (i : Nat) (hi : i < 36) {w : World} {b : Nat} {T : TypeId} {fz : Nat × Nat} (h : w.heap[b]? = some (.cells (itemCells x).toArray T fz)) : w.cell? ⟨b, i, none⟩ = (itemCells x)[i]? := by
  rw [blk_cell h, List.getElem?_toArray]
theorem hash_row (x : Item) {w : World} {b : Nat} {T : TypeId} {fz : Nat × Nat} (h : w.heap[b]? = some (.cells (itemCells x).toArray T fz)) : rowN w b 3 32 = some (x.h.hash.toList.map (Value.int .u8)).toArray := by
  rw [rowN_blk h 3 32 (by simp [item_len])]
  congr 1
  apply Array.ext'
  rw [Array.toList_extract]
  unfold itemCells htlcCells
  simp
theorem item_35 (x : Item) : (itemCells x)[35]? = some (.int .i64 x.h.expiry) := by
  unfold itemCells htlcCells
  rw [List.getElem?_cons_succ, List.getElem?_cons_succ, List.getElem?_cons_succ, List.getElem?_append_right (by simp)]
  simp

theorem Tryz.infoHashT : (Tryz.prog.info? 35).map (·.size) = some 32 := by kernel_rfl
def ldHashT (x : Value) : Sem Value := Instr.loadAt 35 x
theorem ld_hasht_fold (x : Value) : Instr.loadAt 35 x = ldHashT x := rfl
theorem ld_hasht (b o : Nat) (w : World) : (ldHashT (.pointer (some ⟨b, o, none⟩))).run Tryz.prog w = match rowN w b o 32 with | some A => .ok (.agg A) w | none => slowLd Tryz.prog 35 w b o :=
  run_loadAt_rowN 35 32 _ Tryz.underlying35 rfl Tryz.infoHashT b o w
attribute [local go_sem ↓ high] ld_item_fold ld_hasht_fold
attribute [local go_sem] ld_item ld_hasht

set_option maxRecDepth 100000 in
set_option maxHeartbeats 4000000 in
theorem text_any (ch n A B : Int) (u : Value) (X : List Item) (hl : X.length ≤ 1048576) (hok : ∀ x ∈ X, HtlcOk x.h) (w : World) (hc : 0 ≤ ch ∧ ch < 4294967296) (hn : -9223372036854775808 ≤ n ∧ n ≤ 9223372036854775807)
    (hA : 0 ≤ A ∧ A < 18446744073709551616) (hB : 0 ≤ B ∧ B < 18446744073709551616) (hu : ItemsR w u X) :
    Calls Tryz.prog 157 #[.int .u32 ch, .int .i64 n, .agg #[.int .u64 A, .int .u64 B, u]] w (Makes (.string (textS ch n A B X)) w) := by
  obtain ⟨a, c, rfl⟩ := hu.slice
  go_enter Tryz.func157, Tryz.ntmps157
  go_upto_region 2 with fail
  have n0 : New w ((w.alloc (.cells #[.int .u64 A, .int .u64 B, .slice a X.length c] 201)).alloc (.cells #[.string ⟨#[]⟩] 174)) := ((Upd.refl _ _).alloc _).alloc _
  have hb : ((w.alloc (.cells #[.int .u64 A, .int .u64 B, .slice a X.length c] 201)).alloc (.cells #[.string ⟨#[]⟩] 174)).heap[w.heap.size]? = some (.cells #[.int .u64 A, .int .u64 B, .slice a X.length c] 201 (0, 0)) := blk_alloc_old (blk_alloc _ _) _
  have hg : Wr ((w.alloc (.cells #[.int .u64 A, .int .u64 B, .slice a X.length c] 201)).alloc (.cells #[.string ⟨#[]⟩] 174)) (w.heap.size + 1) ⟨#[]⟩ := by
    have := blk_alloc (w.alloc (.cells #[.int .u64 A, .int .u64 B, .slice a X.length c] 201)) (.cells #[.string ⟨#[]⟩] 174)
    rwa [World.size_alloc] at this
  generalize (w.alloc (.cells #[.int .u64 A, .int .u64 B, .slice a X.length c] 201)).alloc (.cells #[.string ⟨#[]⟩] 174) = w1 at n0 hb hg ⊢
  have HA := hide hA
  have HB := hide hB
  obtain ⟨nn, hnn⟩ : ∃ nn : Int, nn = n % 18446744073709551616 := ⟨_, rfl⟩
  have HNB := hide (show 0 ≤ nn ∧ nn < 18446744073709551616 by omega)
  have hwn : IntKind.u64.wrap n = nn := by rw [IntKind.wrap_u64, hnn]
  have hhead : headS ch n A B X.length = numS ch.toNat 4 ++ numS nn.toNat 8 ++ numS A.toNat 8 ++ numS B.toNat 8 ++ numS (X.length % 65536) 2 := by rw [hnn]; rfl
  have HHEAD := hide hhead
  obtain ⟨hc0, hc1⟩ := hc
  have s4 := fun x => numS_size x 4
  have s8 := fun x => numS_size x 8
  have HS4 := hide s4
  have HS8 := hide s8
  clear hnn hhead hA hB hn s4 s8
  have hgw : w.heap.size + 1 < w1.heap.size := hg.lt
  have hlx : (X.length : Int) ≤ 1048576 := by omega
  obtain ⟨G, hG⟩ : ∃ G, G = w.heap.size + 1 := ⟨_, rfl⟩
  rw [← hG] at hg hgw ⊢
  have hGB : w.heap.size < G := by omega
  clear hG
  go_wp2_with fail
  refine (number_4 G ch ⟨#[]⟩ w1 hg hc0 hc1 (by decide)).mono ?_
  rintro e w2 ⟨rfl, u2, g2⟩
  rw [empty_app] at g2
  replace hb := u2.old hb (by omega)
  replace n0 := n0.then u2 (fun q hq h => by omega)
  clear hg u2 hc0 hc1
  have z2 : (numS ch.toNat 4).size = 4 := unhide HS4 _
  generalize numS ch.toNat 4 = t4 at g2 z2 HHEAD
  have e0 := blk_cell hb 0
  have e1 := blk_cell hb 1
  have e2 := blk_cell hb 2
  simp at e0 e1 e2
  go_wp2_with fail
  refine (number_8 G nn t4 w2 g2 (unhide HNB).1 (unhide HNB).2 (by omega)).mono ?_
  rintro e w3 ⟨rfl, u3, g3⟩
  replace hb := u3.old hb (by omega)
  replace n0 := n0.then u3 (fun q hq h => by omega)
  clear e0 e1 e2 g2 u3
  have z3 : (t4 ++ numS nn.toNat 8).size = 12 := by rw [ByteArray.size_append, z2, unhide HS8]
  generalize t4 ++ numS nn.toNat 8 = t5 at g3 z3 HHEAD
  have e0 := blk_cell hb 0
  have e1 := blk_cell hb 1
  have e2 := blk_cell hb 2
  simp at e0 e1 e2
  go_wp2_with fail
  refine (number_8 G A t5 w3 g3 (unhide HA).1 (unhide HA).2 (by omega)).mono ?_
  rintro e w4 ⟨rfl, u4, g4⟩
  replace hb := u4.old hb (by omega)
  replace n0 := n0.then u4 (fun q hq h => by omega)
  clear e0 e1 e2 g3 u4
  have z4 : (t5 ++ numS A.toNat 8).size = 20 := by rw [ByteArray.size_append, z3, unhide HS8]
  generalize t5 ++ numS A.toNat 8 = t6 at g4 z4 HHEAD
  have e0 := blk_cell hb 0
  have e1 := blk_cell hb 1
  have e2 := blk_cell hb 2
  simp at e0 e1 e2
  go_wp2_with fail
  refine (number_8 G B t6 w4 g4 (unhide HB).1 (unhide HB).2 (by omega)).mono ?_
  rintro e w5 ⟨rfl, u5, g5⟩
  replace hb := u5.old hb (by omega)
  replace n0 := n0.then u5 (fun q hq h => by omega)
  clear e0 e1 e2 g4 u5
  have z5 : (t6 ++ numS B.toNat 8).size = 28 := by rw [ByteArray.size_append, z4, unhide HS8]
  generalize t6 ++ numS B.toNat 8 = t7 at g5 z5 HHEAD
  have e0 := blk_cell hb 0
  have e1 := blk_cell hb 1
  have e2 := blk_cell hb 2
  simp at e0 e1 e2
  go_wp2_with fail
  refine (number_2 G _ t7 w5 g5 (by omega) (by omega) (by omega)).mono ?_
  rintro e w6 ⟨rfl, u6, g6⟩
  replace hb := u6.old hb (by omega)
  replace n0 := n0.then u6 (fun q hq h => by omega)
  clear e0 e1 e2 g5 u6
  have hx1 : ((X.length : Int) % 65536).toNat = X.length % 65536 := by omega
  rw [hx1, ← unhide HHEAD] at g6
  have zh := headS_size ch n A B X.length
  have htx : textS ch n A B X = X.foldl itStep (headS ch n A B X.length) := rfl
  generalize headS ch n A B X.length = hd at g6 zh htx
  have HTX := hide htx
  clear hx1 htx z2 z3 z4 z5 HHEAD HS4 hwn HNB HA HB
  have e2 := blk_cell hb 2
  simp at e2
  go_wp2_with fail
  clear e2
  obtain ⟨wo, rfl⟩ : ∃ wo : World, wo = w6 := ⟨_, rfl⟩
  have HU := hide hu
  clear hu
  go_loopw [9, 38] (fun _ iv wr => ∃ k : Nat, iv = .int .i64 (k : Int) ∧ k ≤ X.length ∧ Wr wr G ((X.take k).foldl itStep hd) ∧ New w wr) (fun _ iv _ => X.length - (intOf iv).toNat)
  case atStart => exact ⟨0, rfl, Nat.zero_le _, g6, n0⟩
  case round =>
    clear g6 n0
    obtain ⟨k, rfl, hk, gk, nk⟩ := hrel
    obtain ⟨wq, rfl⟩ : ∃ wq : World, wq = wr := ⟨_, rfl⟩
    by_cases hlt : k < X.length
    · obtain ⟨x, hx⟩ : ∃ x, X[k]? = some x := ⟨_, List.getElem?_eq_getElem hlt⟩
      obtain ⟨b, off, rfl, -, hrow⟩ := ((unhide HU).new nk).at hx
      have hxok := hok x (List.mem_of_getElem? hx)
      have hfold := fold_take X hd hx
      have hsz := fold_size (X.take k) hd
      rw [zh, List.length_take, Nat.min_eq_left hk] at hsz
      have hk0 : (k : Int) < (X.length : Int) := by omega
      have hGw := gk.lt
      generalize (X.take k).foldl itStep hd = s0 at gk hfold hsz
      have HF := hide hfold
      have HXO := hide hxok
      clear hx hfold hxok
      go_upto_region 9 with fail
      refine wp_region_lit ?_
      refine wpList_val rfl (v := .pointer (some ⟨b, off + k * 36, none⟩)) (w' := wq) (by simp only [execOp]; go_simp) ?_
      refine wpList_val rfl (v := .agg (itemCells x).toArray) (w' := wq) (by simp only [execOp]; go_simp) ?_
      refine wpList_val rfl (v := .pointer (some ⟨wq.heap.size, 0, none⟩)) (w' := wq.alloc (.cells zItem 254)) (by kernel_rfl) ?_
      have n1 : New wq (wq.alloc (.cells zItem 254)) := (Upd.refl _ _).alloc _
      have hb1 : (wq.alloc (.cells zItem 254)).heap[wq.heap.size]? = some (.cells zItem 254 (0, 0)) := blk_alloc _ _
      generalize wq.alloc (.cells zItem 254) = w1a at n1 hb1 ⊢
      refine wpList_store_row rfl _ _ _ rfl wq.heap.size (itemCells x).toArray (by kernel_rfl) (by kernel_rfl) 254 _ hb1 (by rw [List.size_toArray, item_len]; exact Tryz.infoItem) (by have h9 : zItem.size = 36 := rfl; rw [h9]; simp [item_len]) (by rw [List.all_toArray, List.all_eq_true]; exact item_one x) ?_
      have hI := setRow_heap w1a wq.heap.size _ (itemCells x).toArray 254 (0, 0) hb1
      have n2 : New wq (w1a.setRow wq.heap.size (itemCells x).toArray) := n1.setRow (fun h => by omega) _
      generalize w1a.setRow wq.heap.size (itemCells x).toArray = w2a at hI n2 ⊢
      replace gk := gk.new n2
      replace nk := nk.trans n2
      have hIG : G < wq.heap.size := hGw
      have hIw : w.heap.size ≤ wq.heap.size := by omega
      generalize wq.heap.size = I at hI hIG hIw ⊢
      clear n1 hb1 n2 hrow
      have hrw := rowN_whole hI 36 (by simp [item_len])
      have hof : (itemCells x)[0]? = some (.bool x.offered) := rfl
      have hrk := rank_any x.offered (itemCells x).toArray w2a (by rw [List.getElem?_toArray]; exact hof)
      have hri : (1 - rankI x.offered).toNat = (if x.offered then 1 else 0) ∧ 0 ≤ 1 - rankI x.offered ∧ 1 - rankI x.offered ≤ 1 ∧ 0 ≤ rankI x.offered ∧ rankI x.offered ≤ 1 := by cases x.offered <;> decide
      obtain ⟨hri0, hri1, hri2, hri3, hri4⟩ := hri
      have HRI := hide hri0
      have HRK := hide hrk
      clear hof hrk hri0
      generalize hIC : (itemCells x).toArray = IC at hrw HRK
      have HIC := hide hIC
      clear hIC
      go_wp2_with fail
      refine (unhide HRK).mono ?_
      rintro e w3a ⟨rfl, n3⟩
      have m3 := _root_.Go.Proofs.YtfmkdoachjgjbaaGreatDoor.G.new n3
      replace hI := m3.old hI (fun h => h)
      replace gk := gk.new m3
      replace nk := nk.trans m3
      clear m3 n3 hrw HRK
      go_wp2_with fail
      refine (number_1 G (1 - rankI x.offered) s0 w3a gk hri1 (by omega) (by omega)).mono ?_
      rintro e w4 ⟨rfl, u4, gk4⟩
      replace hI := u4.old hI (by omega)
      replace nk := nk.then u4 (fun q hq h => by omega)
      clear u4
      rw [unhide HRI] at gk4
      have y4 : (s0 ++ numS (if x.offered then 1 else 0) 1).size = 31 + 57 * k := by rw [ByteArray.size_append, hsz, numS_size]; omega
      generalize hp4 : s0 ++ numS (if x.offered then 1 else 0) 1 = p4 at gk4 y4
      have d1 := item_cell x 1 (by decide) hI
      have d2 := item_cell x 2 (by decide) hI
      have d35 := item_cell x 35 (by decide) hI
      rw [item_35] at d35
      have dh := hash_row x hI
      replace d1 : w4.cell? ⟨I, 1, none⟩ = some (.int .u64 x.h.id) := d1
      clear d2 d35 dh gk
      go_wp2_with fail
      refine (number_8 G x.h.id p4 w4 gk4 (unhide HXO).id.1 (by have := (unhide HXO).id.2; omega) (by omega)).mono ?_
      rintro e w5 ⟨rfl, u5, gk5⟩
      replace hI := u5.old hI (by omega)
      replace nk := nk.then u5 (fun q hq h => by omega)
      clear u5
      have y5 : (p4 ++ numS x.h.id.toNat 8).size = 39 + 57 * k := by rw [ByteArray.size_append, y4, unhide HS8]; omega
      generalize hp5 : p4 ++ numS x.h.id.toNat 8 = p5 at gk5 y5
      have d2 : w5.cell? ⟨I, 2, none⟩ = some (.int .u64 x.h.amount) := item_cell x 2 (by decide) hI
      clear d1 gk4
      go_wp2_with fail
      refine (number_8 G x.h.amount p5 w5 gk5 (unhide HXO).amount.1 (by have := (unhide HXO).amount.2; omega) (by omega)).mono ?_
      rintro e w6 ⟨rfl, u6, gk6⟩
      replace hI := u6.old hI (by omega)
      replace nk := nk.then u6 (fun q hq h => by omega)
      clear u6
      have y6 : (p5 ++ numS x.h.amount.toNat 8).size = 47 + 57 * k := by rw [ByteArray.size_append, y5, unhide HS8]; omega
      generalize hp6 : p5 ++ numS x.h.amount.toNat 8 = p6 at gk6 y6
      have dh := hash_row x hI
      generalize hHC : (x.h.hash.toList.map (Value.int .u8)).toArray = HC at dh
      have hcon := hide (hash_any G x.h.hash.toList p6 w6 gk6 (by simp) (by omega))
      rw [hHC] at hcon
      clear d2 gk5 hHC gk6
      go_wp2_with fail
      refine (unhide hcon).mono ?_
      rintro e w7 ⟨rfl, u7, gk7⟩
      replace hI := u7.old hI (by omega)
      replace nk := nk.then u7 (fun q hq h => by omega)
      clear u7 hcon dh
      have y7 : (p6 ++ strOfNums x.h.hash.toList).size = 79 + 57 * k := by rw [ByteArray.size_append, y6, strOfNums_size]; simp; omega
      generalize hp7 : p6 ++ strOfNums x.h.hash.toList = p7 at gk7 y7
      have d35 := item_cell x 35 (by decide) hI
      rw [item_35] at d35
      obtain ⟨ee, hee⟩ : ∃ ee : Int, ee = x.h.expiry % 18446744073709551616 := ⟨_, rfl⟩
      have HEB := hide (show 0 ≤ ee ∧ ee < 18446744073709551616 by omega)
      have hwe : IntKind.u64.wrap x.h.expiry = ee := by rw [IntKind.wrap_u64, hee]
      have HEE := hide hee
      clear hee
      go_wp2_with fail
      refine (number_8 G ee p7 w7 gk7 (unhide HEB).1 (unhide HEB).2 (by omega)).mono ?_
      rintro e w8 ⟨rfl, u8, gk8⟩
      replace hI := u8.old hI (by omega)
      replace nk := nk.then u8 (fun q hq h => by omega)
      clear u8
      have hs9 : p7 ++ numS ee.toNat 8 = (X.take (k + 1)).foldl itStep hd := by
        rw [unhide HF, ← hp7, ← hp6, ← hp5, ← hp4, unhide HEE]
        rfl
      rw [hs9] at gk8
      clear d35 hwe hp4 hp5 hp6 hp7 hs9 gk7
      go_wp2
      go_roundw
      case rel => exact ⟨k + 1, by go_num, by omega, gk8, nk⟩
      case measure => simp [intOf]; omega
    · obtain rfl : k = X.length := by omega
      rw [List.take_length, ← unhide HTX] at gk
      generalize htt : textS ch n A B X = tt at gk HTX
      have HTT := hide htt
      clear htt
      go_wp2_with fail
      refine (bytesW_any G tt wq gk).mono ?_
      rintro e w9 ⟨rfl, rfl⟩
      go_wp2
      go_ret
      exact ⟨by rw [unhide HTT]; rfl, nk⟩

end Go.Proofs.YtfmkdoachjgjbaaGreatDoor
