/-
  Fields of messages, written (printed by tools/mk_wrt.py).
-/
import Derived.Test.YtfmkdoachjgjbaaGreatDoorMce
import Derived.Test.YtfmkdoachjgjbaaGreatDoorMaf
import Derived.Defers
import Derived.Recover
set_option linter.unusedVariables false
set_option linter.unusedSimpArgs false
namespace Go.Proofs.YtfmkdoachjgjbaaGreatDoor
open Go.RowKit

def Fld.put (x : Fld) (m : MsgV) : ByteArray :=
  match x with
  | .ch => numS m.ch.toNat 4
  | .id => numS m.id.toNat 8
  | .amount => numS m.amount.toNat 8
  | .hash => strOfNums m.hash
  | .expiry => numS m.expiry.toNat 4
  | .number => numS m.number.toNat 2
theorem Fld.put_size (x : Fld) (m : MsgV) (h : m.hash.length = 32) : (x.put m).size ≤ 32 := by
  cases x
  case hash => show (strOfNums m.hash).size ≤ 32; rw [strOfNums_size, h]; exact Nat.le_refl _
  all_goals (unfold Fld.put; simp only [numS_size]; decide)
def putsL (xs : List Fld) (m : MsgV) (s : ByteArray) : ByteArray := xs.foldl (fun s x => s ++ x.put m) s
theorem puts_take {xs : List Fld} {i : Nat} {x : Fld} (h : xs[i]? = some x) (m : MsgV) (s : ByteArray) : putsL (xs.take (i + 1)) m s = putsL (xs.take i) m s ++ x.put m := by
  unfold putsL
  rw [List.take_add_one, h, List.foldl_append]
  rfl
theorem puts_size (m : MsgV) (h : m.hash.length = 32) : ∀ (xs : List Fld) (s : ByteArray), (putsL xs m s).size ≤ s.size + 32 * xs.length
  | [], s => Nat.le_refl _
  | x :: xs, s => by
    have h1 := puts_size m h xs (s ++ x.put m)
    have h2 := x.put_size m h
    have e : putsL (x :: xs) m s = putsL xs m (s ++ x.put m) := rfl
    rw [ByteArray.size_append] at h1
    rw [e, List.length_cons]
    omega
def passW (W : Nat) : Value := .agg #[.pointer (some ⟨W, 0, none⟩), .pointer none]
set_option maxHeartbeats 1000000 in
theorem must_ok (w : World) : Calls Tryz.prog 135 #[.int .i64 0] w (Reads (.tuple #[]) w) := by
  go_enter Tryz.func135, Tryz.ntmps135
  go_wp2_with fail
  go_end0
  exact ⟨rfl, Q.refl _⟩
attribute [local go_sem ↓ high] ld_hsh_fold st_hsh_fold al_hsh_fold bd_hsh_fold
attribute [local go_sem] ld_hsh st_hsh al_hsh bd_hsh rowN_drew

set_option maxRecDepth 100000 in
set_option maxHeartbeats 1000000 in
theorem putU64_any (F : FuncId) (o A p q W n : Nat) (x : Nat) (m : MsgV) (s : ByteArray) (w : World) (hE : ∀ args w, (callFunc F args).run Tryz.prog w = .ok (.enter F args) w) (hF : ∀ w, Calls Tryz.prog F #[.pointer (some ⟨A, 0, none⟩)] w (Reads (.pointer (some ⟨A, o, none⟩)) w)) (hp : w.cell? ⟨p, 0, none⟩ = some (.func (.func F) #[] #[])) (hq : w.cell? ⟨q, 0, none⟩ = some (.int .i64 (n : Int))) (hA : MsB w A m) (ho : m.cells[o]? = some (.int .u64 (x : Int))) (hW : Wr w W s) (hn : 1 ≤ n ∧ n ≤ 8) (hx : x < 2 ^ (8 * n)) (hxb : x < 18446744073709551616) (hs : s.size ≤ 1073741824) :
    Calls Tryz.prog 200 #[passW W, .pointer (some ⟨A, 0, none⟩), .pointer (some ⟨p, 0, none⟩), .pointer (some ⟨q, 0, none⟩)] w fun e w' => e = .returned (.tuple #[]) ∧ Upd (fun k => k = W) w w' ∧ Wr w' W (s ++ numS x n) := by
  unfold passW
  have hxi : (x : Int) < 18446744073709551616 := by omega
  have hwr : IntKind.u64.wrap (x : Int) = x := wrapU (by omega) (by omega)
  go_enter Tryz.func200, Tryz.ntmps200
  go_upto_region 1 with fail
  have n1 : New w (w.alloc (.cells #[.pointer (some ⟨W, 0, none⟩), .pointer none] 234)) := (Upd.refl _ _).alloc _
  have hb := blk_alloc w (.cells #[.pointer (some ⟨W, 0, none⟩), .pointer none] 234)
  generalize w.alloc (.cells #[.pointer (some ⟨W, 0, none⟩), .pointer none] 234) = w1 at n1 hb ⊢
  generalize w.heap.size = B at hb ⊢
  have hp1 := n1.cell hp (fun h => h)
  have hq1 := n1.cell hq (fun h => h)
  have HA := hide (hA.new n1)
  have HB := hide hb
  have HW := hide (hW.new n1)
  have N1 := hide n1
  clear hb hp hA hW hq n1
  go_wp2_with fail
  refine (hF w1).mono ?_
  rintro e w2 ⟨rfl, q2⟩
  have hA2 := (unhide HA).new (q2.upd _)
  have d0 : w2.cell? ⟨B, 0, none⟩ = some (.pointer (some ⟨W, 0, none⟩)) := q2.cell (blk_cell (unhide HB) 0)
  have d1 : w2.cell? ⟨B, 1, none⟩ = some (.pointer none) := q2.cell (blk_cell (unhide HB) 1)
  have co : w2.cell? ⟨A, o, none⟩ = some (.int .u64 (x : Int)) := by rw [blk_cell hA2.at_, List.getElem?_toArray]; exact ho
  have hq2 := q2.cell hq1
  have hW2 := (unhide HW).new (q2.upd _)
  have N2 := hide ((unhide N1).trans (q2.upd _))
  have hcall := fun w' (n' : New w2 w') => number_any W x n s w' (hW2.new n') hn.1 hn.2 hx hs
  clear hA2 q2 hp1 HB HA HW N1 hW2 hq1
  go_wp2_with (with_reducible first | (first | refine' tw1 (ido ?_) ?_ | refine' tw2 (ido ?_) ?_); rotate_left | refine' tw3 (ido ?_) | rfl | apply tn | refine' tw4 ?_)
  refine (hcall _ ((Upd.refl _ _).drew)).mono ?_
  rintro e w3 ⟨rfl, u3, hW3⟩
  have U3 := hide (((unhide N2).drew.mono (fun _ _ h => h.elim)).trans u3)
  have HW := hide hW3
  clear hcall N2 u3 hW3
  go_wp2_with (with_reducible first | (first | refine' tw1 (ido ?_) ?_ | refine' tw2 (ido ?_) ?_); rotate_left | refine' tw3 (ido ?_) | rfl | apply tn | refine' tw4 ?_)
  refine (must_ok _).mono ?_
  rintro e w4 ⟨rfl, q4⟩
  have U4 := hide ((unhide U3).trans (q4.upd _))
  have HW := hide ((unhide HW).new (q4.upd _))
  clear U3 q4
  go_wp2_with (with_reducible first | (first | refine' tw1 (ido ?_) ?_ | refine' tw2 (ido ?_) ?_); rotate_left | refine' tw3 (ido ?_) | rfl | apply tn | refine' tw4 ?_)
  go_end0
  exact ⟨rfl, unhide U4, unhide HW⟩
set_option maxRecDepth 100000 in
set_option maxHeartbeats 1000000 in
theorem putI64_any (F : FuncId) (o A p q W n : Nat) (x : Nat) (m : MsgV) (s : ByteArray) (w : World) (hE : ∀ args w, (callFunc F args).run Tryz.prog w = .ok (.enter F args) w) (hF : ∀ w, Calls Tryz.prog F #[.pointer (some ⟨A, 0, none⟩)] w (Reads (.pointer (some ⟨A, o, none⟩)) w)) (hp : w.cell? ⟨p, 0, none⟩ = some (.func (.func F) #[] #[])) (hq : w.cell? ⟨q, 0, none⟩ = some (.int .i64 (n : Int))) (hA : MsB w A m) (ho : m.cells[o]? = some (.int .i64 (x : Int))) (hW : Wr w W s) (hn : 1 ≤ n ∧ n ≤ 8) (hx : x < 2 ^ (8 * n)) (hxb : x < 18446744073709551616) (hs : s.size ≤ 1073741824) :
    Calls Tryz.prog 201 #[passW W, .pointer (some ⟨A, 0, none⟩), .pointer (some ⟨p, 0, none⟩), .pointer (some ⟨q, 0, none⟩)] w fun e w' => e = .returned (.tuple #[]) ∧ Upd (fun k => k = W) w w' ∧ Wr w' W (s ++ numS x n) := by
  unfold passW
  have hxi : (x : Int) < 18446744073709551616 := by omega
  have hwr : IntKind.u64.wrap (x : Int) = x := wrapU (by omega) (by omega)
  go_enter Tryz.func201, Tryz.ntmps201
  go_upto_region 1 with fail
  have n1 : New w (w.alloc (.cells #[.pointer (some ⟨W, 0, none⟩), .pointer none] 234)) := (Upd.refl _ _).alloc _
  have hb := blk_alloc w (.cells #[.pointer (some ⟨W, 0, none⟩), .pointer none] 234)
  generalize w.alloc (.cells #[.pointer (some ⟨W, 0, none⟩), .pointer none] 234) = w1 at n1 hb ⊢
  generalize w.heap.size = B at hb ⊢
  have hp1 := n1.cell hp (fun h => h)
  have hq1 := n1.cell hq (fun h => h)
  have HA := hide (hA.new n1)
  have HB := hide hb
  have HW := hide (hW.new n1)
  have N1 := hide n1
  clear hb hp hA hW hq n1
  go_wp2_with fail
  refine (hF w1).mono ?_
  rintro e w2 ⟨rfl, q2⟩
  have hA2 := (unhide HA).new (q2.upd _)
  have d0 : w2.cell? ⟨B, 0, none⟩ = some (.pointer (some ⟨W, 0, none⟩)) := q2.cell (blk_cell (unhide HB) 0)
  have d1 : w2.cell? ⟨B, 1, none⟩ = some (.pointer none) := q2.cell (blk_cell (unhide HB) 1)
  have co : w2.cell? ⟨A, o, none⟩ = some (.int .i64 (x : Int)) := by rw [blk_cell hA2.at_, List.getElem?_toArray]; exact ho
  have hq2 := q2.cell hq1
  have hW2 := (unhide HW).new (q2.upd _)
  have N2 := hide ((unhide N1).trans (q2.upd _))
  have hcall := fun w' (n' : New w2 w') => number_any W x n s w' (hW2.new n') hn.1 hn.2 hx hs
  clear hA2 q2 hp1 HB HA HW N1 hW2 hq1
  go_wp2_with (with_reducible first | (first | refine' tw1 (ido ?_) ?_ | refine' tw2 (ido ?_) ?_); rotate_left | refine' tw3 (ido ?_) | rfl | apply tn | refine' tw4 ?_)
  refine (hcall _ ((Upd.refl _ _).drew)).mono ?_
  rintro e w3 ⟨rfl, u3, hW3⟩
  have U3 := hide (((unhide N2).drew.mono (fun _ _ h => h.elim)).trans u3)
  have HW := hide hW3
  clear hcall N2 u3 hW3
  go_wp2_with (with_reducible first | (first | refine' tw1 (ido ?_) ?_ | refine' tw2 (ido ?_) ?_); rotate_left | refine' tw3 (ido ?_) | rfl | apply tn | refine' tw4 ?_)
  refine (must_ok _).mono ?_
  rintro e w4 ⟨rfl, q4⟩
  have U4 := hide ((unhide U3).trans (q4.upd _))
  have HW := hide ((unhide HW).new (q4.upd _))
  clear U3 q4
  go_wp2_with (with_reducible first | (first | refine' tw1 (ido ?_) ?_ | refine' tw2 (ido ?_) ?_); rotate_left | refine' tw3 (ido ?_) | rfl | apply tn | refine' tw4 ?_)
  go_end0
  exact ⟨rfl, unhide U4, unhide HW⟩
set_option maxRecDepth 100000 in
set_option maxHeartbeats 1000000 in
theorem putU32_any (F : FuncId) (o A p q W n : Nat) (x : Nat) (m : MsgV) (s : ByteArray) (w : World) (hE : ∀ args w, (callFunc F args).run Tryz.prog w = .ok (.enter F args) w) (hF : ∀ w, Calls Tryz.prog F #[.pointer (some ⟨A, 0, none⟩)] w (Reads (.pointer (some ⟨A, o, none⟩)) w)) (hp : w.cell? ⟨p, 0, none⟩ = some (.func (.func F) #[] #[])) (hq : w.cell? ⟨q, 0, none⟩ = some (.int .i64 (n : Int))) (hA : MsB w A m) (ho : m.cells[o]? = some (.int .u32 (x : Int))) (hW : Wr w W s) (hn : 1 ≤ n ∧ n ≤ 8) (hx : x < 2 ^ (8 * n)) (hxb : x < 18446744073709551616) (hs : s.size ≤ 1073741824) :
    Calls Tryz.prog 214 #[passW W, .pointer (some ⟨A, 0, none⟩), .pointer (some ⟨p, 0, none⟩), .pointer (some ⟨q, 0, none⟩)] w fun e w' => e = .returned (.tuple #[]) ∧ Upd (fun k => k = W) w w' ∧ Wr w' W (s ++ numS x n) := by
  unfold passW
  have hxi : (x : Int) < 18446744073709551616 := by omega
  have hwr : IntKind.u64.wrap (x : Int) = x := wrapU (by omega) (by omega)
  go_enter Tryz.func214, Tryz.ntmps214
  go_upto_region 1 with fail
  have n1 : New w (w.alloc (.cells #[.pointer (some ⟨W, 0, none⟩), .pointer none] 234)) := (Upd.refl _ _).alloc _
  have hb := blk_alloc w (.cells #[.pointer (some ⟨W, 0, none⟩), .pointer none] 234)
  generalize w.alloc (.cells #[.pointer (some ⟨W, 0, none⟩), .pointer none] 234) = w1 at n1 hb ⊢
  generalize w.heap.size = B at hb ⊢
  have hp1 := n1.cell hp (fun h => h)
  have hq1 := n1.cell hq (fun h => h)
  have HA := hide (hA.new n1)
  have HB := hide hb
  have HW := hide (hW.new n1)
  have N1 := hide n1
  clear hb hp hA hW hq n1
  go_wp2_with fail
  refine (hF w1).mono ?_
  rintro e w2 ⟨rfl, q2⟩
  have hA2 := (unhide HA).new (q2.upd _)
  have d0 : w2.cell? ⟨B, 0, none⟩ = some (.pointer (some ⟨W, 0, none⟩)) := q2.cell (blk_cell (unhide HB) 0)
  have d1 : w2.cell? ⟨B, 1, none⟩ = some (.pointer none) := q2.cell (blk_cell (unhide HB) 1)
  have co : w2.cell? ⟨A, o, none⟩ = some (.int .u32 (x : Int)) := by rw [blk_cell hA2.at_, List.getElem?_toArray]; exact ho
  have hq2 := q2.cell hq1
  have hW2 := (unhide HW).new (q2.upd _)
  have N2 := hide ((unhide N1).trans (q2.upd _))
  have hcall := fun w' (n' : New w2 w') => number_any W x n s w' (hW2.new n') hn.1 hn.2 hx hs
  clear hA2 q2 hp1 HB HA HW N1 hW2 hq1
  go_wp2_with (with_reducible first | (first | refine' tw1 (ido ?_) ?_ | refine' tw2 (ido ?_) ?_); rotate_left | refine' tw3 (ido ?_) | rfl | apply tn | refine' tw4 ?_)
  refine (hcall _ ((Upd.refl _ _).drew)).mono ?_
  rintro e w3 ⟨rfl, u3, hW3⟩
  have U3 := hide (((unhide N2).drew.mono (fun _ _ h => h.elim)).trans u3)
  have HW := hide hW3
  clear hcall N2 u3 hW3
  go_wp2_with (with_reducible first | (first | refine' tw1 (ido ?_) ?_ | refine' tw2 (ido ?_) ?_); rotate_left | refine' tw3 (ido ?_) | rfl | apply tn | refine' tw4 ?_)
  refine (must_ok _).mono ?_
  rintro e w4 ⟨rfl, q4⟩
  have U4 := hide ((unhide U3).trans (q4.upd _))
  have HW := hide ((unhide HW).new (q4.upd _))
  clear U3 q4
  go_wp2_with (with_reducible first | (first | refine' tw1 (ido ?_) ?_ | refine' tw2 (ido ?_) ?_); rotate_left | refine' tw3 (ido ?_) | rfl | apply tn | refine' tw4 ?_)
  go_end0
  exact ⟨rfl, unhide U4, unhide HW⟩
set_option maxRecDepth 100000 in
set_option maxHeartbeats 1000000 in
theorem putHash_any (A W : Nat) (m : MsgV) (s : ByteArray) (w : World) (hA : MsB w A m) (hW : Wr w W s) (hs : s.size ≤ 1073741824) :
    Calls Tryz.prog 175 #[passW W, .pointer (some ⟨A, 0, none⟩)] w fun e w' => e = .returned (.tuple #[]) ∧ Upd (fun k => k = W) w w' ∧ Wr w' W (s ++ strOfNums m.hash) := by
  unfold passW
  go_enter Tryz.func175, Tryz.ntmps175
  go_upto_region 2 with fail
  have n1 : New w (w.alloc (.cells #[.pointer (some ⟨W, 0, none⟩), .pointer none] 234)) := (Upd.refl _ _).alloc _
  have hb := blk_alloc w (.cells #[.pointer (some ⟨W, 0, none⟩), .pointer none] 234)
  generalize w.alloc (.cells #[.pointer (some ⟨W, 0, none⟩), .pointer none] 234) = w1 at n1 hb ⊢
  generalize w.heap.size = B at hb ⊢
  have d0 : w1.cell? ⟨B, 0, none⟩ = some (.pointer (some ⟨W, 0, none⟩)) := blk_cell hb 0
  have d1 : w1.cell? ⟨B, 1, none⟩ = some (.pointer none) := blk_cell hb 1
  have hA1 := hA.new n1
  have hW1 := hW.new n1
  obtain ⟨-, -, -, -, -, -, rH⟩ := hA1.cells
  have hl := hA1.len
  have N1 := hide n1
  have hcall := fun w' (n' : New w1 w') => hash_any W m.hash s w' (hW1.new n') hl hs
  have e : (m.hash.map (Value.int .u8)).toArray = (hshV m.hash).toArray := rfl
  rw [e] at hcall
  clear hb hA hW hA1 hW1 n1 e
  generalize hshV m.hash = hv at *
  go_wp2_with (with_reducible first | (first | refine' tw1 (ido ?_) ?_ | refine' tw2 (ido ?_) ?_); rotate_left | refine' tw3 (ido ?_) | rfl | apply tn | refine' tw4 ?_)
  refine (hcall _ ((Upd.refl _ _).drew)).mono ?_
  rintro e w3 ⟨rfl, u3, hW3⟩
  have U3 := hide (((unhide N1).drew.mono (fun _ _ h => h.elim)).trans u3)
  have HW := hide hW3
  clear hcall N1 u3 hW3
  go_wp2_with (with_reducible first | (first | refine' tw1 (ido ?_) ?_ | refine' tw2 (ido ?_) ?_); rotate_left | refine' tw3 (ido ?_) | rfl | apply tn | refine' tw4 ?_)
  go_end0
  exact ⟨rfl, unhide U3, unhide HW⟩
/-- Numbers that fit their fields. -/
structure PutOk (m : MsgV) : Prop where
  ok : MsgOk m
  expiry : 0 ≤ m.expiry ∧ m.expiry < 4294967296
  number : 0 ≤ m.number ∧ m.number < 65536
/-- What a field's closure writes. -/
theorem putField_any (x : Fld) (base A W : Nat) (m : MsgV) (v : Value) (s : ByteArray) (w : World) (hv : FldV base w v x) (hA : MsB w A m) (hm : PutOk m) (hW : Wr w W s) (hs : s.size ≤ 1073741824) :
    ∃ F caps, v = .func (.func F) #[] caps ∧ (∀ args w, (callFunc F args).run Tryz.prog w = .ok (.enter F args) w) ∧ Calls Tryz.prog F (#[passW W, .pointer (some ⟨A, 0, none⟩)] ++ caps) w fun e w' => e = .returned (.tuple #[]) ∧ Upd (fun k => k = W) w w' ∧ Wr w' W (s ++ x.put m) := by
  obtain ⟨hk, hch, hid, ham, hl, hb, -, -⟩ := hm.ok
  have hex := hm.expiry
  have hnu := hm.number
  cases x with
  | ch =>
    obtain ⟨p, q, rfl, hp, hq, cp, cq⟩ := hv
    refine ⟨_, _, rfl, enters_of Tryz.func214 (by kernel_rfl) rfl, ?_⟩
    exact putU32_any 203 1 A p q W 4 m.ch.toNat m s w (enters_of Tryz.func203 (by kernel_rfl) rfl) (fp5_any A) cp cq hA (by rw [Int.toNat_of_nonneg hch.1]; rfl) hW (by decide) (by show m.ch.toNat < 4294967296; omega) (by omega) hs
  | id =>
    obtain ⟨p, q, rfl, hp, hq, cp, cq⟩ := hv
    refine ⟨_, _, rfl, enters_of Tryz.func200 (by kernel_rfl) rfl, ?_⟩
    exact putU64_any 169 2 A p q W 8 m.id.toNat m s w (enters_of Tryz.func169 (by kernel_rfl) rfl) (fp1_any A) cp cq hA (by rw [Int.toNat_of_nonneg hid.1]; rfl) hW (by decide) (by show m.id.toNat < 18446744073709551616; omega) (by omega) hs
  | amount =>
    obtain ⟨p, q, rfl, hp, hq, cp, cq⟩ := hv
    refine ⟨_, _, rfl, enters_of Tryz.func200 (by kernel_rfl) rfl, ?_⟩
    exact putU64_any 170 3 A p q W 8 m.amount.toNat m s w (enters_of Tryz.func170 (by kernel_rfl) rfl) (fp2_any A) cp cq hA (by rw [Int.toNat_of_nonneg ham.1]; rfl) hW (by decide) (by show m.amount.toNat < 18446744073709551616; omega) (by omega) hs
  | expiry =>
    obtain ⟨p, q, rfl, hp, hq, cp, cq⟩ := hv
    refine ⟨_, _, rfl, enters_of Tryz.func201 (by kernel_rfl) rfl, ?_⟩
    have ho : m.cells[36]? = some (.int .i64 m.expiry) := by
      have := hA.cells.2.2.2.2.1
      rwa [blk_cell hA.at_, List.getElem?_toArray] at this
    exact putI64_any 172 36 A p q W 4 m.expiry.toNat m s w (enters_of Tryz.func172 (by kernel_rfl) rfl) (fp3_any A) cp cq hA (by rw [Int.toNat_of_nonneg hex.1]; exact ho) hW (by decide) (by show m.expiry.toNat < 4294967296; omega) (by omega) hs
  | number =>
    obtain ⟨p, q, rfl, hp, hq, cp, cq⟩ := hv
    refine ⟨_, _, rfl, enters_of Tryz.func201 (by kernel_rfl) rfl, ?_⟩
    have ho : m.cells[37]? = some (.int .i64 m.number) := by
      have := hA.cells.2.2.2.2.2.1
      rwa [blk_cell hA.at_, List.getElem?_toArray] at this
    exact putI64_any 173 37 A p q W 2 m.number.toNat m s w (enters_of Tryz.func173 (by kernel_rfl) rfl) (fp4_any A) cp cq hA (by rw [Int.toNat_of_nonneg hnu.1]; exact ho) hW (by decide) (by show m.number.toNat < 65536; omega) (by omega) hs
  | hash =>
    have hv : v = _ := hv
    subst hv
    exact ⟨_, _, rfl, enters_of Tryz.func175 (by kernel_rfl) rfl, putHash_any A W m s w hA hW hs⟩
set_option maxRecDepth 100000 in
set_option maxHeartbeats 1000000 in
theorem throughW_any (base A W : Nat) (v : Value) (xs : List Fld) (m : MsgV) (s : ByteArray) (w0 w : World) (hv : FldsO base w0 v xs) (h0 : New w0 w) (hA : MsB w A m) (hm : PutOk m) (hW : Wr w W s) (hAb : A ≠ W) (hWb : w0.heap.size ≤ W) (hxl : xs.length ≤ 100) (hs : s.size ≤ 1000000) :
    Calls Tryz.prog 139 #[passW W, v, .pointer (some ⟨A, 0, none⟩)] w fun e w' => e = .returned (.tuple #[]) ∧ Upd (fun k => k = W) w w' ∧ Wr w' W (putsL xs m s) := by
  obtain ⟨vs, hrow, hvl, hcl⟩ := hv
  obtain ⟨va, vcap, hve⟩ := own_shape' hrow
  have hcell : ∀ (i : Nat) (u : Value), vs[i]? = some u → ∃ g, va = some ⟨g, 0, none⟩ ∧ base ≤ g ∧ w0.cell? ⟨g, i, none⟩ = some u := by
    intro i u hu
    have hlt := (List.getElem?_eq_some_iff.1 hu).1
    rcases hrow.2 with ⟨e, e0⟩ | ⟨g, cap, cur, e, hb, hg, _, _, hs, ht⟩
    · omega
    · rw [hve] at e
      injection e with e1
      refine ⟨g, e1, hb, ?_⟩
      rw [blk_cell hg]
      have : cur.toList[i]? = some u := by
        rw [← hu, ← ht, List.getElem?_take_of_lt (by omega)]
      rwa [Array.getElem?_toList] at this
  subst hve
  clear hrow
  have HCELL := hide hcell
  have HCL := hide hcl
  clear hcell hcl
  unfold passW
  go_enter Tryz.func139, Tryz.ntmps139
  go_upto_region 1 with fail
  have n1 : New w (w.alloc (.cells #[.pointer (some ⟨W, 0, none⟩), .pointer none] 234)) := (Upd.refl _ _).alloc _
  have hb := blk_alloc w (.cells #[.pointer (some ⟨W, 0, none⟩), .pointer none] 234)
  have hWw := hW.lt
  generalize w.alloc (.cells #[.pointer (some ⟨W, 0, none⟩), .pointer none] 234) = w1 at n1 hb ⊢
  have hBw : W ≠ w.heap.size := by omega
  generalize w.heap.size = B at hb hBw ⊢
  have HB := hide hb
  have HA1 := hide (hA.new n1)
  have HW1 := hide (hW.new n1)
  have N1 := hide n1
  have N0 := hide (h0.trans n1)
  have hxb : (xs.length : Int) ≤ 100 := by omega
  clear hb hA hW n1 hWw h0
  go_wp2_with fail
  go_loopw [7, 10] (fun _ iv wr => ∃ i : Nat, iv = .int .i64 (i : Int) ∧ i ≤ xs.length ∧ Hid (Wr wr W (putsL (xs.take i) m s)) ∧ Upd (fun k => k = W) w1 wr) (fun _ iv _ => xs.length - (intOf iv).toNat)
  case atStart => exact ⟨0, rfl, Nat.zero_le _, HW1, Upd.refl _ _⟩
  case round =>
    obtain ⟨i, rfl, hi, hM, nr⟩ := hrel
    obtain ⟨wq, rfl⟩ : ∃ wq : World, wq = wr := ⟨_, rfl⟩
    by_cases hlt : i < xs.length
    · obtain ⟨x, hx⟩ : ∃ x, xs[i]? = some x := ⟨_, List.getElem?_eq_getElem hlt⟩
      obtain ⟨u, hu⟩ : ∃ u, vs[i]? = some u := ⟨_, List.getElem?_eq_getElem (by omega)⟩
      obtain ⟨g, rfl, hgb, hc⟩ := unhide HCELL i u hu
      have hf := unhide HCL i x u hx hu
      have nq : New w0 wq := (unhide N0).then nr (fun k hk e => by omega)
      have hfq : FldV base wq u x := hf.new nq
      have hcq : wq.cell? ⟨g, i, none⟩ = some u := nq.cell hc (fun h => h)
      have hBq := nr.old (unhide HB) (fun e => hBw e.symm)
      have rP := rowN_whole hBq 2 rfl
      have d0 : wq.cell? ⟨B, 0, none⟩ = some (.pointer (some ⟨W, 0, none⟩)) := blk_cell hBq 0
      have d1 : wq.cell? ⟨B, 1, none⟩ = some (.pointer none) := blk_cell hBq 1
      have hsz := puts_size m hm.ok.len (xs.take i) s
      rw [List.length_take] at hsz
      obtain ⟨F, caps, rfl, hE, hcall⟩ := putField_any x base A W m u _ wq hfq ((unhide HA1).upd nr hAb) hm (unhide hM) (by omega)
      rw [← puts_take hx] at hcall
      have hi0 : (i : Int) < (xs.length : Int) := by omega
      unfold passW at hcall
      clear hf hfq hc hBq hx hu hsz nq
      go_wp2_with fail
      refine hcall.mono ?_
      rintro e w3 ⟨rfl, u3, hM3⟩
      have hn3 := nr.trans u3
      have HM3 := hide hM3
      clear hcall rP d0 d1 hcq hE hM3 u3 nr
      go_wp2_with fail
      go_roundw
      case rel => exact ⟨i + 1, by go_num, by omega, HM3, hn3⟩
      case measure => simp [intOf]; omega
    · obtain rfl : i = xs.length := by omega
      rw [List.take_length] at hM
      go_wp2_with fail
      go_end0
      exact ⟨rfl, ((unhide N1).mono (fun _ _ h => h.elim)).trans nr, unhide hM⟩

end Go.Proofs.YtfmkdoachjgjbaaGreatDoor
namespace Go.Proofs.YtfmkdoachjgjbaaGreatDoor
open Go.RowKit

def taF (x : Value) : Sem Value := Instr.typeAssert x 20 265 true
theorem ta_fold (x : Value) : Instr.typeAssert x 20 265 true = taF x := rfl
theorem ta_nil (w : World) : (taF .nilIface).run Tryz.prog w = .ok (.tuple #[.agg #[.int .i64 0], .bool false]) w := by kernel_rfl
attribute [local go_sem ↓ high] ta_fold
attribute [local go_sem] ta_nil
set_option maxHeartbeats 1000000 in
theorem try_idle (p : Addr) (w : World) :
    CallsD Tryz.prog 165 #[.pointer (some p)] .returning w fun e u' w' => e = .returned (.tuple #[]) ∧ u' = .returning ∧ New w w' := by
  refine callsD_of_wpS Tryz.func165 rfl fun c₀ cs hu => ?_
  apply wpS_seq
  apply wpS_region
  simp [wpOpsS, go_sem, recoverD, hu, Tryz.ntmps165, Exit.thenS]
  have n1 : New w (w.alloc (.cells #[.int .i64 0] 265)) := (Upd.refl _ _).alloc _
  generalize w.alloc (.cells #[.int .i64 0] 265) = w1 at n1 ⊢
  generalize w.heap.size = B
  apply wpS_seq
  apply wpS_region
  simp [wpOpsS, go_sem, Exit.thenS]
  refine wpS_cond (t := false) (by simp [Act.eval, Array.replicate]) ?_
  simp only [Bool.false_eq_true, if_false]
  refine wpS_of_wp (wp_skip ?_)
  cases c₀
  simp_all [bodyPostS, results, Tryz.results165]
/-- The cells of a row of function values. -/
def FnRow (w : World) (b n : Nat) (F : Nat → FuncId) (caps : Nat → Array Value) : Prop := ∀ i, i < n → w.cell? ⟨b, i, none⟩ = some (.func (.func (F i)) #[] (caps i))
set_option maxRecDepth 100000 in
set_option maxHeartbeats 2000000 in
/-- Steps none of which goes wrong: T is what they may write. -/
theorem try_any (b n base : Nat) (F : Nat → FuncId) (caps : Nat → Array Value) (T : Nat → Prop) (C : Nat → World → Prop) (w : World) (hn : n ≤ 100)
    (hrow : FnRow w b n F caps) (hT : ∀ k, T k → k < base) (hb : base ≤ b) (hbw : base ≤ w.heap.size) (hbl : b < w.heap.size)
    (hst : ∀ i w w', C i w → Upd (fun k => base ≤ k) w w' → C i w')
    (hs : ∀ i, i < n → ∀ w', C i w' → (∀ args w, (callFunc (F i) args).run Tryz.prog w = .ok (.enter (F i) args) w) ∧ Calls Tryz.prog (F i) (caps i) w' fun e w'' => e = .returned (.tuple #[]) ∧ Upd T w' w'' ∧ C (i + 1) w'')
    (h0 : C 0 w) :
    Calls Tryz.prog 132 #[.slice (some ⟨b, 0, none⟩) n n] w fun e w' => e = .returned (.int .i64 0) ∧ Upd T w w' ∧ C n w' := by
  have hmf : ∀ (fn : Fn) (first cap : Array Value) (w : World), (Instr.makeFunc fn first cap).run Tryz.prog w = .ok (.func fn first cap) w := fun _ _ _ _ => rfl
  have hnn : (n : Int) ≤ 100 := by omega
  go_enter_defers Tryz.func132, Tryz.ntmps132
  go_upto_region 1 with fail
  have n1 : New w (w.alloc (.cells #[.int .i64 0] 26)) := (Upd.refl _ _).alloc _
  have hE := blk_alloc w (.cells #[.int .i64 0] 26)
  have h1 : C 0 (w.alloc (.cells #[.int .i64 0] 26)) := hst 0 w _ h0 (n1.mono (fun _ _ h => h.elim))
  generalize w.alloc (.cells #[.int .i64 0] 26) = w1 at n1 hE h1 ⊢
  have hEb : base ≤ w.heap.size ∧ b ≠ w.heap.size := ⟨hbw, by omega⟩
  generalize hE0 : w.heap.size = E at hE hEb ⊢
  have HE0 := hide hE0
  clear hE0
  have HE := hide hE
  have H1 := hide h1
  have HR := hide hrow
  have N1 := hide n1
  clear hE h1 hrow n1 h0
  go_wp2_with fail
  go_loopw [8] (fun iv wr => ∃ i : Nat, iv = .int .i64 (i : Int) ∧ i ≤ n ∧ Hid (C i wr) ∧ Upd T w1 wr) (fun iv _ => n - (intOf iv).toNat)
  case atStart => exact ⟨0, rfl, Nat.zero_le _, H1, Upd.refl _ _⟩
  case round =>
    obtain ⟨i, rfl, hi, hC, u⟩ := hrel
    obtain ⟨wq, rfl⟩ : ∃ wq : World, wq = wr := ⟨_, rfl⟩
    by_cases hlt : i < n
    · have hil : (i : Int) < (n : Int) := by omega
      obtain ⟨hen, hcall⟩ := hs i hlt wq (unhide hC)
      have hc := u.cell ((unhide N1).cell (unhide HR i hlt) (fun h => h)) (fun h => by have h : T b := h; have := hT b h; omega)
      generalize F i = Fi at *
      generalize caps i = ci at *
      clear hC
      go_wp2_with fail
      refine hcall.mono ?_
      rintro e w3 ⟨rfl, u3, hC3⟩
      have hC3 := hide hC3
      have u4 := u.trans u3
      clear hc hen hcall u u3
      go_wp2_with fail
      go_roundw
      case rel => exact ⟨i + 1, by go_num, hlt, hC3, u4⟩
      case measure => simp [intOf]; omega
    · obtain rfl : i = n := by omega
      have hE := u.old (unhide HE) (fun h => by have h : T E := h; have := hT E h; omega)
      have hUE := hE
      have f0 := blk_free hE 0
      have c0 := blk_cell hE 0
      have hU := hide u
      clear u hE
      go_wp2_with fail
      have u5 : Upd (fun k => k = E) wq (wq.setCell ⟨E, 0, none⟩ (.int .i64 0)) := (Upd.refl _ _).set1 _ _
      have c5 : (wq.setCell ⟨E, 0, none⟩ (.int .i64 0)).cell? ⟨E, 0, none⟩ = some (.int .i64 0) := blk_cell (blk_set (hUE) 0 (.int .i64 0)) 0
      have hC5 := hst _ _ _ (unhide hC) (u5.mono (fun k _ e => by rw [e]; exact hEb.1))
      have U5 : Upd T w (wq.setCell ⟨E, 0, none⟩ (.int .i64 0)) := (((unhide N1).mono (fun _ _ h => h.elim)).trans (unhide hU)).then u5 (fun k hk e => by have := unhide HE0; omega)
      generalize wq.setCell ⟨E, 0, none⟩ (.int .i64 0) = w5 at *
      refine leaves_cons (f := 165) (args := #[.pointer (some ⟨E, 0, none⟩)]) (by simp) (by simp [go_sem]) ?_
      refine (try_idle ⟨E, 0, none⟩ _).mono ?_
      rintro e u' w'' ⟨rfl, rfl, n⟩
      have c6 := n.cell c5 (fun h => h)
      have hC6 := hst _ _ _ hC5 (n.mono (fun _ _ h => h.elim))
      have U6 : Upd T w w'' := U5.trans (n.mono (fun _ _ h => h.elim))
      simp [Go.Leaves, settle, results, Tryz.results132, go_sem, c6]
      exact ⟨U6, hC6⟩
end Go.Proofs.YtfmkdoachjgjbaaGreatDoor
namespace Go.Proofs.YtfmkdoachjgjbaaGreatDoor
open Go.RowKit

theorem FldsO.upd {base : Nat} {w w' : World} {v : Value} {xs : List Fld} {S : Nat → Prop} (h : FldsO base w v xs) (u : Upd S w w') (hS : ∀ k, base ≤ k → ¬ S k) : FldsO base w' v xs := by
  obtain ⟨vs, hrow, hl, hc⟩ := h
  refine ⟨vs, ⟨hrow.1, ?_⟩, hl, fun i x a h1 h2 => (hc i x a h1 h2).upd u hS⟩
  rcases hrow.2 with h | ⟨g, cap, cur, e1, e2, hg, r⟩
  · exact .inl h
  · exact .inr ⟨g, cap, cur, e1, e2, u.old hg (hS g e2), r⟩
theorem FldsO.new {base : Nat} {w w' : World} {v : Value} {xs : List Fld} (h : FldsO base w v xs) (u : New w w') : FldsO base w' v xs := h.upd u (fun _ _ h => h)
set_option maxRecDepth 100000 in
set_option maxHeartbeats 1000000 in
theorem enc1_any (V A W : Nat) (m : MsgV) (s : ByteArray) (w : World) (hV : w.cell? ⟨V, 0, none⟩ = some (.pointer (some ⟨W, 0, none⟩))) (hA : MsB w A m) (hk : 0 ≤ m.kind ∧ m.kind < 256) (hW : Wr w W s) (hs : s.size ≤ 1073741824) :
    Calls Tryz.prog 152 #[.pointer (some ⟨V, 0, none⟩), .pointer (some ⟨A, 0, none⟩)] w fun e w' => e = .returned (.tuple #[]) ∧ Upd (fun k => k = W) w w' ∧ Wr w' W (s ++ numS m.kind.toNat 1) := by
  have c0 := hA.cells.1
  obtain ⟨k, hke⟩ := Int.eq_ofNat_of_zero_le hk.1
  rw [hke] at c0
  have hwr : IntKind.u64.wrap (k : Int) = k := wrapU (by omega) (by omega)
  have hcall := fun w' (n' : New w w') => number_any W k 1 s w' (hW.new n') (by decide) (by decide) (by show k < 256; omega) hs
  rw [hke, Int.toNat_natCast]
  clear hA hW hke hk
  go_enter Tryz.func152, Tryz.ntmps152
  go_wp2_with (with_reducible first | (first | refine' tw1 (ido ?_) ?_ | refine' tw2 (ido ?_) ?_); rotate_left | refine' tw3 (ido ?_) | rfl | apply tn | refine' tw4 ?_)
  refine (hcall _ (Upd.refl _ _)).mono ?_
  rintro e w3 ⟨rfl, u3, hW3⟩
  have U3 := hide u3
  have HW := hide hW3
  clear hcall u3 hW3
  go_wp2_with (with_reducible first | (first | refine' tw1 (ido ?_) ?_ | refine' tw2 (ido ?_) ?_); rotate_left | refine' tw3 (ido ?_) | rfl | apply tn | refine' tw4 ?_)
  refine (must_ok _).mono ?_
  rintro e w4 ⟨rfl, q4⟩
  have U4 := hide ((unhide U3).trans (q4.upd _))
  have HW := hide ((unhide HW).new (q4.upd _))
  clear U3 q4
  go_wp2_with (with_reducible first | (first | refine' tw1 (ido ?_) ?_ | refine' tw2 (ido ?_) ?_); rotate_left | refine' tw3 (ido ?_) | rfl | apply tn | refine' tw4 ?_)
  go_end0
  exact ⟨rfl, unhide U4, unhide HW⟩
set_option maxRecDepth 100000 in
set_option maxHeartbeats 1000000 in
theorem enc2_any (base V L A W : Nat) (v : Value) (xs : List Fld) (m : MsgV) (s : ByteArray) (w0 w : World) (hV : w.cell? ⟨V, 0, none⟩ = some (.pointer (some ⟨W, 0, none⟩))) (hL : w.cell? ⟨L, 0, none⟩ = some v) (hv : FldsO base w0 v xs) (h0 : New w0 w) (hA : MsB w A m) (hm : PutOk m) (hW : Wr w W s) (hAb : A ≠ W) (hWb : w0.heap.size ≤ W) (hxl : xs.length ≤ 100) (hs : s.size ≤ 1000000) :
    Calls Tryz.prog 153 #[.pointer (some ⟨V, 0, none⟩), .pointer (some ⟨L, 0, none⟩), .pointer (some ⟨A, 0, none⟩)] w fun e w' => e = .returned (.tuple #[]) ∧ Upd (fun k => k = W) w w' ∧ Wr w' W (putsL xs m s) := by
  obtain ⟨va, vcap, hve⟩ : ∃ a c, v = .slice a xs.length c := by
    obtain ⟨vs, hrow, -⟩ := hv
    exact own_shape' hrow
  subst hve
  have hcall := fun w' (n' : New w w') => throughW_any base A W _ xs m s w0 w' hv (h0.trans n') (hA.new n') hm (hW.new n') hAb hWb hxl hs
  unfold passW at hcall
  clear hv hA hW h0
  go_enter Tryz.func153, Tryz.ntmps153
  go_wp2_with (with_reducible first | (first | refine' tw1 (ido ?_) ?_ | refine' tw2 (ido ?_) ?_); rotate_left | refine' tw3 (ido ?_) | rfl | apply tn | refine' tw4 ?_)
  refine (hcall _ (Upd.refl _ _)).mono ?_
  rintro e w3 ⟨rfl, u3, hW3⟩
  have U3 := hide u3
  have HW := hide hW3
  clear hcall u3 hW3
  go_wp2_with (with_reducible first | (first | refine' tw1 (ido ?_) ?_ | refine' tw2 (ido ?_) ?_); rotate_left | refine' tw3 (ido ?_) | rfl | apply tn | refine' tw4 ?_)
  go_end0
  exact ⟨rfl, unhide U3, unhide HW⟩
def encS (xs : List Fld) (m : MsgV) : ByteArray := putsL xs m (numS m.kind.toNat 1)
attribute [local go_sem ↓ high] ld_msg_fold st_msg_fold al_msg_fold
attribute [local go_sem] ld_msg st_msg al_msg rowN_drew
set_option maxRecDepth 100000 in
set_option maxHeartbeats 2000000 in
theorem encode_any (m : MsgV) (xs : List Fld) (hm : PutOk m) (hk : fieldsOf m.kind = some xs) (hkb : 0 ≤ m.kind ∧ m.kind < 256) (hxl : xs.length ≤ 100) (hmay : mayMsg m = true) (w : World) :
    Calls Tryz.prog 115 #[.agg m.cells.toArray] w (Makes (.tuple #[.string (encS xs m), .int .i64 0]) w) := by
  have hmf : ∀ (fn : Fn) (first cap : Array Value) (w : World), (Instr.makeFunc fn first cap).run Tryz.prog w = .ok (.func fn first cap) w := fun _ _ _ _ => rfl
  have hmy := fun w' => mayMsg_any m hm.ok w'
  rw [hmay] at hmy
  have hfl := fun w' => fields_any m.kind xs hk w'
  go_enter Tryz.func115, Tryz.ntmps115
  go_upto_region 1 with fail
  have hA := ms_alloc w m hm.ok.len
  have n1 : New w (w.alloc (.cells m.cells.toArray 101)) := (Upd.refl _ _).alloc _
  generalize w.alloc (.cells m.cells.toArray 101) = w1 at n1 hA ⊢
  generalize w.heap.size = A at hA ⊢
  have rA := hA.row
  have HA := hide hA
  have N1 := hide n1
  clear hA n1
  go_wp2_with fail
  refine (hmy w1).mono ?_
  rintro e w2 ⟨rfl, n2⟩
  have hA2 := (unhide HA).new n2
  have c0 := hA2.cells.1
  have HA := hide hA2
  have N2 := hide ((unhide N1).trans n2)
  clear rA hmy n2 hA2 N1
  go_wp2_with fail
  refine (hfl w2).mono ?_
  rintro e w3 ⟨v, rfl, n3, hf⟩
  obtain ⟨va, vc, rfl⟩ : ∃ a c, v = .slice a xs.length c := by
    obtain ⟨vs, hrow, -⟩ := hf
    exact own_shape' hrow
  have hA3 := (unhide HA).new n3
  have HF := hide hf
  have hle := n3.size
  have HA := hide hA3
  have N3 := hide ((unhide N2).trans n3)
  clear hfl n3 hf hA3 N2 c0
  go_upto_region 5 with fail
  have n4 : New w3 (w3.alloc (.cells #[.slice va xs.length vc] 226)) := (Upd.refl _ _).alloc _
  have b4 := blk_alloc w3 (.cells #[.slice va xs.length vc] 226)
  have z4 : (w3.alloc (.cells #[.slice va xs.length vc] 226)).heap.size = w3.heap.size + 1 := World.size_alloc _ _
  generalize w3.alloc (.cells #[.slice va xs.length vc] 226) = w4 at n4 b4 z4 ⊢
  have n5 : New w4 (w4.alloc (.cells #[.string ⟨#[]⟩] 174)) := (Upd.refl _ _).alloc _
  have b5 := blk_alloc w4 (.cells #[.string ⟨#[]⟩] 174)
  have z5 : (w4.alloc (.cells #[.string ⟨#[]⟩] 174)).heap.size = w3.heap.size + 2 := by rw [World.size_alloc, z4]
  rw [z4] at b5
  generalize w4.alloc (.cells #[.string ⟨#[]⟩] 174) = w5 at n5 b5 z5 ⊢
  have n6 : New w5 (w5.alloc (.cells #[.pointer (some ⟨w3.heap.size + 1, 0, none⟩)] 172)) := (Upd.refl _ _).alloc _
  have b6 := blk_alloc w5 (.cells #[.pointer (some ⟨w3.heap.size + 1, 0, none⟩)] 172)
  have z6 : (w5.alloc (.cells #[.pointer (some ⟨w3.heap.size + 1, 0, none⟩)] 172)).heap.size = w3.heap.size + 3 := by rw [World.size_alloc, z5]
  rw [z5] at b6
  generalize w5.alloc (.cells #[.pointer (some ⟨w3.heap.size + 1, 0, none⟩)] 172) = w6 at n6 b6 z6 ⊢
  have hAlt := (unhide HA).lt
  have b7 := blk_alloc w6 (.cells #[.func (.func 152) #[] #[.pointer (some ⟨w3.heap.size + 1 + 1, 0, none⟩), .pointer (some ⟨A, 0, none⟩)], .func (.func 153) #[] #[.pointer (some ⟨w3.heap.size + 1 + 1, 0, none⟩), .pointer (some ⟨w3.heap.size, 0, none⟩), .pointer (some ⟨A, 0, none⟩)]] 1)
  have n7 : New w6 (w6.alloc (.cells #[.func (.func 152) #[] #[.pointer (some ⟨w3.heap.size + 1 + 1, 0, none⟩), .pointer (some ⟨A, 0, none⟩)], .func (.func 153) #[] #[.pointer (some ⟨w3.heap.size + 1 + 1, 0, none⟩), .pointer (some ⟨w3.heap.size, 0, none⟩), .pointer (some ⟨A, 0, none⟩)]] 1)) := (Upd.refl _ _).alloc _
  have z7 : (w6.alloc (.cells #[.func (.func 152) #[] #[.pointer (some ⟨w3.heap.size + 1 + 1, 0, none⟩), .pointer (some ⟨A, 0, none⟩)], .func (.func 153) #[] #[.pointer (some ⟨w3.heap.size + 1 + 1, 0, none⟩), .pointer (some ⟨w3.heap.size, 0, none⟩), .pointer (some ⟨A, 0, none⟩)]] 1)).heap.size = w3.heap.size + 4 := by rw [World.size_alloc, z6]
  rw [z6] at b7
  have hL6 : w6.cell? ⟨w3.heap.size, 0, none⟩ = some (.slice va xs.length vc) := n6.cell (n5.cell (blk_cell b4 0) (fun h => h)) (fun h => h)
  have hV6 : w6.cell? ⟨w3.heap.size + 1 + 1, 0, none⟩ = some (.pointer (some ⟨w3.heap.size + 1, 0, none⟩)) := blk_cell b6 0
  have hW6 : Wr w6 (w3.heap.size + 1) ⟨#[]⟩ := n6.old b5 (fun h => h)
  have hA6 := (((unhide HA).new n4).new n5).new n6
  have n36 : New w3 w6 := (n4.trans n5).trans n6
  have hf := unhide HF
  have N6 := hide ((unhide N3).trans n36)
  have hcall := try_any (w3.heap.size + 3) 2 (w3.heap.size + 3) (fun i => if i = 0 then 152 else 153)
    (fun i => if i = 0 then #[.pointer (some ⟨w3.heap.size + 1 + 1, 0, none⟩), .pointer (some ⟨A, 0, none⟩)] else #[.pointer (some ⟨w3.heap.size + 1 + 1, 0, none⟩), .pointer (some ⟨w3.heap.size, 0, none⟩), .pointer (some ⟨A, 0, none⟩)])
    (fun k => k = w3.heap.size + 1) (fun i w' => Upd (fun k => k = w3.heap.size + 1) w6 w' ∧ Wr w' (w3.heap.size + 1) (if i = 0 then ⟨#[]⟩ else if i = 1 then numS m.kind.toNat 1 else encS xs m)) _ (by decide)
    (by
      intro i hi
      rcases (by omega : i = 0 ∨ i = 1) with rfl | rfl
      · exact blk_cell b7 0
      · exact blk_cell b7 1)
    (fun k hk => by omega) (Nat.le_refl _) (by rw [z7]; omega) (by rw [z7]; omega)
    (by
      rintro i a b ⟨h1, h2⟩ u
      exact ⟨h1.then u (fun k hk t => by have t : w3.heap.size + 3 ≤ k := t; omega), u.old h2 (fun t => by have t : w3.heap.size + 3 ≤ w3.heap.size + 1 := t; omega)⟩)
    (by
      rintro i hi a ⟨h1, h2⟩
      have hVa := h1.cell hV6 (fun h => by have h : w3.heap.size + 1 + 1 = w3.heap.size + 1 := h; omega)
      have hLa := h1.cell hL6 (fun h => by have h : w3.heap.size = w3.heap.size + 1 := h; omega)
      have hAa := hA6.upd h1 (fun h => by have h : A = w3.heap.size + 1 := h; omega)
      have n3a : New w3 a := n36.then h1 (fun k hk t => by omega)
      rcases (by omega : i = 0 ∨ i = 1) with rfl | rfl
      · refine ⟨enters_of Tryz.func152 (by kernel_rfl) rfl, ?_⟩
        refine (enc1_any _ A _ m _ a hVa hAa hkb h2 (by show (0 : Nat) ≤ _; omega)).mono ?_
        rintro e b ⟨rfl, u, hb⟩
        refine ⟨rfl, u, h1.trans u, ?_⟩
        have e0 : (⟨#[]⟩ : ByteArray) ++ numS m.kind.toNat 1 = numS m.kind.toNat 1 := ByteArray.empty_append
        exact e0 ▸ hb
      · refine ⟨enters_of Tryz.func153 (by kernel_rfl) rfl, ?_⟩
        refine (enc2_any _ _ _ A _ _ xs m _ w3 a hVa hLa hf n3a hAa hm h2 (by omega) (by omega) hxl (by show (numS m.kind.toNat 1).size ≤ 1000000; rw [numS_size]; decide)).mono ?_
        rintro e b ⟨rfl, u, hb⟩
        exact ⟨rfl, u, h1.trans u, hb⟩)
    ⟨n7.mono (fun _ _ h => h.elim), n7.old hW6 (fun h => h)⟩
  have hL6' := hide hL6
  clear b4 b5 b6 b7 hL6 hf hA6 n4 n5 n6 z4 z5 HA HF
  go_wp2_with fail
  refine hcall.mono ?_
  rintro e w8 ⟨rfl, u8, u68, hW8⟩
  have hV8 := u68.cell hV6 (fun h => by have h : w3.heap.size + 1 + 1 = w3.heap.size + 1 := h; omega)
  have hW8 : Wr w8 (w3.heap.size + 1) (encS xs m) := hW8
  have N8 := hide ((unhide N6).then u68 (fun k hk t => by have := (unhide N3).size; omega))
  clear hcall u8 u68 n7 z7 hV6 hW6 n36 N6 N3 z6 hL6' hAlt hle
  generalize w3.heap.size + 1 = W at *
  generalize encS xs m = s at *
  generalize W + 1 = V at *
  go_wp2_with fail
  refine (bytesW_any _ _ _ hW8).mono ?_
  rintro e w9 ⟨rfl, rfl⟩
  clear hW8 hV8
  go_wp2_with fail
  go_ret2
  exact ⟨rfl, unhide N8⟩
end Go.Proofs.YtfmkdoachjgjbaaGreatDoor
