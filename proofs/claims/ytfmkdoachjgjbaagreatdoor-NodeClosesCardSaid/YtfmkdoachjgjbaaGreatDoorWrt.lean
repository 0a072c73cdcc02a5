/-
  Fields of messages, written (printed by tools/mk_wrt.py).
-/
import Derived.Test.YtfmkdoachjgjbaaGreatDoorMcf
import Derived.Test.YtfmkdoachjgjbaaGreatDoorMaf
set_option linter.unusedVariables false
set_option linter.unusedSimpArgs false
namespace Go.Proofs.YtfmkdoachjgjbaaGreatDoor
open Go.RowKit

def Fld.put (x : Fld) (m : MsgV) : ByteArray :=
  match x with
  | .ch => numS m.ch.toNat 4
  | .id => numS m.id.toNat 8
  | .amount => numS m.amount.toNat 8
  | .hash => strOfNums m.hash
  | .expiry => numS m.expiry.toNat 4
  | .number => numS m.number.toNat 2
theorem Fld.put_size (x : Fld) (m : MsgV) (h : m.hash.length = 32) : (x.put m).size ≤ 32 := by
  cases x
  case hash => show (strOfNums m.hash).size ≤ 32; rw [strOfNums_size, h]; exact Nat.le_refl _
  all_goals (unfold Fld.put; simp only [numS_size]; decide)
def putsL (xs : List Fld) (m : MsgV) (s : ByteArray) : ByteArray := xs.foldl (fun s x => s ++ x.put m) s
theorem puts_take {xs : List Fld} {i : Nat} {x : Fld} (h : xs[i]? = some x) (m : MsgV) (s : ByteArray) : putsL (xs.take (i + 1)) m s = putsL (xs.take i) m s ++ x.put m := by
  unfold putsL
  rw [List.take_add_one, h, List.foldl_append]
  rfl
theorem puts_size (m : MsgV) (h : m.hash.length = 32) : ∀ (xs : List Fld) (s : ByteArray), (putsL xs m s).size ≤ s.size + 32 * xs.length
  | [], s => Nat.le_refl _
  | x :: xs, s => by
    have h1 := puts_size m h xs (s ++ x.put m)
    have h2 := x.put_size m h
    have e : putsL (x :: xs) m s = putsL xs m (s ++ x.put m) := rfl
    rw [ByteArray.size_append] at h1
    rw [e, List.length_cons]
    omega
def passW (W : Nat) : Value := .agg #[.pointer (some ⟨W, 0, none⟩), .pointer none]
set_option maxHeartbeats 1000000 in
theorem must_ok (w : World) : Calls Tryz.prog 135 #[.int .i64 0] w (Reads (.tuple #[]) w) := by
  go_enter Tryz.func135, Tryz.ntmps135
  go_wp2_with fail
  go_end0
  exact ⟨rfl, Q.refl _⟩
attribute [local go_sem ↓ high] ld_hsh_fold st_hsh_fold al_hsh_fold bd_hsh_fold
attribute [local go_sem] ld_hsh st_hsh al_hsh bd_hsh rowN_drew

set_option maxRecDepth 100000 in
set_option maxHeartbeats 1000000 in
theorem putU64_any (F : FuncId) (o A p q W n : Nat) (x : Nat) (m : MsgV) (s : ByteArray) (w : World) (hE : ∀ args w, (callFunc F args).run Tryz.prog w = .ok (.enter F args) w) (hF : ∀ w, Calls Tryz.prog F #[.pointer (some ⟨A, 0, none⟩)] w (Reads (.pointer (some ⟨A, o, none⟩)) w)) (hp : w.cell? ⟨p, 0, none⟩ = some (.func (.func F) #[] #[])) (hq : w.cell? ⟨q, 0, none⟩ = some (.int .i64 (n : Int))) (hA : MsB w A m) (ho : m.cells[o]? = some (.int .u64 (x : Int))) (hW : Wr w W s) (hn : 1 ≤ n ∧ n ≤ 8) (hx : x < 2 ^ (8 * n)) (hxb : x < 18446744073709551616) (hs : s.size ≤ 1073741824) :
    Calls Tryz.prog 200 #[passW W, .pointer (some ⟨A, 0, none⟩), .pointer (some ⟨p, 0, none⟩), .pointer (some ⟨q, 0, none⟩)] w fun e w' => e = .returned (.tuple #[]) ∧ Upd (fun k => k = W) w w' ∧ Wr w' W (s ++ numS x n) := by
  unfold passW
  have hxi : (x : Int) < 18446744073709551616 := by omega
  have hwr : IntKind.u64.wrap (x : Int) = x := wrapU (by omega) (by omega)
  go_enter Tryz.func200, Tryz.ntmps200
  go_upto_region 1 with fail
  have n1 : New w (w.alloc (.cells #[.pointer (some ⟨W, 0, none⟩), .pointer none] 234)) := (Upd.refl _ _).alloc _
  have hb := blk_alloc w (.cells #[.pointer (some ⟨W, 0, none⟩), .pointer none] 234)
  generalize w.alloc (.cells #[.pointer (some ⟨W, 0, none⟩), .pointer none] 234) = w1 at n1 hb ⊢
  generalize w.heap.size = B at hb ⊢
  have hp1 := n1.cell hp (fun h => h)
  have hq1 := n1.cell hq (fun h => h)
  have HA := hide (hA.new n1)
  have HB := hide hb
  have HW := hide (hW.new n1)
  have N1 := hide n1
  clear hb hp hA hW hq n1
  go_wp2_with fail
  refine (hF w1).mono ?_
  rintro e w2 ⟨rfl, q2⟩
  have hA2 := (unhide HA).new (q2.upd _)
  have d0 : w2.cell? ⟨B, 0, none⟩ = some (.pointer (some ⟨W, 0, none⟩)) := q2.cell (blk_cell (unhide HB) 0)
  have d1 : w2.cell? ⟨B, 1, none⟩ = some (.pointer none) := q2.cell (blk_cell (unhide HB) 1)
  have co : w2.cell? ⟨A, o, none⟩ = some (.int .u64 (x : Int)) := by rw [blk_cell hA2.at_, List.getElem?_toArray]; exact ho
  have hq2 := q2.cell hq1
  have hW2 := (unhide HW).new (q2.upd _)
  have N2 := hide ((unhide N1).trans (q2.upd _))
  have hcall := fun w' (n' : New w2 w') => number_any W x n s w' (hW2.new n') hn.1 hn.2 hx hs
  clear hA2 q2 hp1 HB HA HW N1 hW2 hq1
  go_wp2_with (with_reducible first | (first | refine' tw1 (ido ?_) ?_ | refine' tw2 (ido ?_) ?_); rotate_left | refine' tw3 (ido ?_) | rfl | apply tn | refine' tw4 ?_)
  refine (hcall _ ((Upd.refl _ _).drew)).mono ?_
  rintro e w3 ⟨rfl, u3, hW3⟩
  have U3 := hide (((unhide N2).drew.mono (fun _ _ h => h.elim)).trans u3)
  have HW := hide hW3
  clear hcall N2 u3 hW3
  go_wp2_with (with_reducible first | (first | refine' tw1 (ido ?_) ?_ | refine' tw2 (ido ?_) ?_); rotate_left | refine' tw3 (ido ?_) | rfl | apply tn | refine' tw4 ?_)
  refine (must_ok _).mono ?_
  rintro e w4 ⟨rfl, q4⟩
  have U4 := hide ((unhide U3).trans (q4.upd _))
  have HW := hide ((unhide HW).new (q4.upd _))
  clear U3 q4
  go_wp2_with (with_reducible first | (first | refine' tw1 (ido ?_) ?_ | refine' tw2 (ido ?_) ?_); rotate_left | refine' tw3 (ido ?_) | rfl | apply tn | refine' tw4 ?_)
  go_end0
  exact ⟨rfl, unhide U4, unhide HW⟩
set_option maxRecDepth 100000 in
set_option maxHeartbeats 1000000 in
theorem putI64_any (F : FuncId) (o A p q W n : Nat) (x : Nat) (m : MsgV) (s : ByteArray) (w : World) (hE : ∀ args w, (callFunc F args).run Tryz.prog w = .ok (.enter F args) w) (hF : ∀ w, Calls Tryz.prog F #[.pointer (some ⟨A, 0, none⟩)] w (Reads (.pointer (some ⟨A, o, none⟩)) w)) (hp : w.cell? ⟨p, 0, none⟩ = some (.func (.func F) #[] #[])) (hq : w.cell? ⟨q, 0, none⟩ = some (.int .i64 (n : Int))) (hA : MsB w A m) (ho : m.cells[o]? = some (.int .i64 (x : Int))) (hW : Wr w W s) (hn : 1 ≤ n ∧ n ≤ 8) (hx : x < 2 ^ (8 * n)) (hxb : x < 18446744073709551616) (hs : s.size ≤ 1073741824) :
    Calls Tryz.prog 201 #[passW W, .pointer (some ⟨A, 0, none⟩), .pointer (some ⟨p, 0, none⟩), .pointer (some ⟨q, 0, none⟩)] w fun e w' => e = .returned (.tuple #[]) ∧ Upd (fun k => k = W) w w' ∧ Wr w' W (s ++ numS x n) := by
  unfold passW
  have hxi : (x : Int) < 18446744073709551616 := by omega
  have hwr : IntKind.u64.wrap (x : Int) = x := wrapU (by omega) (by omega)
  go_enter Tryz.func201, Tryz.ntmps201
  go_upto_region 1 with fail
  have n1 : New w (w.alloc (.cells #[.pointer (some ⟨W, 0, none⟩), .pointer none] 234)) := (Upd.refl _ _).alloc _
  have hb := blk_alloc w (.cells #[.pointer (some ⟨W, 0, none⟩), .pointer none] 234)
  generalize w.alloc (.cells #[.pointer (some ⟨W, 0, none⟩), .pointer none] 234) = w1 at n1 hb ⊢
  generalize w.heap.size = B at hb ⊢
  have hp1 := n1.cell hp (fun h => h)
  have hq1 := n1.cell hq (fun h => h)
  have HA := hide (hA.new n1)
  have HB := hide hb
  have HW := hide (hW.new n1)
  have N1 := hide n1
  clear hb hp hA hW hq n1
  go_wp2_with fail
  refine (hF w1).mono ?_
  rintro e w2 ⟨rfl, q2⟩
  have hA2 := (unhide HA).new (q2.upd _)
  have d0 : w2.cell? ⟨B, 0, none⟩ = some (.pointer (some ⟨W, 0, none⟩)) := q2.cell (blk_cell (unhide HB) 0)
  have d1 : w2.cell? ⟨B, 1, none⟩ = some (.pointer none) := q2.cell (blk_cell (unhide HB) 1)
  have co : w2.cell? ⟨A, o, none⟩ = some (.int .i64 (x : Int)) := by rw [blk_cell hA2.at_, List.getElem?_toArray]; exact ho
  have hq2 := q2.cell hq1
  have hW2 := (unhide HW).new (q2.upd _)
  have N2 := hide ((unhide N1).trans (q2.upd _))
  have hcall := fun w' (n' : New w2 w') => number_any W x n s w' (hW2.new n') hn.1 hn.2 hx hs
  clear hA2 q2 hp1 HB HA HW N1 hW2 hq1
  go_wp2_with (with_reducible first | (first | refine' tw1 (ido ?_) ?_ | refine' tw2 (ido ?_) ?_); rotate_left | refine' tw3 (ido ?_) | rfl | apply tn | refine' tw4 ?_)
  refine (hcall _ ((Upd.refl _ _).drew)).mono ?_
  rintro e w3 ⟨rfl, u3, hW3⟩
  have U3 := hide (((unhide N2).drew.mono (fun _ _ h => h.elim)).trans u3)
  have HW := hide hW3
  clear hcall N2 u3 hW3
  go_wp2_with (with_reducible first | (first | refine' tw1 (ido ?_) ?_ | refine' tw2 (ido ?_) ?_); rotate_left | refine' tw3 (ido ?_) | rfl | apply tn | refine' tw4 ?_)
  refine (must_ok _).mono ?_
  rintro e w4 ⟨rfl, q4⟩
  have U4 := hide ((unhide U3).trans (q4.upd _))
  have HW := hide ((unhide HW).new (q4.upd _))
  clear U3 q4
  go_wp2_with (with_reducible first | (first | refine' tw1 (ido ?_) ?_ | refine' tw2 (ido ?_) ?_); rotate_left | refine' tw3 (ido ?_) | rfl | apply tn | refine' tw4 ?_)
  go_end0
  exact ⟨rfl, unhide U4, unhide HW⟩
set_option maxRecDepth 100000 in
set_option maxHeartbeats 1000000 in
theorem putU32_any (F : FuncId) (o A p q W n : Nat) (x : Nat) (m : MsgV) (s : ByteArray) (w : World) (hE : ∀ args w, (callFunc F args).run Tryz.prog w = .ok (.enter F args) w) (hF : ∀ w, Calls Tryz.prog F #[.pointer (some ⟨A, 0, none⟩)] w (Reads (.pointer (some ⟨A, o, none⟩)) w)) (hp : w.cell? ⟨p, 0, none⟩ = some (.func (.func F) #[] #[])) (hq : w.cell? ⟨q, 0, none⟩ = some (.int .i64 (n : Int))) (hA : MsB w A m) (ho : m.cells[o]? = some (.int .u32 (x : Int))) (hW : Wr w W s) (hn : 1 ≤ n ∧ n ≤ 8) (hx : x < 2 ^ (8 * n)) (hxb : x < 18446744073709551616) (hs : s.size ≤ 1073741824) :
    Calls Tryz.prog 214 #[passW W, .pointer (some ⟨A, 0, none⟩), .pointer (some ⟨p, 0, none⟩), .pointer (some ⟨q, 0, none⟩)] w fun e w' => e = .returned (.tuple #[]) ∧ Upd (fun k => k = W) w w' ∧ Wr w' W (s ++ numS x n) := by
  unfold passW
  have hxi : (x : Int) < 18446744073709551616 := by omega
  have hwr : IntKind.u64.wrap (x : Int) = x := wrapU (by omega) (by omega)
  go_enter Tryz.func214, Tryz.ntmps214
  go_upto_region 1 with fail
  have n1 : New w (w.alloc (.cells #[.pointer (some ⟨W, 0, none⟩), .pointer none] 234)) := (Upd.refl _ _).alloc _
  have hb := blk_alloc w (.cells #[.pointer (some ⟨W, 0, none⟩), .pointer none] 234)
  generalize w.alloc (.cells #[.pointer (some ⟨W, 0, none⟩), .pointer none] 234) = w1 at n1 hb ⊢
  generalize w.heap.size = B at hb ⊢
  have hp1 := n1.cell hp (fun h => h)
  have hq1 := n1.cell hq (fun h => h)
  have HA := hide (hA.new n1)
  have HB := hide hb
  have HW := hide (hW.new n1)
  have N1 := hide n1
  clear hb hp hA hW hq n1
  go_wp2_with fail
  refine (hF w1).mono ?_
  rintro e w2 ⟨rfl, q2⟩
  have hA2 := (unhide HA).new (q2.upd _)
  have d0 : w2.cell? ⟨B, 0, none⟩ = some (.pointer (some ⟨W, 0, none⟩)) := q2.cell (blk_cell (unhide HB) 0)
  have d1 : w2.cell? ⟨B, 1, none⟩ = some (.pointer none) := q2.cell (blk_cell (unhide HB) 1)
  have co : w2.cell? ⟨A, o, none⟩ = some (.int .u32 (x : Int)) := by rw [blk_cell hA2.at_, List.getElem?_toArray]; exact ho
  have hq2 := q2.cell hq1
  have hW2 := (unhide HW).new (q2.upd _)
  have N2 := hide ((unhide N1).trans (q2.upd _))
  have hcall := fun w' (n' : New w2 w') => number_any W x n s w' (hW2.new n') hn.1 hn.2 hx hs
  clear hA2 q2 hp1 HB HA HW N1 hW2 hq1
  go_wp2_with (with_reducible first | (first | refine' tw1 (ido ?_) ?_ | refine' tw2 (ido ?_) ?_); rotate_left | refine' tw3 (ido ?_) | rfl | apply tn | refine' tw4 ?_)
  refine (hcall _ ((Upd.refl _ _).drew)).mono ?_
  rintro e w3 ⟨rfl, u3, hW3⟩
  have U3 := hide (((unhide N2).drew.mono (fun _ _ h => h.elim)).trans u3)
  have HW := hide hW3
  clear hcall N2 u3 hW3
  go_wp2_with (with_reducible first | (first | refine' tw1 (ido ?_) ?_ | refine' tw2 (ido ?_) ?_); rotate_left | refine' tw3 (ido ?_) | rfl | apply tn | refine' tw4 ?_)
  refine (must_ok _).mono ?_
  rintro e w4 ⟨rfl, q4⟩
  have U4 := hide ((unhide U3).trans (q4.upd _))
  have HW := hide ((unhide HW).new (q4.upd _))
  clear U3 q4
  go_wp2_with (with_reducible first | (first | refine' tw1 (ido ?_) ?_ | refine' tw2 (ido ?_) ?_); rotate_left | refine' tw3 (ido ?_) | rfl | apply tn | refine' tw4 ?_)
  go_end0
  exact ⟨rfl, unhide U4, unhide HW⟩
set_option maxRecDepth 100000 in
set_option maxHeartbeats 1000000 in
theorem putHash_any (A W : Nat) (m : MsgV) (s : ByteArray) (w : World) (hA : MsB w A m) (hW : Wr w W s) (hs : s.size ≤ 1073741824) :
    Calls Tryz.prog 175 #[passW W, .pointer (some ⟨A, 0, none⟩)] w fun e w' => e = .returned (.tuple #[]) ∧ Upd (fun k => k = W) w w' ∧ Wr w' W (s ++ strOfNums m.hash) := by
  unfold passW
  go_enter Tryz.func175, Tryz.ntmps175
  go_upto_region 2 with fail
  have n1 : New w (w.alloc (.cells #[.pointer (some ⟨W, 0, none⟩), .pointer none] 234)) := (Upd.refl _ _).alloc _
  have hb := blk_alloc w (.cells #[.pointer (some ⟨W, 0, none⟩), .pointer none] 234)
  generalize w.alloc (.cells #[.pointer (some ⟨W, 0, none⟩), .pointer none] 234) = w1 at n1 hb ⊢
  generalize w.heap.size = B at hb ⊢
  have d0 : w1.cell? ⟨B, 0, none⟩ = some (.pointer (some ⟨W, 0, none⟩)) := blk_cell hb 0
  have d1 : w1.cell? ⟨B, 1, none⟩ = some (.pointer none) := blk_cell hb 1
  have hA1 := hA.new n1
  have hW1 := hW.new n1
  obtain ⟨-, -, -, -, -, -, rH⟩ := hA1.cells
  have hl := hA1.len
  have N1 := hide n1
  have hcall := fun w' (n' : New w1 w') => hash_any W m.hash s w' (hW1.new n') hl hs
  have e : (m.hash.map (Value.int .u8)).toArray = (hshV m.hash).toArray := rfl
  rw [e] at hcall
  clear hb hA hW hA1 hW1 n1 e
  generalize hshV m.hash = hv at *
  go_wp2_with (with_reducible first | (first | refine' tw1 (ido ?_) ?_ | refine' tw2 (ido ?_) ?_); rotate_left | refine' tw3 (ido ?_) | rfl | apply tn | refine' tw4 ?_)
  refine (hcall _ ((Upd.refl _ _).drew)).mono ?_
  rintro e w3 ⟨rfl, u3, hW3⟩
  have U3 := hide (((unhide N1).drew.mono (fun _ _ h => h.elim)).trans u3)
  have HW := hide hW3
  clear hcall N1 u3 hW3
  go_wp2_with (with_reducible first | (first | refine' tw1 (ido ?_) ?_ | refine' tw2 (ido ?_) ?_); rotate_left | refine' tw3 (ido ?_) | rfl | apply tn | refine' tw4 ?_)
  go_end0
  exact ⟨rfl, unhide U3, unhide HW⟩
/-- Numbers that fit their fields. -/
structure PutOk (m : MsgV) : Prop where
  ok : MsgOk m
  expiry : 0 ≤ m.expiry ∧ m.expiry < 4294967296
  number : 0 ≤ m.number ∧ m.number < 65536
/-- What a field's closure writes. -/
theorem putField_any (x : Fld) (base A W : Nat) (m : MsgV) (v : Value) (s : ByteArray) (w : World) (hv : FldV base w v x) (hA : MsB w A m) (hm : PutOk m) (hW : Wr w W s) (hs : s.size ≤ 1073741824) :
    ∃ F caps, v = .func (.func F) #[] caps ∧ (∀ args w, (callFunc F args).run Tryz.prog w = .ok (.enter F args) w) ∧ Calls Tryz.prog F (#[passW W, .pointer (some ⟨A, 0, none⟩)] ++ caps) w fun e w' => e = .returned (.tuple #[]) ∧ Upd (fun k => k = W) w w' ∧ Wr w' W (s ++ x.put m) := by
  obtain ⟨hk, hch, hid, ham, hl, hb, -, -⟩ := hm.ok
  have hex := hm.expiry
  have hnu := hm.number
  cases x with
  | ch =>
    obtain ⟨p, q, rfl, hp, hq, cp, cq⟩ := hv
    refine ⟨_, _, rfl, enters_of Tryz.func214 (by kernel_rfl) rfl, ?_⟩
    exact putU32_any 203 1 A p q W 4 m.ch.toNat m s w (enters_of Tryz.func203 (by kernel_rfl) rfl) (fp5_any A) cp cq hA (by rw [Int.toNat_of_nonneg hch.1]; rfl) hW (by decide) (by show m.ch.toNat < 4294967296; omega) (by omega) hs
  | id =>
    obtain ⟨p, q, rfl, hp, hq, cp, cq⟩ := hv
    refine ⟨_, _, rfl, enters_of Tryz.func200 (by kernel_rfl) rfl, ?_⟩
    exact putU64_any 169 2 A p q W 8 m.id.toNat m s w (enters_of Tryz.func169 (by kernel_rfl) rfl) (fp1_any A) cp cq hA (by rw [Int.toNat_of_nonneg hid.1]; rfl) hW (by decide) (by show m.id.toNat < 18446744073709551616; omega) (by omega) hs
  | amount =>
    obtain ⟨p, q, rfl, hp, hq, cp, cq⟩ := hv
    refine ⟨_, _, rfl, enters_of Tryz.func200 (by kernel_rfl) rfl, ?_⟩
    exact putU64_any 170 3 A p q W 8 m.amount.toNat m s w (enters_of Tryz.func170 (by kernel_rfl) rfl) (fp2_any A) cp cq hA (by rw [Int.toNat_of_nonneg ham.1]; rfl) hW (by decide) (by show m.amount.toNat < 18446744073709551616; omega) (by omega) hs
  | expiry =>
    obtain ⟨p, q, rfl, hp, hq, cp, cq⟩ := hv
    refine ⟨_, _, rfl, enters_of Tryz.func201 (by kernel_rfl) rfl, ?_⟩
    have ho : m.cells[36]? = some (.int .i64 m.expiry) := by
      have := hA.cells.2.2.2.2.1
      rwa [blk_cell hA.at_, List.getElem?_toArray] at this
    exact putI64_any 172 36 A p q W 4 m.expiry.toNat m s w (enters_of Tryz.func172 (by kernel_rfl) rfl) (fp3_any A) cp cq hA (by rw [Int.toNat_of_nonneg hex.1]; exact ho) hW (by decide) (by show m.expiry.toNat < 4294967296; omega) (by omega) hs
  | number =>
    obtain ⟨p, q, rfl, hp, hq, cp, cq⟩ := hv
    refine ⟨_, _, rfl, enters_of Tryz.func201 (by kernel_rfl) rfl, ?_⟩
    have ho : m.cells[37]? = some (.int .i64 m.number) := by
      have := hA.cells.2.2.2.2.2.1
      rwa [blk_cell hA.at_, List.getElem?_toArray] at this
    exact putI64_any 173 37 A p q W 2 m.number.toNat m s w (enters_of Tryz.func173 (by kernel_rfl) rfl) (fp4_any A) cp cq hA (by rw [Int.toNat_of_nonneg hnu.1]; exact ho) hW (by decide) (by show m.number.toNat < 65536; omega) (by omega) hs
  | hash =>
    have hv : v = _ := hv
    subst hv
    exact ⟨_, _, rfl, enters_of Tryz.func175 (by kernel_rfl) rfl, putHash_any A W m s w hA hW hs⟩
set_option maxRecDepth 100000 in
set_option maxHeartbeats 1000000 in
theorem throughW_any (base A W : Nat) (v : Value) (xs : List Fld) (m : MsgV) (s : ByteArray) (w0 w : World) (hv : FldsO base w0 v xs) (h0 : New w0 w) (hA : MsB w A m) (hm : PutOk m) (hW : Wr w W s) (hAb : A ≠ W) (hWb : w0.heap.size ≤ W) (hxl : xs.length ≤ 100) (hs : s.size ≤ 1000000) :
    Calls Tryz.prog 139 #[passW W, v, .pointer (some ⟨A, 0, none⟩)] w fun e w' => e = .returned (.tuple #[]) ∧ Upd (fun k => k = W) w w' ∧ Wr w' W (putsL xs m s) := by
  obtain ⟨vs, hrow, hvl, hcl⟩ := hv
  obtain ⟨va, vcap, hve⟩ := own_shape' hrow
  have hcell : ∀ (i : Nat) (u : Value), vs[i]? = some u → ∃ g, va = some ⟨g, 0, none⟩ ∧ base ≤ g ∧ w0.cell? ⟨g, i, none⟩ = some u := by
    intro i u hu
    have hlt := (List.getElem?_eq_some_iff.1 hu).1
    rcases hrow.2 with ⟨e, e0⟩ | ⟨g, cap, cur, e, hb, hg, _, _, hs, ht⟩
    · omega
    · rw [hve] at e
      injection e with e1
      refine ⟨g, e1, hb, ?_⟩
      rw [blk_cell hg]
      have : cur.toList[i]? = some u := by
        rw [← hu, ← ht, List.getElem?_take_of_lt (by omega)]
      rwa [Array.getElem?_toList] at this
  subst hve
  clear hrow
  have HCELL := hide hcell
  have HCL := hide hcl
  clear hcell hcl
  unfold passW
  go_enter Tryz.func139, Tryz.ntmps139
  go_upto_region 1 with fail
  have n1 : New w (w.alloc (.cells #[.pointer (some ⟨W, 0, none⟩), .pointer none] 234)) := (Upd.refl _ _).alloc _
  have hb := blk_alloc w (.cells #[.pointer (some ⟨W, 0, none⟩), .pointer none] 234)
  have hWw := hW.lt
  generalize w.alloc (.cells #[.pointer (some ⟨W, 0, none⟩), .pointer none] 234) = w1 at n1 hb ⊢
  have hBw : W ≠ w.heap.size := by omega
  generalize w.heap.size = B at hb hBw ⊢
  have HB := hide hb
  have HA1 := hide (hA.new n1)
  have HW1 := hide (hW.new n1)
  have N1 := hide n1
  have N0 := hide (h0.trans n1)
  have hxb : (xs.length : Int) ≤ 100 := by omega
  clear hb hA hW n1 hWw h0
  go_wp2_with fail
  go_loopw [7, 10] (fun _ iv wr => ∃ i : Nat, iv = .int .i64 (i : Int) ∧ i ≤ xs.length ∧ Hid (Wr wr W (putsL (xs.take i) m s)) ∧ Upd (fun k => k = W) w1 wr) (fun _ iv _ => xs.length - (intOf iv).toNat)
  case atStart => exact ⟨0, rfl, Nat.zero_le _, HW1, Upd.refl _ _⟩
  case round =>
    obtain ⟨i, rfl, hi, hM, nr⟩ := hrel
    obtain ⟨wq, rfl⟩ : ∃ wq : World, wq = wr := ⟨_, rfl⟩
    by_cases hlt : i < xs.length
    · obtain ⟨x, hx⟩ : ∃ x, xs[i]? = some x := ⟨_, List.getElem?_eq_getElem hlt⟩
      obtain ⟨u, hu⟩ : ∃ u, vs[i]? = some u := ⟨_, List.getElem?_eq_getElem (by omega)⟩
      obtain ⟨g, rfl, hgb, hc⟩ := unhide HCELL i u hu
      have hf := unhide HCL i x u hx hu
      have nq : New w0 wq := (unhide N0).then nr (fun k hk e => by omega)
      have hfq : FldV base wq u x := hf.new nq
      have hcq : wq.cell? ⟨g, i, none⟩ = some u := nq.cell hc (fun h => h)
      have hBq := nr.old (unhide HB) (fun e => hBw e.symm)
      have rP := rowN_whole hBq 2 rfl
      have d0 : wq.cell? ⟨B, 0, none⟩ = some (.pointer (some ⟨W, 0, none⟩)) := blk_cell hBq 0
      have d1 : wq.cell? ⟨B, 1, none⟩ = some (.pointer none) := blk_cell hBq 1
      have hsz := puts_size m hm.ok.len (xs.take i) s
      rw [List.length_take] at hsz
      obtain ⟨F, caps, rfl, hE, hcall⟩ := putField_any x base A W m u _ wq hfq ((unhide HA1).upd nr hAb) hm (unhide hM) (by omega)
      rw [← puts_take hx] at hcall
      have hi0 : (i : Int) < (xs.length : Int) := by omega
      unfold passW at hcall
      clear hf hfq hc hBq hx hu hsz nq
      go_wp2_with fail
      refine hcall.mono ?_
      rintro e w3 ⟨rfl, u3, hM3⟩
      have hn3 := nr.trans u3
      have HM3 := hide hM3
      clear hcall rP d0 d1 hcq hE hM3 u3 nr
      go_wp2_with fail
      go_roundw
      case rel => exact ⟨i + 1, by go_num, by omega, HM3, hn3⟩
      case measure => simp [intOf]; omega
    · obtain rfl : i = xs.length := by omega
      rw [List.take_length] at hM
      go_wp2_with fail
      go_end0
      exact ⟨rfl, ((unhide N1).mono (fun _ _ h => h.elim)).trans nr, unhide hM⟩

end Go.Proofs.YtfmkdoachjgjbaaGreatDoor
