/-
  Words of our own on worlds: 'Upd S w w'': the streams are as they were, no block has gone, and each old block outside S holds what it held.
-/
import Derived.WalkKit
import Derived.WalkSpells
import Derived.WalkLawsBesides
import Derived.BigQuiet
import Derived.Lib.Hide
import Derived.Deep.MidRow
import Derived.Test.YtfmkdoachjgjbaaGreatDoorRows
import Derived.Deep.RegionHeld3
import Derived.OpenShut
set_option linter.unusedVariables false
set_option linter.unusedSimpArgs false
namespace Go.Proofs.YtfmkdoachjgjbaaGreatDoor
open Go.RowKit

theorem hide {p : Prop} (h : p) : Hid p := h
theorem unhide {p : Prop} (h : Hid p) : p := h

structure Upd (S : Nat → Prop) (w w' : World) : Prop where
  os : w'.os = w.os
  tape : w'.tape = w.tape
  output : w'.output = w.output
  size : w.heap.size ≤ w'.heap.size
  block : ∀ k, k < w.heap.size → ¬ S k → w'.heap[k]? = w.heap[k]?

/-- Only new blocks. -/
abbrev New (w w' : World) : Prop := Upd (fun _ => False) w w'

theorem Upd.refl (S : Nat → Prop) (w : World) : Upd S w w := ⟨rfl, rfl, rfl, Nat.le_refl _, fun _ _ _ => rfl⟩
theorem Upd.trans {S : Nat → Prop} {a b c : World} (h : Upd S a b) (k : Upd S b c) : Upd S a c :=
  ⟨k.os.trans h.os, k.tape.trans h.tape, k.output.trans h.output, Nat.le_trans h.size k.size, fun i hi hn => (k.block i (Nat.lt_of_lt_of_le hi h.size) hn).trans (h.block i hi hn)⟩
/-- The second step may also write to blocks that the first one made. -/
theorem Upd.then {S T : Nat → Prop} {a b c : World} (h : Upd S a b) (k : Upd T b c) (hT : ∀ i, i < a.heap.size → T i → S i) : Upd S a c :=
  ⟨k.os.trans h.os, k.tape.trans h.tape, k.output.trans h.output, Nat.le_trans h.size k.size, fun i hi hn => (k.block i (Nat.lt_of_lt_of_le hi h.size) (fun t => hn (hT i hi t))).trans (h.block i hi hn)⟩
theorem Upd.mono {S T : Nat → Prop} {a b : World} (h : Upd S a b) (hT : ∀ i, i < a.heap.size → S i → T i) : Upd T a b :=
  (Upd.refl T a).then h hT
theorem Upd.drew {S : Nat → Prop} {a w : World} (h : Upd S a w) : Upd S a w.drew := ⟨h.os, h.tape, h.output, h.size, h.block⟩
theorem Upd.drewN {S : Nat → Prop} {a w : World} (h : Upd S a w) (n : Nat) : Upd S a (w.drewN n) := ⟨h.os, h.tape, h.output, h.size, h.block⟩
theorem Upd.alloc {S : Nat → Prop} {a w : World} (h : Upd S a w) (o : Obj) : Upd S a (w.alloc o) :=
  ⟨h.os, h.tape, h.output, Nat.le_trans h.size (by simp), fun i hi hn => (Below.heap_alloc w o i (Nat.lt_of_lt_of_le hi h.size)).trans (h.block i hi hn)⟩
theorem Upd.setCell {S : Nat → Prop} {a w : World} (h : Upd S a w) {p : Addr} (hp : p.block < a.heap.size → S p.block) (u : Value) : Upd S a (w.setCell p u) :=
  ⟨h.os, h.tape, h.output, by simpa [World.setCell] using h.size, fun i hi hn => (Below.heap_setCell w p u i (by rintro rfl; exact hn (hp hi))).trans (h.block i hi hn)⟩
theorem Upd.set1 {a w : World} {b : Nat} (h : Upd (· = b) a w) (o : Nat) (u : Value) : Upd (· = b) a (w.setCell ⟨b, o, none⟩ u) := h.setCell (fun _ => rfl) u
theorem Upd.grown {S : Nat → Prop} {a w w' : World} {row : Option Nat} (h : Upd S a w) (hg : w.grownBy w' row) (hr : ∀ k, row = some k → k < a.heap.size → S k) : Upd S a w' :=
  ⟨hg.os.trans h.os, hg.tape.trans h.tape, hg.output.trans h.output, Nat.le_trans h.size hg.size,
    fun i hi hn => (hg.block i (Nat.lt_of_lt_of_le hi h.size) (fun e => hn (hr i e.symm hi))).trans (h.block i hi hn)⟩
theorem Upd.below {B : Nat} {a w : World} (h : Upd (fun k => B ≤ k) a w) (hB : B ≤ a.heap.size) : Below B a w :=
  ⟨h.os, h.tape, h.output, h.size, fun k hk => h.block k (by omega) (by omega)⟩
theorem Upd.below' {S : Nat → Prop} {B : Nat} {a w : World} (h : Upd S a w) (hB : B ≤ a.heap.size) (hS : ∀ k, S k → B ≤ k) : Below B a w :=
  ⟨h.os, h.tape, h.output, h.size, fun k hk => h.block k (by omega) (fun hs => by have := hS k hs; omega)⟩
theorem Upd.of_below {B : Nat} {a w : World} (h : Below B a w) (hB : a.heap.size ≤ B) : New a w :=
  ⟨h.os, h.tape, h.output, h.size, fun k hk _ => h.block k (by omega)⟩
theorem Upd.old {S : Nat → Prop} {a w : World} (h : Upd S a w) {k : Nat} {o : Obj} (ho : a.heap[k]? = some o) (hn : ¬ S k) : w.heap[k]? = some o :=
  (h.block k (Array.getElem?_eq_some_iff.1 ho).1 hn).trans ho
theorem Upd.cell {S : Nat → Prop} {a w : World} (h : Upd S a w) {p : Addr} {v : Value} (hc : a.cell? p = some v) (hn : ¬ S p.block) : w.cell? p = some v :=
  (World.cell?_of_block (h.block p.block (World.block_lt_of_cell? a p hc) hn)).trans hc

/-- Draws alone. -/
def Q (w w' : World) : Prop := ∃ n, w' = w.drewN n
theorem Q.refl (w : World) : Q w w := ⟨0, rfl⟩
theorem Q.drewN (w : World) (n : Nat) : Q w (w.drewN n) := ⟨n, rfl⟩
theorem Q.drewN' {w w' : World} (h : Q w w') (n : Nat) : Q w (w'.drewN n) := by
  obtain ⟨m, rfl⟩ := h
  exact ⟨m + n, by rw [World.drewN_drewN]⟩
theorem Q.trans {a b c : World} (h : Q a b) (k : Q b c) : Q a c := by
  obtain ⟨m, rfl⟩ := k
  exact h.drewN' m
theorem Q.heap {w w' : World} (h : Q w w') : w'.heap = w.heap := by
  obtain ⟨m, rfl⟩ := h
  rfl
theorem Q.upd {w w' : World} (h : Q w w') (S : Nat → Prop) : Upd S w w' := by
  obtain ⟨m, rfl⟩ := h
  exact (Upd.refl S w).drewN m
theorem Q.old {w w' : World} (h : Q w w') {k : Nat} {o : Obj} (ho : w.heap[k]? = some o) : w'.heap[k]? = some o := by rw [h.heap]; exact ho
theorem Q.cell {w w' : World} (h : Q w w') {p : Addr} {v : Value} (hc : w.cell? p = some v) : w'.cell? p = some v := by
  obtain ⟨m, rfl⟩ := h
  exact hc
theorem Q.frozen {w w' : World} (h : Q w w') {p : Addr} {v : Bool} (hc : w.frozen? p = v) : w'.frozen? p = v := by
  obtain ⟨m, rfl⟩ := h
  exact hc
/-- The end of a call that only reads. -/
def Reads (v : Value) (w : World) (e : Ending) (w' : World) : Prop := e = .returned v ∧ Q w w'
/-- The end of a call that may make blocks. -/
def Makes (v : Value) (w : World) (e : Ending) (w' : World) : Prop := e = .returned v ∧ New w w'

theorem blk_lt {w : World} {b : Nat} {o : Obj} (h : w.heap[b]? = some o) : b < w.heap.size := (Array.getElem?_eq_some_iff.1 h).1
theorem blk_cell {w : World} {b : Nat} {cs : Array Value} {T : TypeId} {fz : Nat × Nat} (h : w.heap[b]? = some (.cells cs T fz)) (i : Nat) : w.cell? ⟨b, i, none⟩ = cs[i]? := by
  simp [World.cell?, h]
theorem blk_free {w : World} {b : Nat} {cs : Array Value} {T : TypeId} (h : w.heap[b]? = some (.cells cs T (0, 0))) (i : Nat) : w.frozen? ⟨b, i, none⟩ = false := by
  simp [World.frozen?, h]
theorem blk_set {w : World} {b : Nat} {cs : Array Value} {T : TypeId} {fz : Nat × Nat} (h : w.heap[b]? = some (.cells cs T fz)) (i : Nat) (v : Value) :
    (w.setCell ⟨b, i, none⟩ v).heap[b]? = some (.cells (cs.setIfInBounds i v) T fz) := by
  simp [World.setCell, Array.getElem?_modify, h]
theorem blk_alloc (w : World) (o : Obj) : (w.alloc o).heap[w.heap.size]? = some o := heap_alloc_new w o
theorem blk_alloc_old {w : World} {b : Nat} {o : Obj} (h : w.heap[b]? = some o) (x : Obj) : (w.alloc x).heap[b]? = some o :=
  (Below.heap_alloc w x b (blk_lt h)).trans h

/-- Byte n of a string; 0 beyond its end. -/
def bt (s : ByteArray) (n : Nat) : Int := (s.data.toList.getD n 0).toNat
theorem bt_bd (s : ByteArray) (n : Nat) : 0 ≤ bt s n ∧ bt s n ≤ 255 := by
  unfold bt
  have := (s.data.toList.getD n 0).toNat_lt
  omega
theorem bt_eq (s : ByteArray) (n : Nat) (h : n < s.size) : (s[n].toNat : Int) = bt s n := by
  have h' : n < s.data.size := h
  unfold bt
  rw [List.getD_eq_getElem?_getD, Array.getElem?_toList, Array.getElem?_eq_getElem h']
  rfl
theorem run_index_at {P : Program} (t : TypeId) (s : ByteArray) (k : IntKind) (i : Int) (n : Nat) (h : P.underlying t = some .string) (hi : i = n) (hn : n < s.size) (w : World) :
    (Instr.index t (.string s) (.int k i)).run P w = .ok (.int .u8 (bt s n)) w := by
  subst hi
  rw [run_index_string w t s k _ h, dif_pos (by omega), ← bt_eq s n hn]
  rfl

theorem i64_nat (n : Nat) (h : n < 9223372036854775808) : IntKind.i64.wrap (n : Int) = n := by
  simp [IntKind.wrap, IntKind.bits, IntKind.signed]
  split <;> omega
theorem ofInt64_nat (n : Nat) (h : n < 18446744073709551616) : (BitVec.ofInt 64 (n : Int)).toNat = n := by
  simp [BitVec.ofInt]
  omega
/-- 'x<<8 | y' of two bytes. -/
theorem or8 (x y : Int) (h0 : 0 ≤ x) (h1 : x ≤ 255) (h2 : 0 ≤ y) (h3 : y ≤ 255) : bits .or .i64 (x * 256) y = x * 256 + y := by
  obtain ⟨a, rfl⟩ := Int.eq_ofNat_of_zero_le h0
  obtain ⟨b, rfl⟩ := Int.eq_ofNat_of_zero_le h2
  have e : (a : Int) * 256 = ((a * 256 : Nat) : Int) := by omega
  rw [e]
  show IntKind.i64.wrap ((BitVec.ofInt 64 ((a * 256 : Nat) : Int) ||| BitVec.ofInt 64 (b : Int)).toNat : Int) = _
  rw [BitVec.toNat_or, ofInt64_nat _ (by omega), ofInt64_nat _ (by omega)]
  have h := Nat.shiftLeft_add_eq_or_of_lt (b := b) (i := 8) (by omega) a
  rw [Nat.shiftLeft_eq] at h
  rw [show a * 256 = a * 2 ^ 8 from rfl, ← h, i64_nat _ (by omega)]
  omega

/-- 'string(b)', b a whole block of bytes. -/
theorem run_string_block {P : Program} (w : World) (src dst e : TypeId) (hs : P.underlying src = some (.slice e)) (he : P.underlying e = some (.int .u8)) (hd : P.underlying dst = some .string)
    (b cap : Nat) (xs : List Int) (T : TypeId) (fz : Nat × Nat) (n : Nat) (hn : xs.length = n) (hb : w.heap[b]? = some (.cells (xs.map (Value.int .u8)).toArray T fz)) :
    (convert src dst (.slice (some ⟨b, 0, none⟩) n cap)).run P w = .ok (.string (strOfNums xs)) w := by
  refine run_convert_bytes_arg w src e hs he b 0 n cap xs hn (fun i hi => ?_) dst hd
  rw [Nat.zero_add, blk_cell hb i, List.getElem?_toArray, List.getElem?_map, List.getElem?_eq_getElem (by omega)]
  simp [List.getD, List.getElem?_eq_getElem (show i < xs.length by omega)]
/-- 'string([]byte{x, y})'. -/
theorem run_string_two {P : Program} (src dst e : TypeId) (hs : P.underlying src = some (.slice e)) (he : P.underlying e = some (.int .u8)) (hd : P.underlying dst = some .string) (T : TypeId) (w : World) (x y : Int) :
    (convert src dst (.slice (some ⟨w.heap.size, 0, none⟩) 2 2)).run P (w.alloc (.cells #[.int .u8 x, .int .u8 y] T)) = .ok (.string (strOfNums [x, y])) (w.alloc (.cells #[.int .u8 x, .int .u8 y] T)) :=
  run_string_block _ src dst e hs he hd _ _ [x, y] T (0, 0) 2 rfl (blk_alloc _ _)
/-- What the walk makes of 's == ""'. -/
theorem str_ne {s : ByteArray} (h : 0 < s.size) : s.toList.isEmpty = false := by
  rw [List.isEmpty_eq_false_iff]
  intro e
  rw [ByteArray.toList_eq] at e
  have h1 : s.data.toList.length = 0 := by rw [e]; rfl
  rw [Array.length_toList] at h1
  have h2 : 0 < s.data.size := h
  omega

/-- The n cells of block b from o on. -/
def rowN (w : World) (b o n : Nat) : Option (Array Value) :=
  match w.heap[b]? with
  | some (.cells C _ _) => if o + n ≤ C.size then some (C.extract o (o + n)) else none
  | _ => none
/-- What a load of a row comes to that is not there whole: nobody looks. -/
def slowLd (P : Program) (ty : TypeId) (w : World) (b o : Nat) : Result Value := (loadVar ty ⟨b, o, none⟩).run P w
theorem rowN_cell {w : World} {b o n : Nat} {A : Array Value} (h : rowN w b o n = some A) : A.size = n ∧ ∀ j, j < n → w.cell? ⟨b, o + j, none⟩ = A[j]? := by
  unfold rowN at h
  cases hb : w.heap[b]? with
  | none => rw [hb] at h; cases h
  | some ob =>
    rw [hb] at h
    cases ob with
    | cells C T fz =>
      simp only at h
      split at h
      · rename_i hle
        injection h with h
        subst h
        refine ⟨by simp; omega, fun j hj => ?_⟩
        rw [blk_cell hb, Array.getElem?_extract, if_pos (by omega)]
      · cases h
    | _ => cases h
theorem rowN_rangeAt {w : World} {b o n : Nat} {A : Array Value} (h : rowN w b o n = some A) : w.rangeAt b o A.toList := by
  obtain ⟨hs, hc⟩ := rowN_cell h
  intro j v hv
  rw [Array.getElem?_toList] at hv
  have hj : j < n := by
    have := (Array.getElem?_eq_some_iff.1 hv).1
    omega
  rw [hc j hj, hv]
theorem rowN_blk {w : World} {b : Nat} {C : Array Value} {T : TypeId} {fz : Nat × Nat} (h : w.heap[b]? = some (.cells C T fz)) (o n : Nat) (hn : o + n ≤ C.size) : rowN w b o n = some (C.extract o (o + n)) := by
  unfold rowN
  rw [h]
  simp only
  rw [if_pos hn]
theorem rowN_whole {w : World} {b : Nat} {C : Array Value} {T : TypeId} {fz : Nat × Nat} (h : w.heap[b]? = some (.cells C T fz)) (n : Nat) (hn : C.size = n) : rowN w b 0 n = some C := by
  rw [rowN_blk h 0 n (by omega)]
  simp [← hn]
theorem rowN_heap {w w' : World} (b : Nat) (h : w'.heap[b]? = w.heap[b]?) (o n : Nat) : rowN w' b o n = rowN w b o n := by unfold rowN; rw [h]
theorem rowN_upd {S : Nat → Prop} {w w' : World} {b o n : Nat} {A : Array Value} (h : rowN w b o n = some A) (u : Upd S w w') (hn : ¬ S b) : rowN w' b o n = some A := by
  rw [rowN_heap b (u.block b ?_ hn)]
  · exact h
  · by_cases hb : b < w.heap.size
    · exact hb
    · have e : w.heap[b]? = none := by simp; omega
      unfold rowN at h
      rw [e] at h
      cases h

/-- THE LOAD, whole: a rule for the walk ('attribute [local go_sem ↓]' at a type of your own). -/
theorem run_loadAt_rowN {P : Program} (ty n : Nat) (d : TypeDesc) (hu : P.underlying ty = some d) (hd : d.isRow = true) (hi : (P.info? ty).map (·.size) = some n) (b o : Nat) (w : World) :
    (Instr.loadAt ty (.pointer (some ⟨b, o, none⟩))).run P w = match rowN w b o n with | some A => .ok (.agg A) w | none => slowLd P ty w b o := by
  cases h : rowN w b o n with
  | none =>
    simp only [Instr.loadAt, Instr.sureAddr, Sem.run_bind, Sem.run_pure, Result.andThen_ok, slowLd]
  | some A =>
    simp only
    rw [run_loadAt_mid w b o ty A.toList d (rowN_rangeAt h) hu hd (by rw [hi, Array.length_toList, (rowN_cell h).1])]

/-! ### Stores -/
/-- May a row of n cells be stored there? -/
def stOk (w : World) (b o n : Nat) (A : Array Value) : Bool :=
  (match w.heap[b]? with | some (.cells C _ fz) => decide (o + n ≤ C.size) && decide (fz = (0, 0)) | _ => false) && decide (A.size = n) && A.all (·.oneCell')
def slowSt (P : Program) (ty : TypeId) (w : World) (b o : Nat) (A : Array Value) : Result Unit := (Instr.storeAt ty (.pointer (some ⟨b, o, none⟩)) (.agg A)).run P w
theorem stOk_blk {w : World} {b : Nat} {C : Array Value} {T : TypeId} (h : w.heap[b]? = some (.cells C T (0, 0))) {o n : Nat} (hn : o + n ≤ C.size) {A : Array Value} (hA : A.size = n) (h1 : A.all (·.oneCell') = true) : stOk w b o n A = true := by
  unfold stOk
  rw [h]
  simp only [h1, Bool.and_true]
  simp [hn, hA]
theorem stOk_there {w : World} {b o n : Nat} {A : Array Value} (h : stOk w b o n A = true) : w.there b o A.size ∧ A.size = n ∧ A.all (·.oneCell') = true := by
  unfold stOk at h
  cases hb : w.heap[b]? with
  | none => rw [hb] at h; simp at h
  | some ob =>
    rw [hb] at h
    cases ob with
    | cells C T fz =>
      simp only [Bool.and_eq_true, decide_eq_true_eq] at h
      obtain ⟨⟨⟨h1, rfl⟩, h3⟩, h4⟩ := h
      refine ⟨fun j hj => ⟨?_, blk_free hb _⟩, h3, h4⟩
      rw [blk_cell hb, Array.getElem?_eq_getElem (by omega)]
      rfl
    | _ => simp at h
/-- THE STORE, whole. -/
theorem run_storeAt_row {P : Program} (ty n : Nat) (hi : (P.info? ty).map (·.size) = some n) (b o : Nat) (A : Array Value) (w : World) :
    (Instr.storeAt ty (.pointer (some ⟨b, o, none⟩)) (.agg A)).run P w = if stOk w b o n A = true then .ok () (w.setCells b o A.toList) else slowSt P ty w b o A := by
  by_cases h : stOk w b o n A = true
  · rw [if_pos h]
    obtain ⟨h1, h2, h3⟩ := stOk_there h
    exact run_storeAt_mid w b o ty A h1 (by rw [hi, h2]) h3
  · rw [if_neg h]
    rfl
/-- Cells laid into an array. -/
def layIn (C : Array Value) (o : Nat) : List Value → Array Value
  | [] => C
  | v :: r => layIn (C.setIfInBounds o v) (o + 1) r
theorem blk_setCells {w : World} {b : Nat} {C : Array Value} {T : TypeId} {fz : Nat × Nat} (h : w.heap[b]? = some (.cells C T fz)) (o : Nat) (vs : List Value) : (w.setCells b o vs).heap[b]? = some (.cells (layIn C o vs) T fz) := by
  induction vs generalizing w C o with
  | nil => exact h
  | cons v r ih => exact ih (blk_set h o v) (o + 1)
theorem layIn_size (C : Array Value) (o : Nat) (vs : List Value) : (layIn C o vs).size = C.size := by
  induction vs generalizing C o with
  | nil => rfl
  | cons v r ih => rw [layIn, ih, Array.size_setIfInBounds]
theorem layIn_get (C : Array Value) (o : Nat) (vs : List Value) (i : Nat) (h : o + vs.length ≤ C.size) : (layIn C o vs)[i]? = if o ≤ i ∧ i < o + vs.length then vs[i - o]? else C[i]? := by
  induction vs generalizing C o with
  | nil => simp [layIn]; intro h1 h2; omega
  | cons v r ih =>
    rw [layIn, ih _ _ (by simp only [List.length_cons] at h; rw [Array.size_setIfInBounds]; omega)]
    simp only [List.length_cons] at h ⊢
    by_cases h1 : o + 1 ≤ i ∧ i < o + 1 + r.length
    · rw [if_pos h1, if_pos (by omega)]
      obtain ⟨k, rfl⟩ : ∃ k, i = o + 1 + k := ⟨i - (o + 1), by omega⟩
      rw [show o + 1 + k - (o + 1) = k by omega, show o + 1 + k - o = k + 1 by omega, List.getElem?_cons_succ]
    · rw [if_neg h1, Array.getElem?_setIfInBounds]
      by_cases h2 : o = i
      · subst h2
        rw [if_pos rfl, if_pos (by omega), if_pos (by omega)]
        simp
      · rw [if_neg h2, if_neg (by omega)]
theorem Upd.setCells {w w' : World} {b : Nat} (h : Upd (· = b) w w') (o : Nat) (vs : List Value) : Upd (· = b) w (w'.setCells b o vs) := by
  induction vs generalizing w' o with
  | nil => exact h
  | cons v r ih => exact ih (h.set1 o v) (o + 1)

theorem rowN_drew (w : World) (b o n : Nat) : rowN w.drew b o n = rowN w b o n := rfl

end Go.Proofs.YtfmkdoachjgjbaaGreatDoor
namespace Go.Proofs.YtfmkdoachjgjbaaGreatDoor
open Go.RowKit

/-- Block b holds just these integers, and may be written. -/
def Ints (k : IntKind) (w : World) (b : Nat) (ws : List Int) : Prop := ∃ T, w.heap[b]? = some (.cells (ws.map (Value.int k)).toArray T (0, 0))
theorem Ints.cell {k : IntKind} {w : World} {b : Nat} {ws : List Int} (h : Ints k w b ws) {i : Nat} (hi : i < ws.length) : w.cell? ⟨b, i, none⟩ = some (.int k (ws.getD i 0)) := by
  obtain ⟨T, h⟩ := h
  rw [blk_cell h, List.getElem?_toArray, List.getElem?_map, List.getElem?_eq_getElem hi, List.getD_eq_getElem?_getD, List.getElem?_eq_getElem hi]
  rfl
theorem Ints.free {k : IntKind} {w : World} {b : Nat} {ws : List Int} (h : Ints k w b ws) (i : Nat) : w.frozen? ⟨b, i, none⟩ = false := by
  obtain ⟨T, h⟩ := h
  exact blk_free h i
theorem Ints.set {k : IntKind} {w : World} {b : Nat} {ws : List Int} (h : Ints k w b ws) (i : Nat) (v : Int) : Ints k (w.setCell ⟨b, i, none⟩ (.int k v)) b (ws.set i v) := by
  obtain ⟨T, h⟩ := h
  refine ⟨T, (blk_set h i _).trans ?_⟩
  simp [List.map_set]
theorem Ints.upd {S : Nat → Prop} {k : IntKind} {w w' : World} {b : Nat} {ws : List Int} (h : Ints k w b ws) (u : Upd S w w') (hn : ¬ S b) : Ints k w' b ws := by
  obtain ⟨T, h⟩ := h
  exact ⟨T, u.old h hn⟩
theorem Ints.q {k : IntKind} {w w' : World} {b : Nat} {ws : List Int} (h : Ints k w b ws) (q : Q w w') : Ints k w' b ws := h.upd (q.upd (fun _ => False)) (fun h => h)
theorem Ints.lt {k : IntKind} {w : World} {b : Nat} {ws : List Int} (h : Ints k w b ws) : b < w.heap.size := by
  obtain ⟨T, h⟩ := h
  exact blk_lt h

/-- A turn to the right by n, as the program reckons it. -/
def rotI (x n : Int) : Int := bits .or .u32 (x / 2 ^ n.toNat) (x * 2 ^ (32 - n).toNat % 4294967296)
def turnsI (x : Int) (ns : List Int) : Int := ns.foldl (fun a n => bits .xor .u32 a (rotI x n)) 0
theorem bits_u32 (op : BinOp) (x y : Int) : 0 ≤ bits op .u32 x y ∧ bits op .u32 x y < 4294967296 := by
  have h := wf_bits op .u32 x y
  simp [Lit.wf, IntKind.min, IntKind.max, IntKind.signed, IntKind.bits] at h
  omega
theorem turnsI_bd (x : Int) (ns : List Int) : 0 ≤ turnsI x ns ∧ turnsI x ns < 4294967296 := by
  unfold turnsI
  have key : ∀ (ns : List Int) (a : Int), 0 ≤ a ∧ a < 4294967296 → 0 ≤ ns.foldl (fun a n => bits .xor .u32 a (rotI x n)) a ∧ ns.foldl (fun a n => bits .xor .u32 a (rotI x n)) a < 4294967296 := by
    intro ns
    induction ns with
    | nil => intro a h; exact h
    | cons n ns ih => intro a _; exact ih _ (bits_u32 ..)
  exact key ns 0 (by omega)
theorem turnsI_snoc (x : Int) (ns : List Int) (n : Int) : turnsI x (ns ++ [n]) = bits .xor .u32 (turnsI x ns) (rotI x n) := by simp [turnsI]

set_option maxHeartbeats 1000000 in
theorem turns_any (x : Int) (ns : List Int) (b c : Nat) (w : World) (hns : ∀ n ∈ ns, 0 < n ∧ n < 32) (hl : ns.length ≤ 8) (hx : 0 ≤ x) (hx2 : x < 4294967296) (hb : Ints .u64 w b ns) :
    Calls Tryz.prog 223 #[.int .u32 x, .slice (some ⟨b, 0, none⟩) ns.length c] w (Reads (.int .u32 (turnsI x ns)) w) := by
  go_enter Tryz.func223, Tryz.ntmps223
  go_wp2_with fail
  go_loopw [5, 7, 10] (fun s _ iv wr => ∃ k : Nat, iv = .int .i64 (k : Int) ∧ k ≤ ns.length ∧ s = .int .u32 (turnsI x (ns.take k)) ∧ wr = w) (fun _ _ iv _ => ns.length - (intOf iv).toNat)
  case atStart => exact ⟨0, rfl, Nat.zero_le _, rfl, rfl⟩
  case round =>
    obtain ⟨k, rfl, hk, rfl, rfl⟩ := hrel
    by_cases hlt : k < ns.length
    · have c0 := hb.cell hlt
      obtain ⟨hn1, hn2⟩ := hns (ns.getD k 0) (by rw [List.getD_eq_getElem?_getD, List.getElem?_eq_getElem hlt]; exact List.getElem_mem hlt)
      have hs := turnsI_snoc x (ns.take k) (ns.getD k 0)
      rw [show ns.take k ++ [ns.getD k 0] = ns.take (k + 1) by rw [List.take_add_one, List.getD_eq_getElem?_getD, List.getElem?_eq_getElem hlt]; rfl] at hs
      obtain ⟨ha, ha2⟩ := turnsI_bd x (ns.take k)
      unfold rotI at hs
      have HS := hide hs
      have hnn : (k : Int) < (ns.length : Int) := by omega
      clear hs
      generalize ns.getD k 0 = n at c0 hn1 hn2 HS
      generalize turnsI x (ns.take k) = a at ha ha2 HS ⊢
      go_wp2
      go_roundw
      case rel => exact ⟨k + 1, by go_num, by omega, by rw [unhide HS], trivial⟩
      case measure => simp [intOf]; omega
    · obtain rfl : k = ns.length := by omega
      rw [List.take_length]
      go_wp2
      go_ret
      exact ⟨rfl, Q.refl _⟩

theorem turns_two (x n1 n2 : Int) (g : Nat) (T : TypeId) (w : World) (h1 : 0 < n1 ∧ n1 < 32) (h2 : 0 < n2 ∧ n2 < 32) (hx : 0 ≤ x) (hx2 : x < 4294967296) (hb : w.heap[g]? = some (.cells #[.int .u64 n1, .int .u64 n2] T (0, 0))) :
    Calls Tryz.prog 223 #[.int .u32 x, .slice (some ⟨g, 0, none⟩) 2 2] w (Reads (.int .u32 (turnsI x [n1, n2])) w) :=
  turns_any x [n1, n2] g 2 w (by intro n hn; simp only [List.mem_cons, List.not_mem_nil, or_false] at hn; rcases hn with rfl | rfl; exact h1; exact h2) (by simp) hx hx2 ⟨T, hb⟩
theorem turns_three (x n1 n2 n3 : Int) (g : Nat) (T : TypeId) (w : World) (h1 : 0 < n1 ∧ n1 < 32) (h2 : 0 < n2 ∧ n2 < 32) (h3 : 0 < n3 ∧ n3 < 32) (hx : 0 ≤ x) (hx2 : x < 4294967296) (hb : w.heap[g]? = some (.cells #[.int .u64 n1, .int .u64 n2, .int .u64 n3] T (0, 0))) :
    Calls Tryz.prog 223 #[.int .u32 x, .slice (some ⟨g, 0, none⟩) 3 3] w (Reads (.int .u32 (turnsI x [n1, n2, n3])) w) :=
  turns_any x [n1, n2, n3] g 3 w (by intro n hn; simp only [List.mem_cons, List.not_mem_nil, or_false] at hn; rcases hn with rfl | rfl | rfl; exact h1; exact h2; exact h3) (by simp) hx hx2 ⟨T, hb⟩

end Go.Proofs.YtfmkdoachjgjbaaGreatDoor
