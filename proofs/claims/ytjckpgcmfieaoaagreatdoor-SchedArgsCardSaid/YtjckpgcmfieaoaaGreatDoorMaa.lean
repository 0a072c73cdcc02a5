/-
  Words of our own on worlds: 'Upd S w w'': the streams are as they were, no block has gone, and each old block outside S holds what it held.
-/
import Derived.WalkKit
import Derived.WalkSpells
import Derived.WalkLawsBesides
import Derived.BigQuiet
import Derived.Lib.Hide
import Derived.ProofKit
import Derived.OpenShut
import Derived.ShutString
import Derived.ChangeOld
import Derived.Deep.Slices
import Derived.Laws.StructEq
import Derived.Stop.BytesEq
set_option linter.unusedVariables false
set_option linter.unusedSimpArgs false
namespace Go.Proofs.YtjckpgcmfieaoaaGreatDoor
open Go.RowKit

theorem hide {p : Prop} (h : p) : Hid p := h
theorem unhide {p : Prop} (h : Hid p) : p := h

structure Upd (S : Nat → Prop) (w w' : World) : Prop where
  os : w'.os = w.os
  tape : w'.tape = w.tape
  output : w'.output = w.output
  size : w.heap.size ≤ w'.heap.size
  block : ∀ k, k < w.heap.size → ¬ S k → w'.heap[k]? = w.heap[k]?

/-- Only new blocks. -/
abbrev New (w w' : World) : Prop := Upd (fun _ => False) w w'

theorem Upd.refl (S : Nat → Prop) (w : World) : Upd S w w := ⟨rfl, rfl, rfl, Nat.le_refl _, fun _ _ _ => rfl⟩
theorem Upd.trans {S : Nat → Prop} {a b c : World} (h : Upd S a b) (k : Upd S b c) : Upd S a c :=
  ⟨k.os.trans h.os, k.tape.trans h.tape, k.output.trans h.output, Nat.le_trans h.size k.size, fun i hi hn => (k.block i (Nat.lt_of_lt_of_le hi h.size) hn).trans (h.block i hi hn)⟩
/-- The second step may also write to blocks that the first one made. -/
theorem Upd.then {S T : Nat → Prop} {a b c : World} (h : Upd S a b) (k : Upd T b c) (hT : ∀ i, i < a.heap.size → T i → S i) : Upd S a c :=
  ⟨k.os.trans h.os, k.tape.trans h.tape, k.output.trans h.output, Nat.le_trans h.size k.size, fun i hi hn => (k.block i (Nat.lt_of_lt_of_le hi h.size) (fun t => hn (hT i hi t))).trans (h.block i hi hn)⟩
theorem Upd.mono {S T : Nat → Prop} {a b : World} (h : Upd S a b) (hT : ∀ i, i < a.heap.size → S i → T i) : Upd T a b :=
  (Upd.refl T a).then h hT
theorem Upd.drew {S : Nat → Prop} {a w : World} (h : Upd S a w) : Upd S a w.drew := ⟨h.os, h.tape, h.output, h.size, h.block⟩
theorem Upd.drewN {S : Nat → Prop} {a w : World} (h : Upd S a w) (n : Nat) : Upd S a (w.drewN n) := ⟨h.os, h.tape, h.output, h.size, h.block⟩
theorem Upd.alloc {S : Nat → Prop} {a w : World} (h : Upd S a w) (o : Obj) : Upd S a (w.alloc o) :=
  ⟨h.os, h.tape, h.output, Nat.le_trans h.size (by simp), fun i hi hn => (Below.heap_alloc w o i (Nat.lt_of_lt_of_le hi h.size)).trans (h.block i hi hn)⟩
theorem Upd.setCell {S : Nat → Prop} {a w : World} (h : Upd S a w) {p : Addr} (hp : p.block < a.heap.size → S p.block) (u : Value) : Upd S a (w.setCell p u) :=
  ⟨h.os, h.tape, h.output, by simpa [World.setCell] using h.size, fun i hi hn => (Below.heap_setCell w p u i (by rintro rfl; exact hn (hp hi))).trans (h.block i hi hn)⟩
theorem Upd.set1 {a w : World} {b : Nat} (h : Upd (· = b) a w) (o : Nat) (u : Value) : Upd (· = b) a (w.setCell ⟨b, o, none⟩ u) := h.setCell (fun _ => rfl) u
theorem Upd.grown {S : Nat → Prop} {a w w' : World} {row : Option Nat} (h : Upd S a w) (hg : w.grownBy w' row) (hr : ∀ k, row = some k → k < a.heap.size → S k) : Upd S a w' :=
  ⟨hg.os.trans h.os, hg.tape.trans h.tape, hg.output.trans h.output, Nat.le_trans h.size hg.size,
    fun i hi hn => (hg.block i (Nat.lt_of_lt_of_le hi h.size) (fun e => hn (hr i e.symm hi))).trans (h.block i hi hn)⟩
theorem Upd.below {B : Nat} {a w : World} (h : Upd (fun k => B ≤ k) a w) (hB : B ≤ a.heap.size) : Below B a w :=
  ⟨h.os, h.tape, h.output, h.size, fun k hk => h.block k (by omega) (by omega)⟩
theorem Upd.below' {S : Nat → Prop} {B : Nat} {a w : World} (h : Upd S a w) (hB : B ≤ a.heap.size) (hS : ∀ k, S k → B ≤ k) : Below B a w :=
  ⟨h.os, h.tape, h.output, h.size, fun k hk => h.block k (by omega) (fun hs => by have := hS k hs; omega)⟩
theorem Upd.of_below {B : Nat} {a w : World} (h : Below B a w) (hB : a.heap.size ≤ B) : New a w :=
  ⟨h.os, h.tape, h.output, h.size, fun k hk _ => h.block k (by omega)⟩
theorem Upd.old {S : Nat → Prop} {a w : World} (h : Upd S a w) {k : Nat} {o : Obj} (ho : a.heap[k]? = some o) (hn : ¬ S k) : w.heap[k]? = some o :=
  (h.block k (Array.getElem?_eq_some_iff.1 ho).1 hn).trans ho
theorem Upd.cell {S : Nat → Prop} {a w : World} (h : Upd S a w) {p : Addr} {v : Value} (hc : a.cell? p = some v) (hn : ¬ S p.block) : w.cell? p = some v :=
  (World.cell?_of_block (h.block p.block (World.block_lt_of_cell? a p hc) hn)).trans hc

/-- Draws alone. -/
def Q (w w' : World) : Prop := ∃ n, w' = w.drewN n
theorem Q.refl (w : World) : Q w w := ⟨0, rfl⟩
theorem Q.drewN (w : World) (n : Nat) : Q w (w.drewN n) := ⟨n, rfl⟩
theorem Q.drewN' {w w' : World} (h : Q w w') (n : Nat) : Q w (w'.drewN n) := by
  obtain ⟨m, rfl⟩ := h
  exact ⟨m + n, by rw [World.drewN_drewN]⟩
theorem Q.trans {a b c : World} (h : Q a b) (k : Q b c) : Q a c := by
  obtain ⟨m, rfl⟩ := k
  exact h.drewN' m
theorem Q.heap {w w' : World} (h : Q w w') : w'.heap = w.heap := by
  obtain ⟨m, rfl⟩ := h
  rfl
theorem Q.upd {w w' : World} (h : Q w w') (S : Nat → Prop) : Upd S w w' := by
  obtain ⟨m, rfl⟩ := h
  exact (Upd.refl S w).drewN m
theorem Q.old {w w' : World} (h : Q w w') {k : Nat} {o : Obj} (ho : w.heap[k]? = some o) : w'.heap[k]? = some o := by rw [h.heap]; exact ho
theorem Q.cell {w w' : World} (h : Q w w') {p : Addr} {v : Value} (hc : w.cell? p = some v) : w'.cell? p = some v := by
  obtain ⟨m, rfl⟩ := h
  exact hc
theorem Q.frozen {w w' : World} (h : Q w w') {p : Addr} {v : Bool} (hc : w.frozen? p = v) : w'.frozen? p = v := by
  obtain ⟨m, rfl⟩ := h
  exact hc
/-- The end of a call that only reads. -/
def Reads (v : Value) (w : World) (e : Ending) (w' : World) : Prop := e = .returned v ∧ Q w w'
/-- The end of a call that may make blocks. -/
def Makes (v : Value) (w : World) (e : Ending) (w' : World) : Prop := e = .returned v ∧ New w w'

theorem blk_lt {w : World} {b : Nat} {o : Obj} (h : w.heap[b]? = some o) : b < w.heap.size := (Array.getElem?_eq_some_iff.1 h).1
theorem blk_cell {w : World} {b : Nat} {cs : Array Value} {T : TypeId} {fz : Nat × Nat} (h : w.heap[b]? = some (.cells cs T fz)) (i : Nat) : w.cell? ⟨b, i, none⟩ = cs[i]? := by
  simp [World.cell?, h]
theorem blk_free {w : World} {b : Nat} {cs : Array Value} {T : TypeId} (h : w.heap[b]? = some (.cells cs T (0, 0))) (i : Nat) : w.frozen? ⟨b, i, none⟩ = false := by
  simp [World.frozen?, h]
theorem blk_set {w : World} {b : Nat} {cs : Array Value} {T : TypeId} {fz : Nat × Nat} (h : w.heap[b]? = some (.cells cs T fz)) (i : Nat) (v : Value) :
    (w.setCell ⟨b, i, none⟩ v).heap[b]? = some (.cells (cs.setIfInBounds i v) T fz) := by
  simp [World.setCell, Array.getElem?_modify, h]
theorem blk_alloc (w : World) (o : Obj) : (w.alloc o).heap[w.heap.size]? = some o := heap_alloc_new w o
theorem blk_alloc_old {w : World} {b : Nat} {o : Obj} (h : w.heap[b]? = some o) (x : Obj) : (w.alloc x).heap[b]? = some o :=
  (Below.heap_alloc w x b (blk_lt h)).trans h

/-- Byte n of a string; 0 beyond its end. -/
def bt (s : ByteArray) (n : Nat) : Int := (s.data.toList.getD n 0).toNat
theorem bt_bd (s : ByteArray) (n : Nat) : 0 ≤ bt s n ∧ bt s n ≤ 255 := by
  unfold bt
  have := (s.data.toList.getD n 0).toNat_lt
  omega
theorem bt_eq (s : ByteArray) (n : Nat) (h : n < s.size) : (s[n].toNat : Int) = bt s n := by
  have h' : n < s.data.size := h
  unfold bt
  rw [List.getD_eq_getElem?_getD, Array.getElem?_toList, Array.getElem?_eq_getElem h']
  rfl
theorem run_index_at {P : Program} (t : TypeId) (s : ByteArray) (k : IntKind) (i : Int) (n : Nat) (h : P.underlying t = some .string) (hi : i = n) (hn : n < s.size) (w : World) :
    (Instr.index t (.string s) (.int k i)).run P w = .ok (.int .u8 (bt s n)) w := by
  subst hi
  rw [run_index_string w t s k _ h, dif_pos (by omega), ← bt_eq s n hn]
  rfl

theorem i64_nat (n : Nat) (h : n < 9223372036854775808) : IntKind.i64.wrap (n : Int) = n := by
  simp [IntKind.wrap, IntKind.bits, IntKind.signed]
  split <;> omega
theorem ofInt64_nat (n : Nat) (h : n < 18446744073709551616) : (BitVec.ofInt 64 (n : Int)).toNat = n := by
  simp [BitVec.ofInt]
  omega

/-- 'string(b)', b a whole block of bytes. -/
theorem run_string_block {P : Program} (w : World) (src dst e : TypeId) (hs : P.underlying src = some (.slice e)) (he : P.underlying e = some (.int .u8)) (hd : P.underlying dst = some .string)
    (b cap : Nat) (xs : List Int) (T : TypeId) (fz : Nat × Nat) (n : Nat) (hn : xs.length = n) (hb : w.heap[b]? = some (.cells (xs.map (Value.int .u8)).toArray T fz)) :
    (convert src dst (.slice (some ⟨b, 0, none⟩) n cap)).run P w = .ok (.string (strOfNums xs)) w := by
  refine run_convert_bytes_arg w src e hs he b 0 n cap xs hn (fun i hi => ?_) dst hd
  rw [Nat.zero_add, blk_cell hb i, List.getElem?_toArray, List.getElem?_map, List.getElem?_eq_getElem (by omega)]
  simp [List.getD, List.getElem?_eq_getElem (show i < xs.length by omega)]

end Go.Proofs.YtjckpgcmfieaoaaGreatDoor
namespace Go.Proofs.YtjckpgcmfieaoaaGreatDoor
open Go.RowKit Go.ChangeShapes Go.WideShapes Go.ChangeAt Go.Deep

inductive Leaf where
  | bool
  | int (k : IntKind)
  | str
  deriving DecidableEq
def Leaf.fits : Leaf → Value → Prop
  | .bool, v => ∃ b, v = .bool b
  | .int k, v => ∃ n, v = .int k n ∧ (Lit.int k n).wf = true
  | .str, v => ∃ s : ByteArray, v = .string s ∧ s.size ≤ maxLen
/-- The cells are of these kinds. -/
def Fits : List Leaf → List Value → Prop
  | [], cs => cs = []
  | l :: ls, cs => ∃ v r, cs = v :: r ∧ l.fits v ∧ Fits ls r
theorem Fits.len : ∀ {ls : List Leaf} {cs : List Value}, Fits ls cs → cs.length = ls.length
  | [], _, h => by rw [show _ = [] from h]; rfl
  | l :: ls, _, h => by obtain ⟨v, r, rfl, _, hr⟩ := h; simp [hr.len]
theorem Fits.app : ∀ {ls ms : List Leaf} {cs ds : List Value}, Fits ls cs → Fits ms ds → Fits (ls ++ ms) (cs ++ ds)
  | [], _, _, _, h, k => by rw [show _ = [] from h]; exact k
  | l :: ls, _, _, _, h, k => by obtain ⟨v, r, rfl, hv, hr⟩ := h; exact ⟨v, _, rfl, hv, hr.app k⟩
theorem Fits.split : ∀ {ls ms : List Leaf} {cs : List Value}, Fits (ls ++ ms) cs → ∃ a b, cs = a ++ b ∧ Fits ls a ∧ Fits ms b
  | [], _, cs, h => ⟨[], cs, rfl, rfl, h⟩
  | l :: ls, _, _, h => by
    obtain ⟨v, r, rfl, hv, hr⟩ := h
    obtain ⟨a, b, rfl, ha, hb⟩ := Fits.split hr
    exact ⟨v :: a, b, rfl, ⟨v, a, rfl, hv, ha⟩, hb⟩

/-- The leaves of the fields from offset o on. -/
def flatFields (P : Program) (rec : TypeId → Option (List Leaf)) : Nat → List Field → Option (List Leaf)
  | _, [] => some []
  | o, f :: r => match rec f.type with
    | none => none
    | some l => if f.offset = o ∧ P.cellsOf f.type = l.length then (flatFields P rec (o + l.length) r).map (l ++ ·) else none
/-- The leaves of a type. -/
def flatF (P : Program) : Nat → TypeId → Option (List Leaf)
  | 0, _ => none
  | n + 1, t => match P.underlying t with
    | some .bool => some [.bool]
    | some (.int k) => some [.int k]
    | some .string => some [.str]
    | some (.struct fs) => match flatFields P (flatF P n) 0 fs.toList with
      | some l => if P.cellsOf t = l.length then some l else none
      | none => none
    | some (.array m e) => match flatF P n e with
      | some l => if P.cellsOf e = l.length ∧ P.cellsOf t = m * l.length then some (List.replicate m l).flatten else none
      | none => none
    | _ => none

section
variable {H : Type} {enc : TypeId × Value → H} {P : Program} {w : World} {base : Nat} {spare : Nat → Bool} {held : Bool}

theorem chunks (k : Nat) : ∀ (m : Nat) (cs : List Value), cs.length = m * k → cs = ((List.range m).map fun i => (cs.drop (i * k)).take k).flatten
  | 0, cs, h => by
    have : cs = [] := List.length_eq_zero_iff.1 (by omega)
    subst this; rfl
  | m + 1, cs, h => by
    have hc := chunks k m (cs.drop k) (by rw [List.length_drop, h, Nat.succ_mul]; omega)
    rw [List.range_succ_eq_map, List.map_cons, List.flatten_cons, Nat.zero_mul, List.drop_zero, List.map_map]
    have e : ((List.range m).map ((fun i => (cs.drop (i * k)).take k) ∘ Nat.succ)) = ((List.range m).map fun i => ((cs.drop k).drop (i * k)).take k) := by
      apply List.map_congr_left
      intro i _
      show (cs.drop ((i + 1) * k)).take k = _
      rw [List.drop_drop, Nat.succ_mul, Nat.add_comm]
    rw [e, ← hc, List.take_append_drop]

end

def aggB (P : Program) (t : TypeId) : Bool := match P.underlying t with | some (.struct _) => true | some (.array _ _) => true | _ => false
/-- A value of its cells. -/
def mkV (P : Program) (t : TypeId) (cs : List Value) : Value := if aggB P t then .agg cs.toArray else cs.headD undef
/-- May it be compared cell by cell? -/
def eqB (P : Program) : Nat → TypeId → Bool
  | 0, _ => false
  | n + 1, t => (P.info? t).isSome && match P.underlying t with
    | some .bool => true
    | some (.int _) => true
    | some .string => true
    | some (.struct fs) => !P.stoodInHeld t && fs.toList.all fun f => f.name != "_" && eqB P n f.type
    | some (.array _ e) => eqB P n e
    | _ => false

section
variable {P : Program}
theorem eqB_info {n : Nat} {t : TypeId} (h : eqB P n t = true) : ∃ i, P.info? t = some i := by
  cases n with
  | zero => cases h
  | succ n =>
    unfold eqB at h
    simp only [Bool.and_eq_true] at h
    exact Option.isSome_iff_exists.1 h.1
theorem run_sizeOf {t : TypeId} {i : TypeInfo} (h : P.info? t = some i) (w : World) : (sizeOf t).run P w = .ok (P.cellsOf t) w := by
  simp [sizeOf, typeInfo, h, Program.cellsOf]
theorem flat_leaf {n : Nat} {t : TypeId} {l : List Leaf} (h : flatF P n t = some l) (ha : aggB P t = false) : ∃ k, l = [k] := by
  cases n with
  | zero => simp [flatF] at h
  | succ n =>
    unfold flatF at h
    unfold aggB at ha
    split at h
    · exact ⟨_, (Option.some.inj h).symm⟩
    · exact ⟨_, (Option.some.inj h).symm⟩
    · exact ⟨_, (Option.some.inj h).symm⟩
    · rename_i hu; rw [hu] at ha; cases ha
    · rename_i hu; rw [hu] at ha; cases ha
    · cases h
theorem flat_und {n : Nat} {t : TypeId} {l : List Leaf} (h : flatF P n t = some l) : ∃ d, P.underlying t = some d := by
  cases n with
  | zero => simp [flatF] at h
  | succ n =>
    unfold flatF at h
    cases hu : P.underlying t with
    | none => rw [hu] at h; cases h
    | some d => exact ⟨d, rfl⟩
/-- A part of an aggregate is a value of its cells. -/
theorem run_part {n : Nat} {t : TypeId} {l : List Leaf} (h : flatF P n t = some l) (hc : P.cellsOf t = l.length) {i : TypeInfo} (hi : P.info? t = some i) (xs : List Value) (o : Nat) (hl : o + l.length ≤ xs.length) (w : World) :
    (part t xs.toArray o).run P w = .ok (mkV P t ((xs.drop o).take l.length)) w := by
  obtain ⟨d, hd⟩ := flat_und h
  unfold part mkV
  cases ha : aggB P t with
  | true =>
    have hag : (isAgg t).run P w = .ok true w := by
      unfold aggB at ha
      unfold isAgg
      simp only [Sem.run_bind, run_underlying hd, Result.andThen_ok]
      rw [hd] at ha
      cases d <;> simp at ha ⊢
    simp only [Sem.run_bind, hag, Result.andThen_ok, if_true, run_sizeOf hi, Sem.run_pure]
    congr 2
    apply Array.ext'
    rw [hc]
    simp [List.extract_eq_take_drop, List.take_drop]
  | false =>
    have hag : (isAgg t).run P w = .ok false w := by
      unfold aggB at ha
      unfold isAgg
      simp only [Sem.run_bind, run_underlying hd, Result.andThen_ok]
      rw [hd] at ha
      cases d <;> simp at ha ⊢
    obtain ⟨k, rfl⟩ := flat_leaf h ha
    have hlt : o < xs.length := by simp at hl; omega
    have hx : xs.toArray[o]? = some xs[o] := by simp [hlt]
    simp only [Sem.run_bind, hag, Result.andThen_ok, Bool.false_eq_true, if_false, hx, Sem.run_pure]
    congr 1
    rw [List.drop_eq_getElem_cons hlt]
    rfl

theorem eq_app {a b c d : List Value} (h : a.length = b.length) : a ++ c = b ++ d ↔ a = b ∧ c = d :=
  ⟨fun e => List.append_inj e h, fun ⟨e, f⟩ => by rw [e, f]⟩

theorem eqFields_flat {rec : TypeId → Option (List Leaf)} {d : Nat} {xs ys : List Value}
    (hrec : ∀ t l, rec t = some l → P.cellsOf t = l.length → ∀ o, o + l.length ≤ xs.length → (part t xs.toArray o).run P = (fun w => .ok (mkV P t ((xs.drop o).take l.length)) w) ∧ (part t ys.toArray o).run P = (fun w => .ok (mkV P t ((ys.drop o).take l.length)) w))
    (heq : ∀ t l, rec t = some l → ∀ a b, Fits l a → Fits l b → ∀ r : Bool, (r = true ↔ a = b) → ∀ w, (Op.equalIn d t (mkV P t a) (mkV P t b)).run P w = .ok r w) :
    ∀ (fs : List Field) (o : Nat) (L : List Leaf), flatFields P rec o fs = some L → (∀ f ∈ fs, f.name ≠ "_") → xs.length = o + L.length → ys.length = o + L.length → Fits L (xs.drop o) → Fits L (ys.drop o) →
      ∀ r : Bool, (r = true ↔ xs.drop o = ys.drop o) → ∀ w, (Op.eqFields d xs.toArray ys.toArray fs).run P w = .ok r w
  | [], o, L, h, _, hx, hy, _, _, r, hr, w => by
    simp only [flatFields, Option.some.injEq] at h
    subst h
    have : r = true := hr.2 (by rw [List.drop_eq_nil_of_le (by simp at hx; omega), List.drop_eq_nil_of_le (by simp at hy; omega)])
    subst this
    rfl
  | f :: fs, o, L, h, hn, hx, hy, fx, fy, r, hr, w => by
    unfold flatFields at h
    cases hl : rec f.type with
    | none => rw [hl] at h; cases h
    | some l =>
      rw [hl] at h
      simp only at h
      split at h
      · rename_i hc
        obtain ⟨ho, hk⟩ := hc
        rw [Option.map_eq_some_iff] at h
        obtain ⟨M, hM, rfl⟩ := h
        rw [List.length_append] at hx hy
        obtain ⟨a, a', ea, fa, fa'⟩ := fx.split
        obtain ⟨b, b', eb, fb, fb'⟩ := fy.split
        have la := fa.len
        have lb := fb.len
        have ta : (xs.drop o).take l.length = a := by rw [ea, ← la]; simp
        have tb : (ys.drop o).take l.length = b := by rw [eb, ← lb]; simp
        have da : xs.drop (o + l.length) = a' := by rw [← List.drop_drop, ea, ← la]; simp
        have db : ys.drop (o + l.length) = b' := by rw [← List.drop_drop, eb, ← lb]; simp
        obtain ⟨p1, p2⟩ := hrec f.type l hl hk o (by omega)
        unfold Op.eqFields
        rw [if_pos (hn f (List.mem_cons_self ..)), ho]
        simp only [Sem.run_bind, p1, p2, Result.andThen_ok, ta, tb]
        rw [ea, eb, eq_app (by rw [la, lb])] at hr
        by_cases hab : a = b
        · rw [heq f.type l hl a b fa fb true (by simp [hab]) w]
          simp only [Result.andThen_ok, Bool.not_true, Bool.false_eq_true, if_false]
          refine eqFields_flat hrec heq fs (o + l.length) M hM (fun g hg => hn g (List.mem_cons_of_mem _ hg)) (by omega) (by omega) (by rw [da]; exact fa') (by rw [db]; exact fb') r ?_ w
          rw [da, db, hr]
          simp [hab]
        · rw [heq f.type l hl a b fa fb false (by simp [hab]) w]
          have : r = false := by
            cases r with
            | false => rfl
            | true => exact absurd (hr.1 rfl).1 hab
          subst this
          simp
      · cases h

theorem equal_flat : ∀ (n d : Nat) (t : TypeId) (l : List Leaf) (xs ys : List Value), n ≤ d → eqB P n t = true → flatF P n t = some l → Fits l xs → Fits l ys → ∀ r : Bool, (r = true ↔ xs = ys) → ∀ w, (Op.equalIn d t (mkV P t xs) (mkV P t ys)).run P w = .ok r w
  | 0, _, _, _, _, _, _, h, _, _, _, _, _, _ => by cases h
  | n + 1, d, t, l, xs, ys, hd, he, h, fx, fy, r, hr, w => by
    obtain ⟨d, rfl⟩ : ∃ d', d = d' + 1 := ⟨d - 1, by omega⟩
    have hflat := h
    unfold flatF at h
    split at h
    · rename_i hu
      simp only [Option.some.injEq] at h
      subst h
      obtain ⟨_, _, rfl, ⟨a, rfl⟩, rfl⟩ := fx
      obtain ⟨_, _, rfl, ⟨b, rfl⟩, rfl⟩ := fy
      have ha : aggB P t = false := by unfold aggB; rw [hu]
      unfold mkV
      rw [ha]
      simp only [Bool.false_eq_true, if_false, List.headD_cons]
      rw [run_equalIn_bool' w d t a b hu]
      congr 1
      rw [Bool.eq_iff_iff, hr]
      simp
    · rename_i k hu
      simp only [Option.some.injEq] at h
      subst h
      obtain ⟨_, _, rfl, ⟨a, rfl, _⟩, rfl⟩ := fx
      obtain ⟨_, _, rfl, ⟨b, rfl, _⟩, rfl⟩ := fy
      have ha : aggB P t = false := by unfold aggB; rw [hu]
      unfold mkV
      rw [ha]
      simp only [Bool.false_eq_true, if_false, List.headD_cons]
      rw [run_equalIn_int w d t k k a b hu]
      congr 1
      rw [Bool.eq_iff_iff, hr]
      simp
    · rename_i hu
      simp only [Option.some.injEq] at h
      subst h
      obtain ⟨_, _, rfl, ⟨a, rfl, _⟩, rfl⟩ := fx
      obtain ⟨_, _, rfl, ⟨b, rfl, _⟩, rfl⟩ := fy
      have ha : aggB P t = false := by unfold aggB; rw [hu]
      unfold mkV
      rw [ha]
      simp only [Bool.false_eq_true, if_false, List.headD_cons]
      rw [run_equalIn_string w d t a b hu]
      congr 1
      rw [Bool.eq_iff_iff, hr, beq_iff_eq, ByteArray.toList_eq, ByteArray.toList_eq]
      constructor
      · intro h
        have : a = b := by
          obtain ⟨a⟩ := a
          obtain ⟨b⟩ := b
          exact congrArg ByteArray.mk (Array.ext' h)
        rw [this]
      · intro h
        cases h
        rfl
    · rename_i fs hu
      split at h
      · rename_i L hL
        split at h
        · rename_i hc
          simp only [Option.some.injEq] at h
          subst h
          unfold eqB at he
          rw [hu] at he
          simp only [Bool.and_eq_true, Bool.not_eq_true'] at he
          obtain ⟨_, hp, hfs⟩ := he
          have ha : aggB P t = true := by unfold aggB; rw [hu]
          unfold mkV
          rw [ha]
          simp only [if_true]
          have hfo : P.fieldsOf t = fs := by unfold Program.fieldsOf; rw [hu]
          rw [run_equalIn_struct w d t _ _ (by rw [hfo]; exact hu) hp, hfo]
          have hx := fx.len
          have hy := fy.len
          have hin : ∀ f ∈ fs.toList, f.name ≠ "_" ∧ eqB P n f.type = true := fun f hf => by
            have := List.all_eq_true.1 hfs f hf
            simpa using this
          -- only the fields' own types come up
          refine eqFields_flat (rec := fun t => if eqB P n t then flatF P n t else none) (fun t' l' h1 h2 o ho => ?_) (fun t' l' h1 a b fa fb r hr w => ?_) fs.toList 0 L ?_ (fun f hf => (hin f hf).1) (by omega) (by omega) fx fy r hr w
          · by_cases hb : eqB P n t' = true
            · rw [if_pos hb] at h1
              obtain ⟨i, hi⟩ := eqB_info hb
              exact ⟨funext fun w => run_part h1 h2 hi xs o ho w, funext fun w => run_part h1 h2 hi ys o (by omega) w⟩
            · rw [if_neg hb] at h1; cases h1
          · by_cases hb : eqB P n t' = true
            · rw [if_pos hb] at h1
              exact equal_flat n d t' l' a b (by omega) hb h1 fa fb r hr w
            · rw [if_neg hb] at h1; cases h1
          · have key : ∀ (gs : List Field) (o : Nat), (∀ f ∈ gs, eqB P n f.type = true) → flatFields P (fun t => if eqB P n t then flatF P n t else none) o gs = flatFields P (flatF P n) o gs := by
              intro gs
              induction gs with
              | nil => intro o _; rfl
              | cons g gs ih =>
                intro o hg
                unfold flatFields
                rw [if_pos (hg g (List.mem_cons_self ..))]
                cases flatF P n g.type with
                | none => rfl
                | some l => simp only [ih _ fun f hf => hg f (List.mem_cons_of_mem _ hf)]
            rw [key fs.toList 0 fun f hf => (hin f hf).2]
            exact hL
        · cases h
      · cases h
    · rename_i m e hu
      split at h
      · rename_i L hL
        split at h
        · rename_i hc
          simp only [Option.some.injEq] at h
          subst h
          unfold eqB at he
          rw [hu] at he
          simp only [Bool.and_eq_true] at he
          obtain ⟨_, heb⟩ := he
          obtain ⟨ie, hie⟩ := eqB_info heb
          have ha : aggB P t = true := by unfold aggB; rw [hu]
          unfold mkV
          rw [ha]
          simp only [if_true]
          have hlen : ((List.replicate m L).flatten).length = m * L.length := by simp
          have hx := fx.len
          have hy := fy.len
          rw [hlen] at hx hy
          -- chunk by chunk
          have hch : ∀ (m : Nat) (zs : List Value), Fits (List.replicate m L).flatten zs → ∀ i, i < m → Fits L ((zs.drop (i * L.length)).take L.length) := by
            intro m
            induction m with
            | zero => intro zs _ i hi; omega
            | succ m ih =>
              intro zs hz i hi
              rw [List.replicate_succ, List.flatten_cons] at hz
              obtain ⟨a, b, rfl, ha, hb⟩ := hz.split
              cases i with
              | zero => rw [Nat.zero_mul, List.drop_zero, ← ha.len, List.take_left]; exact ha
              | succ i =>
                have := ih b hb i (by omega)
                rw [Nat.succ_mul, Nat.add_comm, ← List.drop_drop, ← ha.len, List.drop_left]
                rw [ha.len]
                exact this
          have hrr : (r = true ↔ ∀ i ∈ List.range' 0 m 1, (xs.drop (i * L.length)).take L.length = (ys.drop (i * L.length)).take L.length) := by
            rw [hr]
            constructor
            · rintro rfl i _; rfl
            · intro H
              rw [chunks L.length m xs hx, chunks L.length m ys hy]
              congr 1
              apply List.map_congr_left
              intro i hi
              exact H i (by simpa using List.mem_range.1 hi)
          unfold Op.equalIn
          simp only [Sem.run_bind, run_underlying hu, Result.andThen_ok, run_sizeOf hie, Std.Legacy.Range.forIn_eq_forIn_range', Std.Legacy.Range.size, Nat.sub_zero, Nat.add_sub_cancel, Nat.div_one]
          have hl : ∀ i ∈ List.range' 0 m 1, i < m := fun i hi => by simpa using (List.mem_range'_1.1 hi).2
          clear hr
          generalize List.range' 0 m 1 = is at hl hrr ⊢
          induction is with
          | nil =>
            have : r = true := hrr.2 (by simp)
            subst this
            simp
          | cons i is ih =>
            have hi : i < m := hl i (by simp)
            have hle : i * L.length + L.length ≤ m * L.length := by have := Nat.mul_le_mul_right L.length (show i + 1 ≤ m from hi); rw [Nat.succ_mul] at this; exact this
            rw [hc.1]
            rw [hc.1] at ih
            have px := run_part hL hc.1 hie xs (i * L.length) (by omega) w
            have py := run_part hL hc.1 hie ys (i * L.length) (by omega) w
            simp only [List.forIn_cons, Sem.run_bind, px, py, Result.andThen_ok]
            by_cases hab : (xs.drop (i * L.length)).take L.length = (ys.drop (i * L.length)).take L.length
            · rw [equal_flat n d e L _ _ (by omega) heb hL (hch m xs fx i hi) (hch m ys fy i hi) true (by simp [hab]) w]
              simp only [Result.andThen_ok, Bool.not_true, Bool.false_eq_true, if_false, Sem.run_pure]
              refine ih (fun j hj => hl j (by simp [hj])) ?_
              rw [hrr]
              simp [hab]
            · rw [equal_flat n d e L _ _ (by omega) heb hL (hch m xs fx i hi) (hch m ys fy i hi) false (by simp [hab]) w]
              have : r = false := by
                cases r with
                | false => rfl
                | true => exact absurd (hrr.1 rfl i (by simp)) hab
              subst this
              simp
        · cases h
      · cases h
    · cases h

end
end Go.Proofs.YtjckpgcmfieaoaaGreatDoor
