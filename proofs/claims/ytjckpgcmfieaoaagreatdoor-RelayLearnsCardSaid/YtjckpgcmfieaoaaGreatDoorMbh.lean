/-
  Functions whose contract is known: bytes in texts.
-/
import Derived.Test.YtjckpgcmfieaoaaGreatDoorMbg
import Derived.Test.YtjckpgcmfieaoaaGreatDoorProg
import Derived.Lib.Bytealg
import Derived.ProofKit
import Derived.Test.YtjckpgcmfieaoaaGreatDoorRows
import Derived.Test.YtjckpgcmfieaoaaGreatDoorMaa
import Derived.Shelf.Strings.OnBuilder
import Derived.Deep.MidRow
import Derived.Deep.RegionHeld3
import Derived.OpenShut
set_option linter.unusedVariables false
set_option linter.unusedSimpArgs false
namespace Go.Proofs.YtjckpgcmfieaoaaGreatDoor
open Go.RowKit

/-- Where a byte stands. -/
noncomputable def iFind (c : Nat) (l : List Nat) : Nat → Int :=
  List.rec (motive := fun _ => Nat → Int) (fun _ => -1) (fun x _ ih i => match Nat.beq x c with | true => Int.ofNat i | false => ih (Nat.succ i)) l
/-- How often. -/
noncomputable def iCount (c : Nat) (l : List Nat) : Nat → Nat :=
  List.rec (motive := fun _ => Nat → Nat) (fun n => n) (fun x _ ih n => match Nat.beq x c with | true => ih (Nat.succ n) | false => ih n) l
theorem iFind_cons (c x : Nat) (l : List Nat) (i : Nat) : iFind c (x :: l) i = match Nat.beq x c with | true => Int.ofNat i | false => iFind c l (Nat.succ i) := rfl
theorem iCount_cons (c x : Nat) (l : List Nat) (i : Nat) : iCount c (x :: l) i = match Nat.beq x c with | true => iCount c l (Nat.succ i) | false => iCount c l i := rfl
theorem byte_beq (x : UInt8) {c : Nat} (hc : c < 256) : Nat.beq x.toNat c = (x == c.toUInt8) := by
  rw [Bool.eq_iff_iff]
  constructor
  · intro h
    have e := Nat.eq_of_beq_eq_true h
    rw [beq_iff_eq, ← UInt8.toNat_inj, e]
    simp [Nat.toUInt8, Nat.mod_eq_of_lt hc]
  · intro h
    rw [beq_iff_eq] at h
    subst h
    have : c.toUInt8.toNat = c := by simp [Nat.toUInt8, Nat.mod_eq_of_lt hc]
    rw [this, Nat.beq_refl]
theorem iFind_eq {c : Nat} (hc : c < 256) : ∀ (l : List UInt8) (i : Nat), iFind c (l.map (·.toNat)) i = if Lib.indexByte l c.toUInt8 = -1 then -1 else Lib.indexByte l c.toUInt8 + i
  | [], i => rfl
  | x :: l, i => by
    rw [List.map_cons, iFind_cons, byte_beq x hc]
    unfold Lib.indexByte
    have ge := Lib.indexByte_ge l c.toUInt8
    cases hb : x == c.toUInt8 with
    | true => simp
    | false =>
      simp only [Bool.false_eq_true, if_false]
      rw [iFind_eq hc l (i + 1)]
      by_cases h1 : Lib.indexByte l c.toUInt8 = -1
      · simp [h1]
      · have h2 : Lib.indexByte l c.toUInt8 + 1 ≠ -1 := by omega
        simp only [h1, if_false, beq_iff_eq, h2]
        push_cast
        omega
theorem iCount_eq {c : Nat} (hc : c < 256) : ∀ (l : List UInt8) (n : Nat), iCount c (l.map (·.toNat)) n = n + Lib.countByte l c.toUInt8
  | [], n => rfl
  | x :: l, n => by
    rw [List.map_cons, iCount_cons, byte_beq x hc]
    unfold Lib.countByte
    rw [List.count_cons]
    cases hb : x == c.toUInt8 with
    | true => simp only; rw [iCount_eq hc l]; unfold Lib.countByte; simp; omega
    | false => simp only; rw [iCount_eq hc l]; unfold Lib.countByte; simp

theorem ext_run {P : Program} {f : FuncId} {fn : Func} (h : P.funcs[f]? = some fn) (hn : (fn.name == "runtime.NumGoroutine") = false) (hb : fn.body.isNone = true) (h1 : (Extern.findNext fn).isNone = true) {e : Array Value → Sem Value} (h2 : Extern.find fn = some e) {args : Array Value} {w w' : World} {v : Value} (hr : (e args).run P w = .ok v w') :
    (callFunc f args).run P w = .ok (.value v) w' := by
  rw [Option.isNone_iff_eq_none] at h1 hb
  have hn : fn.name ≠ "runtime.NumGoroutine" := by simpa using hn
  simp [callFunc, h, hn, hb, h1, h2, hr]
noncomputable section
/-- CountString, IndexByteString. -/
def iCountStr (_ : ECall) (a : List EV) (s : ESt) : EO := match a with
  | [.str l, .int .u8 (.ofNat c)] => match Nat.blt c 256 with
    | true => .v (.int .i64 (Int.ofNat (iCount c l 0))) s
    | false => .er
  | _ => .er
def iIndexStr (_ : ECall) (a : List EV) (s : ESt) : EO := match a with
  | [.str l, .int .u8 (.ofNat c)] => match Nat.blt c 256 with
    | true => .v (.int .i64 (iFind c l 0)) s
    | false => .er
  | _ => .er
end
theorem two_args {β : EMp} {l : List Nat} {c : Nat} {av : Array Value} (h : VRs β [.str l, .int .u8 (.ofNat c)] av.toList) : ∃ b : ByteArray, b.data.toList.map (·.toNat) = l ∧ av = #[.string b, .int .u8 (Int.ofNat c)] := by
  obtain ⟨av⟩ := av
  cases h with
  | cons h1 h2 =>
    cases h2 with
    | cons h2 h3 =>
      cases h3
      cases h1
      cases h2
      exact ⟨_, ‹_›, rfl⟩
theorem iCountStr_ok {P : Program} {f : FuncId} {fn : Func} (h : P.funcs[f]? = some fn) (hn : (fn.name == "runtime.NumGoroutine") = false) (hb : fn.body.isNone = true) (h1 : (Extern.findNext fn).isNone = true) (h2 : Extern.find fn = some Extern.BytealgCount.count) {k : ECall} {args : List EV} {s s' : ESt} {x : EV} (ha : iCountStr k args s = .v x s') : KOk P f args s x s' := fun w0 β w av hg hr hv => by
  unfold iCountStr at ha
  split at ha <;> first | (cases ha; done) | skip
  rename_i l c
  cases hc : Nat.blt c 256 with
  | false => rw [hc] at ha; cases ha
  | true =>
    rw [hc] at ha
    injection ha with e1 e2
    subst e1 e2
    obtain ⟨b, rfl, rfl⟩ := two_args hv
    have hc := Nat.le_of_ble_eq_true hc
    refine .inl ⟨_, w, ext_run h hn hb h1 h2 (Lib.run_countString b c w), β, ?_, hr, Ext.refl _ _⟩
    rw [iCount_eq hc, Nat.zero_add]
    exact .int _ _
theorem iIndexStr_ok {P : Program} {f : FuncId} {fn : Func} (h : P.funcs[f]? = some fn) (hn : (fn.name == "runtime.NumGoroutine") = false) (hb : fn.body.isNone = true) (h1 : (Extern.findNext fn).isNone = true) (h2 : Extern.find fn = some Extern.BytealgIndexByte.indexByte) {k : ECall} {args : List EV} {s s' : ESt} {x : EV} (ha : iIndexStr k args s = .v x s') : KOk P f args s x s' := fun w0 β w av hg hr hv => by
  unfold iIndexStr at ha
  split at ha <;> first | (cases ha; done) | skip
  rename_i l c
  cases hc : Nat.blt c 256 with
  | false => rw [hc] at ha; cases ha
  | true =>
    rw [hc] at ha
    injection ha with e1 e2
    subst e1 e2
    obtain ⟨b, rfl, rfl⟩ := two_args hv
    have hc := Nat.le_of_ble_eq_true hc
    refine .inl ⟨_, w, ext_run h hn hb h1 h2 (Lib.run_indexByteString b c w), β, ?_, hr, Ext.refl _ _⟩
    rw [iFind_eq hc]
    have : (if Lib.indexByte b.data.toList c.toUInt8 = -1 then -1 else Lib.indexByte b.data.toList c.toUInt8 + ((0 : Nat) : Int)) = Lib.indexByte b.data.toList c.toUInt8 := by
      split
      · rename_i e; rw [e]
      · simp
    rw [this]
    exact .int _ _

/-- The package's variables alone. -/
def bet0 : EMp := fun g => if g < 1024 then some ⟨g, 0, 0⟩ else none
theorem HR.start (W : World) : HR W bet0 (.mk .e 1024) W := by
  have he : ∀ b, (ESt.mk .e 1024).heap.get b = none := fun b => ETr.get_e b
  refine ⟨Upd.refl _ _, fun b l h => ?_, fun b l k _ h => ?_, fun b b' l l' k k' _ _ h => ?_⟩
  · unfold bet0 at h
    by_cases hb : b < 1024
    · exact hb
    · rw [if_neg hb] at h; cases h
  · rw [he] at h; cases h
  · rw [he] at h; cases h
/-- What tells true. -/
noncomputable def tellsTrue (r : EO) : Bool := match r with
  | .v (.bool b) _ => b
  | _ => false

def joiF (n : Nat) : Nat := if n = 156 then 162 else if n = 165 then 222 else if n = 166 then 158 else if n = 169 then 223 else if n = 240 then 219 else if n = 241 then 283 else if n = 276 then 282 else if n = 277 then 325 else n
def joiT (n : Nat) : Nat := if n = 0 then 0 else if n = 3 then 3 else if n = 4 then 4 else if n = 5 then 5 else if n = 9 then 9 else if n = 20 then 20 else if n = 31 then 77 else if n = 37 then 157 else if n = 70 then 261 else if n = 72 then 263 else if n = 75 then 269 else if n = 76 then 270 else if n = 80 then 193 else if n = 127 then 386 else if n = 164 then 384 else n
def joiR : Go.Shelf.Ren := ⟨joiF, joiT, fun n => n⟩
theorem joiL : Lays.n156 Tryz.prog joiR where
  mixed := by kernel_rfl
  f156 := by kernel_rfl
  f165 := by kernel_rfl
  f166 := by kernel_rfl
  f169 := by kernel_rfl
  f240 := by kernel_rfl
  f241 := by kernel_rfl
  f276 := by kernel_rfl
  f277 := by kernel_rfl
  t0 := Tryz.underlying0
  a0 := Tryz.isAgg0
  z0 := Tryz.sizeOf0
  v0 := Tryz.zeroValue0
  t3 := Tryz.underlying3
  a3 := Tryz.isAgg3
  z3 := Tryz.sizeOf3
  v3 := Tryz.zeroValue3
  t4 := Tryz.underlying4
  a4 := Tryz.isAgg4
  z4 := Tryz.sizeOf4
  v4 := Tryz.zeroValue4
  t9 := Tryz.underlying9
  a9 := Tryz.isAgg9
  z9 := Tryz.sizeOf9
  v9 := Tryz.zeroValue9
  t20 := Tryz.underlying20
  a20 := Tryz.isAgg20
  z20 := Tryz.sizeOf20
  v20 := Tryz.zeroValue20
  t31 := Tryz.underlying77
  a31 := Tryz.isAgg77
  z31 := Tryz.sizeOf77
  v31 := Tryz.zeroValue77
  t37 := Tryz.underlying157
  a37 := Tryz.isAgg157
  z37 := Tryz.sizeOf157
  v37 := Tryz.zeroValue157
  t70 := Tryz.underlying261
  a70 := Tryz.isAgg261
  z70 := Tryz.sizeOf261
  v70 := Tryz.zeroValue261
  t72 := Tryz.underlying263
  a72 := Tryz.isAgg263
  z72 := Tryz.sizeOf263
  v72 := Tryz.zeroValue263
  t75 := Tryz.underlying269
  a75 := Tryz.isAgg269
  z75 := Tryz.sizeOf269
  v75 := Tryz.zeroValue269
  t76 := Tryz.underlying270
  a76 := Tryz.isAgg270
  z76 := Tryz.sizeOf270
  v76 := Tryz.zeroValue270
  t127 := Tryz.underlying386
  a127 := Tryz.isAgg386
  z127 := Tryz.sizeOf386
  v127 := Tryz.zeroValue386
  t164 := Tryz.underlying384
  a164 := Tryz.isAgg384
  z164 := Tryz.sizeOf384
  v164 := Tryz.zeroValue384
theorem joiX : Builder.Extra Tryz.prog joiR where
  sizeBuilder := by kernel_rfl
  liesBuilder := by kernel_rfl
  t5 := Tryz.underlying5
  a5 := Tryz.isAgg5
  z5 := Tryz.sizeOf5
  v5 := Tryz.zeroValue5
  infoByte := by kernel_rfl
  cellsByte := by kernel_rfl
  sizeByte := by kernel_rfl
  neB5 := by decide

noncomputable section
def iTexts (l : List EV) : Option (List (List Nat)) :=
  List.rec (motive := fun _ => Option (List (List Nat))) (some []) (fun x _ ih => match x with
    | .str a => match ih with
      | some r => some (a :: r)
      | none => none
    | _ => none) l
def iJoinL (sep : List Nat) (l : List (List Nat)) : List Nat :=
  List.rec (motive := fun _ => List Nat) [] (fun x r ih => match r with
    | [] => x
    | _ => x ++ (sep ++ ih)) l
end
theorem iTexts_cons (x : EV) (l : List EV) : iTexts (x :: l) = match x with
    | .str a => match iTexts l with
      | some r => some (a :: r)
      | none => none
    | _ => none := rfl
theorem iTexts_run {β : EMp} : ∀ {l : List EV} {vs : List Value} {ls : List (List Nat)}, VRs β l vs → iTexts l = some ls → ∃ bs : List ByteArray, vs = bs.map Value.string ∧ ls = bs.map fun b => b.data.toList.map (·.toNat)
  | _, _, ls, .nil, h => by
    obtain rfl := Option.some.inj (show some [] = some ls from h)
    exact ⟨[], rfl, rfl⟩
  | x :: l, v :: vs, ls, .cons hx hl, h => by
    rw [iTexts_cons] at h
    cases hx <;> first | (cases h; done) | skip
    rename_i a b hb
    simp only at h
    cases hq : iTexts l with
    | none => rw [hq] at h; cases h
    | some r =>
      rw [hq] at h
      obtain rfl := Option.some.inj h
      obtain ⟨bs, rfl, rfl⟩ := iTexts_run hl hq
      exact ⟨_ :: bs, rfl, by rw [List.map_cons, hb]⟩
theorem iJoinL_run (sep : ByteArray) : ∀ (bs : List ByteArray), iJoinL (sep.data.toList.map (·.toNat)) (bs.map fun b => b.data.toList.map (·.toNat)) = (Lib.join (bs.map (·.data.toList)) sep.data.toList).map (·.toNat)
  | [] => rfl
  | [b] => by rw [List.map_cons, List.map_nil, List.map_cons, List.map_nil, Lib.join_one]; rfl
  | b :: c :: r => by
    have ih := iJoinL_run sep (c :: r)
    have e : iJoinL (sep.data.toList.map (·.toNat)) ((b :: c :: r).map fun b => b.data.toList.map (·.toNat)) = b.data.toList.map (·.toNat) ++ (sep.data.toList.map (·.toNat) ++ iJoinL (sep.data.toList.map (·.toNat)) ((c :: r).map fun b => b.data.toList.map (·.toNat))) := rfl
    rw [e, ih]
    unfold Lib.join
    rw [List.map_cons, List.map_cons, List.map_cons, List.intercalate_cons_cons]
    simp
noncomputable def iJoin (_ : ECall) (a : List EV) (s : ESt) : EO := match a with
  | [.sl (some (b, o)) n c z, .str sep] => match s.loadN b o n with
    | some l => match iTexts l with
      | some ls => match Nat.ble n c && Nat.ble 1 n && Nat.ble n 1000 && Nat.ble (iJoinL sep ls).length 1000000000 with
        | true => .v (.str (iJoinL sep ls)) s
        | false => .er
      | none => .er
    | none => .er
  | _ => .er
theorem iJoin_ok {k : ECall} {args : List EV} {s s' : ESt} {x : EV} (ha : iJoin k args s = .v x s') : KOk Tryz.prog 162 args s x s' := fun w0 β w av hg hr hv => by
  unfold iJoin at ha
  split at ha <;> first | (cases ha; done) | skip
  rename_i b o n c z sep
  cases hl : s.loadN b o n with
  | none => rw [hl] at ha; cases ha
  | some l =>
    rw [hl] at ha
    simp only at ha
    cases ht : iTexts l with
    | none => rw [ht] at ha; cases ha
    | some ls =>
      rw [ht] at ha
      simp only at ha
      cases hc : (Nat.ble n c && Nat.ble 1 n && Nat.ble n 1000 && Nat.ble (iJoinL sep ls).length 1000000000) with
      | false => rw [hc] at ha; cases ha
      | true =>
        rw [hc] at ha
        injection ha with e1 e2
        subst e1 e2
        simp only [Bool.and_eq_true] at hc
        obtain ⟨⟨⟨hc1, hc2⟩, hc3⟩, hc4⟩ := hc
        obtain ⟨av⟩ := av
        cases hv with
        | cons h1 h2 =>
          cases h2 with
          | cons h2 h3 =>
            cases h3
            cases h2 with
            | str hs =>
              cases h1 with
              | sle _ => exact absurd (Nat.le_of_ble_eq_true hc2) (by omega)
              | sl hb h0 hz =>
                obtain ⟨vs, g1, g2, g3⟩ := hr.loadN hb hl
                obtain ⟨bs, rfl, rfl⟩ := iTexts_run g2 ht
                subst hs
                rename_i sb cap' l2
                have hn : n = bs.length := by rw [← g1, List.length_map]
                subst hn
                rw [iJoinL_run] at hc4 ⊢
                rw [List.length_map] at hc4
                have hc4 := Nat.le_of_ble_eq_true hc4
                have hc3 := Nat.le_of_ble_eq_true hc3
                have hcap : bs.length ≤ cap' := by
                  have h1 := Nat.le_of_ble_eq_true hc1
                  by_cases e : z = 0
                  · rw [h0 e]; exact h1
                  · exact Nat.le_trans h1 (hz e).1
                have hcell : ∀ (j : Nat) y, bs[j]? = some y → w.cell? ⟨l2.c, l2.sh + o + j, none⟩ = some (.string y) := fun j y hy => g3 j _ (by rw [List.getElem?_map, hy]; rfl)
                have hlt : l2.c < w.heap.size := by
                  have hpos : 0 < bs.length := Nat.le_of_ble_eq_true hc2
                  have h1 := hcell 0 bs[0] (List.getElem?_eq_getElem hpos)
                  unfold World.cell? at h1
                  cases hq : w.heap[l2.c]? with
                  | none => simp [hq] at h1
                  | some _ => exact (Array.getElem?_eq_some_iff.1 hq).1
                refine .inr ⟨enters_of Tryz.func162 (by kernel_rfl) rfl _ _, (Any.strings_Join joiL joiX l2.c (l2.sh + o) cap' bs sb w hcell hlt (by omega) hcap (by omega)).mono fun e w' he => ?_⟩
                obtain ⟨rfl, hb2⟩ := he
                have hu : Upd (fun _ => False) w w' := Upd.of_below hb2 (Nat.le_refl _)
                exact ⟨_, rfl, β, .str (by simp), hr.world hu, Ext.refl _ _⟩

/-- The n cells of block b from o on. -/
def rowN (w : World) (b o n : Nat) : Option (Array Value) :=
  match w.heap[b]? with
  | some (.cells C _ _) => if o + n ≤ C.size then some (C.extract o (o + n)) else none
  | _ => none
/-- What a load of a row comes to that is not there whole: nobody looks. -/
def slowLd (P : Program) (ty : TypeId) (w : World) (b o : Nat) : Result Value := (loadVar ty ⟨b, o, none⟩).run P w
theorem rowN_cell {w : World} {b o n : Nat} {A : Array Value} (h : rowN w b o n = some A) : A.size = n ∧ ∀ j, j < n → w.cell? ⟨b, o + j, none⟩ = A[j]? := by
  unfold rowN at h
  cases hb : w.heap[b]? with
  | none => rw [hb] at h; cases h
  | some ob =>
    rw [hb] at h
    cases ob with
    | cells C T fz =>
      simp only at h
      split at h
      · rename_i hle
        injection h with h
        subst h
        refine ⟨by simp; omega, fun j hj => ?_⟩
        rw [blk_cell hb, Array.getElem?_extract, if_pos (by omega)]
      · cases h
    | _ => cases h
theorem rowN_rangeAt {w : World} {b o n : Nat} {A : Array Value} (h : rowN w b o n = some A) : w.rangeAt b o A.toList := by
  obtain ⟨hs, hc⟩ := rowN_cell h
  intro j v hv
  rw [Array.getElem?_toList] at hv
  have hj : j < n := by
    have := (Array.getElem?_eq_some_iff.1 hv).1
    omega
  rw [hc j hj, hv]
theorem rowN_blk {w : World} {b : Nat} {C : Array Value} {T : TypeId} {fz : Nat × Nat} (h : w.heap[b]? = some (.cells C T fz)) (o n : Nat) (hn : o + n ≤ C.size) : rowN w b o n = some (C.extract o (o + n)) := by
  unfold rowN
  rw [h]
  simp only
  rw [if_pos hn]
theorem rowN_whole {w : World} {b : Nat} {C : Array Value} {T : TypeId} {fz : Nat × Nat} (h : w.heap[b]? = some (.cells C T fz)) (n : Nat) (hn : C.size = n) : rowN w b 0 n = some C := by
  rw [rowN_blk h 0 n (by omega)]
  simp [← hn]
theorem rowN_heap {w w' : World} (b : Nat) (h : w'.heap[b]? = w.heap[b]?) (o n : Nat) : rowN w' b o n = rowN w b o n := by unfold rowN; rw [h]
theorem rowN_upd {S : Nat → Prop} {w w' : World} {b o n : Nat} {A : Array Value} (h : rowN w b o n = some A) (u : Upd S w w') (hn : ¬ S b) : rowN w' b o n = some A := by
  rw [rowN_heap b (u.block b ?_ hn)]
  · exact h
  · by_cases hb : b < w.heap.size
    · exact hb
    · have e : w.heap[b]? = none := by simp; omega
      unfold rowN at h
      rw [e] at h
      cases h

/-- THE LOAD, whole: a rule for the walk ('attribute [local go_sem ↓]' at a type of your own). -/
theorem run_loadAt_rowN {P : Program} (ty n : Nat) (d : TypeDesc) (hu : P.underlying ty = some d) (hd : d.isRow = true) (hi : (P.info? ty).map (·.size) = some n) (b o : Nat) (w : World) :
    (Instr.loadAt ty (.pointer (some ⟨b, o, none⟩))).run P w = match rowN w b o n with | some A => .ok (.agg A) w | none => slowLd P ty w b o := by
  cases h : rowN w b o n with
  | none =>
    simp only [Instr.loadAt, Instr.sureAddr, Sem.run_bind, Sem.run_pure, Result.andThen_ok, slowLd]
  | some A =>
    simp only
    rw [run_loadAt_mid w b o ty A.toList d (rowN_rangeAt h) hu hd (by rw [hi, Array.length_toList, (rowN_cell h).1])]

/-! ### Stores -/
/-- May a row of n cells be stored there? -/
def stOk (w : World) (b o n : Nat) (A : Array Value) : Bool :=
  (match w.heap[b]? with | some (.cells C _ fz) => decide (o + n ≤ C.size) && decide (fz = (0, 0)) | _ => false) && decide (A.size = n) && A.all (·.oneCell')
def slowSt (P : Program) (ty : TypeId) (w : World) (b o : Nat) (A : Array Value) : Result Unit := (Instr.storeAt ty (.pointer (some ⟨b, o, none⟩)) (.agg A)).run P w
theorem stOk_blk {w : World} {b : Nat} {C : Array Value} {T : TypeId} (h : w.heap[b]? = some (.cells C T (0, 0))) {o n : Nat} (hn : o + n ≤ C.size) {A : Array Value} (hA : A.size = n) (h1 : A.all (·.oneCell') = true) : stOk w b o n A = true := by
  unfold stOk
  rw [h]
  simp only [h1, Bool.and_true]
  simp [hn, hA]
theorem stOk_there {w : World} {b o n : Nat} {A : Array Value} (h : stOk w b o n A = true) : w.there b o A.size ∧ A.size = n ∧ A.all (·.oneCell') = true := by
  unfold stOk at h
  cases hb : w.heap[b]? with
  | none => rw [hb] at h; simp at h
  | some ob =>
    rw [hb] at h
    cases ob with
    | cells C T fz =>
      simp only [Bool.and_eq_true, decide_eq_true_eq] at h
      obtain ⟨⟨⟨h1, rfl⟩, h3⟩, h4⟩ := h
      refine ⟨fun j hj => ⟨?_, blk_free hb _⟩, h3, h4⟩
      rw [blk_cell hb, Array.getElem?_eq_getElem (by omega)]
      rfl
    | _ => simp at h
/-- THE STORE, whole. -/
theorem run_storeAt_row {P : Program} (ty n : Nat) (hi : (P.info? ty).map (·.size) = some n) (b o : Nat) (A : Array Value) (w : World) :
    (Instr.storeAt ty (.pointer (some ⟨b, o, none⟩)) (.agg A)).run P w = if stOk w b o n A = true then .ok () (w.setCells b o A.toList) else slowSt P ty w b o A := by
  by_cases h : stOk w b o n A = true
  · rw [if_pos h]
    obtain ⟨h1, h2, h3⟩ := stOk_there h
    exact run_storeAt_mid w b o ty A h1 (by rw [hi, h2]) h3
  · rw [if_neg h]
    rfl
/-- Cells laid into an array. -/
def layIn (C : Array Value) (o : Nat) : List Value → Array Value
  | [] => C
  | v :: r => layIn (C.setIfInBounds o v) (o + 1) r
theorem blk_setCells {w : World} {b : Nat} {C : Array Value} {T : TypeId} {fz : Nat × Nat} (h : w.heap[b]? = some (.cells C T fz)) (o : Nat) (vs : List Value) : (w.setCells b o vs).heap[b]? = some (.cells (layIn C o vs) T fz) := by
  induction vs generalizing w C o with
  | nil => exact h
  | cons v r ih => exact ih (blk_set h o v) (o + 1)
theorem layIn_size (C : Array Value) (o : Nat) (vs : List Value) : (layIn C o vs).size = C.size := by
  induction vs generalizing C o with
  | nil => rfl
  | cons v r ih => rw [layIn, ih, Array.size_setIfInBounds]
theorem layIn_get (C : Array Value) (o : Nat) (vs : List Value) (i : Nat) (h : o + vs.length ≤ C.size) : (layIn C o vs)[i]? = if o ≤ i ∧ i < o + vs.length then vs[i - o]? else C[i]? := by
  induction vs generalizing C o with
  | nil => simp [layIn]; intro h1 h2; omega
  | cons v r ih =>
    rw [layIn, ih _ _ (by simp only [List.length_cons] at h; rw [Array.size_setIfInBounds]; omega)]
    simp only [List.length_cons] at h ⊢
    by_cases h1 : o + 1 ≤ i ∧ i < o + 1 + r.length
    · rw [if_pos h1, if_pos (by omega)]
      obtain ⟨k, rfl⟩ : ∃ k, i = o + 1 + k := ⟨i - (o + 1), by omega⟩
      rw [show o + 1 + k - (o + 1) = k by omega, show o + 1 + k - o = k + 1 by omega, List.getElem?_cons_succ]
    · rw [if_neg h1, Array.getElem?_setIfInBounds]
      by_cases h2 : o = i
      · subst h2
        rw [if_pos rfl, if_pos (by omega), if_pos (by omega)]
        simp
      · rw [if_neg h2, if_neg (by omega)]
theorem Upd.setCells {w w' : World} {b : Nat} (h : Upd (· = b) w w') (o : Nat) (vs : List Value) : Upd (· = b) w (w'.setCells b o vs) := by
  induction vs generalizing w' o with
  | nil => exact h
  | cons v r ih => exact ih (h.set1 o v) (o + 1)

theorem rowN_drew (w : World) (b o n : Nat) : rowN w.drew b o n = rowN w b o n := rfl

end Go.Proofs.YtjckpgcmfieaoaaGreatDoor
namespace Go.Proofs.YtjckpgcmfieaoaaGreatDoor
open Go.RowKit

/-- Block b holds just these integers, and may be written. -/
def Ints (k : IntKind) (w : World) (b : Nat) (ws : List Int) : Prop := ∃ T, w.heap[b]? = some (.cells (ws.map (Value.int k)).toArray T (0, 0))
theorem Ints.cell {k : IntKind} {w : World} {b : Nat} {ws : List Int} (h : Ints k w b ws) {i : Nat} (hi : i < ws.length) : w.cell? ⟨b, i, none⟩ = some (.int k (ws.getD i 0)) := by
  obtain ⟨T, h⟩ := h
  rw [blk_cell h, List.getElem?_toArray, List.getElem?_map, List.getElem?_eq_getElem hi, List.getD_eq_getElem?_getD, List.getElem?_eq_getElem hi]
  rfl
theorem Ints.free {k : IntKind} {w : World} {b : Nat} {ws : List Int} (h : Ints k w b ws) (i : Nat) : w.frozen? ⟨b, i, none⟩ = false := by
  obtain ⟨T, h⟩ := h
  exact blk_free h i
theorem Ints.set {k : IntKind} {w : World} {b : Nat} {ws : List Int} (h : Ints k w b ws) (i : Nat) (v : Int) : Ints k (w.setCell ⟨b, i, none⟩ (.int k v)) b (ws.set i v) := by
  obtain ⟨T, h⟩ := h
  refine ⟨T, (blk_set h i _).trans ?_⟩
  simp [List.map_set]
theorem Ints.upd {S : Nat → Prop} {k : IntKind} {w w' : World} {b : Nat} {ws : List Int} (h : Ints k w b ws) (u : Upd S w w') (hn : ¬ S b) : Ints k w' b ws := by
  obtain ⟨T, h⟩ := h
  exact ⟨T, u.old h hn⟩
theorem Ints.q {k : IntKind} {w w' : World} {b : Nat} {ws : List Int} (h : Ints k w b ws) (q : Q w w') : Ints k w' b ws := h.upd (q.upd (fun _ => False)) (fun h => h)
theorem Ints.lt {k : IntKind} {w : World} {b : Nat} {ws : List Int} (h : Ints k w b ws) : b < w.heap.size := by
  obtain ⟨T, h⟩ := h
  exact blk_lt h

/-- A turn to the right by n, as the program reckons it. -/
def rotI (x n : Int) : Int := bits .or .u32 (x / 2 ^ n.toNat) (x * 2 ^ (32 - n).toNat % 4294967296)
def turnsI (x : Int) (ns : List Int) : Int := ns.foldl (fun a n => bits .xor .u32 a (rotI x n)) 0
theorem bits_u32 (op : BinOp) (x y : Int) : 0 ≤ bits op .u32 x y ∧ bits op .u32 x y < 4294967296 := by
  have h := wf_bits op .u32 x y
  simp [Lit.wf, IntKind.min, IntKind.max, IntKind.signed, IntKind.bits] at h
  omega
theorem turnsI_bd (x : Int) (ns : List Int) : 0 ≤ turnsI x ns ∧ turnsI x ns < 4294967296 := by
  unfold turnsI
  have key : ∀ (ns : List Int) (a : Int), 0 ≤ a ∧ a < 4294967296 → 0 ≤ ns.foldl (fun a n => bits .xor .u32 a (rotI x n)) a ∧ ns.foldl (fun a n => bits .xor .u32 a (rotI x n)) a < 4294967296 := by
    intro ns
    induction ns with
    | nil => intro a h; exact h
    | cons n ns ih => intro a _; exact ih _ (bits_u32 ..)
  exact key ns 0 (by omega)
theorem turnsI_snoc (x : Int) (ns : List Int) (n : Int) : turnsI x (ns ++ [n]) = bits .xor .u32 (turnsI x ns) (rotI x n) := by simp [turnsI]

set_option maxHeartbeats 1000000 in
theorem turns_any (x : Int) (ns : List Int) (b c : Nat) (w : World) (hns : ∀ n ∈ ns, 0 < n ∧ n < 32) (hl : ns.length ≤ 8) (hx : 0 ≤ x) (hx2 : x < 4294967296) (hb : Ints .u64 w b ns) :
    Calls Tryz.prog 243 #[.int .u32 x, .slice (some ⟨b, 0, none⟩) ns.length c] w (Reads (.int .u32 (turnsI x ns)) w) := by
  go_enter Tryz.func243, Tryz.ntmps243
  go_wp2_with fail
  go_loopw [5, 7, 10] (fun s _ iv wr => ∃ k : Nat, iv = .int .i64 (k : Int) ∧ k ≤ ns.length ∧ s = .int .u32 (turnsI x (ns.take k)) ∧ wr = w) (fun _ _ iv _ => ns.length - (intOf iv).toNat)
  case atStart => exact ⟨0, rfl, Nat.zero_le _, rfl, rfl⟩
  case round =>
    obtain ⟨k, rfl, hk, rfl, rfl⟩ := hrel
    by_cases hlt : k < ns.length
    · have c0 := hb.cell hlt
      obtain ⟨hn1, hn2⟩ := hns (ns.getD k 0) (by rw [List.getD_eq_getElem?_getD, List.getElem?_eq_getElem hlt]; exact List.getElem_mem hlt)
      have hs := turnsI_snoc x (ns.take k) (ns.getD k 0)
      rw [show ns.take k ++ [ns.getD k 0] = ns.take (k + 1) by rw [List.take_add_one, List.getD_eq_getElem?_getD, List.getElem?_eq_getElem hlt]; rfl] at hs
      obtain ⟨ha, ha2⟩ := turnsI_bd x (ns.take k)
      unfold rotI at hs
      have HS := hide hs
      have hnn : (k : Int) < (ns.length : Int) := by omega
      clear hs
      generalize ns.getD k 0 = n at c0 hn1 hn2 HS
      generalize turnsI x (ns.take k) = a at ha ha2 HS ⊢
      go_wp2
      go_roundw
      case rel => exact ⟨k + 1, by go_num, by omega, by rw [unhide HS], trivial⟩
      case measure => simp [intOf]; omega
    · obtain rfl : k = ns.length := by omega
      rw [List.take_length]
      go_wp2
      go_ret
      exact ⟨rfl, Q.refl _⟩

theorem turns_two (x n1 n2 : Int) (g : Nat) (T : TypeId) (w : World) (h1 : 0 < n1 ∧ n1 < 32) (h2 : 0 < n2 ∧ n2 < 32) (hx : 0 ≤ x) (hx2 : x < 4294967296) (hb : w.heap[g]? = some (.cells #[.int .u64 n1, .int .u64 n2] T (0, 0))) :
    Calls Tryz.prog 243 #[.int .u32 x, .slice (some ⟨g, 0, none⟩) 2 2] w (Reads (.int .u32 (turnsI x [n1, n2])) w) :=
  turns_any x [n1, n2] g 2 w (by intro n hn; simp only [List.mem_cons, List.not_mem_nil, or_false] at hn; rcases hn with rfl | rfl; exact h1; exact h2) (by simp) hx hx2 ⟨T, hb⟩
theorem turns_three (x n1 n2 n3 : Int) (g : Nat) (T : TypeId) (w : World) (h1 : 0 < n1 ∧ n1 < 32) (h2 : 0 < n2 ∧ n2 < 32) (h3 : 0 < n3 ∧ n3 < 32) (hx : 0 ≤ x) (hx2 : x < 4294967296) (hb : w.heap[g]? = some (.cells #[.int .u64 n1, .int .u64 n2, .int .u64 n3] T (0, 0))) :
    Calls Tryz.prog 243 #[.int .u32 x, .slice (some ⟨g, 0, none⟩) 3 3] w (Reads (.int .u32 (turnsI x [n1, n2, n3])) w) :=
  turns_any x [n1, n2, n3] g 3 w (by intro n hn; simp only [List.mem_cons, List.not_mem_nil, or_false] at hn; rcases hn with rfl | rfl | rfl; exact h1; exact h2; exact h3) (by simp) hx hx2 ⟨T, hb⟩

end Go.Proofs.YtjckpgcmfieaoaaGreatDoor
