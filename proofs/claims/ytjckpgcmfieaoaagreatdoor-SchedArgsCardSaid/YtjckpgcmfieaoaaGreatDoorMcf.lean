/-
  Operations one by one, each by its own run: for bodies whose literals are too long for the walk.
-/
import Derived.Test.YtjckpgcmfieaoaaGreatDoorMbi
import Derived.Laws.Tables
import Derived.Test.YtjckpgcmfieaoaaGreatDoorMce
import Derived.Test.YtjckpgcmfieaoaaGreatDoorDagP
import Derived.Laws.BitsAllLaws
import Derived.Laws.Bits64
import Derived.IntWalk
import Derived.Outline
import Derived.Deep.CutRange
import Derived.BigRegion
import Derived.Deep.RegionLaw
import Derived.Great.BuildSlice
import Derived.Test.YtjckpgcmfieaoaaGreatDoorProg
import Derived.Test.YtjckpgcmfieaoaaGreatDoorRows
import Derived.Lib.LazyBuf
set_option linter.unusedVariables false
set_option linter.unusedSimpArgs false
namespace Go.Proofs.YtjckpgcmfieaoaaGreatDoor
open Go.RowKit

section
variable {P : Program} {ops : Array Oper} {rest : List Oper} {o : Oper} {a : Act} {w w' : World} {Q : Exit → Act → World → Prop}
theorem wpList_val {v : Value} (hg : o.guard = none) (h : (execOp a.eval o).run P w = .ok (.value v) w') (k : wpList P ops Q rest (a.put o.dst v) w') : wpList P ops Q (o :: rest) a w :=
  wpList_plain hg fun K hK => by
    unfold Oper.wp
    rw [h]
    exact hK _ _ k
theorem wpList_call {f : FuncId} {args : Array Value} (hg : o.guard = none) (h : (execOp a.eval o).run P w = .ok (.enter f args) w')
    (k : Calls P f args w' fun e w'' => ∃ v, e = .returned v ∧ wpList P ops Q rest (a.put o.dst v) w'') : wpList P ops Q (o :: rest) a w :=
  wpList_plain hg fun K hK => by
    unfold Oper.wp
    rw [h]
    simp only [Oper.upon]
    refine k.mono fun e w'' he => ?_
    obtain ⟨v, rfl, hv⟩ := he
    exact hK _ _ hv
end
theorem Upd.setRow {S : Nat → Prop} {a w : World} (h : Upd S a w) {g : Nat} (hg : g < a.heap.size → S g) (cs : Array Value) : Upd S a (w.setRow g cs) :=
  ⟨h.os, h.tape, h.output, by simpa using h.size, fun i hi hn => by
    rw [setRow_other _ _ _ _ (show i ≠ g from fun e => hn (e ▸ hg (e ▸ hi)))]
    exact h.block i hi hn⟩

/-- The bytes of a number, the highest one first. -/
def numI (n : Nat) (width : Nat) : List Int := (List.range width).map fun k => (n : Int) / 2 ^ (8 * (width - 1 - k)) % 256
theorem numI_len (n width : Nat) : (numI n width).length = width := by simp [numI]
def numS (n width : Nat) : ByteArray := strOfNums (numI n width)
theorem numS_size (n width : Nat) : (numS n width).size = width := by unfold numS; rw [strOfNums_size, numI_len]
/-- A writer, that holds s. -/
def Wr (w : World) (g : Nat) (s : ByteArray) : Prop := w.heap[g]? = some (.cells #[.string s] 247 (0, 0))
theorem Wr.new {w w' : World} {g : Nat} {s : ByteArray} (h : Wr w g s) (n : New w w') : Wr w' g s := n.old h (fun h => h)
theorem Wr.lt {w : World} {g : Nat} {s : ByteArray} (h : Wr w g s) : g < w.heap.size := blk_lt h

/-- Block b holds just these bytes. -/
def Ints8 (w : World) (b : Nat) (ws : List Int) : Prop := ∃ T, w.heap[b]? = some (.cells (ws.map (Value.int .u8)).toArray T (0, 0))

theorem Ints8.drew {w : World} {b : Nat} {ws : List Int} (h : Ints8 w b ws) : Ints8 w.drew b ws := h

/-! ### The reference's -/

theorem fill_mid (A P Z R : List Value) (h : Z.length = A.length) : (A.zipIdx).foldl (fun (cs : Array Value) (c, j) => cs.setIfInBounds (P.length + j) c) (P ++ (Z ++ R)).toArray = (P ++ (A ++ R)).toArray := by
  have key : ∀ (A : List Value) (k : Nat) (Q Z : List Value), Z.length = A.length → Q.length = P.length + k → (A.zipIdx k).foldl (fun (cs : Array Value) (c, j) => cs.setIfInBounds (P.length + j) c) (Q ++ (Z ++ R)).toArray = (Q ++ (A ++ R)).toArray := by
    intro A
    induction A with
    | nil => intro k Q Z hz _; rw [List.length_eq_zero_iff.1 hz]; rfl
    | cons a A ih =>
      intro k Q Z hz hp
      cases Z with
      | nil => simp at hz
      | cons z Z =>
        rw [List.zipIdx_cons, List.foldl_cons]
        have e : (Q ++ (z :: Z ++ R)).toArray.setIfInBounds (P.length + k) a = ((Q ++ [a]) ++ (Z ++ R)).toArray := by
          rw [← hp]; simp
        show List.foldl _ ((Q ++ (z :: Z ++ R)).toArray.setIfInBounds (P.length + k) a) _ = _
        rw [e, ih (k + 1) (Q ++ [a]) Z (by simpa using hz) (by simp [hp]; omega)]
        simp
  exact key A 0 P Z h rfl
theorem built_struct' {P : Program} {t : TypeId} {it : TypeInfo} {z : Value} {fields : Array Field} {places : List (Nat × Nat)} (hi : P.info? t = some it) (hu : P.underlying t = some (.struct fields)) (hz : it.zero = some z)
    (hp : fields.toList.mapM (fun f => (P.info? f.type).map fun i => (f.offset, i.size)) = some places) (parts : List (Nat × Value)) : P.built t parts = Instr.fill (places.toArray[·]?) z.cells parts := by
  unfold Program.built
  rw [hi, hu]
  simp only [hz, hp]
theorem zero_of {P : Program} {t : TypeId} {l : List Value} (h : ((P.info? t).map fun i => i.zero.map fun z => z.cells.toList) = some (some l)) : ∃ i z, P.info? t = some i ∧ i.zero = some z ∧ z.cells = l.toArray := by
  cases hi : P.info? t with
  | none => rw [hi] at h; simp at h
  | some i =>
    rw [hi, Option.map_some, Option.some.injEq] at h
    cases hz : i.zero with
    | none => rw [hz] at h; simp at h
    | some z =>
      rw [hz, Option.map_some, Option.some.injEq] at h
      exact ⟨i, z, rfl, hz, by rw [← h]⟩
theorem fill_one {place : Nat → Option (Nat × Nat)} {i off : Nat} {A P Z R : List Value} {cs : Array Value} (hp : place i = some (off, A.length)) (ho : P.length = off) (hz : Z.length = A.length) (hc : cs = (P ++ (Z ++ R)).toArray) (rest : List (Nat × Value)) :
    Instr.fill place cs ((i, .agg A.toArray) :: rest) = Instr.fill place (P ++ (A ++ R)).toArray rest := by
  subst hc ho
  rw [Instr.fill, hp]
  have hs : ¬ (A.toArray.size ≠ A.length || P.length + A.toArray.size > (P ++ (Z ++ R)).toArray.size) = true := by
    simp [hz]
  have hs' : ((Value.agg A.toArray).cells.size ≠ A.length || P.length + (Value.agg A.toArray).cells.size > (P ++ (Z ++ R)).toArray.size) = false := by
    simpa [Value.cells] using hs
  simp only [hs', Bool.false_eq_true, if_false]
  congr 1
  have := fill_mid A P Z R hz
  simpa [Value.cells] using this

structure SetupV where
  ch : Int
  cap : Int
  ours : Int
  seed : List Int
  key : ByteArray
  peer : ByteArray
def SetupV.cells (s : SetupV) : List Value := .int .u32 s.ch :: .int .u64 s.cap :: .int .u64 s.ours :: (s.seed.map (Value.int .u8) ++ [.string s.key, .string s.peer])
structure SetupV.Ok (s : SetupV) : Prop where
  ch : 0 ≤ s.ch ∧ s.ch < 4294967296
  cap : 0 ≤ s.cap ∧ s.cap < 18446744073709551616
  ours : 0 ≤ s.ours ∧ s.ours < 18446744073709551616
  seed : s.seed.length = 32
theorem SetupV.len (s : SetupV) (h : s.seed.length = 32) : s.cells.length = 37 := by simp [SetupV.cells, h]

structure KeptV where
  full : Bool
  number : Int
  told : List Int
def KeptV.cells (k : KeptV) : List Value := .bool k.full :: .int .i64 k.number :: k.told.map (Value.int .u8)
def KeptV.zero : KeptV := ⟨false, 0, List.replicate 32 0⟩

structure CountsV where
  signed : Int
  heard : Int
  awaits : Bool
  nextOwn : Int
  nextTheirs : Int
  shutSaid : Bool
  shutHeard : Bool
  revoked : Bool
def CountsV.cells (k : CountsV) : List Value := [.int .i64 k.signed, .int .i64 k.heard, .bool k.awaits, .int .u64 k.nextOwn, .int .u64 k.nextTheirs, .bool k.shutSaid, .bool k.shutHeard, .bool k.revoked]
def CountsV.zero : CountsV := ⟨0, 0, false, 0, 0, false, false, false⟩

structure ChanV where
  setup : SetupV
  k : CountsV
  loc : Int
  rem : Int
  live : Value
  shelf : List KeptV
  news : Value
  last : Value
def ChanV.told (c : ChanV) : List Value := c.shelf.flatMap KeptV.cells
def ChanV.rest (c : ChanV) : List Value := .int .u64 c.loc :: .int .u64 c.rem :: c.live :: (c.told ++ [c.news, c.last])
def ChanV.cells (c : ChanV) : List Value := c.setup.cells ++ (c.k.cells ++ c.rest)
def nilV : Value := .slice none 0 0
def ChanV.new (s : SetupV) : ChanV := ⟨s, .zero, s.ours, s.cap - s.ours, nilV, List.replicate 17 .zero, nilV, nilV⟩
/-- A channel lies in block g. -/
structure ChR (w : World) (g : Nat) (c : ChanV) : Prop where
  at_ : w.heap[g]? = some (.cells c.cells.toArray 180 (0, 0))
  seed : c.setup.seed.length = 32
theorem ChR.lt {w : World} {g : Nat} {c : ChanV} (h : ChR w g c) : g < w.heap.size := blk_lt h.at_
theorem ChR.upd {S : Nat → Prop} {w w' : World} {g : Nat} {c : ChanV} (h : ChR w g c) (u : Upd S w w') (hn : ¬ S g) : ChR w' g c := ⟨u.old h.at_ hn, h.seed⟩
theorem ChR.new {w w' : World} {g : Nat} {c : ChanV} (h : ChR w g c) (u : New w w') : ChR w' g c := h.upd u (fun h => h)
theorem ChR.free {w : World} {g : Nat} {c : ChanV} (h : ChR w g c) (i : Nat) : w.frozen? ⟨g, i, none⟩ = false := blk_free h.at_ i
theorem ChR.cell {w : World} {g : Nat} {c : ChanV} (h : ChR w g c) (i : Nat) : w.cell? ⟨g, i, none⟩ = c.cells[i]? := by
  rw [blk_cell h.at_, List.getElem?_toArray]
theorem cells_low (c : ChanV) (h : c.setup.seed.length = 32) (i : Nat) (hi : i < 37) : c.cells[i]? = c.setup.cells[i]? := by
  unfold ChanV.cells
  rw [List.getElem?_append_left (by rw [c.setup.len h]; exact hi)]
theorem cells_mid (c : ChanV) (h : c.setup.seed.length = 32) (i : Nat) : c.cells[37 + i]? = (c.k.cells ++ c.rest)[i]? := by
  unfold ChanV.cells
  rw [List.getElem?_append_right (by rw [c.setup.len h]; omega), c.setup.len h, Nat.add_sub_cancel_left]
theorem ChR.low {w : World} {g : Nat} {c : ChanV} (h : ChR w g c) (i : Nat) (hi : i < 37) : w.cell? ⟨g, i, none⟩ = c.setup.cells[i]? := (h.cell i).trans (cells_low c h.seed i hi)
theorem ChR.mid {w : World} {g : Nat} {c : ChanV} (h : ChR w g c) (i : Nat) : w.cell? ⟨g, 37 + i, none⟩ = (c.k.cells ++ c.rest)[i]? := (h.cell _).trans (cells_mid c h.seed i)
section
variable {w : World} {g : Nat} {c : ChanV} (h : ChR w g c)
include h
theorem ChR.ch : w.cell? ⟨g, 0, none⟩ = some (.int .u32 c.setup.ch) := h.low 0 (by omega)
theorem ChR.cap : w.cell? ⟨g, 1, none⟩ = some (.int .u64 c.setup.cap) := h.low 1 (by omega)
theorem ChR.signed : w.cell? ⟨g, 37, none⟩ = some (.int .i64 c.k.signed) := h.mid 0
theorem ChR.heard : w.cell? ⟨g, 38, none⟩ = some (.int .i64 c.k.heard) := h.mid 1
theorem ChR.awaits : w.cell? ⟨g, 39, none⟩ = some (.bool c.k.awaits) := h.mid 2
theorem ChR.nextOwn : w.cell? ⟨g, 40, none⟩ = some (.int .u64 c.k.nextOwn) := h.mid 3
theorem ChR.nextTheirs : w.cell? ⟨g, 41, none⟩ = some (.int .u64 c.k.nextTheirs) := h.mid 4
theorem ChR.shutSaid : w.cell? ⟨g, 42, none⟩ = some (.bool c.k.shutSaid) := h.mid 5
theorem ChR.shutHeard : w.cell? ⟨g, 43, none⟩ = some (.bool c.k.shutHeard) := h.mid 6
theorem ChR.revoked : w.cell? ⟨g, 44, none⟩ = some (.bool c.k.revoked) := h.mid 7
theorem ChR.loc : w.cell? ⟨g, 45, none⟩ = some (.int .u64 c.loc) := h.mid 8
theorem ChR.rem : w.cell? ⟨g, 46, none⟩ = some (.int .u64 c.rem) := h.mid 9
theorem ChR.live : w.cell? ⟨g, 47, none⟩ = some c.live := h.mid 10
end

/-- The same, kept whole. -/
def bdChan (p : Array (Nat × Value)) : Sem Value := Instr.build 180 p
theorem bd_chan_fold (p : Array (Nat × Value)) : Instr.build 180 p = bdChan p := rfl

theorem Tryz.infoSetup : (Tryz.prog.info? 58).map (·.size) = some 37 := by kernel_rfl
def ldSetup (x : Value) : Sem Value := Instr.loadAt 58 x
theorem ld_setup_fold (x : Value) : Instr.loadAt 58 x = ldSetup x := rfl
theorem ld_setup (b o : Nat) (w : World) : (ldSetup (.pointer (some ⟨b, o, none⟩))).run Tryz.prog w = match rowN w b o 37 with | some A => .ok (.agg A) w | none => slowLd Tryz.prog 58 w b o :=
  run_loadAt_rowN 58 37 _ Tryz.underlying58 rfl Tryz.infoSetup b o w
/-- A setup lies in block b. -/
def SetR (w : World) (b : Nat) (s : SetupV) : Prop := w.heap[b]? = some (.cells s.cells.toArray 58 (0, 0))
theorem SetR.upd {S : Nat → Prop} {w w' : World} {g : Nat} {s : SetupV} (h : SetR w g s) (u : Upd S w w') (hn : ¬ S g) : SetR w' g s := u.old h hn
theorem SetR.new {w w' : World} {g : Nat} {s : SetupV} (h : SetR w g s) (u : New w w') : SetR w' g s := h.upd u (fun h => h)
theorem SetR.lt {w : World} {g : Nat} {s : SetupV} (h : SetR w g s) : g < w.heap.size := blk_lt h
theorem SetR.drew {w : World} {g : Nat} {s : SetupV} (h : SetR w g s) : SetR w.drew g s := h
theorem SetR.row {w : World} {b : Nat} {s : SetupV} (h : SetR w b s) (hs : s.seed.length = 32) : rowN w b 0 37 = some s.cells.toArray := by
  rw [rowN_blk h 0 37 (by simp [s.len hs])]
  congr 1
  apply Array.ext'
  rw [Array.toList_extract]
  show List.take 37 (List.drop 0 s.cells) = s.cells
  rw [List.drop_zero, List.take_of_length_le (by rw [s.len hs]; exact Nat.le_refl _)]
theorem SetR.cell {w : World} {b : Nat} {s : SetupV} (h : SetR w b s) (i : Nat) : w.cell? ⟨b, i, none⟩ = s.cells[i]? := by rw [blk_cell h, List.getElem?_toArray]
theorem SetupV.c35 (s : SetupV) (h : s.seed.length = 32) : s.cells[35]? = some (.string s.key) := by
  unfold SetupV.cells
  rw [List.getElem?_cons_succ, List.getElem?_cons_succ, List.getElem?_cons_succ, List.getElem?_append_right (by simp [h])]
  simp [h]
theorem SetupV.c36 (s : SetupV) (h : s.seed.length = 32) : s.cells[36]? = some (.string s.peer) := by
  unfold SetupV.cells
  rw [List.getElem?_cons_succ, List.getElem?_cons_succ, List.getElem?_cons_succ, List.getElem?_append_right (by simp [h])]
  simp [h]
attribute [local go_sem ↓ high] ld_setup_fold bd_chan_fold
attribute [local go_sem] ld_setup

/-- An end may be. -/
def SetupV.may (s : SetupV) : Prop := 1 ≤ s.cap ∧ s.cap ≤ 1125899906842624 ∧ s.ours ≤ s.cap ∧ s.key.size ≤ 64 ∧ s.peer.size ≤ 64

end Go.Proofs.YtjckpgcmfieaoaaGreatDoor
namespace Go.Proofs.YtjckpgcmfieaoaaGreatDoor
open Go.RowKit

structure Htlc where
  id : Int
  amount : Int
  hash : Vector Int 32
  expiry : Int
structure Live where
  h : Htlc
  own : Bool
  state : Int
  paid : Bool
structure Item where
  offered : Bool
  h : Htlc
def htlcCells (h : Htlc) : List Value := .int .u64 h.id :: .int .u64 h.amount :: (h.hash.toList.map (Value.int .u8) ++ [.int .i64 h.expiry])
def liveCells (x : Live) : List Value := htlcCells x.h ++ [.bool x.own, .int .i64 x.state, .bool x.paid]
def itemCells (x : Item) : List Value := .bool x.offered :: htlcCells x.h
/-- Numbers that fit. -/
structure HtlcOk (h : Htlc) : Prop where
  id : 0 ≤ h.id ∧ h.id ≤ 18446744073709551615
  amount : 0 ≤ h.amount ∧ h.amount ≤ 18446744073709551615
  hash : ∀ n ∈ h.hash.toList, 0 ≤ n ∧ n ≤ 255
  expiry : -9223372036854775808 ≤ h.expiry ∧ h.expiry ≤ 9223372036854775807
structure LiveOk (x : Live) : Prop where
  h : HtlcOk x.h
  state : -9223372036854775808 ≤ x.state ∧ x.state ≤ 9223372036854775807
theorem htlc_len (h : Htlc) : (htlcCells h).length = 35 := by simp [htlcCells]
theorem live_len (x : Live) : (liveCells x).length = 38 := by simp [liveCells, htlc_len]
theorem item_len (x : Item) : (itemCells x).length = 36 := by simp [itemCells, htlc_len]
theorem htlc_one (h : Htlc) : ∀ v ∈ htlcCells h, v.oneCell' = true := by
  intro v hv
  simp only [htlcCells, List.mem_cons, List.mem_append, List.mem_map, List.not_mem_nil, or_false] at hv
  rcases hv with rfl | rfl | ⟨n, _, rfl⟩ | rfl <;> rfl
theorem item_one (x : Item) : ∀ v ∈ itemCells x, v.oneCell' = true := by
  intro v hv
  rcases List.mem_cons.1 hv with rfl | hv
  · rfl
  · exact htlc_one _ v hv

theorem Tryz.infoLive : (Tryz.prog.info? 113).map (·.size) = some 38 := by kernel_rfl
theorem Tryz.infoHtlc : (Tryz.prog.info? 111).map (·.size) = some 35 := by kernel_rfl
def ldLive (x : Value) : Sem Value := Instr.loadAt 113 x
theorem ld_live_fold (x : Value) : Instr.loadAt 113 x = ldLive x := rfl
theorem ld_live (b o : Nat) (w : World) : (ldLive (.pointer (some ⟨b, o, none⟩))).run Tryz.prog w = match rowN w b o 38 with | some A => .ok (.agg A) w | none => slowLd Tryz.prog 113 w b o :=
  run_loadAt_rowN 113 38 _ Tryz.underlying113 rfl Tryz.infoLive b o w
def ldHtlc (x : Value) : Sem Value := Instr.loadAt 111 x
theorem ld_htlc_fold (x : Value) : Instr.loadAt 111 x = ldHtlc x := rfl
theorem ld_htlc (b o : Nat) (w : World) : (ldHtlc (.pointer (some ⟨b, o, none⟩))).run Tryz.prog w = match rowN w b o 35 with | some A => .ok (.agg A) w | none => slowLd Tryz.prog 111 w b o :=
  run_loadAt_rowN 111 35 _ Tryz.underlying111 rfl Tryz.infoHtlc b o w
def stLive (x v : Value) : Sem Unit := Instr.storeAt 113 x v
theorem st_live_fold (x v : Value) : Instr.storeAt 113 x v = stLive x v := rfl
theorem st_live (b o : Nat) (A : Array Value) (w : World) : (stLive (.pointer (some ⟨b, o, none⟩)) (.agg A)).run Tryz.prog w = if stOk w b o 38 A = true then .ok () (w.setCells b o A.toList) else slowSt Tryz.prog 113 w b o A :=
  run_storeAt_row 113 38 Tryz.infoLive b o A w
/-- From off on, block g holds the lives xs. -/
def HeldL (w : World) (g off : Nat) (xs : List Live) : Prop :=
  ∃ C T fz, w.heap[g]? = some (.cells C T fz) ∧ off + xs.length * 38 ≤ C.size ∧ ∀ i x, xs[i]? = some x → ∀ j, j < 38 → C[off + i * 38 + j]? = (liveCells x)[j]?
theorem HeldL.row {w : World} {g off : Nat} {xs : List Live} (h : HeldL w g off xs) {i : Nat} {x : Live} (hi : xs[i]? = some x) : rowN w g (off + i * 38) 38 = some (liveCells x).toArray := by
  obtain ⟨C, T, fz, hb, hs, hc⟩ := h
  have hlt : i < xs.length := (List.getElem?_eq_some_iff.1 hi).1
  have hle : off + i * 38 + 38 ≤ C.size := by have := Nat.mul_le_mul_right 38 (show i + 1 ≤ xs.length from hlt); omega
  rw [rowN_blk hb _ _ hle]
  congr 1
  apply Array.ext'
  apply List.ext_getElem?
  intro j
  rw [Array.getElem?_toList, Array.getElem?_extract]
  by_cases hj : j < 38
  · rw [if_pos (by omega), hc i x hi j hj]
  · rw [if_neg (by omega), List.getElem?_eq_none (by rw [live_len]; omega)]
theorem HeldL.upd {S : Nat → Prop} {w w' : World} {b off : Nat} {xs : List Live} (h : HeldL w b off xs) (u : Upd S w w') (hn : ¬ S b) : HeldL w' b off xs := by
  obtain ⟨C, T, fz, hb, r⟩ := h
  exact ⟨C, T, fz, u.old hb hn, r⟩
theorem HeldL.lt {w : World} {g off : Nat} {xs : List Live} (h : HeldL w g off xs) : g < w.heap.size := by
  obtain ⟨C, T, fz, hb, r⟩ := h
  exact blk_lt hb
/-- What a slice of lives holds. -/
def Lives (w : World) (v : Value) (xs : List Live) : Prop := (∃ a c, v = .slice a 0 c ∧ xs = []) ∨ ∃ g off cap, v = .slice (some ⟨g, off, none⟩) xs.length cap ∧ HeldL w g off xs
theorem Lives.new {w w' : World} {v : Value} {xs : List Live} (h : Lives w v xs) (u : New w w') : Lives w' v xs := by
  rcases h with h | ⟨g, off, cap, e, h⟩
  · exact .inl h
  · exact .inr ⟨g, off, cap, e, h.upd u (fun h => h)⟩
/-- The same, of a row that was made from base on. -/
def LivesN (base : Nat) (w : World) (v : Value) (xs : List Live) : Prop := (∃ a c, v = .slice a 0 c ∧ xs = []) ∨ ∃ g off cap, v = .slice (some ⟨g, off, none⟩) xs.length cap ∧ base ≤ g ∧ HeldL w g off xs
theorem LivesN.to {base : Nat} {w : World} {v : Value} {xs : List Live} (h : LivesN base w v xs) : Lives w v xs := by
  rcases h with h | ⟨g, off, cap, e, _, h⟩
  · exact .inl h
  · exact .inr ⟨g, off, cap, e, h⟩
theorem LivesN.new {base : Nat} {w w' : World} {v : Value} {xs : List Live} (h : LivesN base w v xs) (u : New w w') : LivesN base w' v xs := by
  rcases h with h | ⟨g, off, cap, e, hb, h⟩
  · exact .inl h
  · exact .inr ⟨g, off, cap, e, hb, h.upd u (fun h => h)⟩
theorem LivesN.row {base : Nat} {w : World} {v : Value} {xs : List Live} (h : LivesN base w v xs) : ∃ a cap, v = .slice a xs.length cap ∧ ∀ (i : Nat) (x : Live), xs[i]? = some x → ∃ g off, a = some ⟨g, off, none⟩ ∧ base ≤ g ∧ HeldL w g off xs := by
  rcases h with ⟨a, c, e, rfl⟩ | ⟨g, off, cap, e, hb, hh⟩
  · exact ⟨a, c, e, fun i x hi => by simp at hi⟩
  · exact ⟨_, cap, e, fun i x _ => ⟨g, off, rfl, hb, hh⟩⟩
theorem layIn_whole (Z : Array Value) (C : List Value) (h : Z.size = C.length) : layIn Z 0 C = C.toArray := by
  apply Array.ext'
  apply List.ext_getElem?
  intro j
  rw [Array.getElem?_toList, layIn_get _ _ _ _ (by omega)]
  by_cases hj : j < C.length
  · rw [if_pos (by omega)]; simp
  · have h0 : Z[j]? = none := Array.getElem?_eq_none (by omega)
    rw [if_neg (by omega), h0]
    exact (List.getElem?_eq_none (by simp; omega)).symm
theorem owns_new {w w' : World} {base : Nat} {e : TypeId} {size : Nat} {v : Value} {n : Nat} {xs : List Value} (h : w.ownsRow base e size v n xs) (u : New w w') : w'.ownsRow base e size v n xs := by
  refine ⟨h.1, ?_⟩
  rcases h.2 with h | ⟨g, cap, cur, e1, e2, hg, r⟩
  · exact .inl h
  · exact .inr ⟨g, cap, cur, e1, e2, u.old hg (fun h => h), r⟩
theorem flatL_len (X : List Live) : (X.flatMap liveCells).length = X.length * 38 := by
  induction X with
  | nil => rfl
  | cons x X ih => rw [List.flatMap_cons, List.length_append, ih, live_len, List.length_cons]; omega
theorem flatL_get : ∀ (X : List Live) (i j : Nat) (x : Live), X[i]? = some x → j < 38 → (X.flatMap liveCells)[i * 38 + j]? = (liveCells x)[j]? := by
  intro X
  induction X with
  | nil => intro i j x h; simp at h
  | cons y X ih =>
    intro i j x hi hj
    rw [List.flatMap_cons]
    cases i with
    | zero =>
      simp only [List.getElem?_cons_zero, Option.some.injEq] at hi
      subst hi
      rw [List.getElem?_append_left (by rw [live_len]; omega), Nat.zero_mul, Nat.zero_add]
    | succ i =>
      rw [List.getElem?_append_right (by rw [live_len]; omega), live_len, show (i + 1) * 38 + j - 38 = i * 38 + j by omega]
      exact ih i j x (by simpa using hi) hj
/-- The same, and it may be written. -/
def HeldO (w : World) (g off : Nat) (xs : List Live) : Prop :=
  ∃ C T, w.heap[g]? = some (.cells C T (0, 0)) ∧ off + xs.length * 38 ≤ C.size ∧ ∀ i x, xs[i]? = some x → ∀ j, j < 38 → C[off + i * 38 + j]? = (liveCells x)[j]?
theorem HeldO.toL {w : World} {g off : Nat} {xs : List Live} (h : HeldO w g off xs) : HeldL w g off xs := by
  obtain ⟨C, T, hb, r⟩ := h
  exact ⟨C, T, _, hb, r⟩
theorem HeldO.row {w : World} {g off : Nat} {xs : List Live} (h : HeldO w g off xs) {i : Nat} {x : Live} (hi : xs[i]? = some x) : rowN w g (off + i * 38) 38 = some (liveCells x).toArray := h.toL.row hi
theorem HeldO.upd {S : Nat → Prop} {w w' : World} {b off : Nat} {xs : List Live} (h : HeldO w b off xs) (u : Upd S w w') (hn : ¬ S b) : HeldO w' b off xs := by
  obtain ⟨C, T, hb, r⟩ := h
  exact ⟨C, T, u.old hb hn, r⟩
/-- The cells of a row of lives, one by one. -/
theorem HeldL.cells {w : World} {g off : Nat} {X : List Live} (h : HeldL w g off X) : ∀ j u, (X.flatMap liveCells)[j]? = some u → w.cell? ((⟨g, off, none⟩ : Addr).add j) = some u := by
  intro j u hu
  obtain ⟨C, T, fz, hb, hs, hc⟩ := h
  have hj : j < X.length * 38 := by
    have := (List.getElem?_eq_some_iff.1 hu).1
    rwa [flatL_len] at this
  have hadd : (⟨g, off, none⟩ : Addr).add j = ⟨g, off + j, none⟩ := by unfold Addr.add; split <;> simp_all
  rw [hadd, blk_cell hb]
  have hi : j / 38 < X.length := Nat.div_lt_of_lt_mul (by omega)
  obtain ⟨x, hx⟩ : ∃ x, X[j / 38]? = some x := ⟨_, List.getElem?_eq_getElem hi⟩
  have e := Nat.div_add_mod j 38
  have hm := Nat.mod_lt j (show 0 < 38 by decide)
  rw [← hu, show off + j = off + j / 38 * 38 + j % 38 by omega, hc _ x hx _ hm]
  have hf := flatL_get X _ _ x hx hm
  rw [show j / 38 * 38 + j % 38 = j by omega] at hf
  exact hf.symm
theorem heldL_of_owns {w : World} {base : Nat} {v : Value} {n : Nat} {X : List Live} (h : w.ownsRow base 113 38 v n (X.flatMap liveCells)) :
    n = X.length ∧ ((v = .slice none 0 0 ∧ X = []) ∨ ∃ g cap, v = .slice (some ⟨g, 0, none⟩) X.length cap ∧ base ≤ g ∧ HeldO w g 0 X) := by
  have hn : n = X.length := by have := h.1; rw [flatL_len] at this; omega
  refine ⟨hn, ?_⟩
  subst hn
  rcases h.2 with ⟨e, e0⟩ | ⟨g, cap, cur, e, hb, hg, hc, _, hs, ht⟩
  · exact .inl ⟨e, List.length_eq_zero_iff.1 e0⟩
  · refine .inr ⟨g, cap, e, hb, cur, _, hg, by have := Nat.mul_le_mul_right 38 hc; omega, fun i x hi j hj => ?_⟩
    have hlt := (List.getElem?_eq_some_iff.1 hi).1
    rw [Nat.zero_add, ← flatL_get X i j x hi hj, ← ht, List.getElem?_take, if_pos (by have := Nat.mul_le_mul_right 38 (show i + 1 ≤ X.length from hlt); omega), Array.getElem?_toList]

def Live.zero : Live := ⟨⟨0, 0, Vector.replicate 32 0, 0⟩, false, 0, false⟩
def alLive : Sem Value := Instr.alloc 113 true (.tuple #[])
theorem al_live_fold : Instr.alloc 113 true (.tuple #[]) = alLive := rfl
theorem al_live (w : World) : alLive.run Tryz.prog w = .ok (.pointer (some ⟨w.heap.size, 0, none⟩)) (w.alloc (.cells (liveCells Live.zero).toArray 113)) := by kernel_rfl
theorem stOk_all {w : World} {b : Nat} {C : Array Value} {T : TypeId} (h : w.heap[b]? = some (.cells C T (0, 0))) {A : List Value} (hA : A.length = C.size) (h1 : ∀ v ∈ A, v.oneCell' = true) : stOk w b 0 C.size A.toArray = true :=
  stOk_blk h (by omega) (by simpa using hA) (by rw [Array.all_eq_true_iff_forall_mem]; intro v hv; exact h1 v (by simpa using hv))
end Go.Proofs.YtjckpgcmfieaoaaGreatDoor
