/-
  A channel's cells.
-/
import Derived.Test.YtehdhnckfdiioaaDoorProg
import Derived.Test.YtehdhnckfdiioaaDoorFill
namespace Go.Proofs.YtehdhnckfdiioaaDoor
open Go.RowKit

structure SetupV where
  ch : Int
  cap : Int
  ours : Int
  seed : List Int
  key : ByteArray
  peer : ByteArray
def SetupV.cells (s : SetupV) : List Value := .int .u32 s.ch :: .int .u64 s.cap :: .int .u64 s.ours :: (s.seed.map (Value.int .u8) ++ [.string s.key, .string s.peer])
structure SetupV.Ok (s : SetupV) : Prop where
  ch : 0 ≤ s.ch ∧ s.ch < 4294967296
  cap : 0 ≤ s.cap ∧ s.cap < 18446744073709551616
  ours : 0 ≤ s.ours ∧ s.ours < 18446744073709551616
  seed : s.seed.length = 32
theorem SetupV.len (s : SetupV) (h : s.seed.length = 32) : s.cells.length = 37 := by simp [SetupV.cells, h]

structure KeptV where
  full : Bool
  number : Int
  told : List Int
def KeptV.cells (k : KeptV) : List Value := .bool k.full :: .int .i64 k.number :: k.told.map (Value.int .u8)
def KeptV.zero : KeptV := ⟨false, 0, List.replicate 32 0⟩

structure CountsV where
  signed : Int
  heard : Int
  awaits : Bool
  nextOwn : Int
  nextTheirs : Int
  shutSaid : Bool
  shutHeard : Bool
  revoked : Bool
def CountsV.cells (k : CountsV) : List Value := [.int .i64 k.signed, .int .i64 k.heard, .bool k.awaits, .int .u64 k.nextOwn, .int .u64 k.nextTheirs, .bool k.shutSaid, .bool k.shutHeard, .bool k.revoked]
def CountsV.zero : CountsV := ⟨0, 0, false, 0, 0, false, false, false⟩

structure ChanV where
  setup : SetupV
  k : CountsV
  loc : Int
  rem : Int
  live : Value
  shelf : List KeptV
  news : Value
  last : Value
def ChanV.told (c : ChanV) : List Value := c.shelf.flatMap KeptV.cells
def ChanV.rest (c : ChanV) : List Value := .int .u64 c.loc :: .int .u64 c.rem :: c.live :: (c.told ++ [c.news, c.last])
def ChanV.cells (c : ChanV) : List Value := c.setup.cells ++ (c.k.cells ++ c.rest)
def nilV : Value := .slice none 0 0
def ChanV.new (s : SetupV) : ChanV := ⟨s, .zero, s.ours, s.cap - s.ours, nilV, List.replicate 17 .zero, nilV, nilV⟩
/-- A channel lies in block g. -/
structure ChR (w : World) (g : Nat) (c : ChanV) : Prop where
  at_ : w.heap[g]? = some (.cells c.cells.toArray 88 (0, 0))
  seed : c.setup.seed.length = 32
theorem ChR.lt {w : World} {g : Nat} {c : ChanV} (h : ChR w g c) : g < w.heap.size := blk_lt h.at_
theorem ChR.upd {S : Nat → Prop} {w w' : World} {g : Nat} {c : ChanV} (h : ChR w g c) (u : Upd S w w') (hn : ¬ S g) : ChR w' g c := ⟨u.old h.at_ hn, h.seed⟩
theorem ChR.new {w w' : World} {g : Nat} {c : ChanV} (h : ChR w g c) (u : New w w') : ChR w' g c := h.upd u (fun h => h)
theorem ChR.free {w : World} {g : Nat} {c : ChanV} (h : ChR w g c) (i : Nat) : w.frozen? ⟨g, i, none⟩ = false := blk_free h.at_ i
theorem ChR.cell {w : World} {g : Nat} {c : ChanV} (h : ChR w g c) (i : Nat) : w.cell? ⟨g, i, none⟩ = c.cells[i]? := by
  rw [blk_cell h.at_, List.getElem?_toArray]
theorem cells_low (c : ChanV) (h : c.setup.seed.length = 32) (i : Nat) (hi : i < 37) : c.cells[i]? = c.setup.cells[i]? := by
  unfold ChanV.cells
  rw [List.getElem?_append_left (by rw [c.setup.len h]; exact hi)]
theorem cells_mid (c : ChanV) (h : c.setup.seed.length = 32) (i : Nat) : c.cells[37 + i]? = (c.k.cells ++ c.rest)[i]? := by
  unfold ChanV.cells
  rw [List.getElem?_append_right (by rw [c.setup.len h]; omega), c.setup.len h, Nat.add_sub_cancel_left]
theorem ChR.low {w : World} {g : Nat} {c : ChanV} (h : ChR w g c) (i : Nat) (hi : i < 37) : w.cell? ⟨g, i, none⟩ = c.setup.cells[i]? := (h.cell i).trans (cells_low c h.seed i hi)
theorem ChR.mid {w : World} {g : Nat} {c : ChanV} (h : ChR w g c) (i : Nat) : w.cell? ⟨g, 37 + i, none⟩ = (c.k.cells ++ c.rest)[i]? := (h.cell _).trans (cells_mid c h.seed i)
section
variable {w : World} {g : Nat} {c : ChanV} (h : ChR w g c)
include h
theorem ChR.ch : w.cell? ⟨g, 0, none⟩ = some (.int .u32 c.setup.ch) := h.low 0 (by omega)
theorem ChR.cap : w.cell? ⟨g, 1, none⟩ = some (.int .u64 c.setup.cap) := h.low 1 (by omega)
theorem ChR.signed : w.cell? ⟨g, 37, none⟩ = some (.int .i64 c.k.signed) := h.mid 0
theorem ChR.heard : w.cell? ⟨g, 38, none⟩ = some (.int .i64 c.k.heard) := h.mid 1
theorem ChR.awaits : w.cell? ⟨g, 39, none⟩ = some (.bool c.k.awaits) := h.mid 2
theorem ChR.nextOwn : w.cell? ⟨g, 40, none⟩ = some (.int .u64 c.k.nextOwn) := h.mid 3
theorem ChR.nextTheirs : w.cell? ⟨g, 41, none⟩ = some (.int .u64 c.k.nextTheirs) := h.mid 4
theorem ChR.shutSaid : w.cell? ⟨g, 42, none⟩ = some (.bool c.k.shutSaid) := h.mid 5
theorem ChR.shutHeard : w.cell? ⟨g, 43, none⟩ = some (.bool c.k.shutHeard) := h.mid 6
theorem ChR.revoked : w.cell? ⟨g, 44, none⟩ = some (.bool c.k.revoked) := h.mid 7
theorem ChR.loc : w.cell? ⟨g, 45, none⟩ = some (.int .u64 c.loc) := h.mid 8
theorem ChR.rem : w.cell? ⟨g, 46, none⟩ = some (.int .u64 c.rem) := h.mid 9
theorem ChR.live : w.cell? ⟨g, 47, none⟩ = some c.live := h.mid 10
end

def zRest : List Value := nilV :: ((List.replicate 17 KeptV.zero).flatMap KeptV.cells ++ [nilV, nilV])
def zSetup : List Value := .int .u32 0 :: .int .u64 0 :: .int .u64 0 :: ((List.replicate 32 0).map (Value.int .u8) ++ [.string ⟨#[]⟩, .string ⟨#[]⟩])
theorem Tryd.zeroChan : ((Tryd.prog.info? 88).map fun i => i.zero.map fun z => z.cells.toList) = some (some (zSetup ++ (CountsV.zero.cells ++ ([.int .u64 0, .int .u64 0] ++ zRest)))) := by kernel_rfl
theorem Tryd.placesChan : ∃ fields, Tryd.prog.underlying 88 = some (.struct fields) ∧ fields.toList.mapM (fun f => (Tryd.prog.info? f.type).map fun i => (f.offset, i.size)) = some [(0, 37), (37, 8), (45, 2), (47, 1), (48, 578), (626, 1), (627, 1)] := ⟨_, Tryd.underlying88, by kernel_rfl⟩
theorem built_chan (S : List Value) (a b : Value) (hS : S.length = 37) : Tryd.prog.built 88 [(0, .agg S.toArray), (2, .agg [a, b].toArray)] = some (S ++ (CountsV.zero.cells ++ ([a, b] ++ zRest))).toArray := by
  obtain ⟨i, z, hi, hz, hc⟩ := zero_of Tryd.zeroChan
  obtain ⟨fs, hu, hp⟩ := Tryd.placesChan
  rw [built_struct' hi hu hz hp]
  rw [fill_one (P := []) (A := S) (Z := zSetup) (R := CountsV.zero.cells ++ ([.int .u64 0, .int .u64 0] ++ zRest)) (off := 0) (by rw [hS]; rfl) rfl (by rw [hS]; rfl) hc]
  rw [fill_one (P := S ++ CountsV.zero.cells) (A := [a, b]) (Z := [.int .u64 0, .int .u64 0]) (R := zRest) (off := 45) (by rfl) (by rw [List.length_append, hS]; rfl) rfl (by simp)]
  rw [Instr.fill]
  simp
/-- The same, kept whole. -/
def bdChan (p : Array (Nat × Value)) : Sem Value := Instr.build 88 p
theorem bd_chan_fold (p : Array (Nat × Value)) : Instr.build 88 p = bdChan p := rfl
theorem bd_chan (s : SetupV) (hs : s.seed.length = 32) (a b : Value) (w : World) : (bdChan #[(0, .agg s.cells.toArray), (2, .agg #[a, b])]).run Tryd.prog w = .ok (.agg (s.cells ++ (CountsV.zero.cells ++ ([a, b] ++ zRest))).toArray) w :=
  run_build w _ _ _ (built_chan s.cells a b (s.len hs))

end Go.Proofs.YtehdhnckfdiioaaDoor
