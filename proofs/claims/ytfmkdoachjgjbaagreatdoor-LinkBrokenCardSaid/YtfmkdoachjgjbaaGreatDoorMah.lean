/-
  A struct that is built of its parts: a part laid into the zero cells.
-/
import Derived.Test.YtfmkdoachjgjbaaGreatDoorMaf
import Derived.Great.BuildSlice
import Derived.Test.YtfmkdoachjgjbaaGreatDoorProg
import Derived.Test.YtfmkdoachjgjbaaGreatDoorRows
import Derived.IntWalk
import Derived.Outline
import Derived.Deep.CutRange
import Derived.BigRegion
import Derived.Deep.RegionLaw
set_option linter.unusedVariables false
set_option linter.unusedSimpArgs false
namespace Go.Proofs.YtfmkdoachjgjbaaGreatDoor
open Go.RowKit

theorem fill_mid (A P Z R : List Value) (h : Z.length = A.length) : (A.zipIdx).foldl (fun (cs : Array Value) (c, j) => cs.setIfInBounds (P.length + j) c) (P ++ (Z ++ R)).toArray = (P ++ (A ++ R)).toArray := by
  have key : ∀ (A : List Value) (k : Nat) (Q Z : List Value), Z.length = A.length → Q.length = P.length + k → (A.zipIdx k).foldl (fun (cs : Array Value) (c, j) => cs.setIfInBounds (P.length + j) c) (Q ++ (Z ++ R)).toArray = (Q ++ (A ++ R)).toArray := by
    intro A
    induction A with
    | nil => intro k Q Z hz _; rw [List.length_eq_zero_iff.1 hz]; rfl
    | cons a A ih =>
      intro k Q Z hz hp
      cases Z with
      | nil => simp at hz
      | cons z Z =>
        rw [List.zipIdx_cons, List.foldl_cons]
        have e : (Q ++ (z :: Z ++ R)).toArray.setIfInBounds (P.length + k) a = ((Q ++ [a]) ++ (Z ++ R)).toArray := by
          rw [← hp]; simp
        show List.foldl _ ((Q ++ (z :: Z ++ R)).toArray.setIfInBounds (P.length + k) a) _ = _
        rw [e, ih (k + 1) (Q ++ [a]) Z (by simpa using hz) (by simp [hp]; omega)]
        simp
  exact key A 0 P Z h rfl
theorem built_struct' {P : Program} {t : TypeId} {it : TypeInfo} {z : Value} {fields : Array Field} {places : List (Nat × Nat)} (hi : P.info? t = some it) (hu : P.underlying t = some (.struct fields)) (hz : it.zero = some z)
    (hp : fields.toList.mapM (fun f => (P.info? f.type).map fun i => (f.offset, i.size)) = some places) (parts : List (Nat × Value)) : P.built t parts = Instr.fill (places.toArray[·]?) z.cells parts := by
  unfold Program.built
  rw [hi, hu]
  simp only [hz, hp]
theorem zero_of {P : Program} {t : TypeId} {l : List Value} (h : ((P.info? t).map fun i => i.zero.map fun z => z.cells.toList) = some (some l)) : ∃ i z, P.info? t = some i ∧ i.zero = some z ∧ z.cells = l.toArray := by
  cases hi : P.info? t with
  | none => rw [hi] at h; simp at h
  | some i =>
    rw [hi, Option.map_some, Option.some.injEq] at h
    cases hz : i.zero with
    | none => rw [hz] at h; simp at h
    | some z =>
      rw [hz, Option.map_some, Option.some.injEq] at h
      exact ⟨i, z, rfl, hz, by rw [← h]⟩
theorem fill_one {place : Nat → Option (Nat × Nat)} {i off : Nat} {A P Z R : List Value} {cs : Array Value} (hp : place i = some (off, A.length)) (ho : P.length = off) (hz : Z.length = A.length) (hc : cs = (P ++ (Z ++ R)).toArray) (rest : List (Nat × Value)) :
    Instr.fill place cs ((i, .agg A.toArray) :: rest) = Instr.fill place (P ++ (A ++ R)).toArray rest := by
  subst hc ho
  rw [Instr.fill, hp]
  have hs : ¬ (A.toArray.size ≠ A.length || P.length + A.toArray.size > (P ++ (Z ++ R)).toArray.size) = true := by
    simp [hz]
  have hs' : ((Value.agg A.toArray).cells.size ≠ A.length || P.length + (Value.agg A.toArray).cells.size > (P ++ (Z ++ R)).toArray.size) = false := by
    simpa [Value.cells] using hs
  simp only [hs', Bool.false_eq_true, if_false]
  congr 1
  have := fill_mid A P Z R hz
  simpa [Value.cells] using this

structure SetupV where
  ch : Int
  cap : Int
  ours : Int
  seed : List Int
  key : ByteArray
  peer : ByteArray
def SetupV.cells (s : SetupV) : List Value := .int .u32 s.ch :: .int .u64 s.cap :: .int .u64 s.ours :: (s.seed.map (Value.int .u8) ++ [.string s.key, .string s.peer])
structure SetupV.Ok (s : SetupV) : Prop where
  ch : 0 ≤ s.ch ∧ s.ch < 4294967296
  cap : 0 ≤ s.cap ∧ s.cap < 18446744073709551616
  ours : 0 ≤ s.ours ∧ s.ours < 18446744073709551616
  seed : s.seed.length = 32
theorem SetupV.len (s : SetupV) (h : s.seed.length = 32) : s.cells.length = 37 := by simp [SetupV.cells, h]

structure KeptV where
  full : Bool
  number : Int
  told : List Int
def KeptV.cells (k : KeptV) : List Value := .bool k.full :: .int .i64 k.number :: k.told.map (Value.int .u8)
def KeptV.zero : KeptV := ⟨false, 0, List.replicate 32 0⟩

structure CountsV where
  signed : Int
  heard : Int
  awaits : Bool
  nextOwn : Int
  nextTheirs : Int
  shutSaid : Bool
  shutHeard : Bool
  revoked : Bool
def CountsV.cells (k : CountsV) : List Value := [.int .i64 k.signed, .int .i64 k.heard, .bool k.awaits, .int .u64 k.nextOwn, .int .u64 k.nextTheirs, .bool k.shutSaid, .bool k.shutHeard, .bool k.revoked]
def CountsV.zero : CountsV := ⟨0, 0, false, 0, 0, false, false, false⟩

structure ChanV where
  setup : SetupV
  k : CountsV
  loc : Int
  rem : Int
  live : Value
  shelf : List KeptV
  news : Value
  last : Value
def ChanV.told (c : ChanV) : List Value := c.shelf.flatMap KeptV.cells
def ChanV.rest (c : ChanV) : List Value := .int .u64 c.loc :: .int .u64 c.rem :: c.live :: (c.told ++ [c.news, c.last])
def ChanV.cells (c : ChanV) : List Value := c.setup.cells ++ (c.k.cells ++ c.rest)
def nilV : Value := .slice none 0 0
def ChanV.new (s : SetupV) : ChanV := ⟨s, .zero, s.ours, s.cap - s.ours, nilV, List.replicate 17 .zero, nilV, nilV⟩
/-- A channel lies in block g. -/
structure ChR (w : World) (g : Nat) (c : ChanV) : Prop where
  at_ : w.heap[g]? = some (.cells c.cells.toArray 126 (0, 0))
  seed : c.setup.seed.length = 32
theorem ChR.lt {w : World} {g : Nat} {c : ChanV} (h : ChR w g c) : g < w.heap.size := blk_lt h.at_
theorem ChR.upd {S : Nat → Prop} {w w' : World} {g : Nat} {c : ChanV} (h : ChR w g c) (u : Upd S w w') (hn : ¬ S g) : ChR w' g c := ⟨u.old h.at_ hn, h.seed⟩
theorem ChR.new {w w' : World} {g : Nat} {c : ChanV} (h : ChR w g c) (u : New w w') : ChR w' g c := h.upd u (fun h => h)
theorem ChR.free {w : World} {g : Nat} {c : ChanV} (h : ChR w g c) (i : Nat) : w.frozen? ⟨g, i, none⟩ = false := blk_free h.at_ i
theorem ChR.cell {w : World} {g : Nat} {c : ChanV} (h : ChR w g c) (i : Nat) : w.cell? ⟨g, i, none⟩ = c.cells[i]? := by
  rw [blk_cell h.at_, List.getElem?_toArray]
theorem cells_low (c : ChanV) (h : c.setup.seed.length = 32) (i : Nat) (hi : i < 37) : c.cells[i]? = c.setup.cells[i]? := by
  unfold ChanV.cells
  rw [List.getElem?_append_left (by rw [c.setup.len h]; exact hi)]
theorem cells_mid (c : ChanV) (h : c.setup.seed.length = 32) (i : Nat) : c.cells[37 + i]? = (c.k.cells ++ c.rest)[i]? := by
  unfold ChanV.cells
  rw [List.getElem?_append_right (by rw [c.setup.len h]; omega), c.setup.len h, Nat.add_sub_cancel_left]
theorem ChR.low {w : World} {g : Nat} {c : ChanV} (h : ChR w g c) (i : Nat) (hi : i < 37) : w.cell? ⟨g, i, none⟩ = c.setup.cells[i]? := (h.cell i).trans (cells_low c h.seed i hi)
theorem ChR.mid {w : World} {g : Nat} {c : ChanV} (h : ChR w g c) (i : Nat) : w.cell? ⟨g, 37 + i, none⟩ = (c.k.cells ++ c.rest)[i]? := (h.cell _).trans (cells_mid c h.seed i)
section
variable {w : World} {g : Nat} {c : ChanV} (h : ChR w g c)
include h
theorem ChR.ch : w.cell? ⟨g, 0, none⟩ = some (.int .u32 c.setup.ch) := h.low 0 (by omega)
theorem ChR.cap : w.cell? ⟨g, 1, none⟩ = some (.int .u64 c.setup.cap) := h.low 1 (by omega)
theorem ChR.signed : w.cell? ⟨g, 37, none⟩ = some (.int .i64 c.k.signed) := h.mid 0
theorem ChR.heard : w.cell? ⟨g, 38, none⟩ = some (.int .i64 c.k.heard) := h.mid 1
theorem ChR.awaits : w.cell? ⟨g, 39, none⟩ = some (.bool c.k.awaits) := h.mid 2
theorem ChR.nextOwn : w.cell? ⟨g, 40, none⟩ = some (.int .u64 c.k.nextOwn) := h.mid 3
theorem ChR.nextTheirs : w.cell? ⟨g, 41, none⟩ = some (.int .u64 c.k.nextTheirs) := h.mid 4
theorem ChR.shutSaid : w.cell? ⟨g, 42, none⟩ = some (.bool c.k.shutSaid) := h.mid 5
theorem ChR.shutHeard : w.cell? ⟨g, 43, none⟩ = some (.bool c.k.shutHeard) := h.mid 6
theorem ChR.revoked : w.cell? ⟨g, 44, none⟩ = some (.bool c.k.revoked) := h.mid 7
theorem ChR.loc : w.cell? ⟨g, 45, none⟩ = some (.int .u64 c.loc) := h.mid 8
theorem ChR.rem : w.cell? ⟨g, 46, none⟩ = some (.int .u64 c.rem) := h.mid 9
theorem ChR.live : w.cell? ⟨g, 47, none⟩ = some c.live := h.mid 10
end

def zRest : List Value := nilV :: ((List.replicate 17 KeptV.zero).flatMap KeptV.cells ++ [nilV, nilV])
def zSetup : List Value := .int .u32 0 :: .int .u64 0 :: .int .u64 0 :: ((List.replicate 32 0).map (Value.int .u8) ++ [.string ⟨#[]⟩, .string ⟨#[]⟩])
theorem Tryz.zeroChan : ((Tryz.prog.info? 126).map fun i => i.zero.map fun z => z.cells.toList) = some (some (zSetup ++ (CountsV.zero.cells ++ ([.int .u64 0, .int .u64 0] ++ zRest)))) := by kernel_rfl
theorem Tryz.placesChan : ∃ fields, Tryz.prog.underlying 126 = some (.struct fields) ∧ fields.toList.mapM (fun f => (Tryz.prog.info? f.type).map fun i => (f.offset, i.size)) = some [(0, 37), (37, 8), (45, 2), (47, 1), (48, 578), (626, 1), (627, 1)] := ⟨_, Tryz.underlying126, by kernel_rfl⟩
theorem built_chan (S : List Value) (a b : Value) (hS : S.length = 37) : Tryz.prog.built 126 [(0, .agg S.toArray), (2, .agg [a, b].toArray)] = some (S ++ (CountsV.zero.cells ++ ([a, b] ++ zRest))).toArray := by
  obtain ⟨i, z, hi, hz, hc⟩ := zero_of Tryz.zeroChan
  obtain ⟨fs, hu, hp⟩ := Tryz.placesChan
  rw [built_struct' hi hu hz hp]
  rw [fill_one (P := []) (A := S) (Z := zSetup) (R := CountsV.zero.cells ++ ([.int .u64 0, .int .u64 0] ++ zRest)) (off := 0) (by rw [hS]; rfl) rfl (by rw [hS]; rfl) hc]
  rw [fill_one (P := S ++ CountsV.zero.cells) (A := [a, b]) (Z := [.int .u64 0, .int .u64 0]) (R := zRest) (off := 45) (by rfl) (by rw [List.length_append, hS]; rfl) rfl (by simp)]
  rw [Instr.fill]
  simp
/-- The same, kept whole. -/
def bdChan (p : Array (Nat × Value)) : Sem Value := Instr.build 126 p
theorem bd_chan_fold (p : Array (Nat × Value)) : Instr.build 126 p = bdChan p := rfl
theorem bd_chan (s : SetupV) (hs : s.seed.length = 32) (a b : Value) (w : World) : (bdChan #[(0, .agg s.cells.toArray), (2, .agg #[a, b])]).run Tryz.prog w = .ok (.agg (s.cells ++ (CountsV.zero.cells ++ ([a, b] ++ zRest))).toArray) w :=
  run_build w _ _ _ (built_chan s.cells a b (s.len hs))

theorem Tryz.infoSetup : (Tryz.prog.info? 78).map (·.size) = some 37 := by kernel_rfl
def ldSetup (x : Value) : Sem Value := Instr.loadAt 78 x
theorem ld_setup_fold (x : Value) : Instr.loadAt 78 x = ldSetup x := rfl
theorem ld_setup (b o : Nat) (w : World) : (ldSetup (.pointer (some ⟨b, o, none⟩))).run Tryz.prog w = match rowN w b o 37 with | some A => .ok (.agg A) w | none => slowLd Tryz.prog 78 w b o :=
  run_loadAt_rowN 78 37 _ Tryz.underlying78 rfl Tryz.infoSetup b o w
/-- A setup lies in block b. -/
def SetR (w : World) (b : Nat) (s : SetupV) : Prop := w.heap[b]? = some (.cells s.cells.toArray 78 (0, 0))
theorem SetR.upd {S : Nat → Prop} {w w' : World} {g : Nat} {s : SetupV} (h : SetR w g s) (u : Upd S w w') (hn : ¬ S g) : SetR w' g s := u.old h hn
theorem SetR.new {w w' : World} {g : Nat} {s : SetupV} (h : SetR w g s) (u : New w w') : SetR w' g s := h.upd u (fun h => h)
theorem SetR.lt {w : World} {g : Nat} {s : SetupV} (h : SetR w g s) : g < w.heap.size := blk_lt h
theorem SetR.drew {w : World} {g : Nat} {s : SetupV} (h : SetR w g s) : SetR w.drew g s := h
theorem SetR.row {w : World} {b : Nat} {s : SetupV} (h : SetR w b s) (hs : s.seed.length = 32) : rowN w b 0 37 = some s.cells.toArray := by
  rw [rowN_blk h 0 37 (by simp [s.len hs])]
  congr 1
  apply Array.ext'
  rw [Array.toList_extract]
  show List.take 37 (List.drop 0 s.cells) = s.cells
  rw [List.drop_zero, List.take_of_length_le (by rw [s.len hs]; exact Nat.le_refl _)]
theorem SetR.cell {w : World} {b : Nat} {s : SetupV} (h : SetR w b s) (i : Nat) : w.cell? ⟨b, i, none⟩ = s.cells[i]? := by rw [blk_cell h, List.getElem?_toArray]
theorem SetupV.c35 (s : SetupV) (h : s.seed.length = 32) : s.cells[35]? = some (.string s.key) := by
  unfold SetupV.cells
  rw [List.getElem?_cons_succ, List.getElem?_cons_succ, List.getElem?_cons_succ, List.getElem?_append_right (by simp [h])]
  simp [h]
theorem SetupV.c36 (s : SetupV) (h : s.seed.length = 32) : s.cells[36]? = some (.string s.peer) := by
  unfold SetupV.cells
  rw [List.getElem?_cons_succ, List.getElem?_cons_succ, List.getElem?_cons_succ, List.getElem?_append_right (by simp [h])]
  simp [h]
attribute [local go_sem ↓ high] ld_setup_fold bd_chan_fold
attribute [local go_sem] ld_setup

/-- An end may be. -/
def SetupV.may (s : SetupV) : Prop := 1 ≤ s.cap ∧ s.cap ≤ 1125899906842624 ∧ s.ours ≤ s.cap ∧ s.key.size ≤ 64 ∧ s.peer.size ≤ 64

theorem new_cells (s : SetupV) : s.cells ++ (CountsV.zero.cells ++ ([.int .u64 s.ours, .int .u64 (s.cap - s.ours)] ++ zRest)) = (ChanV.new s).cells := by
  unfold ChanV.new ChanV.cells ChanV.rest ChanV.told zRest
  simp

set_option maxRecDepth 100000 in
set_option maxHeartbeats 1000000 in
theorem newC_any (s : SetupV) (hs : s.Ok) (w : World) : Calls Tryz.prog 85 #[.agg s.cells.toArray] w fun e w' =>
    (s.may ∧ ∃ g, e = .returned (.pointer (some ⟨g, 0, none⟩)) ∧ w.heap.size ≤ g ∧ ChR w' g (.new s) ∧ New w w') ∨ (¬ s.may ∧ e = .returned (.pointer none) ∧ New w w') := by
  go_enter Tryz.func85, Tryz.ntmps85
  go_upto_region 1 with fail
  have hb : SetR (w.alloc (.cells s.cells.toArray 78)) w.heap.size s := blk_alloc _ _
  have n0 : New w (w.alloc (.cells s.cells.toArray 78)) := (Upd.refl _ _).alloc _
  generalize w.alloc (.cells s.cells.toArray 78) = w1 at hb n0 ⊢
  have hlt := hb.lt
  have hrow := hb.row hs.seed
  have c1 : w1.cell? ⟨w.heap.size, 1, none⟩ = some (.int .u64 s.cap) := hb.cell 1
  have c2 : w1.cell? ⟨w.heap.size, 2, none⟩ = some (.int .u64 s.ours) := hb.cell 2
  have c35 : w1.cell? ⟨w.heap.size, 35, none⟩ = some (.string s.key) := (hb.cell 35).trans (s.c35 hs.seed)
  have c36 : w1.cell? ⟨w.heap.size, 36, none⟩ = some (.string s.peer) := (hb.cell 36).trans (s.c36 hs.seed)
  obtain ⟨a0, a1⟩ := hs.cap
  obtain ⟨b0, b1⟩ := hs.ours
  have hbd := bd_chan s hs.seed (.int .u64 s.ours) (.int .u64 (s.cap - s.ours))
  rw [new_cells] at hbd
  by_cases h1 : s.cap < 1
  · go_wp2
    go_ret
    exact .inr ⟨(fun h => by have := h.1; omega), rfl, n0⟩
  by_cases h2 : 1125899906842624 < s.cap
  · go_wp2
    go_ret
    exact .inr ⟨(fun h => by have := h.2.1; omega), rfl, n0⟩
  by_cases h3 : s.cap < s.ours
  · go_wp2
    go_ret
    exact .inr ⟨(fun h => by have := h.2.2.1; omega), rfl, n0⟩
  by_cases h4 : 64 < s.key.size
  · have h4' : 64 < (s.key.size : Int) := by omega
    go_wp2
    go_ret
    exact .inr ⟨(fun h => by have := h.2.2.2.1; omega), rfl, n0⟩
  by_cases h5 : 64 < s.peer.size
  · have h4' : ¬ 64 < (s.key.size : Int) := by omega
    have h5' : 64 < (s.peer.size : Int) := by omega
    go_wp2
    go_ret
    exact .inr ⟨(fun h => by have := h.2.2.2.2; omega), rfl, n0⟩
  · have h4' : ¬ 64 < (s.key.size : Int) := by omega
    have h5' : ¬ 64 < (s.peer.size : Int) := by omega
    have hw : IntKind.u64.wrap (s.cap - s.ours) = s.cap - s.ours := by rw [IntKind.wrap_u64]; omega
    go_wp2
    go_ret
    have hm : s.may := ⟨by omega, by omega, by omega, by omega, by omega⟩
    have n2 : New w (w1.alloc (.cells (ChanV.new s).cells.toArray 126)) := n0.alloc _
    exact .inl ⟨hm, w1.heap.size, rfl, n0.size, ⟨blk_alloc _ _, hs.seed⟩, n2⟩

end Go.Proofs.YtfmkdoachjgjbaaGreatDoor
