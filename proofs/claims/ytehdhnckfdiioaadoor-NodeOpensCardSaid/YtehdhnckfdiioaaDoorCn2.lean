/-
  channel.New.
-/
import Derived.Test.YtehdhnckfdiioaaDoorCn1
import Derived.Test.YtehdhnckfdiioaaDoorRows
import Derived.IntWalk
import Derived.Outline
import Derived.Deep.CutRange
import Derived.BigRegion
import Derived.Deep.RegionLaw
namespace Go.Proofs.YtehdhnckfdiioaaDoor
open Go.RowKit

theorem Tryd.infoSetup : (Tryd.prog.info? 33).map (·.size) = some 37 := by kernel_rfl
def ldSetup (x : Value) : Sem Value := Instr.loadAt 33 x
theorem ld_setup_fold (x : Value) : Instr.loadAt 33 x = ldSetup x := rfl
theorem ld_setup (b o : Nat) (w : World) : (ldSetup (.pointer (some ⟨b, o, none⟩))).run Tryd.prog w = match rowN w b o 37 with | some A => .ok (.agg A) w | none => slowLd Tryd.prog 33 w b o :=
  run_loadAt_rowN 33 37 _ Tryd.underlying33 rfl Tryd.infoSetup b o w
/-- A setup lies in block b. -/
def SetR (w : World) (b : Nat) (s : SetupV) : Prop := w.heap[b]? = some (.cells s.cells.toArray 33 (0, 0))
theorem SetR.upd {S : Nat → Prop} {w w' : World} {g : Nat} {s : SetupV} (h : SetR w g s) (u : Upd S w w') (hn : ¬ S g) : SetR w' g s := u.old h hn
theorem SetR.new {w w' : World} {g : Nat} {s : SetupV} (h : SetR w g s) (u : New w w') : SetR w' g s := h.upd u (fun h => h)
theorem SetR.lt {w : World} {g : Nat} {s : SetupV} (h : SetR w g s) : g < w.heap.size := blk_lt h
theorem SetR.drew {w : World} {g : Nat} {s : SetupV} (h : SetR w g s) : SetR w.drew g s := h
theorem SetR.row {w : World} {b : Nat} {s : SetupV} (h : SetR w b s) (hs : s.seed.length = 32) : rowN w b 0 37 = some s.cells.toArray := by
  rw [rowN_blk h 0 37 (by simp [s.len hs])]
  congr 1
  apply Array.ext'
  rw [Array.toList_extract]
  show List.take 37 (List.drop 0 s.cells) = s.cells
  rw [List.drop_zero, List.take_of_length_le (by rw [s.len hs]; exact Nat.le_refl _)]
theorem SetR.cell {w : World} {b : Nat} {s : SetupV} (h : SetR w b s) (i : Nat) : w.cell? ⟨b, i, none⟩ = s.cells[i]? := by rw [blk_cell h, List.getElem?_toArray]
theorem SetupV.c35 (s : SetupV) (h : s.seed.length = 32) : s.cells[35]? = some (.string s.key) := by
  unfold SetupV.cells
  rw [List.getElem?_cons_succ, List.getElem?_cons_succ, List.getElem?_cons_succ, List.getElem?_append_right (by simp [h])]
  simp [h]
theorem SetupV.c36 (s : SetupV) (h : s.seed.length = 32) : s.cells[36]? = some (.string s.peer) := by
  unfold SetupV.cells
  rw [List.getElem?_cons_succ, List.getElem?_cons_succ, List.getElem?_cons_succ, List.getElem?_append_right (by simp [h])]
  simp [h]
attribute [local go_sem ↓ high] ld_setup_fold bd_chan_fold
attribute [local go_sem] ld_setup

/-- An end may be. -/
def SetupV.may (s : SetupV) : Prop := 1 ≤ s.cap ∧ s.cap ≤ 1125899906842624 ∧ s.ours ≤ s.cap ∧ s.key.size ≤ 64 ∧ s.peer.size ≤ 64

theorem new_cells (s : SetupV) : s.cells ++ (CountsV.zero.cells ++ ([.int .u64 s.ours, .int .u64 (s.cap - s.ours)] ++ zRest)) = (ChanV.new s).cells := by
  unfold ChanV.new ChanV.cells ChanV.rest ChanV.told zRest
  simp

set_option maxRecDepth 100000 in
set_option maxHeartbeats 1000000 in
theorem newC_any (s : SetupV) (hs : s.Ok) (w : World) : Calls Tryd.prog 24 #[.agg s.cells.toArray] w fun e w' =>
    (s.may ∧ ∃ g, e = .returned (.pointer (some ⟨g, 0, none⟩)) ∧ w.heap.size ≤ g ∧ ChR w' g (.new s) ∧ New w w') ∨ (¬ s.may ∧ e = .returned (.pointer none) ∧ New w w') := by
  go_enter Tryd.func24, Tryd.ntmps24
  go_upto_region 1 with fail
  have hb : SetR (w.alloc (.cells s.cells.toArray 33)) w.heap.size s := blk_alloc _ _
  have n0 : New w (w.alloc (.cells s.cells.toArray 33)) := (Upd.refl _ _).alloc _
  generalize w.alloc (.cells s.cells.toArray 33) = w1 at hb n0 ⊢
  have hlt := hb.lt
  have hrow := hb.row hs.seed
  have c1 : w1.cell? ⟨w.heap.size, 1, none⟩ = some (.int .u64 s.cap) := hb.cell 1
  have c2 : w1.cell? ⟨w.heap.size, 2, none⟩ = some (.int .u64 s.ours) := hb.cell 2
  have c35 : w1.cell? ⟨w.heap.size, 35, none⟩ = some (.string s.key) := (hb.cell 35).trans (s.c35 hs.seed)
  have c36 : w1.cell? ⟨w.heap.size, 36, none⟩ = some (.string s.peer) := (hb.cell 36).trans (s.c36 hs.seed)
  obtain ⟨a0, a1⟩ := hs.cap
  obtain ⟨b0, b1⟩ := hs.ours
  have hbd := bd_chan s hs.seed (.int .u64 s.ours) (.int .u64 (s.cap - s.ours))
  rw [new_cells] at hbd
  by_cases h1 : s.cap < 1
  · go_wp2
    go_ret
    exact .inr ⟨(fun h => by have := h.1; omega), rfl, n0⟩
  by_cases h2 : 1125899906842624 < s.cap
  · go_wp2
    go_ret
    exact .inr ⟨(fun h => by have := h.2.1; omega), rfl, n0⟩
  by_cases h3 : s.cap < s.ours
  · go_wp2
    go_ret
    exact .inr ⟨(fun h => by have := h.2.2.1; omega), rfl, n0⟩
  by_cases h4 : 64 < s.key.size
  · have h4' : 64 < (s.key.size : Int) := by omega
    go_wp2
    go_ret
    exact .inr ⟨(fun h => by have := h.2.2.2.1; omega), rfl, n0⟩
  by_cases h5 : 64 < s.peer.size
  · have h4' : ¬ 64 < (s.key.size : Int) := by omega
    have h5' : 64 < (s.peer.size : Int) := by omega
    go_wp2
    go_ret
    exact .inr ⟨(fun h => by have := h.2.2.2.2; omega), rfl, n0⟩
  · have h4' : ¬ 64 < (s.key.size : Int) := by omega
    have h5' : ¬ 64 < (s.peer.size : Int) := by omega
    have hw : IntKind.u64.wrap (s.cap - s.ours) = s.cap - s.ours := by rw [IntKind.wrap_u64]; omega
    go_wp2
    go_ret
    have hm : s.may := ⟨by omega, by omega, by omega, by omega, by omega⟩
    have n2 : New w (w1.alloc (.cells (ChanV.new s).cells.toArray 88)) := n0.alloc _
    exact .inl ⟨hm, w1.heap.size, rfl, n0.size, ⟨blk_alloc _ _, hs.seed⟩, n2⟩

end Go.Proofs.YtehdhnckfdiioaaDoor
