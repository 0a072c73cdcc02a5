/-
  hearers: who hears which kind.
-/
import Derived.Test.YtainkaojnhfldaaGreatDoorMay
import Derived.Maps.OwnSet
import Derived.Test.YtainkaojnhfldaaGreatDoorMcb
import Derived.Test.YtainkaojnhfldaaGreatDoorOc1
import Derived.Test.YtainkaojnhfldaaGreatDoorTxt
import Derived.Test.YtainkaojnhfldaaGreatDoorMah
import Derived.Lib.BufferWrite
import Derived.Test.YtainkaojnhfldaaGreatDoorVw5
import Derived.Test.YtainkaojnhfldaaGreatDoorMbg
set_option linter.unusedVariables false
set_option linter.unusedSimpArgs false
namespace Go.Proofs.YtainkaojnhfldaaGreatDoor
open Go.RowKit

end Go.Proofs.YtainkaojnhfldaaGreatDoor
namespace Go.Proofs.YtainkaojnhfldaaGreatDoor
open Go.RowKit Go.Sort

theorem get!_of {X : List Item} {n : Nat} {x : Item} (h : X[n]? = some x) : X[n]! = x := by rw [List.getElem!_eq_getElem?_getD, h]; rfl
/-- From off on, block g holds the items X; to be read. -/
def HeldR (w : World) (g off : Nat) (X : List Item) : Prop :=
  ∃ C T fz, w.heap[g]? = some (.cells C T fz) ∧ off + X.length * 36 ≤ C.size ∧ ∀ i x, X[i]? = some x → ∀ j, j < 36 → C[off + i * 36 + j]? = (itemCells x)[j]?
theorem HeldR.row {w : World} {g off : Nat} {xs : List Item} (h : HeldR w g off xs) {i : Nat} {x : Item} (hi : xs[i]? = some x) : rowN w g (off + i * 36) 36 = some (itemCells x).toArray := by
  obtain ⟨C, T, fz, hb, hs, hc⟩ := h
  have hlt : i < xs.length := (List.getElem?_eq_some_iff.1 hi).1
  have hle : off + i * 36 + 36 ≤ C.size := by have := Nat.mul_le_mul_right 36 (show i + 1 ≤ xs.length from hlt); omega
  rw [rowN_blk hb _ _ hle]
  congr 1
  apply Array.ext'
  apply List.ext_getElem?
  intro j
  rw [Array.getElem?_toList, Array.getElem?_extract]
  by_cases hj : j < 36
  · rw [if_pos (by omega), hc i x hi j hj]
  · rw [if_neg (by omega), List.getElem?_eq_none (by rw [item_len]; omega)]
theorem HeldR.upd {S : Nat → Prop} {w w' : World} {b off : Nat} {xs : List Item} (h : HeldR w b off xs) (u : Upd S w w') (hn : ¬ S b) : HeldR w' b off xs := by
  obtain ⟨C, T, fz, hb, r⟩ := h
  exact ⟨C, T, fz, u.old hb hn, r⟩
theorem HeldR.lt {w : World} {g off : Nat} {xs : List Item} (h : HeldR w g off xs) : g < w.heap.size := by
  obtain ⟨C, T, fz, hb, r⟩ := h
  exact blk_lt hb
theorem Held.toR {w : World} {g off : Nat} {xs : List Item} (h : Held w g off xs) : HeldR w g off xs := by
  obtain ⟨C, T, hb, hs, hc⟩ := h
  refine ⟨C, T, _, hb, hs, fun i x hx j hj => ?_⟩
  rw [hc i (List.getElem?_eq_some_iff.1 hx).1 j hj, get!_of hx]
/-- What a slice of items holds; to be read. -/
def ItemsR (w : World) (v : Value) (X : List Item) : Prop := (∃ a c, v = .slice a 0 c ∧ X = []) ∨ ∃ g off cap, v = .slice (some ⟨g, off, none⟩) X.length cap ∧ HeldR w g off X
theorem ItemsR.new {w w' : World} {v : Value} {X : List Item} (h : ItemsR w v X) (u : New w w') : ItemsR w' v X := by
  rcases h with h | ⟨g, off, cap, e, h⟩
  · exact .inl h
  · exact .inr ⟨g, off, cap, e, h.upd u (fun h => h)⟩
theorem Items.toR {w : World} {v : Value} {X : List Item} (h : Items w v X) : ItemsR w v X := by
  rcases h with h | ⟨g, cap, e, h⟩
  · exact .inl h
  · exact .inr ⟨g, 0, cap, e, h.toR⟩
theorem ItemsR.slice {w : World} {v : Value} {X : List Item} (h : ItemsR w v X) : ∃ a c, v = .slice a X.length c := by
  rcases h with ⟨_, _, rfl, rfl⟩ | ⟨g, off, cap, rfl, _⟩
  · exact ⟨_, _, rfl⟩
  · exact ⟨_, _, rfl⟩

theorem ItemsR.at {w : World} {a : Option Addr} {n c : Nat} {X : List Item} (h : ItemsR w (.slice a n c) X) {i : Nat} {x : Item} (hi : X[i]? = some x) :
    ∃ b off, a = some ⟨b, off, none⟩ ∧ n = X.length ∧ rowN w b (off + i * 36) 36 = some (itemCells x).toArray := by
  rcases h with ⟨_, _, e, rfl⟩ | ⟨b, off, cap, e, hh⟩
  · simp at hi
  · cases e
    exact ⟨b, off, rfl, rfl, hh.row hi⟩

end Go.Proofs.YtainkaojnhfldaaGreatDoor
namespace Go.Proofs.YtainkaojnhfldaaGreatDoor
open Go.RowKit

end Go.Proofs.YtainkaojnhfldaaGreatDoor
namespace Go.Proofs.YtainkaojnhfldaaGreatDoor
open Go.RowKit Go.Sort

theorem Tryz.infoHashT : (Tryz.prog.info? 32).map (·.size) = some 32 := by kernel_rfl
def ldHashT (x : Value) : Sem Value := Instr.loadAt 32 x
theorem ld_hasht_fold (x : Value) : Instr.loadAt 32 x = ldHashT x := rfl
theorem ld_hasht (b o : Nat) (w : World) : (ldHashT (.pointer (some ⟨b, o, none⟩))).run Tryz.prog w = match rowN w b o 32 with | some A => .ok (.agg A) w | none => slowLd Tryz.prog 32 w b o :=
  run_loadAt_rowN 32 32 _ Tryz.underlying32 rfl Tryz.infoHashT b o w
attribute [local go_sem ↓ high] ld_item_fold ld_hasht_fold
attribute [local go_sem] ld_item ld_hasht

end Go.Proofs.YtainkaojnhfldaaGreatDoor
namespace Go.Proofs.YtainkaojnhfldaaGreatDoor
open Go.RowKit

attribute [local go_sem ↓ high] ld_h32_fold st_h32_fold
attribute [local go_sem] ld_h32 st_h32

end Go.Proofs.YtainkaojnhfldaaGreatDoor
namespace Go.Proofs.YtainkaojnhfldaaGreatDoor
open Go.RowKit Go.Sort

end Go.Proofs.YtainkaojnhfldaaGreatDoor
namespace Go.Proofs.YtainkaojnhfldaaGreatDoor
open Go.RowKit Go.Sort

attribute [local go_sem ↓ high] ld_live_fold st_live_fold
attribute [local go_sem] ld_live st_live

end Go.Proofs.YtainkaojnhfldaaGreatDoor
namespace Go.Proofs.YtainkaojnhfldaaGreatDoor
open Go.RowKit Go.Sort

/-- The items I, in the order of a view. -/
def IsView (I X : List Item) : Prop := ∃ M : List (Item × Nat), M.Perm I.zipIdx ∧ Srt M ∧ X = its M
open Classical in
noncomputable def viewL (I : List Item) : List Item := if h : ∃ X, IsView I X then h.choose else []

/-- The two sums of a view: its owner's, the other one's. -/
def viewA (ours : Bool) (l r : Int) (xs : List Live) : Int := if ours then (sumsOf ours l r xs).1 else (sumsOf ours l r xs).2
def viewB (ours : Bool) (l r : Int) (xs : List Live) : Int := if ours then (sumsOf ours l r xs).2 else (sumsOf ours l r xs).1
/-- What view.Of tells, as a value: its sums, and a row of its items. -/
structure ViewO (ours : Bool) (l r : Int) (xs : List Live) (w : World) (v : Value) : Prop where
  u : ∃ u, v = .agg #[.int .u64 (viewA ours l r xs), .int .u64 (viewB ours l r xs), u] ∧ ItemsR w u (viewL (itemsOf ours xs))
  is : IsView (itemsOf ours xs) (viewL (itemsOf ours xs))
theorem ViewO.new {ours : Bool} {l r : Int} {xs : List Live} {w w' : World} {v : Value} (h : ViewO ours l r xs w v) (n : New w w') : ViewO ours l r xs w' v := by
  obtain ⟨⟨u, e, hu⟩, h2⟩ := h
  exact ⟨⟨u, e, hu.new n⟩, h2⟩

end Go.Proofs.YtainkaojnhfldaaGreatDoor
