/-
  hearers: who hears which kind.
-/
import Derived.Test.YtainkaojnhfldaaGreatDoorMay
import Derived.Maps.OwnSet
import Derived.Test.YtainkaojnhfldaaGreatDoorVw8
import Derived.Test.YtainkaojnhfldaaGreatDoorOc1
set_option linter.unusedVariables false
set_option linter.unusedSimpArgs false
namespace Go.Proofs.YtainkaojnhfldaaGreatDoor
open Go.RowKit

end Go.Proofs.YtainkaojnhfldaaGreatDoor
namespace Go.Proofs.YtainkaojnhfldaaGreatDoor
open Go.RowKit Go.Sort

theorem get!_of {X : List Item} {n : Nat} {x : Item} (h : X[n]? = some x) : X[n]! = x := by rw [List.getElem!_eq_getElem?_getD, h]; rfl
/-- From off on, block g holds the items X; to be read. -/
def HeldR (w : World) (g off : Nat) (X : List Item) : Prop :=
  ∃ C T fz, w.heap[g]? = some (.cells C T fz) ∧ off + X.length * 36 ≤ C.size ∧ ∀ i x, X[i]? = some x → ∀ j, j < 36 → C[off + i * 36 + j]? = (itemCells x)[j]?
theorem HeldR.row {w : World} {g off : Nat} {xs : List Item} (h : HeldR w g off xs) {i : Nat} {x : Item} (hi : xs[i]? = some x) : rowN w g (off + i * 36) 36 = some (itemCells x).toArray := by
  obtain ⟨C, T, fz, hb, hs, hc⟩ := h
  have hlt : i < xs.length := (List.getElem?_eq_some_iff.1 hi).1
  have hle : off + i * 36 + 36 ≤ C.size := by have := Nat.mul_le_mul_right 36 (show i + 1 ≤ xs.length from hlt); omega
  rw [rowN_blk hb _ _ hle]
  congr 1
  apply Array.ext'
  apply List.ext_getElem?
  intro j
  rw [Array.getElem?_toList, Array.getElem?_extract]
  by_cases hj : j < 36
  · rw [if_pos (by omega), hc i x hi j hj]
  · rw [if_neg (by omega), List.getElem?_eq_none (by rw [item_len]; omega)]
theorem HeldR.upd {S : Nat → Prop} {w w' : World} {b off : Nat} {xs : List Item} (h : HeldR w b off xs) (u : Upd S w w') (hn : ¬ S b) : HeldR w' b off xs := by
  obtain ⟨C, T, fz, hb, r⟩ := h
  exact ⟨C, T, fz, u.old hb hn, r⟩
theorem HeldR.lt {w : World} {g off : Nat} {xs : List Item} (h : HeldR w g off xs) : g < w.heap.size := by
  obtain ⟨C, T, fz, hb, r⟩ := h
  exact blk_lt hb
theorem Held.toR {w : World} {g off : Nat} {xs : List Item} (h : Held w g off xs) : HeldR w g off xs := by
  obtain ⟨C, T, hb, hs, hc⟩ := h
  refine ⟨C, T, _, hb, hs, fun i x hx j hj => ?_⟩
  rw [hc i (List.getElem?_eq_some_iff.1 hx).1 j hj, get!_of hx]
/-- What a slice of items holds; to be read. -/
def ItemsR (w : World) (v : Value) (X : List Item) : Prop := (∃ a c, v = .slice a 0 c ∧ X = []) ∨ ∃ g off cap, v = .slice (some ⟨g, off, none⟩) X.length cap ∧ HeldR w g off X
theorem ItemsR.new {w w' : World} {v : Value} {X : List Item} (h : ItemsR w v X) (u : New w w') : ItemsR w' v X := by
  rcases h with h | ⟨g, off, cap, e, h⟩
  · exact .inl h
  · exact .inr ⟨g, off, cap, e, h.upd u (fun h => h)⟩
theorem Items.toR {w : World} {v : Value} {X : List Item} (h : Items w v X) : ItemsR w v X := by
  rcases h with h | ⟨g, cap, e, h⟩
  · exact .inl h
  · exact .inr ⟨g, 0, cap, e, h.toR⟩
theorem ItemsR.slice {w : World} {v : Value} {X : List Item} (h : ItemsR w v X) : ∃ a c, v = .slice a X.length c := by
  rcases h with ⟨_, _, rfl, rfl⟩ | ⟨g, off, cap, rfl, _⟩
  · exact ⟨_, _, rfl⟩
  · exact ⟨_, _, rfl⟩

theorem ItemsR.at {w : World} {a : Option Addr} {n c : Nat} {X : List Item} (h : ItemsR w (.slice a n c) X) {i : Nat} {x : Item} (hi : X[i]? = some x) :
    ∃ b off, a = some ⟨b, off, none⟩ ∧ n = X.length ∧ rowN w b (off + i * 36) 36 = some (itemCells x).toArray := by
  rcases h with ⟨_, _, e, rfl⟩ | ⟨b, off, cap, e, hh⟩
  · simp at hi
  · cases e
    exact ⟨b, off, rfl, rfl, hh.row hi⟩

end Go.Proofs.YtainkaojnhfldaaGreatDoor
namespace Go.Proofs.YtainkaojnhfldaaGreatDoor
open Go.RowKit

end Go.Proofs.YtainkaojnhfldaaGreatDoor
