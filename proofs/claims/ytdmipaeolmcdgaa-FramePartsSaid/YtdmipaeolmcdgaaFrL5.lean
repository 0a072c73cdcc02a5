/-
  FrameParts: the walk.
-/
import Derived.Test.YtdmipaeolmcdgaaFrL1
import Derived.Test.YtdmipaeolmcdgaaFrPlain2
import Derived.Deep.RegionHeld3
import Derived.Deep.AppendLies
import Derived.OwnWalk
namespace Go.Proofs.Ytdmipaeolmcdgaa
open Go.RowKit

theorem Try.info9 : (Try.prog.info? 9).map (fun i => (i.zero, i.size, i.bytes)) = some (some (.string ⟨#[]⟩), 1, 16) := by kernel_rfl
theorem own_shape {w : World} {base : Nat} {e : TypeId} {size : Nat} {v : Value} {n : Nat} {xs : List Value} (h : w.ownsRow base e size v n xs) : ∃ a cap, v = .slice a n cap := by
  rcases h.2 with ⟨rfl, rfl⟩ | ⟨g, cap, cur, rfl, _⟩
  · exact ⟨_, _, rfl⟩
  · exact ⟨_, _, rfl⟩
/-- A row of our own, with its shape. -/
def Owns (w : World) (base : Nat) (v : Value) (ws : List ByteArray) : Prop :=
  ∃ a cap, v = .slice a ws.length cap ∧ w.ownsRow base 9 1 (.slice a ws.length cap) ws.length (ws.map Value.string)
theorem Owns.of {w : World} {base : Nat} {v : Value} {ws : List ByteArray} {n : Nat} {xs : List Value} (h : w.ownsRow base 9 1 v n xs) (hn : n = ws.length) (hx : xs = ws.map Value.string) : Owns w base v ws := by
  subst hn; subst hx
  obtain ⟨a, cap, rfl⟩ := own_shape h
  exact ⟨a, cap, rfl, h⟩
theorem Owns.upd {S : Nat → Prop} {w w' : World} {base : Nat} {v : Value} {ws : List ByteArray} (h : Owns w base v ws) (u : Upd S w w') (hS : ∀ k, base ≤ k → v.ownBlock = some k → ¬ S k) : Owns w' base v ws := by
  obtain ⟨a, cap, rfl, h1, h2⟩ := h
  refine ⟨a, cap, rfl, h1, ?_⟩
  rcases h2 with h2 | ⟨g, cp, cur, hv, hg, hh, r⟩
  · exact .inl h2
  · refine .inr ⟨g, cp, cur, hv, hg, u.old hh (hS g hg ?_), r⟩
    rw [hv]; rfl
theorem Owns.row {w : World} {base : Nat} {a : Option Addr} {n cap : Nat} {ws : List ByteArray} (h : Owns w base (.slice a n cap) ws) : n = ws.length ∧ w.ownsRow base 9 1 (.slice a ws.length cap) ws.length (ws.map Value.string) := by
  obtain ⟨a', cap', e, h⟩ := h
  injection e with e1 e2 e3
  subst e1; subst e2; subst e3
  exact ⟨rfl, h⟩
theorem Owns.shape {w : World} {base : Nat} {v : Value} {ws : List ByteArray} (h : Owns w base v ws) : ∃ a cap, v = .slice a ws.length cap := by
  obtain ⟨a, cap, rfl, _⟩ := h
  exact ⟨a, cap, rfl⟩
theorem Owns.cells {w : World} {base : Nat} {v : Value} {ws : List ByteArray} (h : Owns w base v ws) (hn : 0 < ws.length) :
    ∃ g cap, v = .slice (some ⟨g, 0, none⟩) ws.length cap ∧ base ≤ g ∧ ∀ i, i < ws.length → w.cell? ⟨g, i, none⟩ = some (.string (ws.getD i ByteArray.empty)) := by
  obtain ⟨a, cap, rfl, h1, h2⟩ := h
  rcases h2 with ⟨_, h2⟩ | ⟨g, cp, cur, hv, hg, hh, _, _, _, r⟩
  · omega
  · injection hv with e1 e2 e3
    subst e1
    refine ⟨g, cap, rfl, hg, fun i hi => ?_⟩
    rw [blk_cell hh i, ← Array.getElem?_toList]
    have e : cur.toList[i]? = (cur.toList.take (ws.length * 1))[i]? := by rw [List.getElem?_take, if_pos (by omega)]
    rw [e, r, List.getElem?_map, List.getD_eq_getElem?_getD, List.getElem?_eq_getElem hi]
    rfl
def splLen (w : World) (b : Nat) : Nat := match w.cell? ⟨b, 0, none⟩ with | some (.string s) => s.size | _ => 0
theorem splLen_of {w : World} {b : Nat} {r : ByteArray} (h : Spl w b r) : splLen w b = r.size := by unfold splLen; rw [h.cell]
def strLen : Value → Nat | .string s => s.size | _ => 0
theorem nextR_lt {r : ByteArray} (h : ready r = true) : (nextR r).size < r.size := by
  obtain ⟨h2, _, h3⟩ := (ready_iff r).1 h
  have := hd_bd r
  unfold nextR
  rw [if_pos h, rest_size]
  omega
theorem cut_join' (f : ByteArray) (k : Nat) (h : k ≤ f.size) : f.extract 0 k ++ f.extract k f.size = f := by
  refine ba_ext ?_
  rw [toList_append, toList_extract, toList_extract, List.drop_zero, Nat.sub_zero]
  rw [List.take_of_length_le (l := List.drop k f.data.toList) (by rw [List.length_drop, toList_size]; omega), List.take_append_drop]
theorem cut_le (s : ByteArray) (M : Nat) : (s.extract 0 M).size ≤ s.size := by simp; omega
theorem join_cut (r s : ByteArray) (M : Nat) (h : M ≤ s.size) : r ++ s = (r ++ s.extract 0 M) ++ s.extract M s.size := by
  rw [append_assoc', cut_join' s M h]
theorem snoc_ok {w : World} {base : Nat} {v : Value} {ws : List ByteArray} {t : ByteArray} (h : w.ownsRow base 9 1 v (ws.length + 1) (ws.map Value.string ++ [.string t])) : Owns w base v (ws ++ [t]) :=
  Owns.of h (by simp) (by simp)
theorem one_new (w : World) (t : ByteArray) (T : TypeId) : ∀ j u, [Value.string t][j]? = some u → (w.alloc (.cells #[.string t] T)).cell? ((⟨w.heap.size, 0, none⟩ : Addr).add j) = some u := by
  intro j u hu
  cases j with
  | zero => simp at hu; subst hu; exact (blk_cell (blk_alloc w (.cells #[.string t] T)) 0)
  | succ j => simp at hu

end Go.Proofs.Ytdmipaeolmcdgaa
