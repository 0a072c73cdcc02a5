/-
  A node with one peer: Pay, Close, whole.
-/
import Derived.Test.YtainkaojnhfldaaGreatDoorNp1
set_option linter.unusedVariables false
set_option linter.unusedSimpArgs false
namespace Go.Proofs.YtainkaojnhfldaaGreatDoor
open Go.RowKit

attribute [local go_sem ↓ high] ld_hsh_fold st_hsh_fold al_hsh_fold
attribute [local go_sem] ld_hsh st_hsh al_hsh rowN_drew
theorem node_shut (N : NodeV) (i : Nat) (b : Bool) (hb : N.shut[i]? = some b) : N.cells[3 + i]? = some (.bool b) := by
  unfold NodeV.cells
  rw [show 3 + i = i + 1 + 1 + 1 by omega, List.getElem?_cons_succ, List.getElem?_cons_succ, List.getElem?_cons_succ, List.getElem?_append_left (by rw [List.length_map]; exact (List.getElem?_eq_some_iff.1 hb).1), List.getElem?_map, hb]
  rfl
set_option maxRecDepth 100000 in
set_option maxHeartbeats 2000000 in
/-- Pay to the one peer. -/
theorem npay_any (g : Nat) (N : NodeV) (R : RelV) (ch : Int) (k : Nat) (S : Nat → Prop) (L : Lk) (m : Nat) (n x : Nat) (h : List Int) (b : Bool) (w : World) (hN : NodS w g N R ch k S L m) (hb : N.shut[0]? = some b) (hd : R.drains = false) (hE : EmM w m) (hp : PayOk w L n x h) (hA : ApD S) (her : (L.c.offer n (hvec h) x).2.2 ≠ 200) :
    Calls Tryz.prog 11 #[.pointer (some ⟨g, 0, none⟩), .int .i64 0, .int .u64 (n : Int), .agg (hshV h).toArray, .int .i64 (x : Int)] w fun e w' => (∃ id : Int, e = .returned (.tuple #[.int .u64 id, .int .i64 (if b then 135 else (L.c.offer n (hvec h) x).2.2)])) ∧ NodS w' g N R ch k (Fr S w w') (L.offers n x h) m ∧ Upd (fun i => S i ∨ i = m) w w' := by
  have hl := hp.len
  have c0 : w.cell? ⟨g, 0, none⟩ = some (.pointer (some ⟨N.re, 0, none⟩)) := blk_cell hN.no 0
  go_enter Tryz.func11, Tryz.ntmps11
  go_upto_region 1 with fail
  have n1 : New w (w.alloc (.cells (hshV h).toArray 32)) := (Upd.refl _ _).alloc _
  have r1 : rowN (w.alloc (.cells (hshV h).toArray 32)) w.heap.size 0 32 = some (hshV h).toArray := rowN_whole (blk_alloc _ _) 32 (by rw [List.size_toArray, hshV_len, hl])
  generalize w.alloc (.cells (hshV h).toArray 32) = w1 at n1 r1 ⊢
  generalize w.heap.size = B at r1 ⊢
  replace c0 := n1.cell c0 (fun h => h)
  have nd := n1.drew
  have hcall := rpay_any g N R ch k S L m n x h w1.drew (hN.new nd) hd (nd.old hE (fun h => h)) (hp.new nd) hA
  have N1 := hide n1
  clear n1 nd
  go_wp2_with (with_reducible first | (first | refine' tw1 (ido ?_) ?_ | refine' tw2 (ido ?_) ?_); rotate_left | refine' tw3 (ido ?_) | rfl | apply tn | refine' tw4 ?_)
  refine hcall.mono ?_
  rintro e w2 ⟨⟨id, rfl⟩, hN2, u2⟩
  have u2 := u2.ofDrew
  have c3 : w2.cell? ⟨g, 3, none⟩ = some (.bool b) := by
    rw [blk_cell hN2.no 3, List.getElem?_toArray]
    exact node_shut N 0 b hb
  have HQ := hide (And.intro hN2 u2)
  clear hcall hN2 u2 r1 c0 hE hp
  generalize he : (L.c.offer n (hvec h) x).2.2 = er at her ⊢
  have HER := hide he
  clear he
  have hfin : NodS w2 g N R ch k (Fr S w w2) (L.offers n x h) m ∧ Upd (fun i => S i ∨ i = m) w w2 := by
    obtain ⟨h1, h2⟩ := unhide HQ
    exact ⟨hN.later h1 rfl (unhide N1).size (Nat.le_refl _), ((unhide N1).mono (fun _ _ h => h.elim)).trans h2⟩
  have HF := hide hfin
  clear hfin HQ N1 hN
  cases b with
  | true =>
    go_wp2_with (with_reducible first | (first | refine' tw1 (ido ?_) ?_ | refine' tw2 (ido ?_) ?_); rotate_left | refine' tw3 (ido ?_) | rfl | apply tn | refine' tw4 ?_)
    go_ret2
    exact ⟨⟨_, rfl⟩, unhide HF⟩
  | false =>
    go_wp2_with (with_reducible first | (first | refine' tw1 (ido ?_) ?_ | refine' tw2 (ido ?_) ?_); rotate_left | refine' tw3 (ido ?_) | rfl | apply tn | refine' tw4 ?_)
    go_ret2
    refine ⟨⟨id, ?_⟩, unhide HF⟩
    rw [unhide HER]
    rfl
end Go.Proofs.YtainkaojnhfldaaGreatDoor
