/-
  A node with one peer: Pay, Close, whole.
-/
import Derived.Test.YtainkaojnhfldaaGreatDoorMei
set_option linter.unusedVariables false
set_option linter.unusedSimpArgs false
namespace Go.Proofs.YtainkaojnhfldaaGreatDoor
open Go.RowKit

attribute [local go_sem ↓ high] ld_hsh_fold st_hsh_fold al_hsh_fold
attribute [local go_sem] ld_hsh st_hsh al_hsh rowN_drew
theorem node_shut (N : NodeV) (i : Nat) (b : Bool) (hb : N.shut[i]? = some b) : N.cells[3 + i]? = some (.bool b) := by
  unfold NodeV.cells
  rw [show 3 + i = i + 1 + 1 + 1 by omega, List.getElem?_cons_succ, List.getElem?_cons_succ, List.getElem?_cons_succ, List.getElem?_append_left (by rw [List.length_map]; exact (List.getElem?_eq_some_iff.1 hb).1), List.getElem?_map, hb]
  rfl
set_option maxRecDepth 100000 in
set_option maxHeartbeats 1000000 in
theorem rpay_out (g : Nat) (N : NodeV) (R : RelV) (ch : Int) (k : Nat) (S : Nat → Prop) (L : Lk) (m : Nat) (n x : Int) (h : List Int) (pt : Int) (w : World) (hN : NodS w g N R ch k S L m) (hd : R.drains = false) (hl : h.length = 32) (ht : pt < 0 ∨ 1 ≤ pt) :
    Calls Tryz.prog 32 #[.pointer (some ⟨N.re, 0, none⟩), .int .i64 pt, .int .u64 n, .agg (hshV h).toArray, .int .i64 x] w fun e w' => e = .returned (.tuple #[.int .u64 0, .int .i64 180]) ∧ New w w' := by
  obtain ⟨lv, cv, hI, -⟩ := hN.toI
  have c6 : w.cell? ⟨N.re, 6, none⟩ = some (.bool false) := hd ▸ blk_cell hN.re 6
  have HI := hide hI
  clear hI
  go_enter Tryz.func32, Tryz.ntmps32
  go_upto_region 1 with fail
  have n1 : New w (w.alloc (.cells (hshV h).toArray 32)) := (Upd.refl _ _).alloc _
  generalize w.alloc (.cells (hshV h).toArray 32) = w1 at n1 ⊢
  generalize w.heap.size = B
  replace c6 := n1.cell c6 (fun h => h)
  have N1 := hide n1
  clear n1
  have hlk := link_out N.re R [⟨ch, k, lv, cv⟩] w1 ((unhide HI).re.new (unhide N1)) pt (by simpa using ht)
  go_wp2_with fail
  refine hlk.mono ?_
  rintro e w2 ⟨rfl, q2⟩
  have N2 := hide ((unhide N1).trans (q2.upd _))
  clear hlk q2 HI c6
  go_wp2_with fail
  go_ret2
  exact ⟨rfl, unhide N2⟩
set_option maxRecDepth 100000 in
set_option maxHeartbeats 2000000 in
/-- Pay to the one peer. -/
theorem npay_any (g : Nat) (N : NodeV) (R : RelV) (ch : Int) (k : Nat) (S : Nat → Prop) (L : Lk) (m : Nat) (n x : Nat) (h : List Int) (b : Bool) (w : World) (hN : NodS w g N R ch k S L m) (hb : N.shut[0]? = some b) (hd : R.drains = false) (hE : EmM w m) (hp : PayOk w L n x h) (hA : ApD S) (her : (L.c.offer n (hvec h) x).2.2 ≠ 200) :
    Calls Tryz.prog 11 #[.pointer (some ⟨g, 0, none⟩), .int .i64 0, .int .u64 (n : Int), .agg (hshV h).toArray, .int .i64 (x : Int)] w fun e w' => (∃ id : Int, e = .returned (.tuple #[.int .u64 id, .int .i64 (if b then 135 else (L.c.offer n (hvec h) x).2.2)])) ∧ NodS w' g N R ch k (Fr S w w') (L.offers n x h) m ∧ Upd (fun i => S i ∨ i = m) w w' := by
  have hl := hp.len
  have c0 : w.cell? ⟨g, 0, none⟩ = some (.pointer (some ⟨N.re, 0, none⟩)) := blk_cell hN.no 0
  go_enter Tryz.func11, Tryz.ntmps11
  go_upto_region 1 with fail
  have n1 : New w (w.alloc (.cells (hshV h).toArray 32)) := (Upd.refl _ _).alloc _
  have r1 : rowN (w.alloc (.cells (hshV h).toArray 32)) w.heap.size 0 32 = some (hshV h).toArray := rowN_whole (blk_alloc _ _) 32 (by rw [List.size_toArray, hshV_len, hl])
  generalize w.alloc (.cells (hshV h).toArray 32) = w1 at n1 r1 ⊢
  generalize w.heap.size = B at r1 ⊢
  replace c0 := n1.cell c0 (fun h => h)
  have nd := n1.drew
  have hcall := rpay_any g N R ch k S L m n x h w1.drew (hN.new nd) hd (nd.old hE (fun h => h)) (hp.new nd) hA
  have N1 := hide n1
  clear n1 nd
  go_wp2_with (with_reducible first | (first | refine' tw1 (ido ?_) ?_ | refine' tw2 (ido ?_) ?_); rotate_left | refine' tw3 (ido ?_) | rfl | apply tn | refine' tw4 ?_)
  refine hcall.mono ?_
  rintro e w2 ⟨⟨id, rfl⟩, hN2, u2⟩
  have u2 := u2.ofDrew
  have c3 : w2.cell? ⟨g, 3, none⟩ = some (.bool b) := by
    rw [blk_cell hN2.no 3, List.getElem?_toArray]
    exact node_shut N 0 b hb
  have HQ := hide (And.intro hN2 u2)
  clear hcall hN2 u2 r1 c0 hE hp
  generalize he : (L.c.offer n (hvec h) x).2.2 = er at her ⊢
  have HER := hide he
  clear he
  have hfin : NodS w2 g N R ch k (Fr S w w2) (L.offers n x h) m ∧ Upd (fun i => S i ∨ i = m) w w2 := by
    obtain ⟨h1, h2⟩ := unhide HQ
    exact ⟨hN.later h1 rfl (unhide N1).size (Nat.le_refl _), ((unhide N1).mono (fun _ _ h => h.elim)).trans h2⟩
  have HF := hide hfin
  clear hfin HQ N1 hN
  cases b with
  | true =>
    go_wp2_with (with_reducible first | (first | refine' tw1 (ido ?_) ?_ | refine' tw2 (ido ?_) ?_); rotate_left | refine' tw3 (ido ?_) | rfl | apply tn | refine' tw4 ?_)
    go_ret2
    exact ⟨⟨_, rfl⟩, unhide HF⟩
  | false =>
    go_wp2_with (with_reducible first | (first | refine' tw1 (ido ?_) ?_ | refine' tw2 (ido ?_) ?_); rotate_left | refine' tw3 (ido ?_) | rfl | apply tn | refine' tw4 ?_)
    go_ret2
    refine ⟨⟨id, ?_⟩, unhide HF⟩
    rw [unhide HER]
    rfl
set_option maxRecDepth 100000 in
set_option maxHeartbeats 2000000 in
/-- Pay to nobody. -/
theorem npay_out (g : Nat) (N : NodeV) (R : RelV) (ch : Int) (k : Nat) (S : Nat → Prop) (L : Lk) (m : Nat) (n x : Int) (h : List Int) (pt : Int) (b : Bool) (w : World) (hN : NodS w g N R ch k S L m) (hb : N.shut = b :: List.replicate 7 false) (hd : R.drains = false) (hl : h.length = 32) (ht : pt < 0 ∨ 1 ≤ pt) :
    Calls Tryz.prog 11 #[.pointer (some ⟨g, 0, none⟩), .int .i64 pt, .int .u64 n, .agg (hshV h).toArray, .int .i64 x] w fun e w' => e = .returned (.tuple #[.int .u64 0, .int .i64 180]) ∧ New w w' := by
  have c0 : w.cell? ⟨g, 0, none⟩ = some (.pointer (some ⟨N.re, 0, none⟩)) := blk_cell hN.no 0
  go_enter Tryz.func11, Tryz.ntmps11
  go_upto_region 1 with fail
  have n1 : New w (w.alloc (.cells (hshV h).toArray 32)) := (Upd.refl _ _).alloc _
  have r1 : rowN (w.alloc (.cells (hshV h).toArray 32)) w.heap.size 0 32 = some (hshV h).toArray := rowN_whole (blk_alloc _ _) 32 (by rw [List.size_toArray, hshV_len, hl])
  generalize w.alloc (.cells (hshV h).toArray 32) = w1 at n1 r1 ⊢
  generalize w.heap.size = B at r1 ⊢
  replace c0 := n1.cell c0 (fun h => h)
  have nd := n1.drew
  have hcall := rpay_out g N R ch k S L m n x h pt w1.drew (hN.new nd) hd hl ht
  have N1 := hide n1
  clear n1 nd
  go_wp2_with (with_reducible first | (first | refine' tw1 (ido ?_) ?_ | refine' tw2 (ido ?_) ?_); rotate_left | refine' tw3 (ido ?_) | rfl | apply tn | refine' tw4 ?_)
  refine hcall.mono ?_
  rintro e w2 ⟨rfl, n2⟩
  have n2 := (unhide N1).trans n2.ofDrew
  have hno := hN.no
  have hc : ∀ i : Nat, 1 ≤ i → i < 8 → w2.cell? ⟨g, 3 + i, none⟩ = some (.bool false) := fun i h1 h8 => n2.cell (by
    rw [blk_cell hno (3 + i), List.getElem?_toArray]
    refine node_shut N i false ?_
    rw [hb]
    cases i with
    | zero => omega
    | succ i => rw [List.getElem?_cons_succ, List.getElem?_replicate, if_pos (by omega)]) (fun h => h)
  have N2 := hide n2
  clear hcall n2 c0 hno r1 hN N1 hb
  rcases ht with ht | ht
  · have h0 : ¬ 0 ≤ pt := by omega
    clear hc
    go_wp2_with (with_reducible first | (first | refine' tw1 (ido ?_) ?_ | refine' tw2 (ido ?_) ?_); rotate_left | refine' tw3 (ido ?_) | rfl | apply tn | refine' tw4 ?_)
    go_ret2
    exact ⟨rfl, unhide N2⟩
  · by_cases h8 : pt < 8
    · obtain ⟨i, rfl⟩ := Int.eq_ofNat_of_zero_le (show 0 ≤ pt by omega)
      have c3 := hc i (by omega) (by omega)
      have h0 : (0 : Int) ≤ (i : Int) := by omega
      clear hc
      go_wp2_with (with_reducible first | (first | refine' tw1 (ido ?_) ?_ | refine' tw2 (ido ?_) ?_); rotate_left | refine' tw3 (ido ?_) | rfl | apply tn | refine' tw4 ?_)
      go_ret2
      exact ⟨rfl, unhide N2⟩
    · have h0 : (0 : Int) ≤ pt := by omega
      clear hc
      go_wp2_with (with_reducible first | (first | refine' tw1 (ido ?_) ?_ | refine' tw2 (ido ?_) ?_); rotate_left | refine' tw3 (ido ?_) | rfl | apply tn | refine' tw4 ?_)
      go_ret2
      exact ⟨rfl, unhide N2⟩
def NodeV.shutAt0 (N : NodeV) : NodeV := { N with shut := N.shut.set 0 true }
def NodeV.closes (N : NodeV) (er : Int) : NodeV := if er = 0 then N.shutAt0 else N
theorem shut_set (N : NodeV) (b : Bool) (t : List Bool) (h : N.shut = b :: t) : N.cells.toArray.setIfInBounds 3 (.bool true) = N.shutAt0.cells.toArray := by
  unfold NodeV.shutAt0 NodeV.cells
  rw [h]
  rfl
set_option maxRecDepth 100000 in
set_option maxHeartbeats 2000000 in
/-- Close of the one peer. -/
theorem close_any (g : Nat) (N : NodeV) (R : RelV) (ch : Int) (k : Nat) (S : Nat → Prop) (L : Lk) (m : Nat) (b : Bool) (t : List Bool) (w : World) (hN : NodS w g N R ch k S L m) (hb : N.shut = b :: t) (hk : LkOk L) (hsay : L.c.shut.2.2 = 0 → SayOk L.c.shut.2.1) (hm0 : L.c.shut.2.1.hash.length = 32) (hT : Tabs w) (hA : ApD S) :
    Calls Tryz.prog 10 #[.pointer (some ⟨g, 0, none⟩), .int .i64 0] w fun e w' => e = .returned (.int .i64 L.c.shut.2.2) ∧ NodS w' g (N.closes L.c.shut.2.2) R ch k (Fr S w w') L.shut m ∧ Upd (fun i => S i ∨ i = g) w w' := by
  obtain ⟨lv, cv, hI, -⟩ := hN.toI
  have c0 : w.cell? ⟨g, 0, none⟩ = some (.pointer (some ⟨N.re, 0, none⟩)) := blk_cell hN.no 0
  have hlk := link_at N.re R [⟨ch, k, lv, cv⟩] w hI.re (by simp) 0 ⟨ch, k, lv, cv⟩ rfl
  have hnr : g ≠ N.re := apart_ty' hN.no hN.re (by decide)
  clear hI
  go_enter Tryz.func10, Tryz.ntmps10
  go_wp2_with fail
  refine hlk.mono ?_
  rintro e w1 ⟨rfl, q1⟩
  have n1 : New w w1 := q1.upd _
  have hsh := lshut_any k S L w1 (hN.lk.new n1) hk hsay hm0 (hT.new n1) hA
  have N1 := hide n1
  clear hlk c0 q1 n1
  go_wp2_with fail
  refine hsh.mono ?_
  rintro e w2 ⟨rfl, hL, u2⟩
  have hN2 := (hN.new (unhide N1)).link u2 hL
  have f3 := blk_free hN2.no 3
  have d3 : w2.cell? ⟨g, 3, none⟩ = some (.bool b) := by
    rw [blk_cell hN2.no 3, List.getElem?_toArray]
    exact node_shut N 0 b (by rw [hb]; rfl)
  have hst := blk_set hN2.no 3 (.bool true)
  rw [shut_set N b t hb] at hst
  have u3 : Upd (· = g) w2 (w2.setCell ⟨g, 3, none⟩ (.bool true)) := (Upd.refl _ _).set1 _ _
  have hN3 : NodS (w2.setCell ⟨g, 3, none⟩ (.bool true)) g N.shutAt0 R ch k (Fr S w1 w2) L.shut m := by
    refine ⟨hst, u3.old hN2.re (fun e => hnr e.symm), row_upd' hN2.row u3 (fun i hi e => ?_), hN2.lk.upd u3 (fun i hi e => hN2.gS (e ▸ hi)), Nat.le_trans hN2.bsle u3.size, hN2.pay, hN2.gS, hN2.rS, hN2.bS, hN2.mS, Nat.lt_of_lt_of_le hN2.mlt u3.size⟩
    obtain ⟨cur, hc⟩ := own_blk' hN2.row i hi
    exact apart_ty' hc hN2.no (by decide) e
  have z1 := (unhide N1).size
  have HQ := hide (And.intro (hN.later hN3 rfl z1 u3.size) (And.intro (hN.later hN2 rfl z1 (Nat.le_refl _)) (And.intro u2 u3)))
  clear hN2 hL u2 hst u3 hN3 hsh hsay hm0 hk
  generalize he : L.c.shut.2.2 = er
  have HER := hide he
  clear he
  by_cases h0 : er = 0
  · subst h0
    go_wp2_with fail
    go_ret
    obtain ⟨h1, h2, u2, u3⟩ := unhide HQ
    rw [unhide HER]
    exact ⟨rfl, h1, (((unhide N1).mono (fun _ _ h => h.elim)).trans (u2.mono (fun i _ e => .inl e))).trans (u3.mono (fun i _ e => .inr e))⟩
  · go_upto_if 18 with fail
    refine wp_cond_true (congrArg Value.bool (show (er != 0) = true by simpa using h0)) ?_
    go_wp2_with fail
    go_ret
    obtain ⟨h1, h2, u2, u3⟩ := unhide HQ
    rw [unhide HER]
    unfold NodeV.closes
    rw [if_neg h0]
    exact ⟨rfl, h2, ((unhide N1).mono (fun _ _ h => h.elim)).trans (u2.mono (fun i _ e => .inl e))⟩
end Go.Proofs.YtainkaojnhfldaaGreatDoor
