/-
  node.Open.
-/
import Derived.Test.YtainkaojnhfldaaGreatDoorNd6
import Derived.Test.YtainkaojnhfldaaGreatDoorTxt
set_option linter.unusedVariables false
set_option linter.unusedSimpArgs false
namespace Go.Proofs.YtainkaojnhfldaaGreatDoor
open Go.RowKit

/-- What Open of a node tells. -/
noncomputable def openErr (N : NodeV) (R : RelV) (ps : List PeerV) (s : SetupV) : Int :=
  if N.drains = true then 200 else if s.cap < s.ours then 1 else if N.funds < s.ours then 61 else addErr R ps s
noncomputable def openRes (N : NodeV) (R : RelV) (ps : List PeerV) (s : SetupV) : Int := if openErr N R ps s = 0 then ps.length else 0
structure NodI (w : World) (g : Nat) (N : NodeV) (R : RelV) (ps : List PeerV) : Prop where
  at_ : NoR w g N
  re : RelI w N.re R ps
theorem NodI.new {w w' : World} {g : Nat} {N : NodeV} {R : RelV} {ps : List PeerV} (h : NodI w g N R ps) (u : New w w') : NodI w' g N R ps := ⟨u.old h.at_ (fun h => h), h.re.new u⟩

attribute [local go_sem ↓ high] ld_setup_fold
attribute [local go_sem] ld_setup rowN_drew
set_option maxRecDepth 100000 in
set_option maxHeartbeats 4000000 in
theorem open_any (g : Nat) (N : NodeV) (R : RelV) (ps : List PeerV) (s : SetupV) (hs : s.Ok) (w : World) (h : NodI w g N R ps) (hl : ps.length ≤ 1048576) (hf : 0 ≤ N.funds ∧ N.funds < 18446744073709551616) :
    Calls Tryz.prog 9 #[.pointer (some ⟨g, 0, none⟩), .agg s.cells.toArray] w fun e w' =>
      e = .returned (.tuple #[.int .i64 (openRes N R ps s), .int .i64 (openErr N R ps s)]) ∧ (openErr N R ps s ≠ 0 → New w w') ∧
      (openErr N R ps s = 0 → ∃ v k l, NewL w' w.heap.size k s l ∧ NodI w' g { N with funds := N.funds - s.ours } { R with peers := v } (ps ++ [⟨s.ch, k, l, .new s⟩]) ∧ Upd (fun k => k = g ∨ k = N.re ∨ R.peers.ownBlock = some k) w w') := by
  have c0 : w.cell? ⟨g, 0, none⟩ = some (.pointer (some ⟨N.re, 0, none⟩)) := blk_cell h.at_ 0
  have c1 : w.cell? ⟨g, 1, none⟩ = some (.int .u64 N.funds) := blk_cell h.at_ 1
  have c2 : w.cell? ⟨g, 2, none⟩ = some (.bool N.drains) := blk_cell h.at_ 2
  go_enter Tryz.func9, Tryz.ntmps9
  go_upto_region 1 with fail
  have hb : SetR (w.alloc (.cells s.cells.toArray 34)) w.heap.size s := blk_alloc _ _
  have n0 : New w (w.alloc (.cells s.cells.toArray 34)) := (Upd.refl _ _).alloc _
  generalize w.alloc (.cells s.cells.toArray 34) = w1 at hb n0 ⊢
  have d1 : w1.cell? ⟨w.heap.size, 1, none⟩ = some (.int .u64 s.cap) := hb.cell 1
  have d2 : w1.cell? ⟨w.heap.size, 2, none⟩ = some (.int .u64 s.ours) := hb.cell 2
  replace c0 := n0.cell c0 (fun h => h)
  replace c1 := n0.cell c1 (fun h => h)
  replace c2 := n0.cell c2 (fun h => h)
  replace h := h.new n0
  have H := hide h
  clear h
  cases hd : N.drains with
  | true =>
    have e : openErr N R ps s = 200 := by unfold openErr; rw [if_pos hd]
    rw [hd] at c2
    have E := hide e
    clear e
    go_wp2_with fail
    go_ret2
    unfold openRes
    rw [unhide E]
    exact ⟨rfl, fun _ => n0, fun h => absurd h (by decide)⟩
  | false =>
  rw [hd] at c2
  by_cases h1 : s.cap < s.ours
  · have e : openErr N R ps s = 1 := by unfold openErr; rw [if_neg (by simp [hd]), if_pos h1]
    have E := hide e
    clear e
    go_wp2_with fail
    go_ret2
    unfold openRes
    rw [unhide E]
    exact ⟨rfl, fun _ => n0, fun h => absurd h (by decide)⟩
  have hsub := sub_any N.funds s.ours hf hs.ours
  by_cases h2 : N.funds < s.ours
  · have e : openErr N R ps s = 61 := by unfold openErr; rw [if_neg (by simp [hd]), if_neg h1, if_pos h2]
    have E := hide e
    clear e
    rw [if_pos h2] at hsub
    go_wp2_with (with_reducible first | (first | refine' tw1 (ido ?_) ?_ | refine' tw2 (ido ?_) ?_); rotate_left | refine' tw3 (ido ?_) | rfl | apply tn | refine' tw4 ?_)
    refine (hsub _).mono ?_
    rintro e w2 ⟨rfl, q2⟩
    go_wp2_with (with_reducible first | (first | refine' tw1 (ido ?_) ?_ | refine' tw2 (ido ?_) ?_); rotate_left | refine' tw3 (ido ?_) | rfl | apply tn | refine' tw4 ?_)
    go_ret2
    unfold openRes
    rw [unhide E]
    exact ⟨rfl, fun _ => n0.trans (q2.ofDrew.upd _), fun h => absurd h (by decide)⟩
  have he : openErr N R ps s = addErr R ps s := by unfold openErr; rw [if_neg (by simp [hd]), if_neg h1, if_neg h2]
  rw [if_neg h2] at hsub
  have HE := hide he
  clear he
  go_wp2_with (with_reducible first | (first | refine' tw1 (ido ?_) ?_ | refine' tw2 (ido ?_) ?_); rotate_left | refine' tw3 (ido ?_) | rfl | apply tn | refine' tw4 ?_)
  refine (hsub _).mono ?_
  rintro e w2 ⟨rfl, q2⟩
  replace n0 := n0.trans (q2.ofDrew.upd _)
  replace d2 := q2.ofDrew.cell d2
  replace c0 := q2.ofDrew.cell c0
  replace c1 := q2.ofDrew.cell c1
  have h := (unhide H).new (q2.ofDrew.upd _)
  have hrow := (hb.new (q2.ofDrew.upd _)).row hs.seed
  clear H q2 hsub
  have H := hide h
  clear hb
  have hadd := add_fn N.re R ps s hs w2.drew (h.re.new (Upd.refl _ _).drew) hl
  clear h
  go_wp2_with (with_reducible first | (first | refine' tw1 (ido ?_) ?_ | refine' tw2 (ido ?_) ?_); rotate_left | refine' tw3 (ido ?_) | rfl | apply tn | refine' tw4 ?_)
  refine hadd.mono ?_
  rintro e w3 ⟨rfl, ha, hb⟩
  by_cases h0 : addErr R ps s = 0
  · obtain ⟨v, k, l, hL, hR, u⟩ := hb h0
    have hE := (unhide HE).trans h0
    have hr : addRes R ps s = ps.length := by unfold addRes; rw [if_pos h0]
    have hz := n0.size
    rw [h0, hr]
    have hat := (unhide H).at_
    have hown := (unhide H).re.row
    have hRe := (unhide H).re
    have hgN : ¬ (g = N.re ∨ R.peers.ownBlock = some g) := by
      rintro (e | e)
      · exact apart_ty hat hRe.at_ (by decide) e
      · obtain ⟨cur, hc⟩ := own_blk hown g e
        exact apart_ty hat hc (by decide) rfl
    have hat3 : NoR w3 g N := u.ofDrew.old hat hgN
    have d1 := blk_cell hat3 1
    have hfr := blk_free hat3 1
    have hst := blk_set hat3 1 (.int .u64 (N.funds - s.ours))
    have u4 : Upd (fun k => k = g) w3 (w3.setCell ⟨g, 1, none⟩ (.int .u64 (N.funds - s.ours))) := (Upd.refl _ _).set1 _ _
    have HL := hide hL
    have HR := hide hR
    have HA := hide hat3
    have HS := hide hst
    clear hL hR hat3 hst hb ha hat hown hRe hadd d2 c0 c1 hrow
    simp [NodeV.cells] at d1
    go_wp2_with (with_reducible first | (first | refine' tw1 (ido ?_) ?_ | refine' tw2 (ido ?_) ?_); rotate_left | refine' tw3 (ido ?_) | rfl | apply tn | refine' tw4 ?_)
    go_ret2
    have hQ : openRes N R ps s = ps.length := by unfold openRes; rw [if_pos hE]
    rw [hQ, hE]
    refine ⟨rfl, fun h => absurd rfl h, fun _ => ⟨v, k, l, ?_, ⟨?_, ?_⟩, ?_⟩⟩
    · refine (unhide HL).upd u4 hz ⟨?_, ?_, ?_, ?_⟩
      · exact apart_ty (unhide HL).lk (unhide HA) (by decide)
      · exact apart_ty (unhide HL).sp (unhide HA) (by decide)
      · exact apart_ty (unhide HL).ch.at_ (unhide HA) (by decide)
      · exact apart_ty (unhide HL).jo (unhide HA) (by decide)
    · exact unhide HS
    · refine (unhide HR).upd u4 ?_ ?_ ?_
      · exact apart_ty (unhide HR).at_ (unhide HA) (by decide)
      · intro k hk
        obtain ⟨cur, hc⟩ := own_blk (unhide HR).row k hk
        exact apart_ty hc (unhide HA) (by decide)
      · intro p hp
        have := (unhide HR).links p hp
        exact ⟨apart_ty this.1 (unhide HA) (by decide), apart_ty this.2.at_ (unhide HA) (by decide)⟩
    · exact (n0.mono (fun _ _ h => h.elim)).trans ((u.ofDrew.mono (fun k _ h => Or.inr h)).trans (u4.mono (fun k _ h => Or.inl h)))
  · have n3 := n0.trans (ha h0).ofDrew
    have hE : openErr N R ps s ≠ 0 := by rw [unhide HE]; exact h0
    have HP := hide hE
    clear ha hb hadd hE
    go_wp2_with (with_reducible first | (first | refine' tw1 (ido ?_) ?_ | refine' tw2 (ido ?_) ?_); rotate_left | refine' tw3 (ido ?_) | rfl | apply tn | refine' tw4 ?_)
    go_ret2
    have e2 : openRes N R ps s = 0 := by unfold openRes; rw [if_neg (unhide HP)]
    rw [e2, unhide HE]
    exact ⟨rfl, fun _ => n3, fun h => absurd h h0⟩

end Go.Proofs.YtainkaojnhfldaaGreatDoor
