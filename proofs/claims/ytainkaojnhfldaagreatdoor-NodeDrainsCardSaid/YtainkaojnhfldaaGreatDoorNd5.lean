/-
  relay.Add.
-/
import Derived.Test.YtainkaojnhfldaaGreatDoorMea
import Derived.Deep.AppendLies
set_option linter.unusedVariables false
set_option linter.unusedSimpArgs false
namespace Go.Proofs.YtainkaojnhfldaaGreatDoor
open Go.RowKit

theorem row_upd {S : Nat → Prop} {w w' : World} {base : Nat} {e : TypeId} {size : Nat} {v : Value} {n : Nat} {xs : List Value} (h : w.ownsRow base e size v n xs) (u : Upd S w w') (hS : ∀ k, v.ownBlock = some k → ¬ S k) : w'.ownsRow base e size v n xs := by
  refine ⟨h.1, ?_⟩
  rcases h.2 with h | ⟨g, cap, cur, e1, e2, hg, r⟩
  · exact .inl h
  · exact .inr ⟨g, cap, cur, e1, e2, u.old hg (hS g (by rw [e1]; rfl)), r⟩
theorem own_blk {w : World} {base : Nat} {e : TypeId} {size : Nat} {v : Value} {n : Nat} {xs : List Value} (h : w.ownsRow base e size v n xs) : ∀ k, v.ownBlock = some k → ∃ cur, w.heap[k]? = some (.cells cur e (0, 0)) := by
  intro k hk
  rcases h.2 with ⟨rfl, _⟩ | ⟨g, cap, cur, rfl, e2, hg, _⟩
  · simp [Value.ownBlock] at hk
  · simp [Value.ownBlock] at hk
    exact ⟨cur, hk ▸ hg⟩
/-- Blocks of other types are apart. -/
theorem apart_ty {w : World} {k j : Nat} {c d : Array Value} {T U : TypeId} {x y : Nat × Nat} (h : w.heap[k]? = some (.cells c T x)) (g : w.heap[j]? = some (.cells d U y)) (n : T ≠ U) : k ≠ j := by
  rintro rfl
  rw [h] at g
  injection g with g
  injection g with _ g
  exact n g
theorem RelI.upd {S : Nat → Prop} {w w' : World} {r : Nat} {R : RelV} {ps : List PeerV} (h : RelI w r R ps) (u : Upd S w w') (hr : ¬ S r) (hb : ∀ k, R.peers.ownBlock = some k → ¬ S k) (hl : ∀ p ∈ ps, ¬ S p.lk ∧ ¬ S p.l.en) : RelI w' r R ps := by
  refine ⟨u.old h.at_ hr, row_upd h.row u hb, fun p hp => ⟨u.old (h.links p hp).1 (hl p hp).1, (h.links p hp).2.upd u (hl p hp).2⟩, Nat.le_trans h.bsle u.size⟩
theorem RelI.new {w w' : World} {r : Nat} {R : RelV} {ps : List PeerV} (h : RelI w r R ps) (u : New w w') : RelI w' r R ps := h.upd u (fun h => h) (fun _ _ h => h) (fun _ _ => ⟨fun h => h, fun h => h⟩)
theorem RelI.own {w : World} {r : Nat} {R : RelV} {ps : List PeerV} (h : RelI w r R ps) {k : Nat} (hk : R.peers.ownBlock = some k) : R.bs ≤ k := by
  rcases h.row.2 with ⟨e, _⟩ | ⟨g, cap, cur, e, hb, _⟩
  · rw [e] at hk; simp [Value.ownBlock] at hk
  · rw [e] at hk; simp [Value.ownBlock] at hk; omega
theorem NewL.upd {S : Nat → Prop} {w w' : World} {B A g : Nat} {s : SetupV} {l : LinkV} (h : NewL w B g s l) (u : Upd S w w') (hA : A ≤ B) (n : ¬ S g ∧ ¬ S l.sp ∧ ¬ S l.en ∧ ¬ S l.lo) : NewL w' A g s l :=
  ⟨h.isNew, u.old h.lk n.1, u.old h.sp n.2.1, h.ch.upd u n.2.2.1, u.old h.jo n.2.2.2, ⟨by have := h.ge.1; omega, by have := h.ge.2.1; omega, by have := h.ge.2.2.1; omega, by have := h.ge.2.2.2; omega⟩, h.ne⟩
theorem NewL.new {w w' : World} {B g : Nat} {s : SetupV} {l : LinkV} (h : NewL w B g s l) (u : New w w') : NewL w' B g s l := 
  ⟨h.isNew, u.old h.lk (fun h => h), u.old h.sp (fun h => h), h.ch.new u, u.old h.jo (fun h => h), h.ge, h.ne⟩

theorem Tryz.infoPeer : ((Tryz.prog.info? 116).map fun i => (i.size, i.bytes, i.zero.map fun z => z.cells.toList)) = some (2, 16, some [.int .u32 0, .pointer none]) := by kernel_rfl
theorem peer_info : ∃ i z, Tryz.prog.info? 116 = some i ∧ i.zero = some z ∧ i.size = 2 ∧ i.bytes = 16 ∧ z.cells.size = 2 := by
  have h := Tryz.infoPeer
  cases hi : Tryz.prog.info? 116 with
  | none => rw [hi] at h; simp at h
  | some i =>
    rw [hi, Option.map_some, Option.some.injEq, Prod.mk.injEq, Prod.mk.injEq] at h
    cases hz : i.zero with
    | none => rw [hz] at h; simp at h
    | some z =>
      rw [hz, Option.map_some, Option.some.injEq] at h
      refine ⟨i, z, rfl, hz, h.1, h.2.1, ?_⟩
      rw [← Array.length_toList, h.2.2]
      rfl
attribute [local go_sem ↓ high] ld_setup_fold
attribute [local go_sem] ld_setup
set_option maxRecDepth 100000 in
set_option maxHeartbeats 4000000 in
theorem add_any (r : Nat) (R : RelV) (ps : List PeerV) (s : SetupV) (hs : s.Ok) (w : World) (h : RelI w r R ps) (hl : ps.length ≤ 1048576) :
    Calls Tryz.prog 30 #[.pointer (some ⟨r, 0, none⟩), .agg s.cells.toArray] w fun e w' =>
      (R.drains = true ∧ e = .returned (.tuple #[.int .i64 0, .int .i64 200]) ∧ New w w') ∨
      (R.drains = false ∧ 8 ≤ ps.length ∧ e = .returned (.tuple #[.int .i64 0, .int .i64 2]) ∧ New w w') ∨
      (R.drains = false ∧ ps.length < 8 ∧ (∃ p ∈ ps, p.ch = s.ch) ∧ e = .returned (.tuple #[.int .i64 0, .int .i64 4]) ∧ New w w') ∨
      (R.drains = false ∧ ps.length < 8 ∧ (∀ p ∈ ps, p.ch ≠ s.ch) ∧ ¬ s.may ∧ e = .returned (.tuple #[.int .i64 0, .int .i64 1]) ∧ New w w') ∨
      (R.drains = false ∧ ps.length < 8 ∧ (∀ p ∈ ps, p.ch ≠ s.ch) ∧ s.may ∧ e = .returned (.tuple #[.int .i64 ps.length, .int .i64 0]) ∧
        ∃ v g l, NewL w' w.heap.size g s l ∧ RelI w' r { R with peers := v } (ps ++ [⟨s.ch, g, l, .new s⟩]) ∧ Upd (fun k => k = r ∨ R.peers.ownBlock = some k) w w') := by
  have c1 : w.cell? ⟨r, 1, none⟩ = some R.peers := blk_cell h.at_ 1
  have c6 : w.cell? ⟨r, 6, none⟩ = some (.bool R.drains) := blk_cell h.at_ 6
  obtain ⟨a, cap, hsh⟩ := h.shape
  rw [hsh] at c1
  have hll : (ps.length : Int) ≤ 1048576 := by omega
  go_enter Tryz.func30, Tryz.ntmps30
  go_upto_region 1 with fail
  have hb : SetR (w.alloc (.cells s.cells.toArray 34)) w.heap.size s := blk_alloc _ _
  have n0 : New w (w.alloc (.cells s.cells.toArray 34)) := (Upd.refl _ _).alloc _
  generalize w.alloc (.cells s.cells.toArray 34) = w1 at hb n0 ⊢
  have hrow := hb.row hs.seed
  have d0 : w1.cell? ⟨w.heap.size, 0, none⟩ = some (.int .u32 s.ch) := hb.cell 0
  replace c1 := n0.cell c1 (fun h => h)
  replace c6 := n0.cell c6 (fun h => h)
  replace h := h.new n0
  cases hd : R.drains with
  | true =>
    rw [hd] at c6
    clear h
    go_wp2_with fail
    go_ret2
    exact .inl ⟨hd, rfl, n0⟩
  | false =>
  rw [hd] at c6
  by_cases h8 : 8 ≤ ps.length
  · have h8' : 8 ≤ (ps.length : Int) := by omega
    clear h
    go_wp2_with fail
    go_ret2
    exact .inr (.inl ⟨hd, h8, rfl, n0⟩)
  have h8' : ¬ 8 ≤ (ps.length : Int) := by omega
  have H := hide h
  go_wp2_with fail
  refine (byChan_any r R ps w1 h s.ch hl).mono ?_
  rintro e w2 ⟨⟨p, hp, hpc, rfl⟩ | ⟨hne, rfl⟩, n2⟩
  · replace n2 := n0.trans n2
    have HP := hide hp
    have HC := hide hpc
    clear hp hpc n0 c1 c6 d0 hrow hb h
    go_wp2_with fail
    go_ret2
    exact .inr (.inr (.inl ⟨hd, by omega, ⟨p, unhide HP, unhide HC⟩, rfl, n2⟩))
  replace hb := hb.new n2
  replace c1 := n2.cell c1 (fun h => h)
  replace d0 := n2.cell d0 (fun h => h)
  replace h := h.new n2
  replace hrow := hb.row hs.seed
  replace n2 := n0.trans n2
  have HNE := hide hne
  clear n0 c6 H hne
  have HB := hide hb
  have H := hide h
  clear h hb
  go_wp2_with fail
  refine (newL_any s hs w2).mono ?_
  rintro e w3 (⟨hm, g, l, rfl, hL, n3⟩ | ⟨hm, rfl, n3⟩)
  case' inr =>
    replace n3 := n2.trans n3
    have HM := hide hm
    clear hm n2 c1 d0 hrow HB
    go_wp2_with fail
    go_ret2
    exact .inr (.inr (.inr (.inl ⟨hd, by omega, unhide HNE, unhide HM, rfl, n3⟩)))
  replace c1 := n3.cell c1 (fun h => h)
  replace d0 := n3.cell d0 (fun h => h)
  have h := (unhide H).new n3
  have hz := n2.size
  replace n3 := n2.trans n3
  have hr := blk_lt h.at_
  have HM := hide hm
  clear H hm n2 hrow HB
  obtain ⟨i9, z9, hi, hz9, hz0, hz1, hz2⟩ := peer_info
  have e1 := blk_free h.at_ 1
  have hown := h.row
  rw [hsh] at hown
  have hap : ∀ k, (Value.slice a ps.length cap).ownBlock = some k → k ≠ r ∧ k ≠ g ∧ k ≠ l.sp ∧ k ≠ l.en ∧ k ≠ l.lo ∧ ∀ p ∈ ps, k ≠ p.lk ∧ k ≠ p.l.en := by
    intro k hk
    obtain ⟨cur, hc⟩ := own_blk hown k hk
    exact ⟨apart_ty hc h.at_ (by decide), apart_ty hc hL.lk (by decide), apart_ty hc hL.sp (by decide), apart_ty hc hL.ch.at_ (by decide), apart_ty hc hL.jo (by decide), fun p hp => ⟨apart_ty hc (h.links p hp).1 (by decide), apart_ty hc (h.links p hp).2.at_ (by decide)⟩⟩
  have HAP := hide hap
  have HO := hide hown
  have HH := hide h
  clear h hown hap
  go_wp2_with fail
  go_region_law
    ((refine step_append_lies _ (by rfl) _ _ _ (by rfl) R.bs 116 i9 _ 2 16 Tryz.underlying109 hi hz9 hz0 hz1 hz2 (by decide) (.slice a ps.length cap) ps.length (ps.flatMap PeerV.cells) (by rfl) (row_upd (unhide HO) (((Upd.refl (fun _ => False) w3).alloc _).drew) (fun _ _ h => h))
          ⟨w3.heap.size, 0, none⟩ 1 1 [.int .u32 s.ch, .pointer (some ⟨g, 0, none⟩)] (by rfl) (by rfl) (World.news_of_block (cs := #[.int .u32 s.ch, .pointer (some ⟨g, 0, none⟩)]) (t := 116) (fr := (0, 0)) (heap_alloc_new w3 _)) (by simp [Value.oneCell'])
          (by decide) (by unfold maxLen; omega) (by omega) (by simp; have := (unhide HH).bsle; omega) (w3.heap.size + 1) (by simp) ?_; intro gg cap2 w4 hown1 hgrow hat hlt3
      have k3 := (hgrow.block r (by simp; omega) (fun e => ((unhide HAP) r e.symm).1 rfl)).trans (blk_alloc_old (unhide HH).at_ _)
      have q1 := blk_cell k3 1
      have q2 := blk_free k3 1
      simp [RelV.cells] at q1))
  all_goals
    have k5 := blk_set k3 1 (.slice (some ⟨gg, 0, none⟩) (ps.length + 1) cap2)
    have u4 : Upd (fun k => (Value.slice a ps.length cap).ownBlock = some k) w3 w4 := (((Upd.refl _ w3).alloc _).drew).grown hgrow (fun k e _ => e)
    have u5 : Upd (fun k => k = r) w4 (w4.setCell ⟨r, 1, none⟩ (.slice (some ⟨gg, 0, none⟩) (ps.length + 1) cap2)) := (Upd.refl _ _).set1 _ _
    have hgr : gg ≠ r := by
      obtain ⟨cur, hc⟩ := own_blk hown1 gg rfl
      exact apart_ty hc k3 (by decide)
    have hown5 := row_upd hown1 u5 (fun k hk => by simp [Value.ownBlock] at hk; omega)
    have HN := hide hown5
    clear hown1 hown5 hgrow hat k3 q1 q2 c1 d0
    generalize w4.setCell ⟨r, 1, none⟩ (.slice (some ⟨gg, 0, none⟩) (ps.length + 1) cap2) = w5 at *
    have d1 := blk_cell k5 1
    simp [RelV.cells] at d1
    go_wp2_with fail
    go_ret2
    have h := unhide HH
    have hap := unhide HAP
    have u : Upd (fun k => k = r ∨ R.peers.ownBlock = some k) w3 w5 := (u4.mono (fun k _ hk => Or.inr (by rw [hsh]; exact hk))).trans (u5.mono (fun k _ hk => Or.inl hk))
    have hgl : ¬ (g = r ∨ R.peers.ownBlock = some g) := by
      rw [hsh]
      rintro (e | e)
      · exact apart_ty hL.lk h.at_ (by decide) e
      · exact (hap g e).2.1 rfl
    have hsl : ¬ (l.sp = r ∨ R.peers.ownBlock = some l.sp) := by
      rw [hsh]
      rintro (e | e)
      · exact apart_ty hL.sp h.at_ (by decide) e
      · exact (hap _ e).2.2.1 rfl
    have hel : ¬ (l.en = r ∨ R.peers.ownBlock = some l.en) := by
      rw [hsh]
      rintro (e | e)
      · exact apart_ty hL.ch.at_ h.at_ (by decide) e
      · exact (hap _ e).2.2.2.1 rfl
    have hjl : ¬ (l.lo = r ∨ R.peers.ownBlock = some l.lo) := by
      rw [hsh]
      rintro (e | e)
      · exact apart_ty hL.jo h.at_ (by decide) e
      · exact (hap _ e).2.2.2.2.1 rfl
    have hL5 : NewL w5 w.heap.size g s l := hL.upd u hz ⟨hgl, hsl, hel, hjl⟩
    refine .inr (.inr (.inr (.inr ⟨hd, by omega, unhide HNE, unhide HM, ?_, .slice (some ⟨gg, 0, none⟩) (ps.length + 1) cap2, g, l, hL5, ⟨?_, ?_, ?_, Nat.le_trans h.bsle u.size⟩, (n3.mono (fun _ _ h => h.elim)).trans u⟩)))
    · rfl
    · exact k5
    · have := unhide HN
      rw [List.flatMap_append, List.length_append]
      exact this
    · intro p hp
      rcases List.mem_append.1 hp with hp | hp
      · have hk := h.links p hp
        refine ⟨u.old hk.1 ?_, hk.2.upd u ?_⟩
        · rw [hsh]
          rintro (e | e)
          · exact apart_ty hk.1 h.at_ (by decide) e
          · exact ((hap _ e).2.2.2.2.2 p hp).1 rfl
        · rw [hsh]
          rintro (e | e)
          · exact apart_ty hk.2.at_ h.at_ (by decide) e
          · exact ((hap _ e).2.2.2.2.2 p hp).2 rfl
      · obtain rfl := List.mem_singleton.1 hp
        exact ⟨hL5.lk, hL5.ch⟩

end Go.Proofs.YtainkaojnhfldaaGreatDoor
