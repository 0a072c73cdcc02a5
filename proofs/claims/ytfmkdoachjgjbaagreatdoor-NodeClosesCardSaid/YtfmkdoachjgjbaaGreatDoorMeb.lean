/-
  relay.Add.
-/
import Derived.Test.YtfmkdoachjgjbaaGreatDoorMea
import Derived.Deep.AppendLies
import Derived.Test.YtfmkdoachjgjbaaGreatDoorTxt
import Derived.Test.YtfmkdoachjgjbaaGreatDoorMai
import Derived.Deep.Onto
set_option linter.unusedVariables false
set_option linter.unusedSimpArgs false
namespace Go.Proofs.YtfmkdoachjgjbaaGreatDoor
open Go.RowKit

theorem row_upd {S : Nat → Prop} {w w' : World} {base : Nat} {e : TypeId} {size : Nat} {v : Value} {n : Nat} {xs : List Value} (h : w.ownsRow base e size v n xs) (u : Upd S w w') (hS : ∀ k, v.ownBlock = some k → ¬ S k) : w'.ownsRow base e size v n xs := by
  refine ⟨h.1, ?_⟩
  rcases h.2 with h | ⟨g, cap, cur, e1, e2, hg, r⟩
  · exact .inl h
  · exact .inr ⟨g, cap, cur, e1, e2, u.old hg (hS g (by rw [e1]; rfl)), r⟩
theorem own_blk {w : World} {base : Nat} {e : TypeId} {size : Nat} {v : Value} {n : Nat} {xs : List Value} (h : w.ownsRow base e size v n xs) : ∀ k, v.ownBlock = some k → ∃ cur, w.heap[k]? = some (.cells cur e (0, 0)) := by
  intro k hk
  rcases h.2 with ⟨rfl, _⟩ | ⟨g, cap, cur, rfl, e2, hg, _⟩
  · simp [Value.ownBlock] at hk
  · simp [Value.ownBlock] at hk
    exact ⟨cur, hk ▸ hg⟩
/-- Blocks of other types are apart. -/
theorem apart_ty {w : World} {k j : Nat} {c d : Array Value} {T U : TypeId} {x y : Nat × Nat} (h : w.heap[k]? = some (.cells c T x)) (g : w.heap[j]? = some (.cells d U y)) (n : T ≠ U) : k ≠ j := by
  rintro rfl
  rw [h] at g
  injection g with g
  injection g with _ g
  exact n g
theorem RelI.upd {S : Nat → Prop} {w w' : World} {r : Nat} {R : RelV} {ps : List PeerV} (h : RelI w r R ps) (u : Upd S w w') (hr : ¬ S r) (hb : ∀ k, R.peers.ownBlock = some k → ¬ S k) (hl : ∀ p ∈ ps, ¬ S p.lk ∧ ¬ S p.l.en) : RelI w' r R ps := by
  refine ⟨u.old h.at_ hr, row_upd h.row u hb, fun p hp => ⟨u.old (h.links p hp).1 (hl p hp).1, (h.links p hp).2.upd u (hl p hp).2⟩, Nat.le_trans h.bsle u.size⟩
theorem RelI.new {w w' : World} {r : Nat} {R : RelV} {ps : List PeerV} (h : RelI w r R ps) (u : New w w') : RelI w' r R ps := h.upd u (fun h => h) (fun _ _ h => h) (fun _ _ => ⟨fun h => h, fun h => h⟩)
theorem RelI.own {w : World} {r : Nat} {R : RelV} {ps : List PeerV} (h : RelI w r R ps) {k : Nat} (hk : R.peers.ownBlock = some k) : R.bs ≤ k := by
  rcases h.row.2 with ⟨e, _⟩ | ⟨g, cap, cur, e, hb, _⟩
  · rw [e] at hk; simp [Value.ownBlock] at hk
  · rw [e] at hk; simp [Value.ownBlock] at hk; omega
theorem NewL.upd {S : Nat → Prop} {w w' : World} {B A g : Nat} {s : SetupV} {l : LinkV} (h : NewL w B g s l) (u : Upd S w w') (hA : A ≤ B) (n : ¬ S g ∧ ¬ S l.sp ∧ ¬ S l.en ∧ ¬ S l.lo) : NewL w' A g s l :=
  ⟨h.isNew, u.old h.lk n.1, u.old h.sp n.2.1, h.ch.upd u n.2.2.1, u.old h.jo n.2.2.2, ⟨by have := h.ge.1; omega, by have := h.ge.2.1; omega, by have := h.ge.2.2.1; omega, by have := h.ge.2.2.2; omega⟩, h.ne⟩
theorem NewL.new {w w' : World} {B g : Nat} {s : SetupV} {l : LinkV} (h : NewL w B g s l) (u : New w w') : NewL w' B g s l := 
  ⟨h.isNew, u.old h.lk (fun h => h), u.old h.sp (fun h => h), h.ch.new u, u.old h.jo (fun h => h), h.ge, h.ne⟩

theorem Tryz.infoPeer : ((Tryz.prog.info? 159).map fun i => (i.size, i.bytes, i.zero.map fun z => z.cells.toList)) = some (2, 16, some [.int .u32 0, .pointer none]) := by kernel_rfl
theorem peer_info : ∃ i z, Tryz.prog.info? 159 = some i ∧ i.zero = some z ∧ i.size = 2 ∧ i.bytes = 16 ∧ z.cells.size = 2 := by
  have h := Tryz.infoPeer
  cases hi : Tryz.prog.info? 159 with
  | none => rw [hi] at h; simp at h
  | some i =>
    rw [hi, Option.map_some, Option.some.injEq, Prod.mk.injEq, Prod.mk.injEq] at h
    cases hz : i.zero with
    | none => rw [hz] at h; simp at h
    | some z =>
      rw [hz, Option.map_some, Option.some.injEq] at h
      refine ⟨i, z, rfl, hz, h.1, h.2.1, ?_⟩
      rw [← Array.length_toList, h.2.2]
      rfl
attribute [local go_sem ↓ high] ld_setup_fold
attribute [local go_sem] ld_setup
set_option maxRecDepth 100000 in
set_option maxHeartbeats 4000000 in
theorem add_any (r : Nat) (R : RelV) (ps : List PeerV) (s : SetupV) (hs : s.Ok) (w : World) (h : RelI w r R ps) (hl : ps.length ≤ 1048576) :
    Calls Tryz.prog 78 #[.pointer (some ⟨r, 0, none⟩), .agg s.cells.toArray] w fun e w' =>
      (R.drains = true ∧ e = .returned (.tuple #[.int .i64 0, .int .i64 200]) ∧ New w w') ∨
      (R.drains = false ∧ 8 ≤ ps.length ∧ e = .returned (.tuple #[.int .i64 0, .int .i64 2]) ∧ New w w') ∨
      (R.drains = false ∧ ps.length < 8 ∧ (∃ p ∈ ps, p.ch = s.ch) ∧ e = .returned (.tuple #[.int .i64 0, .int .i64 4]) ∧ New w w') ∨
      (R.drains = false ∧ ps.length < 8 ∧ (∀ p ∈ ps, p.ch ≠ s.ch) ∧ ¬ s.may ∧ e = .returned (.tuple #[.int .i64 0, .int .i64 1]) ∧ New w w') ∨
      (R.drains = false ∧ ps.length < 8 ∧ (∀ p ∈ ps, p.ch ≠ s.ch) ∧ s.may ∧ e = .returned (.tuple #[.int .i64 ps.length, .int .i64 0]) ∧
        ∃ v g l, NewL w' w.heap.size g s l ∧ RelI w' r { R with peers := v } (ps ++ [⟨s.ch, g, l, .new s⟩]) ∧ Upd (fun k => k = r ∨ R.peers.ownBlock = some k) w w') := by
  have c1 : w.cell? ⟨r, 1, none⟩ = some R.peers := blk_cell h.at_ 1
  have c6 : w.cell? ⟨r, 6, none⟩ = some (.bool R.drains) := blk_cell h.at_ 6
  obtain ⟨a, cap, hsh⟩ := h.shape
  rw [hsh] at c1
  have hll : (ps.length : Int) ≤ 1048576 := by omega
  go_enter Tryz.func78, Tryz.ntmps78
  go_upto_region 1 with fail
  have hb : SetR (w.alloc (.cells s.cells.toArray 78)) w.heap.size s := blk_alloc _ _
  have n0 : New w (w.alloc (.cells s.cells.toArray 78)) := (Upd.refl _ _).alloc _
  generalize w.alloc (.cells s.cells.toArray 78) = w1 at hb n0 ⊢
  have hrow := hb.row hs.seed
  have d0 : w1.cell? ⟨w.heap.size, 0, none⟩ = some (.int .u32 s.ch) := hb.cell 0
  replace c1 := n0.cell c1 (fun h => h)
  replace c6 := n0.cell c6 (fun h => h)
  replace h := h.new n0
  cases hd : R.drains with
  | true =>
    rw [hd] at c6
    clear h
    go_wp2_with fail
    go_ret2
    exact .inl ⟨hd, rfl, n0⟩
  | false =>
  rw [hd] at c6
  by_cases h8 : 8 ≤ ps.length
  · have h8' : 8 ≤ (ps.length : Int) := by omega
    clear h
    go_wp2_with fail
    go_ret2
    exact .inr (.inl ⟨hd, h8, rfl, n0⟩)
  have h8' : ¬ 8 ≤ (ps.length : Int) := by omega
  have H := hide h
  go_wp2_with fail
  refine (byChan_any r R ps w1 h s.ch hl).mono ?_
  rintro e w2 ⟨⟨p, hp, hpc, rfl⟩ | ⟨hne, rfl⟩, n2⟩
  · replace n2 := n0.trans n2
    have HP := hide hp
    have HC := hide hpc
    clear hp hpc n0 c1 c6 d0 hrow hb h
    go_wp2_with fail
    go_ret2
    exact .inr (.inr (.inl ⟨hd, by omega, ⟨p, unhide HP, unhide HC⟩, rfl, n2⟩))
  replace hb := hb.new n2
  replace c1 := n2.cell c1 (fun h => h)
  replace d0 := n2.cell d0 (fun h => h)
  replace h := h.new n2
  replace hrow := hb.row hs.seed
  replace n2 := n0.trans n2
  have HNE := hide hne
  clear n0 c6 H hne
  have HB := hide hb
  have H := hide h
  clear h hb
  go_wp2_with fail
  refine (newL_any s hs w2).mono ?_
  rintro e w3 (⟨hm, g, l, rfl, hL, n3⟩ | ⟨hm, rfl, n3⟩)
  case' inr =>
    replace n3 := n2.trans n3
    have HM := hide hm
    clear hm n2 c1 d0 hrow HB
    go_wp2_with fail
    go_ret2
    exact .inr (.inr (.inr (.inl ⟨hd, by omega, unhide HNE, unhide HM, rfl, n3⟩)))
  replace c1 := n3.cell c1 (fun h => h)
  replace d0 := n3.cell d0 (fun h => h)
  have h := (unhide H).new n3
  have hz := n2.size
  replace n3 := n2.trans n3
  have hr := blk_lt h.at_
  have HM := hide hm
  clear H hm n2 hrow HB
  obtain ⟨i9, z9, hi, hz9, hz0, hz1, hz2⟩ := peer_info
  have e1 := blk_free h.at_ 1
  have hown := h.row
  rw [hsh] at hown
  have hap : ∀ k, (Value.slice a ps.length cap).ownBlock = some k → k ≠ r ∧ k ≠ g ∧ k ≠ l.sp ∧ k ≠ l.en ∧ k ≠ l.lo ∧ ∀ p ∈ ps, k ≠ p.lk ∧ k ≠ p.l.en := by
    intro k hk
    obtain ⟨cur, hc⟩ := own_blk hown k hk
    exact ⟨apart_ty hc h.at_ (by decide), apart_ty hc hL.lk (by decide), apart_ty hc hL.sp (by decide), apart_ty hc hL.ch.at_ (by decide), apart_ty hc hL.jo (by decide), fun p hp => ⟨apart_ty hc (h.links p hp).1 (by decide), apart_ty hc (h.links p hp).2.at_ (by decide)⟩⟩
  have HAP := hide hap
  have HO := hide hown
  have HH := hide h
  clear h hown hap
  go_wp2_with fail
  go_region_law
    ((refine step_append_lies _ (by rfl) _ _ _ (by rfl) R.bs 159 i9 _ 2 16 Tryz.underlying152 hi hz9 hz0 hz1 hz2 (by decide) (.slice a ps.length cap) ps.length (ps.flatMap PeerV.cells) (by rfl) (row_upd (unhide HO) (((Upd.refl (fun _ => False) w3).alloc _).drew) (fun _ _ h => h))
          ⟨w3.heap.size, 0, none⟩ 1 1 [.int .u32 s.ch, .pointer (some ⟨g, 0, none⟩)] (by rfl) (by rfl) (World.news_of_block (cs := #[.int .u32 s.ch, .pointer (some ⟨g, 0, none⟩)]) (t := 159) (fr := (0, 0)) (heap_alloc_new w3 _)) (by simp [Value.oneCell'])
          (by decide) (by unfold maxLen; omega) (by omega) (by simp; have := (unhide HH).bsle; omega) (w3.heap.size + 1) (by simp) ?_; intro gg cap2 w4 hown1 hgrow hat hlt3
      have k3 := (hgrow.block r (by simp; omega) (fun e => ((unhide HAP) r e.symm).1 rfl)).trans (blk_alloc_old (unhide HH).at_ _)
      have q1 := blk_cell k3 1
      have q2 := blk_free k3 1
      simp [RelV.cells] at q1))
  all_goals
    have k5 := blk_set k3 1 (.slice (some ⟨gg, 0, none⟩) (ps.length + 1) cap2)
    have u4 : Upd (fun k => (Value.slice a ps.length cap).ownBlock = some k) w3 w4 := (((Upd.refl _ w3).alloc _).drew).grown hgrow (fun k e _ => e)
    have u5 : Upd (fun k => k = r) w4 (w4.setCell ⟨r, 1, none⟩ (.slice (some ⟨gg, 0, none⟩) (ps.length + 1) cap2)) := (Upd.refl _ _).set1 _ _
    have hgr : gg ≠ r := by
      obtain ⟨cur, hc⟩ := own_blk hown1 gg rfl
      exact apart_ty hc k3 (by decide)
    have hown5 := row_upd hown1 u5 (fun k hk => by simp [Value.ownBlock] at hk; omega)
    have HN := hide hown5
    clear hown1 hown5 hgrow hat k3 q1 q2 c1 d0
    generalize w4.setCell ⟨r, 1, none⟩ (.slice (some ⟨gg, 0, none⟩) (ps.length + 1) cap2) = w5 at *
    have d1 := blk_cell k5 1
    simp [RelV.cells] at d1
    go_wp2_with fail
    go_ret2
    have h := unhide HH
    have hap := unhide HAP
    have u : Upd (fun k => k = r ∨ R.peers.ownBlock = some k) w3 w5 := (u4.mono (fun k _ hk => Or.inr (by rw [hsh]; exact hk))).trans (u5.mono (fun k _ hk => Or.inl hk))
    have hgl : ¬ (g = r ∨ R.peers.ownBlock = some g) := by
      rw [hsh]
      rintro (e | e)
      · exact apart_ty hL.lk h.at_ (by decide) e
      · exact (hap g e).2.1 rfl
    have hsl : ¬ (l.sp = r ∨ R.peers.ownBlock = some l.sp) := by
      rw [hsh]
      rintro (e | e)
      · exact apart_ty hL.sp h.at_ (by decide) e
      · exact (hap _ e).2.2.1 rfl
    have hel : ¬ (l.en = r ∨ R.peers.ownBlock = some l.en) := by
      rw [hsh]
      rintro (e | e)
      · exact apart_ty hL.ch.at_ h.at_ (by decide) e
      · exact (hap _ e).2.2.2.1 rfl
    have hjl : ¬ (l.lo = r ∨ R.peers.ownBlock = some l.lo) := by
      rw [hsh]
      rintro (e | e)
      · exact apart_ty hL.jo h.at_ (by decide) e
      · exact (hap _ e).2.2.2.2.1 rfl
    have hL5 : NewL w5 w.heap.size g s l := hL.upd u hz ⟨hgl, hsl, hel, hjl⟩
    refine .inr (.inr (.inr (.inr ⟨hd, by omega, unhide HNE, unhide HM, ?_, .slice (some ⟨gg, 0, none⟩) (ps.length + 1) cap2, g, l, hL5, ⟨?_, ?_, ?_, Nat.le_trans h.bsle u.size⟩, (n3.mono (fun _ _ h => h.elim)).trans u⟩)))
    · rfl
    · exact k5
    · have := unhide HN
      rw [List.flatMap_append, List.length_append]
      exact this
    · intro p hp
      rcases List.mem_append.1 hp with hp | hp
      · have hk := h.links p hp
        refine ⟨u.old hk.1 ?_, hk.2.upd u ?_⟩
        · rw [hsh]
          rintro (e | e)
          · exact apart_ty hk.1 h.at_ (by decide) e
          · exact ((hap _ e).2.2.2.2.2 p hp).1 rfl
        · rw [hsh]
          rintro (e | e)
          · exact apart_ty hk.2.at_ h.at_ (by decide) e
          · exact ((hap _ e).2.2.2.2.2 p hp).2 rfl
      · obtain rfl := List.mem_singleton.1 hp
        exact ⟨hL5.lk, hL5.ch⟩

end Go.Proofs.YtfmkdoachjgjbaaGreatDoor
namespace Go.Proofs.YtfmkdoachjgjbaaGreatDoor
open Go.RowKit

set_option maxHeartbeats 1000000 in
theorem sub_any (a b : Int) (ha : 0 ≤ a ∧ a < 18446744073709551616) (hb : 0 ≤ b ∧ b < 18446744073709551616) (w : World) : Calls Tryz.prog 77 #[.int .u64 a, .int .u64 b] w (Reads (.tuple (if a < b then #[.int .u64 0, .int .i64 61] else #[.int .u64 (a - b), .int .i64 0])) w) := by
  go_enter Tryz.func77, Tryz.ntmps77
  obtain ⟨a0, a1⟩ := ha
  obtain ⟨b0, b1⟩ := hb
  by_cases h : a < b
  · rw [if_pos h]
    go_wp2_with fail
    go_ret2
    exact ⟨rfl, Q.refl _⟩
  · have hw : IntKind.u64.wrap (a - b) = a - b := by rw [IntKind.wrap_u64]; omega
    rw [if_neg h]
    go_wp2_with fail
    go_ret2
    exact ⟨rfl, Q.refl _⟩

/-- What Add of a relay tells. -/
noncomputable def addErr (R : RelV) (ps : List PeerV) (s : SetupV) : Int :=
  open Classical in if R.drains = true then 200 else if 8 ≤ ps.length then 2 else if ∃ p ∈ ps, p.ch = s.ch then 4 else if s.may then 0 else 1
noncomputable def addRes (R : RelV) (ps : List PeerV) (s : SetupV) : Int := if addErr R ps s = 0 then ps.length else 0
/-- What Add leaves. -/
def Added (w w' : World) (r : Nat) (R : RelV) (ps : List PeerV) (s : SetupV) : Prop :=
  (addErr R ps s ≠ 0 → New w w') ∧ (addErr R ps s = 0 → ∃ v g l, NewL w' w.heap.size g s l ∧ RelI w' r { R with peers := v } (ps ++ [⟨s.ch, g, l, .new s⟩]) ∧ Upd (fun k => k = r ∨ R.peers.ownBlock = some k) w w')
theorem add_fn (r : Nat) (R : RelV) (ps : List PeerV) (s : SetupV) (hs : s.Ok) (w : World) (h : RelI w r R ps) (hl : ps.length ≤ 1048576) :
    Calls Tryz.prog 78 #[.pointer (some ⟨r, 0, none⟩), .agg s.cells.toArray] w fun e w' => e = .returned (.tuple #[.int .i64 (addRes R ps s), .int .i64 (addErr R ps s)]) ∧ Added w w' r R ps s := by
  refine (add_any r R ps s hs w h hl).mono ?_
  unfold Added addRes
  rintro e w' (⟨h1, rfl, n⟩ | ⟨h1, h2, rfl, n⟩ | ⟨h1, h2, h3, rfl, n⟩ | ⟨h1, h2, h3, h4, rfl, n⟩ | ⟨h1, h2, h3, h4, rfl, n⟩)
  · have e : addErr R ps s = 200 := by unfold addErr; rw [if_pos h1]
    rw [e]; exact ⟨rfl, fun _ => n, fun h => absurd h (by decide)⟩
  · have e : addErr R ps s = 2 := by unfold addErr; rw [if_neg (by simp [h1]), if_pos h2]
    rw [e]; exact ⟨rfl, fun _ => n, fun h => absurd h (by decide)⟩
  · have e : addErr R ps s = 4 := by unfold addErr; rw [if_neg (by simp [h1]), if_neg (by omega), if_pos h3]
    rw [e]; exact ⟨rfl, fun _ => n, fun h => absurd h (by decide)⟩
  · have e : addErr R ps s = 1 := by unfold addErr; rw [if_neg (by simp [h1]), if_neg (by omega), if_neg (by rintro ⟨p, hp, he⟩; exact h3 p hp he), if_neg h4]
    rw [e]; exact ⟨rfl, fun _ => n, fun h => absurd h (by decide)⟩
  · have e : addErr R ps s = 0 := by unfold addErr; rw [if_neg (by simp [h1]), if_neg (by omega), if_neg (by rintro ⟨p, hp, he⟩; exact h3 p hp he), if_pos h4]
    rw [e]; exact ⟨rfl, fun h => absurd rfl h, fun _ => n⟩

/-- What Open of a node tells. -/
noncomputable def openErr (N : NodeV) (R : RelV) (ps : List PeerV) (s : SetupV) : Int :=
  if N.drains = true then 200 else if s.cap < s.ours then 1 else if N.funds < s.ours then 61 else addErr R ps s
noncomputable def openRes (N : NodeV) (R : RelV) (ps : List PeerV) (s : SetupV) : Int := if openErr N R ps s = 0 then ps.length else 0
structure NodI (w : World) (g : Nat) (N : NodeV) (R : RelV) (ps : List PeerV) : Prop where
  at_ : NoR w g N
  re : RelI w N.re R ps
theorem NodI.new {w w' : World} {g : Nat} {N : NodeV} {R : RelV} {ps : List PeerV} (h : NodI w g N R ps) (u : New w w') : NodI w' g N R ps := ⟨u.old h.at_ (fun h => h), h.re.new u⟩

attribute [local go_sem ↓ high] ld_setup_fold
attribute [local go_sem] ld_setup rowN_drew
set_option maxRecDepth 100000 in
set_option maxHeartbeats 4000000 in
theorem open_any (g : Nat) (N : NodeV) (R : RelV) (ps : List PeerV) (s : SetupV) (hs : s.Ok) (w : World) (h : NodI w g N R ps) (hl : ps.length ≤ 1048576) (hf : 0 ≤ N.funds ∧ N.funds < 18446744073709551616) :
    Calls Tryz.prog 32 #[.pointer (some ⟨g, 0, none⟩), .agg s.cells.toArray] w fun e w' =>
      e = .returned (.tuple #[.int .i64 (openRes N R ps s), .int .i64 (openErr N R ps s)]) ∧ (openErr N R ps s ≠ 0 → New w w') ∧
      (openErr N R ps s = 0 → ∃ v k l, NewL w' w.heap.size k s l ∧ NodI w' g { N with funds := N.funds - s.ours } { R with peers := v } (ps ++ [⟨s.ch, k, l, .new s⟩]) ∧ Upd (fun k => k = g ∨ k = N.re ∨ R.peers.ownBlock = some k) w w') := by
  have c0 : w.cell? ⟨g, 0, none⟩ = some (.pointer (some ⟨N.re, 0, none⟩)) := blk_cell h.at_ 0
  have c1 : w.cell? ⟨g, 1, none⟩ = some (.int .u64 N.funds) := blk_cell h.at_ 1
  have c2 : w.cell? ⟨g, 2, none⟩ = some (.bool N.drains) := blk_cell h.at_ 2
  go_enter Tryz.func32, Tryz.ntmps32
  go_upto_region 1 with fail
  have hb : SetR (w.alloc (.cells s.cells.toArray 78)) w.heap.size s := blk_alloc _ _
  have n0 : New w (w.alloc (.cells s.cells.toArray 78)) := (Upd.refl _ _).alloc _
  generalize w.alloc (.cells s.cells.toArray 78) = w1 at hb n0 ⊢
  have d1 : w1.cell? ⟨w.heap.size, 1, none⟩ = some (.int .u64 s.cap) := hb.cell 1
  have d2 : w1.cell? ⟨w.heap.size, 2, none⟩ = some (.int .u64 s.ours) := hb.cell 2
  replace c0 := n0.cell c0 (fun h => h)
  replace c1 := n0.cell c1 (fun h => h)
  replace c2 := n0.cell c2 (fun h => h)
  replace h := h.new n0
  have H := hide h
  clear h
  cases hd : N.drains with
  | true =>
    have e : openErr N R ps s = 200 := by unfold openErr; rw [if_pos hd]
    rw [hd] at c2
    have E := hide e
    clear e
    go_wp2_with fail
    go_ret2
    unfold openRes
    rw [unhide E]
    exact ⟨rfl, fun _ => n0, fun h => absurd h (by decide)⟩
  | false =>
  rw [hd] at c2
  by_cases h1 : s.cap < s.ours
  · have e : openErr N R ps s = 1 := by unfold openErr; rw [if_neg (by simp [hd]), if_pos h1]
    have E := hide e
    clear e
    go_wp2_with fail
    go_ret2
    unfold openRes
    rw [unhide E]
    exact ⟨rfl, fun _ => n0, fun h => absurd h (by decide)⟩
  have hsub := sub_any N.funds s.ours hf hs.ours
  by_cases h2 : N.funds < s.ours
  · have e : openErr N R ps s = 61 := by unfold openErr; rw [if_neg (by simp [hd]), if_neg h1, if_pos h2]
    have E := hide e
    clear e
    rw [if_pos h2] at hsub
    go_wp2_with (with_reducible first | (first | refine' tw1 (ido ?_) ?_ | refine' tw2 (ido ?_) ?_); rotate_left | refine' tw3 (ido ?_) | rfl | apply tn | refine' tw4 ?_)
    refine (hsub _).mono ?_
    rintro e w2 ⟨rfl, q2⟩
    go_wp2_with (with_reducible first | (first | refine' tw1 (ido ?_) ?_ | refine' tw2 (ido ?_) ?_); rotate_left | refine' tw3 (ido ?_) | rfl | apply tn | refine' tw4 ?_)
    go_ret2
    unfold openRes
    rw [unhide E]
    exact ⟨rfl, fun _ => n0.trans (q2.ofDrew.upd _), fun h => absurd h (by decide)⟩
  have he : openErr N R ps s = addErr R ps s := by unfold openErr; rw [if_neg (by simp [hd]), if_neg h1, if_neg h2]
  rw [if_neg h2] at hsub
  have HE := hide he
  clear he
  go_wp2_with (with_reducible first | (first | refine' tw1 (ido ?_) ?_ | refine' tw2 (ido ?_) ?_); rotate_left | refine' tw3 (ido ?_) | rfl | apply tn | refine' tw4 ?_)
  refine (hsub _).mono ?_
  rintro e w2 ⟨rfl, q2⟩
  replace n0 := n0.trans (q2.ofDrew.upd _)
  replace d2 := q2.ofDrew.cell d2
  replace c0 := q2.ofDrew.cell c0
  replace c1 := q2.ofDrew.cell c1
  have h := (unhide H).new (q2.ofDrew.upd _)
  have hrow := (hb.new (q2.ofDrew.upd _)).row hs.seed
  clear H q2 hsub
  have H := hide h
  clear hb
  have hadd := add_fn N.re R ps s hs w2.drew (h.re.new (Upd.refl _ _).drew) hl
  clear h
  go_wp2_with (with_reducible first | (first | refine' tw1 (ido ?_) ?_ | refine' tw2 (ido ?_) ?_); rotate_left | refine' tw3 (ido ?_) | rfl | apply tn | refine' tw4 ?_)
  refine hadd.mono ?_
  rintro e w3 ⟨rfl, ha, hb⟩
  by_cases h0 : addErr R ps s = 0
  · obtain ⟨v, k, l, hL, hR, u⟩ := hb h0
    have hE := (unhide HE).trans h0
    have hr : addRes R ps s = ps.length := by unfold addRes; rw [if_pos h0]
    have hz := n0.size
    rw [h0, hr]
    have hat := (unhide H).at_
    have hown := (unhide H).re.row
    have hRe := (unhide H).re
    have hgN : ¬ (g = N.re ∨ R.peers.ownBlock = some g) := by
      rintro (e | e)
      · exact apart_ty hat hRe.at_ (by decide) e
      · obtain ⟨cur, hc⟩ := own_blk hown g e
        exact apart_ty hat hc (by decide) rfl
    have hat3 : NoR w3 g N := u.ofDrew.old hat hgN
    have d1 := blk_cell hat3 1
    have hfr := blk_free hat3 1
    have hst := blk_set hat3 1 (.int .u64 (N.funds - s.ours))
    have u4 : Upd (fun k => k = g) w3 (w3.setCell ⟨g, 1, none⟩ (.int .u64 (N.funds - s.ours))) := (Upd.refl _ _).set1 _ _
    have HL := hide hL
    have HR := hide hR
    have HA := hide hat3
    have HS := hide hst
    clear hL hR hat3 hst hb ha hat hown hRe hadd d2 c0 c1 hrow
    simp [NodeV.cells] at d1
    go_wp2_with (with_reducible first | (first | refine' tw1 (ido ?_) ?_ | refine' tw2 (ido ?_) ?_); rotate_left | refine' tw3 (ido ?_) | rfl | apply tn | refine' tw4 ?_)
    go_ret2
    have hQ : openRes N R ps s = ps.length := by unfold openRes; rw [if_pos hE]
    rw [hQ, hE]
    refine ⟨rfl, fun h => absurd rfl h, fun _ => ⟨v, k, l, ?_, ⟨?_, ?_⟩, ?_⟩⟩
    · refine (unhide HL).upd u4 hz ⟨?_, ?_, ?_, ?_⟩
      · exact apart_ty (unhide HL).lk (unhide HA) (by decide)
      · exact apart_ty (unhide HL).sp (unhide HA) (by decide)
      · exact apart_ty (unhide HL).ch.at_ (unhide HA) (by decide)
      · exact apart_ty (unhide HL).jo (unhide HA) (by decide)
    · exact unhide HS
    · refine (unhide HR).upd u4 ?_ ?_ ?_
      · exact apart_ty (unhide HR).at_ (unhide HA) (by decide)
      · intro k hk
        obtain ⟨cur, hc⟩ := own_blk (unhide HR).row k hk
        exact apart_ty hc (unhide HA) (by decide)
      · intro p hp
        have := (unhide HR).links p hp
        exact ⟨apart_ty this.1 (unhide HA) (by decide), apart_ty this.2.at_ (unhide HA) (by decide)⟩
    · exact (n0.mono (fun _ _ h => h.elim)).trans ((u.ofDrew.mono (fun k _ h => Or.inr h)).trans (u4.mono (fun k _ h => Or.inl h)))
  · have n3 := n0.trans (ha h0).ofDrew
    have hE : openErr N R ps s ≠ 0 := by rw [unhide HE]; exact h0
    have HP := hide hE
    clear ha hb hadd hE
    go_wp2_with (with_reducible first | (first | refine' tw1 (ido ?_) ?_ | refine' tw2 (ido ?_) ?_); rotate_left | refine' tw3 (ido ?_) | rfl | apply tn | refine' tw4 ?_)
    go_ret2
    have e2 : openRes N R ps s = 0 := by unfold openRes; rw [if_neg (unhide HP)]
    rw [e2, unhide HE]
    exact ⟨rfl, fun _ => n3, fun h => absurd h h0⟩

end Go.Proofs.YtfmkdoachjgjbaaGreatDoor
namespace Go.Proofs.YtfmkdoachjgjbaaGreatDoor
open Go.RowKit

set_option maxHeartbeats 1000000 in
theorem many_any (r : Nat) (R : RelV) (ps : List PeerV) (w : World) (h : RelI w r R ps) :
    Calls Tryz.prog 79 #[.pointer (some ⟨r, 0, none⟩)] w (Reads (.int .i64 ps.length) w) := by
  have c1 : w.cell? ⟨r, 1, none⟩ = some R.peers := blk_cell h.at_ 1
  obtain ⟨a, cap, hsh⟩ := h.shape
  rw [hsh] at c1
  clear h
  go_enter Tryz.func79, Tryz.ntmps79
  go_wp2_with fail
  go_ret
  exact ⟨rfl, Q.refl _⟩
set_option maxHeartbeats 1000000 in
theorem link_at (r : Nat) (R : RelV) (ps : List PeerV) (w : World) (h : RelI w r R ps) (hl : ps.length ≤ 1048576) (i : Nat) (p : PeerV) (hp : ps[i]? = some p) :
    Calls Tryz.prog 35 #[.pointer (some ⟨r, 0, none⟩), .int .i64 i] w (Reads (.pointer (some ⟨p.lk, 0, none⟩)) w) := by
  have c1 : w.cell? ⟨r, 1, none⟩ = some R.peers := blk_cell h.at_ 1
  have hlt := (List.getElem?_eq_some_iff.1 hp).1
  have hrow := owns_row PeerV.cells 2 PeerV.len h.row rfl
  rcases hrow with ⟨e, e0⟩ | ⟨g, cap, e, -, -, hcell⟩
  · rw [e0] at hlt; simp at hlt
  rw [e] at c1
  have d1 : w.cell? ⟨g, i * 2 + 1, none⟩ = some (.pointer (some ⟨p.lk, 0, none⟩)) := hcell i 1 p hp (by omega)
  have hi : (i : Int) < (ps.length : Int) := by omega
  have hi' : ¬ (ps.length : Int) ≤ (i : Int) := by omega
  have h0 : ¬ (i : Int) < 0 := by omega
  clear h hcell hp
  go_enter Tryz.func35, Tryz.ntmps35
  go_wp2_with fail
  go_ret
  exact ⟨rfl, Q.refl _⟩
set_option maxHeartbeats 1000000 in
theorem chan_any (g : Nat) (l : LinkV) (w : World) (h : LkR w g l) :
    Calls Tryz.prog 19 #[.pointer (some ⟨g, 0, none⟩)] w (Reads (.pointer (some ⟨l.en, 0, none⟩)) w) := by
  have c1 : w.cell? ⟨g, 1, none⟩ = some (.pointer (some ⟨l.en, 0, none⟩)) := blk_cell h 1
  clear h
  go_enter Tryz.func19, Tryz.ntmps19
  go_wp2_with fail
  go_ret
  exact ⟨rfl, Q.refl _⟩
set_option maxHeartbeats 1000000 in
theorem funds_any (g : Nat) (N : NodeV) (w : World) (h : NoR w g N) :
    Calls Tryz.prog 38 #[.pointer (some ⟨g, 0, none⟩)] w (Reads (.int .u64 N.funds) w) := by
  have c1 : w.cell? ⟨g, 1, none⟩ = some (.int .u64 N.funds) := blk_cell h 1
  clear h
  go_enter Tryz.func38, Tryz.ntmps38
  go_wp2_with fail
  go_ret
  exact ⟨rfl, Q.refl _⟩

/-- A row of amounts. -/
def Amts (w : World) (v : Value) (l : List Int) : Prop := w.ownsRow 0 22 1 v l.length (l.map (Value.int .u64))
def AmtsB (B : Nat) (w : World) (v : Value) (l : List Int) : Prop := w.ownsRow B 22 1 v l.length (l.map (Value.int .u64))
def sumI64 (l : List Int) (a : Int) : Int := l.foldl (fun a x => IntKind.u64.wrap (a + x)) a
set_option maxHeartbeats 1000000 in
theorem nsum_any (v : Value) (l : List Int) (w : World) (h : Amts w v l) (hl : l.length ≤ 1048576) (hx : ∀ x ∈ l, 0 ≤ x ∧ x < 18446744073709551616) :
    Calls Tryz.prog 82 #[v] w (Reads (.int .u64 (sumI64 l 0)) w) := by
  have hshape : ∃ a cap, v = .slice a l.length cap ∧ (∀ i x, l[i]? = some x → ∃ g, a = some ⟨g, 0, none⟩ ∧ w.cell? ⟨g, i, none⟩ = some (.int .u64 x)) := by
    rcases h.2 with ⟨e, e0⟩ | ⟨g, cap, cur, e, -, hg, hc, -, hs, ht⟩
    · have : l = [] := List.length_eq_zero_iff.1 e0
      subst this
      exact ⟨none, 0, e, fun i x h => by simp at h⟩
    · refine ⟨_, cap, e, fun i x hi => ⟨g, rfl, ?_⟩⟩
      have hlt := (List.getElem?_eq_some_iff.1 hi).1
      rw [blk_cell hg, ← Array.getElem?_toList]
      have h1 : (cur.toList.take (l.length * 1))[i]? = (l.map (Value.int .u64))[i]? := by rw [ht]
      rw [List.getElem?_take_of_lt (by omega), List.getElem?_map, hi] at h1
      exact h1
  obtain ⟨a, cap, rfl, hcell⟩ := hshape
  clear h
  have hll : (l.length : Int) ≤ 1048576 := by omega
  go_enter Tryz.func82, Tryz.ntmps82
  go_wp2_with fail
  obtain ⟨wo, rfl⟩ : ∃ wo : World, wo = w := ⟨_, rfl⟩
  go_loopw [3, 8] (fun sv iv wr => ∃ i : Nat, iv = .int .i64 (i : Int) ∧ i ≤ l.length ∧ sv = .int .u64 (sumI64 (l.take i) 0) ∧ wr = wo) (fun _ iv _ => l.length - (intOf iv).toNat)
  case atStart => exact ⟨0, rfl, Nat.zero_le _, rfl, rfl⟩
  case round =>
    obtain ⟨i, rfl, hi, rfl, rfl⟩ := hrel
    by_cases hlt : i < l.length
    · obtain ⟨x, hxx⟩ : ∃ x, l[i]? = some x := ⟨_, List.getElem?_eq_getElem hlt⟩
      obtain ⟨g, rfl, hc⟩ := hcell i x hxx
      have hi0 : (i : Int) < (l.length : Int) := by omega
      have hs : sumI64 (l.take (i + 1)) 0 = IntKind.u64.wrap (sumI64 (l.take i) 0 + x) := by
        rw [List.take_add_one, hxx]
        simp [sumI64]
      have HS := hide hs
      clear hs hcell hxx
      generalize sumI64 (l.take i) 0 = A at *
      go_wp2_with fail
      go_roundw
      case rel => exact ⟨i + 1, by go_num, by omega, by rw [unhide HS, IntKind.wrap_u64], trivial⟩
      case measure => simp [intOf]; omega
    · obtain rfl : i = l.length := by omega
      rw [List.take_length]
      generalize hA : sumI64 l 0 = A
      clear hcell
      go_wp2_with fail
      go_ret
      exact ⟨by rw [hA]; rfl, Q.refl _⟩

def amtOf (ours rest : Bool) (x : Live) : Option Int := if ((x.own || x.paid) && ours) || (!(x.own || x.paid) && rest) then some x.h.amount else none
def amts (ours rest : Bool) (xs : List Live) : List Int := xs.filterMap (amtOf ours rest)
theorem Tryz.infoU64 : (Tryz.prog.info? 22).map (fun i => (i.size, i.bytes, i.zero)) = some (1, 8, some (.int .u64 0)) := by kernel_rfl
theorem u64_info : ∃ i z, Tryz.prog.info? 22 = some i ∧ i.zero = some z ∧ i.size = 1 ∧ i.bytes = 8 ∧ z.cells.size = 1 := by
  have h := Tryz.infoU64
  cases hi : Tryz.prog.info? 22 with
  | none => rw [hi] at h; simp at h
  | some i =>
    rw [hi] at h
    simp only [Option.map_some, Option.some.injEq, Prod.mk.injEq] at h
    exact ⟨i, _, rfl, h.2.2, h.1, h.2.1, rfl⟩
attribute [local go_sem ↓ high] ld_live_fold st_live_fold al_live_fold
attribute [local go_sem] ld_live st_live al_live rowN_drew
set_option maxRecDepth 100000 in
set_option maxHeartbeats 4000000 in
theorem amounts_any (g : Nat) (c : ChanV) (xs : List Live) (ours rest : Bool) (hl : xs.length ≤ 1000000) (w : World) (h : ChI w g c xs) :
    Calls Tryz.prog 83 #[.pointer (some ⟨g, 0, none⟩), .bool ours, .bool rest] w fun e w' => ∃ v, e = .returned v ∧ Amts w' v (amts ours rest xs) ∧ New w w' := by
  go_enter Tryz.func83, Tryz.ntmps83
  go_wp2_with fail
  refine (live_any g c xs (by omega) w h).mono ?_
  rintro e w1 ⟨u, rfl, n1, hu⟩
  have hsh : ∃ (a : Option Addr) (cap : Nat), u = .slice a xs.length cap ∧ ∀ (i : Nat) (x : Live), xs[i]? = some x → ∃ g', a = some ⟨g', 0, none⟩ ∧ HeldO w1 g' 0 xs := by
    rcases hu with ⟨a, k, rfl, rfl⟩ | ⟨g', cap, rfl, -, hh⟩
    · exact ⟨a, k, rfl, fun i x h => by simp at h⟩
    · exact ⟨_, cap, rfl, fun i x h => ⟨g', rfl, hh⟩⟩
  obtain ⟨a, cap, rfl, hcell⟩ := hsh
  clear hu h
  have hll : (xs.length : Int) ≤ 1000000 := by omega
  obtain ⟨i9, z9, hi9, hz9, hz0, hz1, hz2⟩ := u64_info
  obtain ⟨wo, rfl⟩ : ∃ wo : World, wo = w1 := ⟨_, rfl⟩
  go_wp2_with fail
  go_loopw [7, 9, 10, 14] (fun sv _ _ iv wr => ∃ i : Nat, iv = .int .i64 (i : Int) ∧ i ≤ xs.length ∧ AmtsB wo.heap.size wr sv (amts ours rest (xs.take i)) ∧ New w wr ∧ New wo wr) (fun _ _ _ iv _ => xs.length - (intOf iv).toNat)
  case atStart => exact ⟨0, rfl, Nat.zero_le _, ⟨rfl, .inl ⟨rfl, rfl⟩⟩, n1, Upd.refl _ _⟩
  case round =>
    obtain ⟨i, rfl, hi, hA, nr, nwr⟩ := hrel
    obtain ⟨wq, rfl⟩ : ∃ wq : World, wq = wr := ⟨_, rfl⟩
    by_cases hlt : i < xs.length
    · obtain ⟨x, hxx⟩ : ∃ x, xs[i]? = some x := ⟨_, List.getElem?_eq_getElem hlt⟩
      obtain ⟨g', rfl, hh⟩ := hcell i x hxx
      have hrow := (hh.upd nwr (fun h => h)).row hxx
      rw [Nat.zero_add] at hrow
      have hi0 : (i : Int) < (xs.length : Int) := by omega
      have hst := stOk_live wq x
      have hlaid := laid_live wq x
      have hlx : (amts ours rest (xs.take (i + 1))) = amts ours rest (xs.take i) ++ (match amtOf ours rest x with | some a => [a] | none => []) := by
        rw [List.take_add_one, hxx]
        unfold amts
        rw [List.filterMap_append]
        cases hax : amtOf ours rest x <;> simp [hax]
      have HL := hide hlx
      have HA := hide hA
      clear hlx hxx hh hcell hA
      go_upto_region 5 with fail
      obtain ⟨hb, nb⟩ := hlaid
      generalize (wq.alloc (.cells (liveCells Live.zero).toArray 69)).setCells wq.heap.size 0 (liveCells x) = wb at hb nb ⊢
      have d35 : wb.cell? ⟨wq.heap.size, 35, none⟩ = some (.bool x.own) := by rw [blk_cell hb, List.getElem?_toArray]; exact live_35 x
      have d37 : wb.cell? ⟨wq.heap.size, 37, none⟩ = some (.bool x.paid) := by rw [blk_cell hb, List.getElem?_toArray]; exact live_37 x
      have d1 : wb.cell? ⟨wq.heap.size, 1, none⟩ = some (.int .u64 x.h.amount) := by rw [blk_cell hb, List.getElem?_toArray]; exact live_1 x
      have hown : wb.ownsRow wo.heap.size 22 1 u7 (amts ours rest (xs.take i)).length ((amts ours rest (xs.take i)).map (Value.int .u64)) := owns_new (unhide HA) nb
      have hle : (amts ours rest (xs.take i)).length ≤ 1000000 := by
        have := List.length_filterMap_le (amtOf ours rest) (xs.take i)
        rw [List.length_take] at this
        unfold amts
        omega
      replace nr := nr.trans nb
      replace nwr := nwr.trans nb
      have HO := hide hown
      have HLE := hide hle
      clear hst hrow hb nb HA hown hle
      cases ho : x.own <;> cases hp : x.paid <;> cases ours <;> cases rest
      all_goals
        have hax := HL
        unfold amtOf at hax
        rw [ho, hp] at hax
        rw [ho] at d35
        rw [hp] at d37
        simp only [Bool.or_true, Bool.or_false, Bool.true_and, Bool.false_and, Bool.and_true, Bool.and_false, Bool.not_true, Bool.not_false, Bool.false_eq_true, if_true, if_false, List.append_nil] at hax
        go_wp2_with (at_builtin; refine wpList_append_own _ rfl (.tmp 35) (.tmp 39) 92 rfl wo.heap.size 22 i9 _ 1 8 Tryz.underlying92 hi9 hz9 hz0 hz1 hz2 (by decide) _ _ _ rfl ((unhide HO).alloc _) ⟨wb.heap.size, 0, none⟩ 1 1 [.int .u64 x.h.amount] rfl rfl ?c1 ?c2 ?c3 ?c4 ?c5 ?_)
        first
        | (go_roundw
           case rel =>
             refine ⟨i + 1, by go_num, by omega, ?_, nr, nwr⟩
             rw [unhide hax]
             exact unhide HO
           case measure => simp [intOf]; omega)
        | (case c1 => exact cell_one_new _ _ _
           case c2 => intro u hu; simp at hu; subst hu; rfl
           case c3 => have := unhide HLE; unfold maxLen; omega
           case c4 => have := unhide HLE; omega
           case c5 => have := nwr.size; simp; omega
           intro v' w' hown' hg _
           have hge : ∀ k, Value.ownBlock u7 = some k → wo.heap.size ≤ k := by
             intro k hk
             rcases (unhide HO).2 with ⟨rfl, _⟩ | ⟨g, _, _, rfl, hb, _⟩
             · simp [Value.ownBlock] at hk
             · simp [Value.ownBlock] at hk
               omega
           have nw : New wo w' := (nwr.alloc _).grown hg (fun k hk hlt => by have := hge k hk; omega)
           have nww : New w w' := n1.then nw (fun _ _ h => h)
           have HO2 := hide hown'
           clear hown' hg
           go_wp2_with fail
           go_roundw
           case rel =>
             refine ⟨i + 1, by go_num, by omega, ?_, nww, nw⟩
             rw [unhide hax]
             unfold AmtsB
             rw [List.length_append, List.map_append]
             exact unhide HO2
           case measure => simp [intOf]; omega)
    · obtain rfl : i = xs.length := by omega
      rw [List.take_length] at hA
      have HA := hide hA
      clear hA hcell
      go_wp2_with fail
      go_ret
      exact ⟨_, rfl, (unhide HA).mono (Nat.zero_le _), nr⟩

end Go.Proofs.YtfmkdoachjgjbaaGreatDoor
