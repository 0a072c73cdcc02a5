/-
  The laws' own its: a view as the reference's.
-/
import Derived.Test.YtbcjhpeighlncaaDoorRf2
import Derived.Deep.RegionLaw
import Derived.Deep.RegionHeld3
import Derived.Deep.AppendLies
import Derived.Deep.DrawnRows
namespace Go.Proofs.YtbcjhpeighlncaaDoor
set_option linter.unusedVariables false
set_option linter.unusedSimpArgs false
open Go.RowKit Go.Sort

/-- From off on, block g holds the items X; to be read. -/
def HeldR (w : World) (g off : Nat) (X : List Item) : Prop :=
  ∃ C T fz, w.heap[g]? = some (.cells C T fz) ∧ off + X.length * 36 ≤ C.size ∧ ∀ i x, X[i]? = some x → ∀ j, j < 36 → C[off + i * 36 + j]? = (itemCells x)[j]?
theorem HeldR.row {w : World} {g off : Nat} {xs : List Item} (h : HeldR w g off xs) {i : Nat} {x : Item} (hi : xs[i]? = some x) : rowN w g (off + i * 36) 36 = some (itemCells x).toArray := by
  obtain ⟨C, T, fz, hb, hs, hc⟩ := h
  have hlt : i < xs.length := (List.getElem?_eq_some_iff.1 hi).1
  have hle : off + i * 36 + 36 ≤ C.size := by have := Nat.mul_le_mul_right 36 (show i + 1 ≤ xs.length from hlt); omega
  rw [rowN_blk hb _ _ hle]
  congr 1
  apply Array.ext'
  apply List.ext_getElem?
  intro j
  rw [Array.getElem?_toList, Array.getElem?_extract]
  by_cases hj : j < 36
  · rw [if_pos (by omega), hc i x hi j hj]
  · rw [if_neg (by omega), List.getElem?_eq_none (by rw [item_len]; omega)]
theorem HeldR.upd {S : Nat → Prop} {w w' : World} {b off : Nat} {xs : List Item} (h : HeldR w b off xs) (u : Upd S w w') (hn : ¬ S b) : HeldR w' b off xs := by
  obtain ⟨C, T, fz, hb, r⟩ := h
  exact ⟨C, T, fz, u.old hb hn, r⟩
theorem HeldR.lt {w : World} {g off : Nat} {xs : List Item} (h : HeldR w g off xs) : g < w.heap.size := by
  obtain ⟨C, T, fz, hb, r⟩ := h
  exact blk_lt hb
theorem Held.toR {w : World} {g off : Nat} {xs : List Item} (h : Held w g off xs) : HeldR w g off xs := by
  obtain ⟨C, T, hb, hs, hc⟩ := h
  refine ⟨C, T, _, hb, hs, fun i x hx j hj => ?_⟩
  rw [hc i (List.getElem?_eq_some_iff.1 hx).1 j hj, get!_of hx]
/-- What a slice of items holds; to be read. -/
def ItemsR (w : World) (v : Value) (X : List Item) : Prop := (∃ a c, v = .slice a 0 c ∧ X = []) ∨ ∃ g off cap, v = .slice (some ⟨g, off, none⟩) X.length cap ∧ HeldR w g off X
theorem ItemsR.new {w w' : World} {v : Value} {X : List Item} (h : ItemsR w v X) (u : New w w') : ItemsR w' v X := by
  rcases h with h | ⟨g, off, cap, e, h⟩
  · exact .inl h
  · exact .inr ⟨g, off, cap, e, h.upd u (fun h => h)⟩
theorem Items.toR {w : World} {v : Value} {X : List Item} (h : Items w v X) : ItemsR w v X := by
  rcases h with h | ⟨g, cap, e, h⟩
  · exact .inl h
  · exact .inr ⟨g, 0, cap, e, h.toR⟩
theorem ItemsR.slice {w : World} {v : Value} {X : List Item} (h : ItemsR w v X) : ∃ a c, v = .slice a X.length c := by
  rcases h with ⟨_, _, rfl, rfl⟩ | ⟨g, off, cap, rfl, _⟩
  · exact ⟨_, _, rfl⟩
  · exact ⟨_, _, rfl⟩

theorem own_ge {w : World} {base : Nat} {e : TypeId} {size : Nat} {v : Value} {n : Nat} {xs : List Value} (h : w.ownsRow base e size v n xs) : ∀ k, v.ownBlock = some k → base ≤ k := by
  intro k hk
  rcases h.2 with ⟨rfl, _⟩ | ⟨g, cap, cur, rfl, e2, _⟩
  · simp [Value.ownBlock] at hk
  · simp [Value.ownBlock] at hk; omega
attribute [local go_sem ↓ high] ld_item_fold bs_item_foldR
theorem rowN_drew (w : World) (b o n : Nat) : rowN w.drew b o n = rowN w b o n := rfl
attribute [local go_sem] ld_item bs_itemR rowN_drew
attribute [local go_sem ↓] Go.wp_at_zero Go.wp_at_succ

theorem Tryd.infoViewR : (Tryd.prog.info? 36).map (·.size) = some 3 := by kernel_rfl

set_option maxRecDepth 100000 in
set_option maxHeartbeats 4000000 in
theorem its_any (o t : Int) (u : Value) (X : List Item) (hl : X.length ≤ 1048576) (w : World) (hu : ItemsR w u X) :
    Calls Tryd.prog 11 #[.agg #[.int .u64 o, .int .u64 t, u]] w fun e w' => ∃ u', e = .returned (.agg #[.int .u64 o, .int .u64 t, u']) ∧ New w w' ∧ ItemsR w' u' X := by
  obtain ⟨ua, uc, rfl⟩ := hu.slice
  obtain ⟨i9, z9, hi, hz, hz0, hz1, hz2⟩ := item_infoR
  go_enter Tryd.func11, Tryd.ntmps11
  go_upto_region 2 with fail
  obtain ⟨wA, hwA⟩ : ∃ wA : World, wA = (((w.alloc (.cells #[.int .u64 o, .int .u64 t, .slice ua X.length uc] 40)).alloc (.cells #[.int .u64 0, .int .u64 0, .slice none 0 0] 36)).alloc (.cells #[.int .u64 o, .int .u64 t, .slice none 0 0] 36)) := ⟨_, rfl⟩
  have sA : wA.heap.size = w.heap.size + 3 := by rw [hwA]; simp
  have nA : New w wA := by rw [hwA]; exact (((Upd.refl _ _).alloc _).alloc _).alloc _
  have vA : wA.heap[w.heap.size]? = some (.cells #[.int .u64 o, .int .u64 t, .slice ua X.length uc] 40 (0, 0)) := by rw [hwA]; exact blk_alloc_old (blk_alloc_old (blk_alloc _ _) _) _
  have vB : wA.heap[w.heap.size + 1]? = some (.cells #[.int .u64 0, .int .u64 0, .slice none 0 0] 36 (0, 0)) := by
    rw [hwA]
    have := blk_alloc (w.alloc (.cells #[.int .u64 o, .int .u64 t, .slice ua X.length uc] 40)) (.cells #[.int .u64 0, .int .u64 0, .slice none 0 0] 36)
    rw [World.size_alloc] at this
    exact blk_alloc_old this _
  have vK : wA.heap[w.heap.size + 1 + 1]? = some (.cells #[.int .u64 o, .int .u64 t, .slice none 0 0] 36 (0, 0)) := by
    rw [hwA]
    have := blk_alloc ((w.alloc (.cells #[.int .u64 o, .int .u64 t, .slice ua X.length uc] 40)).alloc (.cells #[.int .u64 0, .int .u64 0, .slice none 0 0] 36)) (.cells #[.int .u64 o, .int .u64 t, .slice none 0 0] 36)
    simpa using this
  rw [← hwA]
  clear hwA
  have HU := hide hu
  clear hu
  obtain ⟨wo, rfl⟩ : ∃ wo : World, wo = wA := ⟨_, rfl⟩
  go_wp2_with fail
  go_loopw [4] (fun iv wr => ∃ (n : Nat) (sa : Option Addr) (sc : Nat), iv = .int .i64 (n : Int) ∧ n ≤ X.length ∧ Hid (wr.ownsRow (w.heap.size + 3) 67 36 (.slice sa n sc) n ((X.take n).flatMap itemCells)) ∧
    wr.heap[w.heap.size + 1 + 1]? = some (.cells #[.int .u64 o, .int .u64 t, .slice sa n sc] 36 (0, 0)) ∧ Upd (fun k => k = w.heap.size + 1 + 1) wo wr) (fun iv _ => X.length - (intOf iv).toNat)
  case atStart => exact ⟨0, none, 0, rfl, Nat.zero_le _, hide (by rw [List.take_zero]; exact World.ownsRow_nil _ _ _ _), vK, Upd.refl _ _⟩
  case round =>
    obtain ⟨n, sa, sc, rfl, hn, HO, k2, nr⟩ := hrel
    have a2 := nr.old vA (by omega)
    have c2 := blk_cell a2 2
    have d2 := blk_cell k2 2
    have z2 := blk_free k2 2
    simp at c2 d2
    have hsz := nr.size
    by_cases hlt : n < X.length
    · obtain ⟨x, hx⟩ : ∃ x, X[n]? = some x := ⟨_, List.getElem?_eq_getElem hlt⟩
      rcases unhide HU with ⟨_, _, e, e2⟩ | ⟨g, off, cap, e, hh0⟩
      · rw [e2] at hlt; simp at hlt
      · cases e
        have hh := hh0.upd nA (fun h => h)
        have hgg : g ≠ w.heap.size + 1 + 1 := by have := hh0.lt; omega
        have hrow := (hh.upd nr hgg).row hx
        have hnn : (n : Int) < (X.length : Int) := by omega
        have hlen := item_len x
        have h1 := item_one x
        have ht : X.take (n + 1) = X.take n ++ [x] := by rw [List.take_add_one, hx]; rfl
        have HT := hide ht
        clear hx hh hh0 ht
        generalize hC : itemCells x = C at hrow hlen h1
        have HC := hide hC
        clear hC
        have d2' : (wr.alloc (.cells C.toArray 67)).cell? ⟨w.heap.size + 1 + 1, 2, none⟩ = some (.slice sa n sc) := ((Upd.refl (fun _ => False) wr).alloc _).cell d2 (fun h => h)
        have HOB := hide (own_ge (unhide HO))
        go_wp2_with fail
        go_region_law
          ((refine step_append_lies _ (by rfl) _ _ _ (by rfl) (w.heap.size + 3) 67 i9 _ 36 64 Tryd.underlying34 hi hz hz0 hz1 hz2 (by decide) (.slice sa n sc) n ((X.take n).flatMap itemCells) (by rfl) (((unhide HO).alloc _).drew)
                ⟨wr.heap.size, 0, none⟩ 1 1 C (by rfl) (by omega) (World.news_of_block (cs := C.toArray) (t := 67) (fr := (0, 0)) (heap_alloc_new wr _)) h1
                (by decide) (by unfold maxLen; omega) (by omega) (by simp; omega) (wr.heap.size + 1) (by simp) ?_; intro gg cap w3 hown1 hgrow hat hlt3
            have k3 := (hgrow.block (w.heap.size + 1 + 1) (by simp; omega) (by intro h; have := (unhide HO).lt _ h.symm; have := (unhide HOB) _ h.symm; omega)).trans (blk_alloc_old k2 _)
            have q1 := blk_cell k3 2
            have q2 := blk_free k3 2
            simp at q1))
        all_goals
          have u4 := (Upd.refl (· = w.heap.size + 1 + 1) w3).set1 2 (.slice (some ⟨gg, 0, none⟩) (n + 1) cap)
          have hO4 := owns_upd hown1 u4 (fun k h1 h2 => by omega)
          have k4 := blk_set k3 2 (.slice (some ⟨gg, 0, none⟩) (n + 1) cap)
          have n4 : Upd (fun k => k = w.heap.size + 1 + 1) wo (w3.setCell ⟨w.heap.size + 1 + 1, 2, none⟩ (.slice (some ⟨gg, 0, none⟩) (n + 1) cap)) := (((nr.alloc _).drew).grown hgrow (fun k h hk => by have := (unhide HOB) _ h; omega)).trans u4
          simp at k4
          have HO4 := hide hO4
          clear hO4 hown1 hgrow hat k3 q1 q2 hrow
          generalize w3.setCell ⟨w.heap.size + 1 + 1, 2, none⟩ (.slice (some ⟨gg, 0, none⟩) (n + 1) cap) = w4 at *
          go_wp2
          go_roundw
          case rel =>
            refine ⟨n + 1, some ⟨gg, 0, none⟩, cap, by go_num, by omega, hide ?_, k4, n4⟩
            rw [unhide HT, List.flatMap_append]
            have := unhide HO4
            rw [← unhide HC] at this
            simpa using this
          case measure => simp [intOf]; omega
    · obtain rfl : n = X.length := by omega
      rw [List.take_length] at HO
      have hf := (held_of_ownsR (unhide HO)).2
      have HF := hide hf
      have kr := nr.old vB (by omega)
      have r0 := blk_cell kr 0
      have r1 := blk_cell kr 1
      have r2 := blk_cell kr 2
      have y0 := blk_free kr 0
      have y1 := blk_free kr 1
      have y2 := blk_free kr 2
      have e0 := blk_cell k2 0
      have e1 := blk_cell k2 1
      simp at r0 r1 r2 e0 e1
      clear hf
      have nw : New w wr := nA.then nr (fun i hi e => by omega)
      go_wp2_with fail
      refine bodyPost_ret (results_cell_row rfl _ _ (w.heap.size + 1) _ _ _ _ rfl (laid3_blk _ _ _ kr) Tryd.underlying36 rfl Tryd.infoViewR) rfl ?_
      refine ⟨_, rfl, laid3_new nw (by omega) _ _ _, ?_⟩
      rcases unhide HF with ⟨e, e2⟩ | ⟨g, cap, e, hb, hh⟩
      · exact .inl ⟨_, _, by rw [e2]; rfl, e2⟩
      · rw [e]; exact .inr ⟨g, 0, cap, rfl, hh.toR.upd (laid3_upd _ _ _ _ _) (by omega)⟩

end Go.Proofs.YtbcjhpeighlncaaDoor
