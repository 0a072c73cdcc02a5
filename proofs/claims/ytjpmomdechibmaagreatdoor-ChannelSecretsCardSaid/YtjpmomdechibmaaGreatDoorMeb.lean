/-
  A cell set within a row of lives; remove.
-/
import Derived.Test.YtjpmomdechibmaaGreatDoorMaj
import Derived.Test.YtjpmomdechibmaaGreatDoorMcb
namespace Go.Proofs.YtjpmomdechibmaaGreatDoor
set_option linter.unusedVariables false
set_option linter.unusedSimpArgs false
open Go.RowKit

theorem flat_set {α : Type} (f : α → List Value) (k : Nat) (hf : ∀ x, (f x).length = k) : ∀ (X : List α) (i j : Nat) (x y : α) (u : Value), X[i]? = some x → j < k → f y = (f x).set j u → (X.set i y).flatMap f = (X.flatMap f).set (i * k + j) u
  | [], i, j, x, y, u, h, _, _ => by simp at h
  | z :: X, 0, j, x, y, u, h, hj, hy => by
    have : z = x := by simpa using h
    subst this
    rw [List.set_cons_zero, List.flatMap_cons, List.flatMap_cons, hy, Nat.zero_mul, Nat.zero_add, List.set_append_left _ _ (by rw [hf]; exact hj)]
  | z :: X, i + 1, j, x, y, u, h, hj, hy => by
    rw [List.set_cons_succ, List.flatMap_cons, List.flatMap_cons, flat_set f k hf X i j x y u (by simpa using h) hj hy, List.set_append_right _ _ (by rw [hf, Nat.succ_mul]; omega), hf]
    congr 2
    rw [Nat.succ_mul]
    omega
/-- A cell of an owned row set. -/
theorem owns_set {α : Type} (f : α → List Value) (k : Nat) (hf : ∀ x, (f x).length = k) {w : World} {base : Nat} {T : TypeId} {v : Value} {X : List α} (h : w.ownsRow base T k v X.length (X.flatMap f)) {i j : Nat} {x y : α} {u : Value} (hi : X[i]? = some x) (hj : j < k) (hy : f y = (f x).set j u) {g : Nat} (hg : v.ownBlock = some g) :
    (w.setCell ⟨g, i * k + j, none⟩ u).ownsRow base T k v (X.set i y).length ((X.set i y).flatMap f) := by
  have hlt := (List.getElem?_eq_some_iff.1 hi).1
  rcases h.2 with ⟨e, e0⟩ | ⟨g', cap, cur, e, hb, hgb, hc, hz, hs, ht⟩
  · omega
  · rw [e] at hg
    have hgg : g' = g := by simpa [Value.ownBlock] using hg
    subst hgg
    rw [List.length_set]
    refine ⟨?_, .inr ⟨g', cap, cur.setIfInBounds (i * k + j) u, e, hb, blk_set hgb _ _, hc, hz, by rw [Array.size_setIfInBounds]; exact hs, ?_⟩⟩
    · rw [flat_set f k hf X i j x y u hi hj hy, List.length_set]
      exact h.1
    · rw [flat_set f k hf X i j x y u hi hj hy, ← ht, Array.toList_setIfInBounds, List.take_set]
theorem live_set36 (x : Live) (s : Int) : liveCells { x with state := s } = (liveCells x).set 36 (.int .i64 s) := by
  unfold liveCells
  rw [List.set_append_right _ _ (by rw [htlc_len]; omega), htlc_len]
  rfl
theorem live_set37 (x : Live) (p : Bool) : liveCells { x with paid := p } = (liveCells x).set 37 (.bool p) := by
  unfold liveCells
  rw [List.set_append_right _ _ (by rw [htlc_len]; omega), htlc_len]
  rfl
/-- The one at i is removed. -/
def Ch.removed (c : Ch) (i : Nat) (x : Live) (paid : Bool) : Ch := { c with xs := c.xs.set i { x with state := 5, paid := paid } }

set_option maxRecDepth 100000 in
set_option maxHeartbeats 1000000 in
theorem remove_any (g : Nat) (S : Nat → Prop) (c : Ch) (lv nv av : Value) (i : Nat) (x : Live) (paid : Bool) (w : World) (h : ChP w g S c lv nv av) (hi : c.xs[i]? = some x) :
    Calls Tryz.prog 49 #[.pointer (some ⟨g, 0, none⟩), .int .i64 i, .bool paid] w fun e w' => e = .returned (.tuple #[]) ∧ ChP w' g S (c.removed i x paid) lv nv av ∧ Upd (fun k => lv.ownBlock = some k) w w' := by
  have hlt := (List.getElem?_eq_some_iff.1 hi).1
  have c47 : w.drew.cell? ⟨g, 47, none⟩ = some lv := h.toR.live
  obtain ⟨gl, cap, hlv, hbk⟩ : ∃ gl cap, lv = .slice (some ⟨gl, 0, none⟩) c.xs.length cap ∧ lv.ownBlock = some gl := by
    rcases h.live.2 with ⟨e, e0⟩ | ⟨g', cap, cur, e, _⟩
    · omega
    · exact ⟨g', cap, e, by rw [e]; rfl⟩
  obtain ⟨cur, hgl⟩ := own_blk' h.live gl hbk
  have hrow := (heldL_of_owns h.live).2
  have hrn : rowN w gl (i * 38) 38 = some (liveCells x).toArray := by
    rcases hrow with ⟨e, e0⟩ | ⟨g', cap', e, -, hh⟩
    · rw [e0] at hlt; simp at hlt
    · rw [hlv] at e
      injection e with e1 e2 e3
      injection e1 with e1
      injection e1 with e1
      have := hh.row hi
      rw [Nat.zero_add, ← e1] at this
      exact this
  have d36 : w.drew.cell? ⟨gl, i * 38 + 36, none⟩ = some (.int .i64 x.state) := by
    have := (rowN_cell hrn).2 36 (by omega)
    rw [List.getElem?_toArray, live_36] at this
    exact this
  have d37 : w.drew.cell? ⟨gl, i * 38 + 37, none⟩ = some (.bool x.paid) := by
    have := (rowN_cell hrn).2 37 (by omega)
    rw [List.getElem?_toArray, live_37] at this
    exact this
  have u1 : Upd (· = gl) w (w.setCell ⟨gl, i * 38 + 36, none⟩ (.int .i64 5)).drew := ((Upd.refl _ _).set1 _ _).drew
  have hgg : g ≠ gl := apart_ty' h.at_ hgl (by decide)
  have hl1 : (w.setCell ⟨gl, i * 38 + 36, none⟩ (.int .i64 5)).drew.ownsRow 0 81 38 lv (c.xs.set i { x with state := 5 }).length ((c.xs.set i { x with state := 5 }).flatMap liveCells) := owns_set liveCells 38 live_len h.live hi (by omega) (live_set36 x 5) hbk
  have hi1 : (c.xs.set i { x with state := 5 })[i]? = some { x with state := 5 } := by rw [List.getElem?_set_self hlt]
  have f36 : w.drew.frozen? ⟨gl, i * 38 + 36, none⟩ = false := blk_free hgl _
  have hg1 : (w.setCell ⟨gl, i * 38 + 36, none⟩ (.int .i64 5)).drew.heap[gl]? = some (.cells (cur.setIfInBounds (i * 38 + 36) (.int .i64 5)) 81 (0, 0)) := blk_set hgl _ _
  have d37' : (w.setCell ⟨gl, i * 38 + 36, none⟩ (.int .i64 5)).drew.cell? ⟨gl, i * 38 + 37, none⟩ = some (.bool x.paid) := by
    have e : w.cell? ⟨gl, i * 38 + 37, none⟩ = cur[i * 38 + 37]? := blk_cell hgl _
    have e2 : w.cell? ⟨gl, i * 38 + 37, none⟩ = some (.bool x.paid) := d37
    rw [blk_cell hg1, Array.getElem?_setIfInBounds_ne (by omega), ← e, e2]
  have f37' : (w.setCell ⟨gl, i * 38 + 36, none⟩ (.int .i64 5)).drew.frozen? ⟨gl, i * 38 + 37, none⟩ = false := blk_free hg1 _
  have hl2 := owns_set liveCells 38 live_len hl1 hi1 (show 37 < 38 by omega) (live_set37 { x with state := 5 } paid) hbk
  rw [List.set_set] at hl2
  have u2 : Upd (· = gl) w ((w.setCell ⟨gl, i * 38 + 36, none⟩ (.int .i64 5)).drew.setCell ⟨gl, i * 38 + 37, none⟩ (.bool paid)) := u1.set1 _ _
  have hfin : ChP ((w.setCell ⟨gl, i * 38 + 36, none⟩ (.int .i64 5)).drew.setCell ⟨gl, i * 38 + 37, none⟩ (.bool paid)) g S (c.removed i x paid) lv nv av := by
    have rowM : ∀ {v : Value} {n : Nat} {xs : List Value}, w.ownsRow 0 30 38 v n xs → ∀ k, v.ownBlock = some k → ¬ k = gl := by
      intro v n xs hr k hk e
      obtain ⟨cur2, hc⟩ := own_blk' hr k hk
      exact apart_ty' hc hgl (by decide) e
    have hxo := h.ok.xs x (List.mem_of_getElem? hi)
    refine ⟨u2.old h.at_ hgg, ⟨h.ok.s, h.ok.signed, h.ok.heard, h.ok.nextOwn, h.ok.nextTheirs, h.ok.loc, h.ok.rem, ?_, ?_, h.ok.shelf, h.ok.news, h.ok.last, h.ok.many⟩, hl2, row_upd' h.news u2 (rowM h.news), row_upd' h.last u2 (rowM h.last), h.inG, h.inL, h.inN, h.inA, h.sep, fun k hk => Nat.lt_of_lt_of_le (h.lt k hk) u2.size⟩
    · intro y hy
      rcases List.mem_or_eq_of_mem_set hy with hy | hy
      · exact h.ok.xs y hy
      · rw [hy]
        exact ⟨hxo.h, show (-9223372036854775808 : Int) ≤ 5 by decide, show (5 : Int) ≤ 9223372036854775807 by decide⟩
    · show (c.xs.set i _).length ≤ 1000000
      rw [List.length_set]
      exact h.ok.few
  have HF := hide hfin
  have HU := hide (u2.mono (T := fun k => lv.ownBlock = some k) (fun k _ e => by rw [e]; exact hbk))
  have hi0 : (i : Int) < (c.xs.length : Int) := by omega
  rw [hlv] at c47
  clear h hrow hrn d37 hl1 hi1 hl2 hg1 hgl u1 u2 hfin hlv hbk hi
  go_enter Tryz.func49, Tryz.ntmps49
  go_wp2_with (first | ((with_reducible apply tp); rfl; rfl; intro _ _ _) | ((with_reducible apply tr); rfl; intro _ _) | ((with_reducible apply te); rfl; intro _ _) | (with_reducible rfl) | (with_reducible apply tn) | ((with_reducible apply wp_txt); kernel_rfl; decide +kernel))
  go_end0
  exact ⟨rfl, unhide HF, unhide HU⟩

end Go.Proofs.YtjpmomdechibmaaGreatDoor

/-
  both: where one of an Id is live in state Both.
-/
namespace Go.Proofs.YtjpmomdechibmaaGreatDoor
set_option linter.unusedVariables false
set_option linter.unusedSimpArgs false
open Go.RowKit

attribute [local go_sem ↓ high] ld_live_fold
attribute [local go_sem] ld_live rowN_drew
def bothB (own : Bool) (id : Int) (x : Live) : Bool := x.own == own && (x.h.id == id && x.state == 4)
set_option maxHeartbeats 1000000 in
theorem both1_any (own : Bool) (id : Int) (x : Live) (p1 p2 : Nat) (w : World) (h1 : w.cell? ⟨p1, 0, none⟩ = some (.bool own)) (h2 : w.cell? ⟨p2, 0, none⟩ = some (.int .u64 id)) :
    Calls Tryz.prog 77 #[.agg (liveCells x).toArray, .pointer (some ⟨p1, 0, none⟩), .pointer (some ⟨p2, 0, none⟩)] w (Makes (.bool (bothB own id x)) w) := by
  go_enter Tryz.func77, Tryz.ntmps77
  go_upto_region 1 with fail
  have hb : (w.alloc (.cells (liveCells x).toArray 81)).heap[w.heap.size]? = some (.cells (liveCells x).toArray 81 (0, 0)) := blk_alloc _ _
  have n0 : New w (w.alloc (.cells (liveCells x).toArray 81)) := (Upd.refl _ _).alloc _
  generalize w.alloc (.cells (liveCells x).toArray 81) = w1 at hb n0 ⊢
  replace h1 := n0.cell h1 (fun h => h)
  replace h2 := n0.cell h2 (fun h => h)
  have d35 : w1.cell? ⟨w.heap.size, 35, none⟩ = some (.bool x.own) := by rw [blk_cell hb, List.getElem?_toArray]; exact live_35 x
  have d36 : w1.cell? ⟨w.heap.size, 36, none⟩ = some (.int .i64 x.state) := by rw [blk_cell hb, List.getElem?_toArray]; exact live_36 x
  have d0 : w1.cell? ⟨w.heap.size, 0, none⟩ = some (.int .u64 x.h.id) := by rw [blk_cell hb, List.getElem?_toArray]; exact live_0 x
  clear hb
  cases e1 : x.own == own with
  | false =>
    go_wp2_with (first | ((with_reducible apply tp); rfl; rfl; intro _ _ _) | ((with_reducible apply tr); rfl; intro _ _) | ((with_reducible apply te); rfl; intro _ _) | (with_reducible rfl) | (with_reducible apply tn) | ((with_reducible apply wp_txt); kernel_rfl; decide +kernel))
    go_ret
    exact ⟨by unfold bothB; rw [e1]; rfl, n0⟩
  | true =>
    cases e2 : x.h.id == id with
    | false =>
      go_wp2_with (first | ((with_reducible apply tp); rfl; rfl; intro _ _ _) | ((with_reducible apply tr); rfl; intro _ _) | ((with_reducible apply te); rfl; intro _ _) | (with_reducible rfl) | (with_reducible apply tn) | ((with_reducible apply wp_txt); kernel_rfl; decide +kernel))
      go_ret
      exact ⟨by unfold bothB; rw [e1, e2]; rfl, n0⟩
    | true =>
      go_wp2_with (first | ((with_reducible apply tp); rfl; rfl; intro _ _ _) | ((with_reducible apply tr); rfl; intro _ _) | ((with_reducible apply te); rfl; intro _ _) | (with_reducible rfl) | (with_reducible apply tn) | ((with_reducible apply wp_txt); kernel_rfl; decide +kernel))
      go_ret
      exact ⟨by unfold bothB; rw [e1, e2]; rfl, n0⟩

def bothI (own : Bool) (id : Int) (xs : List Live) : Int := match xs.findIdx? (bothB own id) with | some i => i | none => -1
set_option maxRecDepth 100000 in
set_option maxHeartbeats 1000000 in
theorem index_both (own : Bool) (id : Int) (p1 p2 : Nat) (v : Value) (xs : List Live) (w : World) (hv : LivesO w v xs) (hl : xs.length ≤ 1000000) (h1 : w.cell? ⟨p1, 0, none⟩ = some (.bool own)) (h2 : w.cell? ⟨p2, 0, none⟩ = some (.int .u64 id)) :
    Calls Tryz.prog 76 #[v, .func (.func 77) #[] #[.pointer (some ⟨p1, 0, none⟩), .pointer (some ⟨p2, 0, none⟩)]] w (Makes (.int .i64 (bothI own id xs)) w) := by
  have hrow := (heldL_of_owns hv).2
  obtain ⟨a, cap, rfl⟩ := own_shape' hv
  have hcell : ∀ (i : Nat) (x : Live), xs[i]? = some x → ∃ g', a = some ⟨g', 0, none⟩ ∧ HeldL w g' 0 xs := by
    intro i x hi
    have hlt := (List.getElem?_eq_some_iff.1 hi).1
    rcases hrow with ⟨e, e0⟩ | ⟨g', k, e, -, hh⟩
    · rw [e0] at hlt; simp at hlt
    · injection e with e1
      exact ⟨g', e1, hh.toL⟩
  clear hrow hv
  have hll : (xs.length : Int) ≤ 1000000 := by omega
  go_enter Tryz.func76, Tryz.ntmps76
  go_wp2_with fail
  go_loopw [5, 8] (fun _ iv wr => ∃ i : Nat, iv = .int .i64 (i : Int) ∧ i ≤ xs.length ∧ (∀ j x, j < i → xs[j]? = some x → bothB own id x = false) ∧ New w wr) (fun _ iv _ => xs.length - (intOf iv).toNat)
  case atStart => exact ⟨0, rfl, Nat.zero_le _, fun j x h => by omega, Upd.refl _ _⟩
  case round =>
    obtain ⟨i, rfl, hi, hb, nr⟩ := hrel
    obtain ⟨wq, rfl⟩ : ∃ wq : World, wq = wr := ⟨_, rfl⟩
    have HB := hide hb
    clear hb
    by_cases hlt : i < xs.length
    · obtain ⟨x, hxx⟩ : ∃ x, xs[i]? = some x := ⟨_, List.getElem?_eq_getElem hlt⟩
      obtain ⟨g', rfl, hh⟩ := hcell i x hxx
      have hrow := (hh.upd nr (fun h => h)).row hxx
      rw [Nat.zero_add] at hrow
      have hi0 : (i : Int) < (xs.length : Int) := by omega
      have hc := both1_any own id x p1 p2 wq (nr.cell h1 (fun h => h)) (nr.cell h2 (fun h => h))
      have HX := hide hxx
      clear hh hcell hxx
      go_wp2_with fail
      refine hc.mono ?_
      rintro e w2 ⟨rfl, n2⟩
      have n3 := nr.trans n2
      clear hc hrow nr n2
      cases hbx : bothB own id x with
      | true =>
        go_wp2_with fail
        go_ret
        have hf : xs.findIdx? (bothB own id) = some i := by
          rw [List.findIdx?_eq_some_iff_getElem]
          refine ⟨hlt, ?_, fun j hj => ?_⟩
          · have := unhide HX
            rw [List.getElem?_eq_getElem hlt] at this
            rw [Option.some.inj this, hbx]
          · have := unhide HB j _ hj (List.getElem?_eq_getElem (by omega))
            rw [this]
            decide
        exact ⟨by unfold bothI; rw [hf]; rfl, n3⟩
      | false =>
        go_wp2_with fail
        go_roundw
        case rel =>
          refine ⟨i + 1, by go_num, by omega, fun j y hj hy => ?_, n3⟩
          by_cases e : j < i
          · exact unhide HB j y e hy
          · obtain rfl : j = i := by omega
            rw [unhide HX] at hy
            rw [← Option.some.inj hy]
            exact hbx
        case measure => simp [intOf]; omega
    · obtain rfl : i = xs.length := by omega
      clear hcell
      go_wp2_with fail
      go_ret
      have hf : xs.findIdx? (bothB own id) = none := by
        rw [List.findIdx?_eq_none_iff]
        intro x hx
        obtain ⟨j, hj, rfl⟩ := List.mem_iff_getElem.1 hx
        exact unhide HB j _ hj (List.getElem?_eq_getElem hj)
      exact ⟨by unfold bothI; rw [hf]; rfl, nr⟩

set_option maxHeartbeats 1000000 in
theorem both_any (g : Nat) (S : Nat → Prop) (c : Ch) (own : Bool) (id : Int) (w : World) (h : ChS w g S c) :
    Calls Tryz.prog 47 #[.pointer (some ⟨g, 0, none⟩), .bool own, .int .u64 id] w (Makes (.int .i64 (bothI own id c.xs)) w) := by
  obtain ⟨lv, nv, av, h⟩ := h
  go_enter Tryz.func47, Tryz.ntmps47
  go_upto_region 1 with fail
  have nA : New w ((w.alloc (.cells #[.bool own] 4)).alloc (.cells #[.int .u64 id] 22)) := ((Upd.refl _ _).alloc _).alloc _
  have hb1 : ((w.alloc (.cells #[.bool own] 4)).alloc (.cells #[.int .u64 id] 22)).heap[w.heap.size]? = some (.cells #[.bool own] 4 (0, 0)) := blk_alloc_old (blk_alloc _ _) _
  have hb2 : ((w.alloc (.cells #[.bool own] 4)).alloc (.cells #[.int .u64 id] 22)).heap[w.heap.size + 1]? = some (.cells #[.int .u64 id] 22 (0, 0)) := by
    have := blk_alloc (w.alloc (.cells #[.bool own] 4)) (.cells #[.int .u64 id] 22)
    rwa [World.size_alloc] at this
  generalize (w.alloc (.cells #[.bool own] 4)).alloc (.cells #[.int .u64 id] 22) = wA at nA hb1 hb2 ⊢
  have hA := h.new nA
  have c47 : wA.cell? ⟨g, 47, none⟩ = some lv := hA.toR.live
  have hx := fun (W : World) (n : New wA W) => index_both own id w.heap.size (w.heap.size + 1) lv c.xs W (row_upd' hA.live n (fun _ _ h => h)) h.ok.few (n.cell (blk_cell hb1 0) (fun h => h)) (n.cell (blk_cell hb2 0) (fun h => h))
  have HX := hide hx
  clear hx hb1 hb2 hA
  go_wp2_with (first | ((with_reducible apply tp); rfl; rfl; intro _ _ _) | ((with_reducible apply tr); rfl; intro _ _) | ((with_reducible apply te); rfl; intro _ _) | (with_reducible rfl) | (with_reducible apply tn) | ((with_reducible apply wp_txt); kernel_rfl; decide +kernel))
  refine (unhide HX _ (Upd.refl _ _)).mono ?_
  rintro e w2 ⟨rfl, n2⟩
  go_wp2_with (first | ((with_reducible apply tp); rfl; rfl; intro _ _ _) | ((with_reducible apply tr); rfl; intro _ _) | ((with_reducible apply te); rfl; intro _ _) | (with_reducible rfl) | (with_reducible apply tn) | ((with_reducible apply wp_txt); kernel_rfl; decide +kernel))
  go_ret
  exact ⟨rfl, nA.trans n2⟩

end Go.Proofs.YtjpmomdechibmaaGreatDoor

/-
  hearShut, hearFail; where one is live in state Both.
-/
namespace Go.Proofs.YtjpmomdechibmaaGreatDoor
set_option linter.unusedVariables false
set_option linter.unusedSimpArgs false
open Go.RowKit

attribute [local go_sem ↓ high] ld_hsh_fold st_hsh_fold al_hsh_fold bd_hsh_fold ld_msg_fold st_msg_fold al_msg_fold bd_msg_fold
attribute [local go_sem] ld_hsh st_hsh al_hsh bd_hsh rowN_drew ld_msg st_msg al_msg

/-- The one of an Id that is live in state Both, and its place. -/
def bothX (own : Bool) (id : Int) (xs : List Live) : Option (Nat × Live) := match xs.findIdx? (bothB own id) with | some i => (xs[i]?).map fun x => (i, x) | none => none
theorem bothX_none {own : Bool} {id : Int} {xs : List Live} (h : bothX own id xs = none) : bothI own id xs = -1 := by
  unfold bothX at h
  unfold bothI
  cases e : xs.findIdx? (bothB own id) with
  | none => rfl
  | some i =>
    rw [e] at h
    have h : Option.map (fun x => (i, x)) xs[i]? = none := h
    obtain ⟨hlt, -⟩ := List.findIdx?_eq_some_iff_getElem.1 e
    rw [List.getElem?_eq_getElem hlt] at h
    cases h
theorem bothX_some {own : Bool} {id : Int} {xs : List Live} {i : Nat} {x : Live} (h : bothX own id xs = some (i, x)) : bothI own id xs = (i : Int) ∧ xs[i]? = some x ∧ bothB own id x = true := by
  unfold bothX at h
  unfold bothI
  cases e : xs.findIdx? (bothB own id) with
  | none => rw [e] at h; cases h
  | some j =>
    rw [e] at h
    obtain ⟨hlt, hb, -⟩ := List.findIdx?_eq_some_iff_getElem.1 e
    have h : Option.map (fun x => (j, x)) xs[j]? = some (i, x) := h
    rw [List.getElem?_eq_getElem hlt] at h
    simp only [Option.map_some, Option.some.injEq, Prod.mk.injEq] at h
    obtain ⟨rfl, rfl⟩ := h
    exact ⟨rfl, List.getElem?_eq_getElem hlt, hb⟩

def Ch.hearShut (c : Ch) : Ch × Int := if c.k.shutHeard = true then (c, 4) else ({ c with k := { c.k with shutHeard := true } }, 0)
set_option maxRecDepth 100000 in
set_option maxHeartbeats 1000000 in
theorem hearShut_any (g : Nat) (S : Nat → Prop) (c : Ch) (m : MsgV) (hm : m.hash.length = 32) (w : World) (h : ChS w g S c) :
    Calls Tryz.prog 71 #[.pointer (some ⟨g, 0, none⟩), .agg m.cells.toArray] w fun e w' =>
      e = .returned (.tuple #[nilV, .int .i64 c.hearShut.2]) ∧ ChS w' g (Fr S w w') c.hearShut.1 ∧ Upd S w w' := by
  obtain ⟨lv, nv, av, h⟩ := h
  go_enter Tryz.func71, Tryz.ntmps71
  go_upto_region 1 with fail
  have n1 : New w (w.alloc (.cells m.cells.toArray 30)) := (Upd.refl _ _).alloc _
  generalize w.alloc (.cells m.cells.toArray 30) = w1 at n1 ⊢
  have h1 := h.new n1
  have c43 : w1.cell? ⟨g, 43, none⟩ = some (.bool c.k.shutHeard) := h1.toR.shutHeard
  have f43 : w1.frozen? ⟨g, 43, none⟩ = false := blk_free h1.at_ 43
  cases hs : c.k.shutHeard with
  | true =>
    have he : c.hearShut = (c, 4) := by unfold Ch.hearShut; rw [if_pos hs]
    rw [hs] at c43
    have HE := hide he
    have H1 := hide (h1.fr w)
    have HU := hide (n1.mono (T := S) (fun _ _ h => h.elim))
    clear h h1 n1 he f43
    go_wp2_with (first | ((with_reducible apply tp); rfl; rfl; intro _ _ _) | ((with_reducible apply tr); rfl; intro _ _) | ((with_reducible apply te); rfl; intro _ _) | (with_reducible rfl) | (with_reducible apply tn) | ((with_reducible apply wp_txt); kernel_rfl; decide +kernel))
    go_ret2
    rw [unhide HE]
    exact ⟨rfl, unhide H1, unhide HU⟩
  | false =>
    have he : c.hearShut = ({ c with k := { c.k with shutHeard := true } }, 0) := by unfold Ch.hearShut; rw [if_neg (by rw [hs]; decide)]
    rw [hs] at c43
    have h2 := h1.putShutHeard true
    have u2 := upd_g w1 g 43 (.bool true)
    have HE := hide he
    have H2 := hide (h2.fr w)
    have HU := hide ((n1.mono (T := S) (fun _ _ h => h.elim)).trans (u2.mono (fun k _ e => by rw [e]; exact h.inG)))
    clear h h1 n1 he h2 u2
    go_wp2_with (first | ((with_reducible apply tp); rfl; rfl; intro _ _ _) | ((with_reducible apply tr); rfl; intro _ _) | ((with_reducible apply te); rfl; intro _ _) | (with_reducible rfl) | (with_reducible apply tn) | ((with_reducible apply wp_txt); kernel_rfl; decide +kernel))
    go_ret2
    rw [unhide HE]
    exact ⟨rfl, unhide H2, unhide HU⟩

def Ch.hearFail (c : Ch) (m : MsgV) : Ch × Int := match bothX true m.id c.xs with | none => (c, 3) | some p => (c.removed p.1 p.2 false, 0)
theorem hearFail_none {c : Ch} {m : MsgV} (h : bothX true m.id c.xs = none) : c.hearFail m = (c, 3) := by unfold Ch.hearFail; rw [h]
theorem hearFail_some {c : Ch} {m : MsgV} {i : Nat} {x : Live} (h : bothX true m.id c.xs = some (i, x)) : c.hearFail m = (c.removed i x false, 0) := by unfold Ch.hearFail; rw [h]
set_option maxRecDepth 100000 in
set_option maxHeartbeats 1000000 in
theorem hearFail_any (g : Nat) (S : Nat → Prop) (c : Ch) (m : MsgV) (hm : m.hash.length = 32) (w : World) (h : ChS w g S c) :
    Calls Tryz.prog 68 #[.pointer (some ⟨g, 0, none⟩), .agg m.cells.toArray] w fun e w' =>
      e = .returned (.tuple #[nilV, .int .i64 (c.hearFail m).2]) ∧ ChS w' g (Fr S w w') (c.hearFail m).1 ∧ Upd S w w' := by
  obtain ⟨lv, nv, av, h⟩ := h
  go_enter Tryz.func68, Tryz.ntmps68
  go_upto_region 1 with fail
  have hA := ms_alloc w m hm
  have n1 : New w (w.alloc (.cells m.cells.toArray 30)) := (Upd.refl _ _).alloc _
  generalize w.alloc (.cells m.cells.toArray 30) = w1 at n1 hA ⊢
  have h1 := h.new n1
  obtain ⟨-, -, m2, -, -, -, -⟩ := hA.cells
  have hb := both_any g S c true m.id w1 ⟨lv, nv, av, h1⟩
  clear hA
  go_wp2_with fail
  refine hb.mono ?_
  rintro e w2 ⟨rfl, n2⟩
  have h2 := h1.new n2
  have n12 := n1.trans n2
  clear hb m2 h1 n2 n1
  cases hx : bothX true m.id c.xs with
  | none =>
    have hi := bothX_none hx
    have HE := hide (hearFail_none hx)
    have H2 := hide (h2.fr w)
    have HU := hide (n12.mono (T := S) (fun _ _ h => h.elim))
    rw [hi]
    clear h h2 n12 hx hi
    go_wp2_with fail
    go_ret2
    rw [unhide HE]
    exact ⟨rfl, unhide H2, unhide HU⟩
  | some p =>
    obtain ⟨i, x⟩ := p
    obtain ⟨hi, hix, -⟩ := bothX_some hx
    have hrm := remove_any g S c lv nv av i x false w2 h2 hix
    have HE := hide (hearFail_some hx)
    have HI := hide h.inL
    have HU := hide (n12.mono (T := S) (fun _ _ h => h.elim))
    rw [hi]
    clear h h2 n12 hx hi hix
    go_wp2_with fail
    refine hrm.mono ?_
    rintro e w3 ⟨rfl, h3, u3⟩
    have H3 := hide (h3.fr w)
    have HU3 := hide ((unhide HU).trans (u3.mono (T := S) (fun k _ e => unhide HI k e)))
    clear hrm h3 u3
    go_wp2_with fail
    go_ret2
    rw [unhide HE]
    exact ⟨rfl, unhide H3, unhide HU3⟩

end Go.Proofs.YtjpmomdechibmaaGreatDoor
