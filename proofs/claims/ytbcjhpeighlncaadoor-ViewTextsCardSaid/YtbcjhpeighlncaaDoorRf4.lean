/-
  The reference's Same, of two views that are the same.
-/
import Derived.Test.YtbcjhpeighlncaaDoorRf3
import Derived.Test.YtbcjhpeighlncaaDoorEqF
namespace Go.Proofs.YtbcjhpeighlncaaDoor
set_option linter.unusedVariables false
set_option linter.unusedSimpArgs false
open Go.RowKit Go.Sort

theorem ItemsR.at {w : World} {a : Option Addr} {n c : Nat} {X : List Item} (h : ItemsR w (.slice a n c) X) {i : Nat} {x : Item} (hi : X[i]? = some x) :
    ∃ b off, a = some ⟨b, off, none⟩ ∧ n = X.length ∧ rowN w b (off + i * 36) 36 = some (itemCells x).toArray := by
  rcases h with ⟨_, _, e, rfl⟩ | ⟨b, off, cap, e, hh⟩
  · simp at hi
  · cases e
    exact ⟨b, off, rfl, rfl, hh.row hi⟩

theorem Tryd.flatItemR : flatF Tryd.prog 5 67 = some itemLeaves := by kernel_rfl
theorem Tryd.eqItemR : eqB Tryd.prog 5 67 = true := by kernel_rfl
theorem Tryd.aggItemR : aggB Tryd.prog 67 = true := by kernel_rfl
theorem ints_fits (k : IntKind) : ∀ (l : List Int), (∀ x ∈ l, (Lit.int k x).wf = true) → Fits (List.replicate l.length (.int k)) (l.map (Value.int k))
  | [], _ => rfl
  | x :: l, h => ⟨_, _, rfl, ⟨x, rfl, h x (List.mem_cons_self ..)⟩, ints_fits k l fun y hy => h y (List.mem_cons_of_mem _ hy)⟩
theorem wf_u64 {n : Int} (h : 0 ≤ n ∧ n ≤ 18446744073709551615) : (Lit.int .u64 n).wf = true := by
  simp [Lit.wf, IntKind.min, IntKind.max, IntKind.signed, IntKind.bits]; omega
theorem wf_i64 {n : Int} (h : -9223372036854775808 ≤ n ∧ n ≤ 9223372036854775807) : (Lit.int .i64 n).wf = true := by
  simp [Lit.wf, IntKind.min, IntKind.max, IntKind.signed, IntKind.bits]; omega
theorem wf_u8 {n : Int} (h : 0 ≤ n ∧ n ≤ 255) : (Lit.int .u8 n).wf = true := by
  simp [Lit.wf, IntKind.min, IntKind.max, IntKind.signed, IntKind.bits]; omega
theorem fits_htlc {x : Htlc} (h : HtlcOk x) : Fits htlcLeaves (htlcCells x) := by
  refine ⟨_, _, rfl, ⟨_, rfl, wf_u64 h.id⟩, _, _, rfl, ⟨_, rfl, wf_u64 h.amount⟩, Fits.app ?_ ⟨_, _, rfl, ⟨_, rfl, wf_i64 h.expiry⟩, rfl⟩⟩
  have := ints_fits .u8 x.hash.toList fun n hn => wf_u8 (h.hash n hn)
  simpa using this
theorem fits_item {x : Item} (h : HtlcOk x.h) : Fits itemLeaves (itemCells x) := ⟨_, _, rfl, ⟨_, rfl⟩, fits_htlc h⟩
theorem fits_live {x : Live} (h : LiveOk x) : Fits liveLeaves (liveCells x) :=
  Fits.app (fits_htlc h.h) ⟨_, _, rfl, ⟨_, rfl⟩, _, _, rfl, ⟨_, rfl, wf_i64 h.state⟩, _, _, rfl, ⟨_, rfl⟩, rfl⟩
def neItemR (x y : Value) : Sem Value := binOp .neq 67 x y
theorem ne_item_foldR (x y : Value) : binOp .neq 67 x y = neItemR x y := rfl
theorem ne_itemR {x y : Item} (hx : HtlcOk x.h) (hy : HtlcOk y.h) (r : Bool) (hr : r = true ↔ itemCells x = itemCells y) (w : World) : (neItemR (.agg (itemCells x).toArray) (.agg (itemCells y).toArray)).run Tryd.prog w = .ok (.bool (!r)) w :=
  run_neq_flat 5 (by decide) Tryd.eqItemR Tryd.flatItemR Tryd.aggItemR (fits_item hx) (fits_item hy) r hr w
attribute [local go_sem ↓ high] ld_item_foldR ne_item_foldR
attribute [local go_sem] ld_itemR rowN_drew

set_option maxRecDepth 100000 in
set_option maxHeartbeats 4000000 in
theorem same_true (o t : Int) (u1 u2 : Value) (X : List Item) (hl : X.length ≤ 1048576) (hok : ∀ x ∈ X, HtlcOk x.h) (w : World) (h1 : ItemsR w u1 X) (h2 : ItemsR w u2 X) :
    Calls Tryd.prog 10 #[.agg #[.int .u64 o, .int .u64 t, u1], .agg #[.int .u64 o, .int .u64 t, u2]] w (Makes (.bool true) w) := by
  obtain ⟨a1, c1, rfl⟩ := h1.slice
  obtain ⟨a2, c2, rfl⟩ := h2.slice
  have n0 : New w ((w.alloc (.cells #[.int .u64 o, .int .u64 t, .slice a1 X.length c1] 36)).alloc (.cells #[.int .u64 o, .int .u64 t, .slice a2 X.length c2] 36)) := ((Upd.refl _ _).alloc _).alloc _
  have b1 : ((w.alloc (.cells #[.int .u64 o, .int .u64 t, .slice a1 X.length c1] 36)).alloc (.cells #[.int .u64 o, .int .u64 t, .slice a2 X.length c2] 36)).heap[w.heap.size]? = some (.cells #[.int .u64 o, .int .u64 t, .slice a1 X.length c1] 36 (0, 0)) := blk_alloc_old (blk_alloc _ _) _
  have b2 : ((w.alloc (.cells #[.int .u64 o, .int .u64 t, .slice a1 X.length c1] 36)).alloc (.cells #[.int .u64 o, .int .u64 t, .slice a2 X.length c2] 36)).heap[w.heap.size + 1]? = some (.cells #[.int .u64 o, .int .u64 t, .slice a2 X.length c2] 36 (0, 0)) := by
    have := blk_alloc (w.alloc (.cells #[.int .u64 o, .int .u64 t, .slice a1 X.length c1] 36)) (.cells #[.int .u64 o, .int .u64 t, .slice a2 X.length c2] 36)
    rwa [World.size_alloc] at this
  go_enter Tryd.func10, Tryd.ntmps10
  go_upto_region 1 with fail
  generalize ((w.alloc (.cells #[.int .u64 o, .int .u64 t, .slice a1 X.length c1] 36)).alloc (.cells #[.int .u64 o, .int .u64 t, .slice a2 X.length c2] 36)) = wa at n0 b1 b2 ⊢
  have p0 := blk_cell b1 0
  have p1 := blk_cell b1 1
  have p2 := blk_cell b1 2
  have q0 := blk_cell b2 0
  have q1 := blk_cell b2 1
  have q2 := blk_cell b2 2
  simp at p0 p1 p2 q0 q1 q2
  have H1 := hide (h1.new n0)
  have H2 := hide (h2.new n0)
  clear h1 h2
  obtain ⟨wo, rfl⟩ : ∃ wo : World, wo = wa := ⟨_, rfl⟩
  go_wp2_with fail
  go_loopw [5] (fun iv wr => ∃ (n : Nat), iv = .int .i64 (n : Int) ∧ n ≤ X.length ∧ Q wo wr) (fun iv _ => X.length - (intOf iv).toNat)
  case atStart => exact ⟨0, rfl, Nat.zero_le _, Q.refl _⟩
  case round =>
    obtain ⟨n, rfl, hn, qr⟩ := hrel
    have p2' := qr.cell p2
    have q2' := qr.cell q2
    by_cases hlt : n < X.length
    · obtain ⟨x, hx⟩ : ∃ x, X[n]? = some x := ⟨_, List.getElem?_eq_getElem hlt⟩
      obtain ⟨g1, f1, rfl, _, r1⟩ := ((unhide H1).new (qr.upd _)).at hx
      obtain ⟨g2, f2, rfl, _, r2⟩ := ((unhide H2).new (qr.upd _)).at hx
      have hnn : (n : Int) < (X.length : Int) := by omega
      have hx2 := hok x (List.mem_of_getElem? hx)
      have hne := ne_itemR hx2 hx2 true (by simp)
      simp only [Bool.not_true] at hne
      clear hx hx2
      generalize itemCells x = C at r1 r2 hne
      go_wp2_with fail
      go_region_held3 (fun w' => w'.cell? ⟨w.heap.size, 2, none⟩ = some (.slice (some ⟨g1, f1, none⟩) X.length c1) ∧ w'.cell? ⟨w.heap.size + 1, 2, none⟩ = some (.slice (some ⟨g2, f2, none⟩) X.length c2) ∧ rowN w' g1 (f1 + n * 36) 36 = some C.toArray ∧ rowN w' g2 (f2 + n * 36) 36 = some C.toArray)
        (exact ⟨p2', q2', r1, r2⟩) (fail)
      go_wp2
      go_roundw
      case rel => exact ⟨n + 1, by go_num, by omega, by first | exact qr.drewN' 1 | exact qr.trans ⟨1, rfl⟩⟩
      case measure => simp [intOf]; omega
    · obtain rfl : n = X.length := by omega
      go_wp2
      first | go_ret2 | go_ret
      exact ⟨rfl, n0.trans (qr.upd _)⟩

end Go.Proofs.YtbcjhpeighlncaaDoor
