/-
  Arguments that are slices of lives.
-/
import Derived.Test.YtbcjhpeighlncaaDoorSh2
import Derived.Test.YtbcjhpeighlncaaDoorLaid
import Derived.Test.YtbcjhpeighlncaaDoorArgs
namespace Go.Proofs.YtbcjhpeighlncaaDoor
open Go.RowKit Go.Sort Go.ChangeShapes Go.WideShapes Go.ChangeAt Go.Deep

theorem cell_block {w : World} {b o : Nat} {v : Value} (h : w.cell? ⟨b, o, none⟩ = some v) : ∃ C T fz, w.heap[b]? = some (.cells C T fz) ∧ C[o]? = some v := by
  unfold World.cell? at h
  cases hb : w.heap[b]? with
  | none => simp [hb] at h
  | some ob =>
    rw [hb] at h
    cases ob with
    | cells C T fz => exact ⟨C, T, fz, rfl, by simpa using h⟩
    | _ => simp at h
def htlcLeaves : List Leaf := .int .u64 :: .int .u64 :: (List.replicate 32 (.int .u8) ++ [.int .i64])
def liveLeaves : List Leaf := htlcLeaves ++ [.bool, .int .i64, .bool]
def itemLeaves : List Leaf := .bool :: htlcLeaves
theorem htlc_fits {c : List Value} (h : Fits htlcLeaves c) : ∃ x : Htlc, c = htlcCells x ∧ HtlcOk x := by
  obtain ⟨_, _, rfl, ⟨i, rfl, hi⟩, _, _, rfl, ⟨a, rfl, ha⟩, h⟩ := h
  obtain ⟨p, q, rfl, hp, _, _, rfl, ⟨e, rfl, he⟩, rfl⟩ := h.split
  obtain ⟨l, hl, rfl, hb⟩ := hp.ints
  refine ⟨⟨i, a, ⟨l.toArray, by simpa using hl⟩, e⟩, ?_, ⟨bounds_u64 hi, bounds_u64 ha, ?_, bounds_i64 he⟩⟩
  · simp [htlcCells]
  · intro n hn
    exact bounds_u8 (hb n (by simpa using hn))
theorem live_fits {c : List Value} (h : Fits liveLeaves c) : ∃ x : Live, c = liveCells x ∧ LiveOk x := by
  obtain ⟨p, q, rfl, hp, hq⟩ := Fits.split (ls := htlcLeaves) h
  obtain ⟨x, rfl, hx⟩ := htlc_fits hp
  obtain ⟨_, _, rfl, ⟨o, rfl⟩, _, _, rfl, ⟨s, rfl, hs⟩, _, _, rfl, ⟨p, rfl⟩, rfl⟩ := hq
  exact ⟨⟨x, o, s, p⟩, rfl, hx, bounds_i64 hs⟩
theorem item_fits {c : List Value} (h : Fits itemLeaves c) : ∃ x : Item, c = itemCells x ∧ HtlcOk x.h := by
  obtain ⟨_, _, rfl, ⟨o, rfl⟩, h⟩ := h
  obtain ⟨x, rfl, hx⟩ := htlc_fits h
  exact ⟨⟨o, x⟩, rfl, hx⟩
theorem map_of {α β : Type} {R : β → Prop} {f : β → α} : ∀ {L : List α}, (∀ c ∈ L, ∃ x, c = f x ∧ R x) → ∃ xs : List β, L = xs.map f ∧ ∀ x ∈ xs, R x
  | [], _ => ⟨[], rfl, by simp⟩
  | c :: L, h => by
    obtain ⟨x, rfl, hx⟩ := h c (List.mem_cons_self ..)
    obtain ⟨xs, rfl, hr⟩ := map_of fun c hc => h c (List.mem_cons_of_mem _ hc)
    exact ⟨x :: xs, rfl, by intro y hy; rcases List.mem_cons.1 hy with rfl | hy; exact hx; exact hr y hy⟩

section
variable {H : Type} {enc : TypeId × Value → H} {W : World} {base : Nat} {v : Value} {d : DataW H} {p : List MemPlace}

theorem Tryd.flatLive : flatF Tryd.prog 5 32 = some liveLeaves := by kernel_rfl
theorem Tryd.cellsLive : Tryd.prog.cellsOf 32 = 38 := by kernel_rfl

set_option maxRecDepth 100000 in
theorem open_lives (hv : Value.okWide Tryd.prog W .any base 25 v) (h : DataW.Trod enc Tryd.prog W 0 (fun _ => true) true 25 v d p) :
    ∃ xs : List Live, Lives W v xs ∧ (∀ x ∈ xs, LiveOk x) ∧ xs.length ≤ maxLen := by
  have hl : liveLeaves.length = 38 := by simp [liveLeaves, htlcLeaves]
  obtain ⟨L, hL, hc⟩ := open_flat_slice 5 Tryd.underlying25 Tryd.flatLive (by rw [Tryd.cellsLive, hl]) (by rw [hl]; decide) hv h
  obtain ⟨xs, rfl, hok⟩ := map_of (fun c hc => live_fits (hL c hc))
  rcases hc with ⟨a, c, rfl, e⟩ | ⟨g, off, cap, e, h0, h1, h2, _, hat⟩
  · obtain rfl : xs = [] := by simpa using e
    exact ⟨[], .inl ⟨_, _, rfl, rfl⟩, by simp, by simp⟩
  · rw [List.length_map] at e h0 h1
    refine ⟨xs, .inr ⟨g, off, cap, e, ?_⟩, hok, by omega⟩
    have hcell : ∀ i x, xs[i]? = some x → ∀ j, j < 38 → W.cell? ⟨g, off + i * 38 + j, none⟩ = (liveCells x)[j]? := by
      intro i x hx j hj
      have := hat i (liveCells x) (by rw [List.getElem?_map, hx]; rfl) j (by rw [hl]; exact hj)
      rw [hl] at this
      rw [← this, Nat.add_assoc]
    obtain ⟨y, hy⟩ : ∃ y, xs[xs.length - 1]? = some y := ⟨_, List.getElem?_eq_getElem (by omega)⟩
    have h3 := hcell _ y hy 37 (by decide)
    rw [live_37] at h3
    obtain ⟨C, T, fz, hb, hC⟩ := cell_block h3
    refine ⟨C, T, fz, hb, ?_, fun i x hx j hj => ?_⟩
    · have := (Array.getElem?_eq_some_iff.1 hC).1
      omega
    · rw [← hcell i x hx j hj, blk_cell hb]
set_option maxRecDepth 100000 in
theorem open_base (hv : Value.okWide Tryd.prog W .any base 24 v) (h : DataW.Trod enc Tryd.prog W 0 (fun _ => true) true 24 v d p) :
    ∃ l r : Int, v = .agg #[.int .u64 l, .int .u64 r] ∧ (0 ≤ l ∧ l ≤ 18446744073709551615) ∧ (0 ≤ r ∧ r ≤ 18446744073709551615) := by
  obtain ⟨cs, rfl, _⟩ := okWide_struct Tryd.underlying24 hv
  obtain ⟨fuel, hf⟩ := h
  have := flat_fits 3 24 [.int .u64, .int .u64] _ _ _ (by kernel_rfl) hf
  obtain ⟨_, _, e, ⟨i, rfl, hi⟩, _, _, rfl, ⟨a, rfl, ha⟩, rfl⟩ := this
  refine ⟨i, a, ?_, bounds_u64 hi, bounds_u64 ha⟩
  congr 1
  apply Array.ext'
  simpa [Value.cells] using e

set_option maxRecDepth 100000 in
theorem spans_of {laid : List (String × DataW Unit)} (h : laidMet Tryd.prog laid W) (hm : ("remitter/htlc.spans", Rows.laid_remitter_htlc_spans) ∈ laid) : Spans W := by
  refine ⟨fun i hi => ?_⟩
  rw [laid_cell h 5 hm (g := 1) (by kernel_rfl) (t := 103) (by kernel_rfl) (l := List.replicate 4 (.int .i64)) (by kernel_rfl)]
  obtain rfl | rfl | rfl | rfl : i = 0 ∨ i = 1 ∨ i = 2 ∨ i = 3 := by omega
  all_goals rfl
set_option maxRecDepth 100000 in
theorem glob_of {laid : List (String × DataW Unit)} (h : laidMet Tryd.prog laid W) (hm : ("remitter/htlc.events", Rows.laid_remitter_htlc_events) ∈ laid) : Glob W := by
  refine ⟨fun i hi => ?_⟩
  rw [laid_cell h 5 hm (g := 0) (by kernel_rfl) (t := 96) (by kernel_rfl) (l := List.replicate 20 (.int .i64)) (by kernel_rfl)]
  have : ∀ i, i < 20 → (vals (H := Unit) Rows.laid_remitter_htlc_events)[i]? = some (.int .i64 (eventsL.getD i 0)) := by
    intro i hi
    obtain rfl | rfl | rfl | rfl | rfl | rfl | rfl | rfl | rfl | rfl | rfl | rfl | rfl | rfl | rfl | rfl | rfl | rfl | rfl | rfl : i = 0 ∨ i = 1 ∨ i = 2 ∨ i = 3 ∨ i = 4 ∨ i = 5 ∨ i = 6 ∨ i = 7 ∨ i = 8 ∨ i = 9 ∨ i = 10 ∨ i = 11 ∨ i = 12 ∨ i = 13 ∨ i = 14 ∨ i = 15 ∨ i = 16 ∨ i = 17 ∨ i = 18 ∨ i = 19 := by omega
    all_goals rfl
  exact this i hi
end
end Go.Proofs.YtbcjhpeighlncaaDoor
