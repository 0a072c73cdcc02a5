/-
  Arguments that are views; the tables of package digest.
-/
import Derived.Test.YtbcjhpeighlncaaDoorMbi
import Derived.Test.YtbcjhpeighlncaaDoorRf3
import Derived.Test.YtbcjhpeighlncaaDoorSha2
import Derived.Deep.Strs
namespace Go.Proofs.YtbcjhpeighlncaaDoor
set_option linter.unusedVariables false
set_option linter.unusedSimpArgs false
open Go.RowKit Go.Sort Go.ChangeShapes Go.WideShapes Go.ChangeAt Go.Deep

section
variable {H : Type} {enc : TypeId × Value → H} {P : Program}
theorem open_flat_cells {t e : TypeId} {cs : List Value} {fuel : Nat} {d : DataW H} {p : List MemPlace} {l : List Leaf} {W : World} (n : Nat) (ht : P.underlying t = some (.slice e)) (hl : flatF P n e = some l) (hc : P.cellsOf e = l.length) (hz : 0 < l.length)
    (hf : DataW.trod enc P W 0 (fun _ => true) true fuel t cs = some (d, p)) :
    ∃ v, cs = [v] ∧ ∃ L : List (List Value), (∀ c ∈ L, Fits l c) ∧ ((∃ a cap, v = .slice a 0 cap ∧ L = []) ∨
      ∃ g off cap, v = .slice (some ⟨g, off, none⟩) L.length cap ∧ 0 < L.length ∧ L.length ≤ cap ∧ cap ≤ maxLen ∧ (∀ j, j < L.length * l.length → MemPlace.cell g (off + j) ∈ p) ∧ ∀ i c, L[i]? = some c → ∀ j, j < l.length → W.cell? ⟨g, off + (i * l.length + j), none⟩ = c[j]?) := by
  rcases open_slice ht hf with ⟨hcs, _⟩ | ⟨a, len, cap, m, k, D, Pl, hcs, _, hle, hm, hmm, hx, hi⟩
  · exact ⟨_, hcs, [], by simp, .inl ⟨_, _, rfl, rfl⟩⟩
  · refine ⟨_, hcs, ?_⟩
    by_cases h0 : len = 0
    · subst h0
      exact ⟨[], by simp, .inl ⟨_, _, rfl, rfl⟩⟩
    · replace hmm : m = cap := by simpa using hmm
      obtain ⟨L, hL, hR⟩ := list_of (n := len) (R := fun i cs' => W.cells? 0 (a.add (i * P.cellsOf e)) (P.cellsOf e) = some cs' ∧ DataW.trod enc P W 0 (fun _ => true) true k e cs' = some (D i, Pl i)) fun i hlt => by
        obtain ⟨cs', h1, h2⟩ := hi i (by omega)
        exact ⟨cs', h1, h2⟩
      obtain ⟨b, off, spot⟩ := a
      have hspot : spot = none := by
        obtain ⟨c0, hc0⟩ : ∃ c, L[0]? = some c := ⟨_, List.getElem?_eq_getElem (by omega)⟩
        obtain ⟨h1, h2⟩ := hR 0 c0 hc0
        obtain ⟨_, hcl, hat⟩ := World.cells?_some h1
        have := hat 0 (by omega)
        rw [Nat.zero_mul] at this
        have h3 : c0[0]? = some (c0[0]'(by omega)) := List.getElem?_eq_getElem (by omega)
        rw [h3] at this
        simpa [Addr.add] using World.cell?_spot this
      subst hspot
      refine ⟨L, ?_, .inr ⟨b, off, cap, by rw [hL], by omega, by omega, hm, ?_, ?_⟩⟩
      · intro c hc'
        obtain ⟨i, hi'⟩ := List.getElem?_of_mem hc'
        exact flat_fits n e l c _ k hl (hR i c hi').2
      · intro j hj
        simp only [Prod.mk.injEq] at hx
        rw [hx.2]
        refine List.mem_append_left _ ?_
        unfold MemPlace.row
        rw [List.mem_map]
        have : L.length * l.length ≤ m * l.length := Nat.mul_le_mul_right _ (by omega)
        exact ⟨j, by rw [List.mem_range, hc]; omega, rfl⟩
      · intro i c hi' j hj
        obtain ⟨h1, h2⟩ := hR i c hi'
        obtain ⟨_, hcl, hat⟩ := World.cells?_some h1
        have := hat j (by omega)
        rw [add_add, hc] at this
        have e1 : (⟨b, off, none⟩ : Addr).add (i * l.length + j) = ⟨b, off + (i * l.length + j), none⟩ := by unfold Addr.add; split <;> simp_all
        rwa [e1] at this

end
section
variable {H : Type} {enc : TypeId × Value → H} {W : World} {base : Nat} {v : Value} {d : DataW H} {p : List MemPlace}
theorem Tryd.flatItem : flatF Tryd.prog 5 45 = some itemLeaves := by kernel_rfl
theorem Tryd.cellsItem : Tryd.prog.cellsOf 45 = 36 := by kernel_rfl
theorem Tryd.viewForm : ∃ f0 f1 f2, Tryd.prog.underlying 40 = some (.struct #[f0, f1, f2]) ∧ f0.type = 22 ∧ f0.offset = 0 ∧ f1.type = 22 ∧ f1.offset = 1 ∧ f2.type = 38 ∧ f2.offset = 2 := ⟨_, _, _, Tryd.underlying40, rfl, rfl, rfl, rfl, rfl, rfl⟩
theorem Tryd.cellsView : Tryd.prog.cellsOf 40 = 3 ∧ Tryd.prog.cellsOf 22 = 1 ∧ Tryd.prog.cellsOf 38 = 1 := by refine ⟨?_, ?_, ?_⟩ <;> kernel_rfl
theorem item_35' (x : Item) : (itemCells x)[35]? = some (.int .i64 x.h.expiry) := by
  unfold itemCells htlcCells
  rw [List.getElem?_cons_succ, List.getElem?_cons_succ, List.getElem?_cons_succ, List.getElem?_append_right (by simp)]
  simp

set_option maxRecDepth 100000 in
theorem open_view (hv : Value.okWide Tryd.prog W .any base 40 v) (h : DataW.Trod enc Tryd.prog W 0 (fun _ => true) true 40 v d p) :
    ∃ (l r : Int) (u : Value) (X : List Item), v = .agg #[.int .u64 l, .int .u64 r, u] ∧ (0 ≤ l ∧ l ≤ 18446744073709551615) ∧ (0 ≤ r ∧ r ≤ 18446744073709551615) ∧ ItemsR W u X ∧ (∀ x ∈ X, HtlcOk x.h) ∧ X.length ≤ maxLen := by
  obtain ⟨f0, f1, f2, hu, t0, o0, t1, o1, t2, o2⟩ := Tryd.viewForm
  obtain ⟨c3, c1, cI⟩ := Tryd.cellsView
  obtain ⟨cs, rfl, hsz⟩ := okWide_struct hu hv
  obtain ⟨fuel, hf⟩ := h
  obtain ⟨y0, y1, y2, n, hx, hlen, h0, h1, h2⟩ := trod_struct3 hu hf
  have hcs : (Value.agg cs).cells.toList = cs.toList := rfl
  rw [hcs] at h0 h1 h2 hlen
  rw [t0, o0, c1] at h0
  rw [t1, o1, c1] at h1
  rw [t2, o2, cI] at h2
  rw [c3] at hlen
  obtain ⟨a, b, c, habc⟩ : ∃ a b c, cs.toList = [a, b, c] := by
    match cs.toList, hlen with
    | [a, b, c], _ => exact ⟨a, b, c, rfl⟩
  rw [habc] at h0 h1 h2
  simp only [List.drop_zero, List.take_succ_cons, List.take_zero, List.drop_succ_cons] at h0 h1 h2
  have g0 := flat_fits 2 22 [.int .u64] _ _ _ (by kernel_rfl) h0
  have g1 := flat_fits 2 22 [.int .u64] _ _ _ (by kernel_rfl) h1
  obtain ⟨_, _, e0, ⟨i, rfl, hi⟩, -⟩ := g0
  obtain ⟨_, _, e1, ⟨j, rfl, hj⟩, -⟩ := g1
  obtain rfl : a = .int .u64 i := by simpa using (List.cons.inj e0).1
  obtain rfl : b = .int .u64 j := by simpa using (List.cons.inj e1).1
  have hl : itemLeaves.length = 36 := by simp [itemLeaves, htlcLeaves]
  obtain ⟨w, hw, L, hL, hc⟩ := open_flat_cells 5 Tryd.underlying38 Tryd.flatItem (by rw [Tryd.cellsItem, hl]) (by rw [hl]; decide) h2
  obtain rfl : c = w := by simpa using hw
  obtain ⟨X, rfl, hok⟩ := map_of (fun c hc => item_fits (hL c hc))
  have hagg : Value.agg cs = .agg #[.int .u64 i, .int .u64 j, c] := by
    congr 1
    apply Array.ext'
    exact habc
  refine ⟨i, j, c, X, hagg, bounds_u64 hi, bounds_u64 hj, ?_⟩
  rcases hc with ⟨a, c, rfl, e⟩ | ⟨g, off, cap, e, h0, h1, h2, _, hat⟩
  · obtain rfl : X = [] := by simpa using e
    exact ⟨.inl ⟨_, _, rfl, rfl⟩, by simp, by simp⟩
  · rw [List.length_map] at e h0 h1
    refine ⟨.inr ⟨g, off, cap, e, ?_⟩, hok, by omega⟩
    have hcell : ∀ i x, X[i]? = some x → ∀ j, j < 36 → W.cell? ⟨g, off + i * 36 + j, none⟩ = (itemCells x)[j]? := by
      intro i x hx j hj
      have := hat i (itemCells x) (by rw [List.getElem?_map, hx]; rfl) j (by rw [hl]; exact hj)
      rw [hl] at this
      rw [← this, Nat.add_assoc]
    obtain ⟨y, hy⟩ : ∃ y, X[X.length - 1]? = some y := ⟨_, List.getElem?_eq_getElem (by omega)⟩
    have h3 := hcell _ y hy 35 (by decide)
    rw [item_35'] at h3
    obtain ⟨C, T, fz, hb, hC⟩ := cell_block h3
    refine ⟨C, T, fz, hb, ?_, fun i x hx j hj => ?_⟩
    · have := (Array.getElem?_eq_some_iff.1 hC).1
      omega
    · rw [← hcell i x hx j hj, blk_cell hb]

set_option maxRecDepth 100000 in
theorem tabs_of {laid : List (String × DataW Unit)} (h : laidMet Tryd.prog laid W) (hm : ("remitter/digest.begin", Rows.laid_remitter_digest_begin) ∈ laid) (hm2 : ("remitter/digest.table", Rows.laid_remitter_digest_table) ∈ laid) : Tabs W := by
  refine ⟨fun i hi => ?_, fun i hi => ?_⟩
  · rw [laid_cell h 5 hm2 (g := 3) (by kernel_rfl) (t := 123) (by kernel_rfl) (l := List.replicate 64 (.int .u32)) (by kernel_rfl)]
    have hv : vals (H := Unit) Rows.laid_remitter_digest_table = kTab.map (Value.int .u32) := by rfl
    rw [hv, List.getElem?_map, List.getD_eq_getElem?_getD, List.getElem?_eq_getElem (show i < kTab.length from hi)]
    rfl
  · rw [laid_cell h 5 hm (g := 2) (by kernel_rfl) (t := 110) (by kernel_rfl) (l := List.replicate 8 (.int .u32)) (by kernel_rfl)]
    have hv : vals (H := Unit) Rows.laid_remitter_digest_begin = hBeg.map (Value.int .u32) := by rfl
    rw [hv, List.getElem?_map, List.getD_eq_getElem?_getD, List.getElem?_eq_getElem (show i < hBeg.length from hi)]
    rfl
end
end Go.Proofs.YtbcjhpeighlncaaDoor
