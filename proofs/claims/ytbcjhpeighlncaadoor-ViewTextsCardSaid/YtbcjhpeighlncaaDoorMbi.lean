/-
  What a listed variable of a type without pointers holds, cell for cell.
-/
import Derived.Test.YtbcjhpeighlncaaDoorFlat
import Derived.LaidLaws
import Derived.Lib.LaidTab
import Derived.Test.YtbcjhpeighlncaaDoorBase
import Derived.ProofKit
import Derived.OpenShut
import Derived.ShutString
import Derived.ChangeOld
import Derived.Test.YtbcjhpeighlncaaDoorMbg
namespace Go.Proofs.YtbcjhpeighlncaaDoor
set_option linter.unusedVariables false
set_option linter.unusedSimpArgs false
open Go.RowKit Go.ChangeShapes Go.WideShapes Go.ChangeAt Go.Deep

mutual
/-- The cells that a datum without pointers is read from. -/
def vals {H : Type} : DataW H → List Value
  | .lit (.bool b) => [.bool b]
  | .lit (.int k n) => [.int k n]
  | .lit (.string b) => [.string ⟨b.toArray⟩]
  | .agg ps => valsAll ps
  | _ => []
def valsAll {H : Type} : List (DataW H) → List Value
  | [] => []
  | d :: r => vals d ++ valsAll r
end
theorem valsAll_map {H α : Type} (f : α → DataW H) : ∀ l : List α, valsAll (l.map f) = (l.map fun x => vals (f x)).flatten
  | [] => rfl
  | x :: l => by rw [List.map_cons, List.map_cons, List.flatten_cons, ← valsAll_map f l]; rfl

section
variable {H : Type} {enc : TypeId × Value → H} {P : Program} {w : World} {base : Nat} {spare : Nat → Bool} {held : Bool}

theorem fields_vals {rec : TypeId → Option (List Leaf)} {cs : List Value} (hrec : ∀ t l c x fuel, rec t = some l → DataW.trod enc P w base spare held fuel t c = some x → c = vals x.1) :
    ∀ (fs : List Field) (o : Nat) (L : List Leaf) (xs : List (DataW H × List MemPlace)), flatFields P rec o fs = some L → cs.length = o + L.length → xs.length = fs.length →
      (∀ (i : Nat) f, fs[i]? = some f → ∃ fuel, DataW.trod enc P w base spare held fuel f.type ((cs.drop f.offset).take (P.cellsOf f.type)) = xs[i]?) → cs.drop o = valsAll (xs.map (·.1))
  | [], o, L, xs, h, hl, hx, _ => by
    simp only [flatFields, Option.some.injEq] at h
    subst h
    rw [List.length_eq_zero_iff.1 hx]
    exact List.drop_eq_nil_of_le (by simp at hl; omega)
  | f :: r, o, L, [], h, hl, hx, _ => by simp at hx
  | f :: r, o, L, x :: xs, h, hl, hx, hf => by
    unfold flatFields at h
    cases hr : rec f.type with
    | none => rw [hr] at h; cases h
    | some l =>
      rw [hr] at h
      simp only at h
      split at h
      · rename_i hc
        obtain ⟨ho, hk⟩ := hc
        rw [Option.map_eq_some_iff] at h
        obtain ⟨M, hM, rfl⟩ := h
        obtain ⟨fuel, hx0⟩ := hf 0 f rfl
        have h1 := hrec _ _ _ _ _ hr (hx0.trans rfl)
        rw [ho, hk] at h1
        rw [List.length_append] at hl
        have h2 := fields_vals hrec r (o + l.length) M xs hM (by omega) (by simpa using hx) (fun i g hg => hf (i + 1) g hg)
        have e : cs.drop o = (cs.drop o).take l.length ++ cs.drop (o + l.length) := by
          rw [← List.drop_drop, List.take_append_drop]
        rw [e, h1, h2]
        rfl
      · cases h

theorem flat_vals : ∀ (n : Nat) (t : TypeId) (l : List Leaf) (cs : List Value) (x : DataW H × List MemPlace) (fuel : Nat), flatF P n t = some l → DataW.trod enc P w base spare held fuel t cs = some x → cs = vals x.1
  | 0, _, _, _, _, _, h, _ => by simp [flatF] at h
  | n + 1, t, l, cs, x, fuel, h, hx => by
    unfold flatF at h
    split at h
    · rename_i hu
      obtain ⟨b, rfl, rfl⟩ := DataW.trod_bool hu hx
      rfl
    · rename_i k hu
      obtain ⟨z, rfl, rfl, hz⟩ := DataW.trod_int hu hx
      rfl
    · rename_i hu
      obtain ⟨s, rfl, rfl, hz⟩ := DataW.trod_string hu hx
      rfl
    · rename_i fs hu
      split at h
      · rename_i L hL
        split at h
        · rename_i hc
          simp only [Option.some.injEq] at h
          subst h
          obtain ⟨xs, m, _, rfl, hlen, hxl, hf⟩ := DataW.trod_struct hu hx
          have := fields_vals (rec := flatF P n) (cs := cs) (fun t l c x fuel h1 h2 => flat_vals n t l c x fuel h1 h2) fs.toList 0 L xs hL (by omega) (by simpa using hxl) fun i f hf' => ⟨m, hf i f (by simpa using hf')⟩
          exact this
        · cases h
      · cases h
    · rename_i m e hu
      split at h
      · rename_i L hL
        split at h
        · rename_i hc
          simp only [Option.some.injEq] at h
          subst h
          obtain ⟨xs, k, _, rfl, hlen, hxl, hf⟩ := DataW.trod_array hu hx
          show cs = valsAll (xs.map (·.1))
          rw [valsAll_map]
          refine (chunks L.length m cs (by omega)).trans ?_
          congr 1
          apply List.ext_getElem?
          intro i
          by_cases hi : i < m
          · have h1 := hf i hi
            rw [hc.1] at h1
            have hxi : xs[i]? = some (xs[i]'(by omega)) := List.getElem?_eq_getElem (by omega)
            rw [List.getElem?_map, List.getElem?_map, List.getElem?_range hi, hxi]
            exact congrArg some (flat_vals n e _ _ _ k hL (h1.trans hxi))
          · rw [List.getElem?_eq_none (by simp; omega), List.getElem?_eq_none (by simp; omega)]
        · cases h
      · cases h
    · cases h
end

theorem laid_vals {P : Program} {w : World} : ∀ {laid : List (String × DataW Unit)} {ps : List MemPlace}, DataW.LaidVars P w laid ps → ∀ {n : String} {d : DataW Unit} {g : Nat} {t : TypeId} (k : Nat) {l : List Leaf}, (n, d) ∈ laid →
    P.globalNamed n = some g → (P.globals[g]?).map (·.type) = some t → flatF P k t = some l → w.var? P n = some (vals d).toArray
  | [], _, _, _, _, _, _, _, _, hm, _, _, _ => by simp at hm
  | (n', d') :: rest, _, h, n, d, g, t, k, l, hm, hg, ht, hf => by
    obtain ⟨g', t', cs, fuel, p, q, hg', ht', hvar, hd, hrest, _⟩ := h
    rcases List.mem_cons.1 hm with e | hm
    · cases e
      obtain rfl := Option.some.inj (hg.symm.trans hg')
      obtain rfl := Option.some.inj (ht.symm.trans ht')
      rw [hvar, ← flat_vals k t l _ _ _ hf hd]
    · exact laid_vals hrest k hm hg ht hf
theorem laid_cell {P : Program} {w : World} {laid : List (String × DataW Unit)} (h : laidMet P laid w) {n : String} {d : DataW Unit} {g : Nat} {t : TypeId} (k : Nat) {l : List Leaf} (hm : (n, d) ∈ laid)
    (hg : P.globalNamed n = some g) (ht : (P.globals[g]?).map (·.type) = some t) (hf : flatF P k t = some l) (i : Nat) : w.cell? ⟨g, i, none⟩ = (vals d)[i]? := by
  obtain ⟨ps, hl, _⟩ := h
  have := World.var?_cell hg (laid_vals hl k hm hg ht hf) i
  simpa using this

end Go.Proofs.YtbcjhpeighlncaaDoor

/-
  What a walk is told of arguments that came in: slices of strings, slices of integers.
-/
namespace Go.Proofs.YtbcjhpeighlncaaDoor
set_option linter.unusedVariables false
set_option linter.unusedSimpArgs false
open Go.ChangeShapes Go.WideShapes Go.ChangeAt Go.RowKit

/-- A slice of strings that came in: empty, or a row of cells. -/
def StrRow (w : World) (v : Value) (ss : List ByteArray) : Prop :=
  (∃ a cap, v = .slice a 0 cap ∧ ss = []) ∨
  ∃ b off cap, v = .slice (some ⟨b, off, none⟩) ss.length cap ∧ 0 < ss.length ∧ ss.length ≤ cap ∧ cap ≤ maxLen ∧
    (∀ i, i < ss.length → w.cell? ⟨b, off + i, none⟩ = some (.string (ss.getD i ByteArray.empty))) ∧ ∀ s ∈ ss, s.size ≤ maxLen
/-- A slice of integers that came in: empty, or a row of cells. -/
def IntRow (k : IntKind) (w : World) (v : Value) (zs : List Int) : Prop :=
  (∃ a cap, v = .slice a 0 cap ∧ zs = []) ∨
  ∃ b off cap, v = .slice (some ⟨b, off, none⟩) zs.length cap ∧ 0 < zs.length ∧ zs.length ≤ cap ∧ cap ≤ maxLen ∧
    (∀ i, i < zs.length → w.cell? ⟨b, off + i, none⟩ = some (.int k (zs.getD i 0))) ∧ ∀ n ∈ zs, (Lit.int k n).wf = true

theorem getD_mem {ss : List ByteArray} {k : Nat} (h : k < ss.length) : ss.getD k ByteArray.empty ∈ ss := by
  rw [List.getD_eq_getElem?_getD, List.getElem?_eq_getElem h]
  exact List.getElem_mem h
theorem getD_mem_int {zs : List Int} {k : Nat} (h : k < zs.length) : zs.getD k 0 ∈ zs := by
  rw [List.getD_eq_getElem?_getD, List.getElem?_eq_getElem h]
  exact List.getElem_mem h
theorem getD_take {α : Type} (l : List α) (n i : Nat) (d : α) (h : i < n) : (l.take n).getD i d = l.getD i d := by
  rw [List.getD_eq_getElem?_getD, List.getD_eq_getElem?_getD, List.getElem?_take, if_pos h]

section
variable {H : Type} {enc : TypeId × Value → H} {P : Program} {W : World} {base : Nat} {t e : TypeId} {v : Value} {d : DataW H} {p : List MemPlace}

theorem open_strrow (ht : P.underlying t = some (.slice e)) (he : P.underlying e = some .string) (hc : P.cellsOf e = 1)
    (hv : Value.okWide P W .any base t v) (h : DataW.Trod enc P W 0 (fun _ => true) true t v d p) : ∃ ss, StrRow W v ss := by
  obtain ⟨a0, len, cap, rfl⟩ := okWide_slice ht hv
  obtain ⟨fuel, hf⟩ := h
  rcases open_strings ht he hc hf with ⟨hcs, _⟩ | ⟨x, l, c, ss, hcs, _, hl, hm, hz, _, hcell, hwz⟩
  · simp [Value.cells] at hcs
    obtain ⟨rfl, rfl, rfl⟩ := hcs
    exact ⟨[], .inl ⟨_, _, rfl, rfl⟩⟩
  · simp [Value.cells] at hcs
    obtain ⟨rfl, rfl, rfl⟩ := hcs
    replace hz : ss.length = cap := by simpa using hz
    by_cases h0 : len = 0
    · subst h0
      exact ⟨[], .inl ⟨_, _, rfl, rfl⟩⟩
    · obtain ⟨b, off, spot⟩ := x
      have hspot : spot = none := by simpa [Addr.add] using World.cell?_spot (hcell 0 (by omega))
      subst hspot
      have hlt : (ss.take len).length = len := by rw [List.length_take]; omega
      refine ⟨ss.take len, .inr ⟨b, off, cap, by rw [hlt], by omega, by omega, hm, fun i hi => ?_, fun s hs => hwz s (List.mem_of_mem_take hs)⟩⟩
      have := hcell i (by omega)
      rw [getD_take _ _ _ _ (by omega)]
      have e1 : (⟨b, off, none⟩ : Addr).add i = ⟨b, off + i, none⟩ := by unfold Addr.add; split <;> simp_all
      rwa [e1] at this

theorem open_introw {k : IntKind} (ht : P.underlying t = some (.slice e)) (he : P.underlying e = some (.int k)) (hc : P.cellsOf e = 1)
    (hv : Value.okWide P W .any base t v) (h : DataW.Trod enc P W 0 (fun _ => true) true t v d p) : ∃ zs, IntRow k W v zs := by
  obtain ⟨a0, len, cap, rfl⟩ := okWide_slice ht hv
  obtain ⟨fuel, hf⟩ := h
  rcases open_ints ht he hc hf with ⟨hcs, _⟩ | ⟨x, l, c, ss, hcs, _, hl, hm, hz, _, hcell, hwz⟩
  · simp [Value.cells] at hcs
    obtain ⟨rfl, rfl, rfl⟩ := hcs
    exact ⟨[], .inl ⟨_, _, rfl, rfl⟩⟩
  · simp [Value.cells] at hcs
    obtain ⟨rfl, rfl, rfl⟩ := hcs
    replace hz : ss.length = cap := by simpa using hz
    by_cases h0 : len = 0
    · subst h0
      exact ⟨[], .inl ⟨_, _, rfl, rfl⟩⟩
    · obtain ⟨b, off, spot⟩ := x
      have hspot : spot = none := by simpa [Addr.add] using World.cell?_spot (hcell 0 (by omega))
      subst hspot
      have hlt : (ss.take len).length = len := by rw [List.length_take]; omega
      refine ⟨ss.take len, .inr ⟨b, off, cap, by rw [hlt], by omega, by omega, hm, fun i hi => ?_, fun s hs => hwz s (List.mem_of_mem_take hs)⟩⟩
      have := hcell i (by omega)
      rw [getD_take _ _ _ _ (by omega)]
      have e1 : (⟨b, off, none⟩ : Addr).add i = ⟨b, off + i, none⟩ := by unfold Addr.add; split <;> simp_all
      rwa [e1] at this

end
end Go.Proofs.YtbcjhpeighlncaaDoor

/-
  Arguments that are slices of lives.
-/
namespace Go.Proofs.YtbcjhpeighlncaaDoor
set_option linter.unusedVariables false
set_option linter.unusedSimpArgs false
open Go.RowKit Go.Sort Go.ChangeShapes Go.WideShapes Go.ChangeAt Go.Deep

theorem cell_block {w : World} {b o : Nat} {v : Value} (h : w.cell? ⟨b, o, none⟩ = some v) : ∃ C T fz, w.heap[b]? = some (.cells C T fz) ∧ C[o]? = some v := by
  unfold World.cell? at h
  cases hb : w.heap[b]? with
  | none => simp [hb] at h
  | some ob =>
    rw [hb] at h
    cases ob with
    | cells C T fz => exact ⟨C, T, fz, rfl, by simpa using h⟩
    | _ => simp at h
def htlcLeaves : List Leaf := .int .u64 :: .int .u64 :: (List.replicate 32 (.int .u8) ++ [.int .i64])
def liveLeaves : List Leaf := htlcLeaves ++ [.bool, .int .i64, .bool]
def itemLeaves : List Leaf := .bool :: htlcLeaves
theorem htlc_fits {c : List Value} (h : Fits htlcLeaves c) : ∃ x : Htlc, c = htlcCells x ∧ HtlcOk x := by
  obtain ⟨_, _, rfl, ⟨i, rfl, hi⟩, _, _, rfl, ⟨a, rfl, ha⟩, h⟩ := h
  obtain ⟨p, q, rfl, hp, _, _, rfl, ⟨e, rfl, he⟩, rfl⟩ := h.split
  obtain ⟨l, hl, rfl, hb⟩ := hp.ints
  refine ⟨⟨i, a, ⟨l.toArray, by simpa using hl⟩, e⟩, ?_, ⟨bounds_u64 hi, bounds_u64 ha, ?_, bounds_i64 he⟩⟩
  · simp [htlcCells]
  · intro n hn
    exact bounds_u8 (hb n (by simpa using hn))
theorem live_fits {c : List Value} (h : Fits liveLeaves c) : ∃ x : Live, c = liveCells x ∧ LiveOk x := by
  obtain ⟨p, q, rfl, hp, hq⟩ := Fits.split (ls := htlcLeaves) h
  obtain ⟨x, rfl, hx⟩ := htlc_fits hp
  obtain ⟨_, _, rfl, ⟨o, rfl⟩, _, _, rfl, ⟨s, rfl, hs⟩, _, _, rfl, ⟨p, rfl⟩, rfl⟩ := hq
  exact ⟨⟨x, o, s, p⟩, rfl, hx, bounds_i64 hs⟩
theorem item_fits {c : List Value} (h : Fits itemLeaves c) : ∃ x : Item, c = itemCells x ∧ HtlcOk x.h := by
  obtain ⟨_, _, rfl, ⟨o, rfl⟩, h⟩ := h
  obtain ⟨x, rfl, hx⟩ := htlc_fits h
  exact ⟨⟨o, x⟩, rfl, hx⟩
theorem map_of {α β : Type} {R : β → Prop} {f : β → α} : ∀ {L : List α}, (∀ c ∈ L, ∃ x, c = f x ∧ R x) → ∃ xs : List β, L = xs.map f ∧ ∀ x ∈ xs, R x
  | [], _ => ⟨[], rfl, by simp⟩
  | c :: L, h => by
    obtain ⟨x, rfl, hx⟩ := h c (List.mem_cons_self ..)
    obtain ⟨xs, rfl, hr⟩ := map_of fun c hc => h c (List.mem_cons_of_mem _ hc)
    exact ⟨x :: xs, rfl, by intro y hy; rcases List.mem_cons.1 hy with rfl | hy; exact hx; exact hr y hy⟩

section
variable {H : Type} {enc : TypeId × Value → H} {W : World} {base : Nat} {v : Value} {d : DataW H} {p : List MemPlace}

theorem Tryd.flatLive : flatF Tryd.prog 5 32 = some liveLeaves := by kernel_rfl
theorem Tryd.cellsLive : Tryd.prog.cellsOf 32 = 38 := by kernel_rfl

set_option maxRecDepth 100000 in
theorem open_lives (hv : Value.okWide Tryd.prog W .any base 25 v) (h : DataW.Trod enc Tryd.prog W 0 (fun _ => true) true 25 v d p) :
    ∃ xs : List Live, Lives W v xs ∧ (∀ x ∈ xs, LiveOk x) ∧ xs.length ≤ maxLen := by
  have hl : liveLeaves.length = 38 := by simp [liveLeaves, htlcLeaves]
  obtain ⟨L, hL, hc⟩ := open_flat_slice 5 Tryd.underlying25 Tryd.flatLive (by rw [Tryd.cellsLive, hl]) (by rw [hl]; decide) hv h
  obtain ⟨xs, rfl, hok⟩ := map_of (fun c hc => live_fits (hL c hc))
  rcases hc with ⟨a, c, rfl, e⟩ | ⟨g, off, cap, e, h0, h1, h2, _, hat⟩
  · obtain rfl : xs = [] := by simpa using e
    exact ⟨[], .inl ⟨_, _, rfl, rfl⟩, by simp, by simp⟩
  · rw [List.length_map] at e h0 h1
    refine ⟨xs, .inr ⟨g, off, cap, e, ?_⟩, hok, by omega⟩
    have hcell : ∀ i x, xs[i]? = some x → ∀ j, j < 38 → W.cell? ⟨g, off + i * 38 + j, none⟩ = (liveCells x)[j]? := by
      intro i x hx j hj
      have := hat i (liveCells x) (by rw [List.getElem?_map, hx]; rfl) j (by rw [hl]; exact hj)
      rw [hl] at this
      rw [← this, Nat.add_assoc]
    obtain ⟨y, hy⟩ : ∃ y, xs[xs.length - 1]? = some y := ⟨_, List.getElem?_eq_getElem (by omega)⟩
    have h3 := hcell _ y hy 37 (by decide)
    rw [live_37] at h3
    obtain ⟨C, T, fz, hb, hC⟩ := cell_block h3
    refine ⟨C, T, fz, hb, ?_, fun i x hx j hj => ?_⟩
    · have := (Array.getElem?_eq_some_iff.1 hC).1
      omega
    · rw [← hcell i x hx j hj, blk_cell hb]
set_option maxRecDepth 100000 in
theorem open_base (hv : Value.okWide Tryd.prog W .any base 24 v) (h : DataW.Trod enc Tryd.prog W 0 (fun _ => true) true 24 v d p) :
    ∃ l r : Int, v = .agg #[.int .u64 l, .int .u64 r] ∧ (0 ≤ l ∧ l ≤ 18446744073709551615) ∧ (0 ≤ r ∧ r ≤ 18446744073709551615) := by
  obtain ⟨cs, rfl, _⟩ := okWide_struct Tryd.underlying24 hv
  obtain ⟨fuel, hf⟩ := h
  have := flat_fits 3 24 [.int .u64, .int .u64] _ _ _ (by kernel_rfl) hf
  obtain ⟨_, _, e, ⟨i, rfl, hi⟩, _, _, rfl, ⟨a, rfl, ha⟩, rfl⟩ := this
  refine ⟨i, a, ?_, bounds_u64 hi, bounds_u64 ha⟩
  congr 1
  apply Array.ext'
  simpa [Value.cells] using e

set_option maxRecDepth 100000 in
theorem spans_of {laid : List (String × DataW Unit)} (h : laidMet Tryd.prog laid W) (hm : ("remitter/htlc.spans", Rows.laid_remitter_htlc_spans) ∈ laid) : Spans W := by
  refine ⟨fun i hi => ?_⟩
  rw [laid_cell h 5 hm (g := 1) (by kernel_rfl) (t := 103) (by kernel_rfl) (l := List.replicate 4 (.int .i64)) (by kernel_rfl)]
  obtain rfl | rfl | rfl | rfl : i = 0 ∨ i = 1 ∨ i = 2 ∨ i = 3 := by omega
  all_goals rfl
set_option maxRecDepth 100000 in
theorem glob_of {laid : List (String × DataW Unit)} (h : laidMet Tryd.prog laid W) (hm : ("remitter/htlc.events", Rows.laid_remitter_htlc_events) ∈ laid) : Glob W := by
  refine ⟨fun i hi => ?_⟩
  rw [laid_cell h 5 hm (g := 0) (by kernel_rfl) (t := 96) (by kernel_rfl) (l := List.replicate 20 (.int .i64)) (by kernel_rfl)]
  have : ∀ i, i < 20 → (vals (H := Unit) Rows.laid_remitter_htlc_events)[i]? = some (.int .i64 (eventsL.getD i 0)) := by
    intro i hi
    obtain rfl | rfl | rfl | rfl | rfl | rfl | rfl | rfl | rfl | rfl | rfl | rfl | rfl | rfl | rfl | rfl | rfl | rfl | rfl | rfl : i = 0 ∨ i = 1 ∨ i = 2 ∨ i = 3 ∨ i = 4 ∨ i = 5 ∨ i = 6 ∨ i = 7 ∨ i = 8 ∨ i = 9 ∨ i = 10 ∨ i = 11 ∨ i = 12 ∨ i = 13 ∨ i = 14 ∨ i = 15 ∨ i = 16 ∨ i = 17 ∨ i = 18 ∨ i = 19 := by omega
    all_goals rfl
  exact this i hi
end
end Go.Proofs.YtbcjhpeighlncaaDoor
