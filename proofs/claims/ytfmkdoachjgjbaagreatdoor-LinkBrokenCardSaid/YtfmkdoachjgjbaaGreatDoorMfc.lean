/-
  What a listed variable of a type without pointers holds, cell for cell.
-/
import Derived.Test.YtfmkdoachjgjbaaGreatDoorMca
import Derived.LaidLaws
import Derived.Lib.LaidTab
import Derived.Test.YtfmkdoachjgjbaaGreatDoorMcb
import Derived.Test.YtfmkdoachjgjbaaGreatDoorRows
set_option linter.unusedVariables false
set_option linter.unusedSimpArgs false
namespace Go.Proofs.YtfmkdoachjgjbaaGreatDoor
open Go.RowKit Go.ChangeShapes Go.WideShapes Go.ChangeAt Go.Deep

mutual
/-- The cells that a datum without pointers is read from. -/
def vals {H : Type} : DataW H → List Value
  | .lit (.bool b) => [.bool b]
  | .lit (.int k n) => [.int k n]
  | .lit (.string b) => [.string ⟨b.toArray⟩]
  | .agg ps => valsAll ps
  | _ => []
def valsAll {H : Type} : List (DataW H) → List Value
  | [] => []
  | d :: r => vals d ++ valsAll r
end
theorem valsAll_map {H α : Type} (f : α → DataW H) : ∀ l : List α, valsAll (l.map f) = (l.map fun x => vals (f x)).flatten
  | [] => rfl
  | x :: l => by rw [List.map_cons, List.map_cons, List.flatten_cons, ← valsAll_map f l]; rfl

section
variable {H : Type} {enc : TypeId × Value → H} {P : Program} {w : World} {base : Nat} {spare : Nat → Bool} {held : Bool}

theorem fields_vals {rec : TypeId → Option (List Leaf)} {cs : List Value} (hrec : ∀ t l c x fuel, rec t = some l → DataW.trod enc P w base spare held fuel t c = some x → c = vals x.1) :
    ∀ (fs : List Field) (o : Nat) (L : List Leaf) (xs : List (DataW H × List MemPlace)), flatFields P rec o fs = some L → cs.length = o + L.length → xs.length = fs.length →
      (∀ (i : Nat) f, fs[i]? = some f → ∃ fuel, DataW.trod enc P w base spare held fuel f.type ((cs.drop f.offset).take (P.cellsOf f.type)) = xs[i]?) → cs.drop o = valsAll (xs.map (·.1))
  | [], o, L, xs, h, hl, hx, _ => by
    simp only [flatFields, Option.some.injEq] at h
    subst h
    rw [List.length_eq_zero_iff.1 hx]
    exact List.drop_eq_nil_of_le (by simp at hl; omega)
  | f :: r, o, L, [], h, hl, hx, _ => by simp at hx
  | f :: r, o, L, x :: xs, h, hl, hx, hf => by
    unfold flatFields at h
    cases hr : rec f.type with
    | none => rw [hr] at h; cases h
    | some l =>
      rw [hr] at h
      simp only at h
      split at h
      · rename_i hc
        obtain ⟨ho, hk⟩ := hc
        rw [Option.map_eq_some_iff] at h
        obtain ⟨M, hM, rfl⟩ := h
        obtain ⟨fuel, hx0⟩ := hf 0 f rfl
        have h1 := hrec _ _ _ _ _ hr (hx0.trans rfl)
        rw [ho, hk] at h1
        rw [List.length_append] at hl
        have h2 := fields_vals hrec r (o + l.length) M xs hM (by omega) (by simpa using hx) (fun i g hg => hf (i + 1) g hg)
        have e : cs.drop o = (cs.drop o).take l.length ++ cs.drop (o + l.length) := by
          rw [← List.drop_drop, List.take_append_drop]
        rw [e, h1, h2]
        rfl
      · cases h

theorem flat_vals : ∀ (n : Nat) (t : TypeId) (l : List Leaf) (cs : List Value) (x : DataW H × List MemPlace) (fuel : Nat), flatF P n t = some l → DataW.trod enc P w base spare held fuel t cs = some x → cs = vals x.1
  | 0, _, _, _, _, _, h, _ => by simp [flatF] at h
  | n + 1, t, l, cs, x, fuel, h, hx => by
    unfold flatF at h
    split at h
    · rename_i hu
      obtain ⟨b, rfl, rfl⟩ := DataW.trod_bool hu hx
      rfl
    · rename_i k hu
      obtain ⟨z, rfl, rfl, hz⟩ := DataW.trod_int hu hx
      rfl
    · rename_i hu
      obtain ⟨s, rfl, rfl, hz⟩ := DataW.trod_string hu hx
      rfl
    · rename_i fs hu
      split at h
      · rename_i L hL
        split at h
        · rename_i hc
          simp only [Option.some.injEq] at h
          subst h
          obtain ⟨xs, m, _, rfl, hlen, hxl, hf⟩ := DataW.trod_struct hu hx
          have := fields_vals (rec := flatF P n) (cs := cs) (fun t l c x fuel h1 h2 => flat_vals n t l c x fuel h1 h2) fs.toList 0 L xs hL (by omega) (by simpa using hxl) fun i f hf' => ⟨m, hf i f (by simpa using hf')⟩
          exact this
        · cases h
      · cases h
    · rename_i m e hu
      split at h
      · rename_i L hL
        split at h
        · rename_i hc
          simp only [Option.some.injEq] at h
          subst h
          obtain ⟨xs, k, _, rfl, hlen, hxl, hf⟩ := DataW.trod_array hu hx
          show cs = valsAll (xs.map (·.1))
          rw [valsAll_map]
          refine (chunks L.length m cs (by omega)).trans ?_
          congr 1
          apply List.ext_getElem?
          intro i
          by_cases hi : i < m
          · have h1 := hf i hi
            rw [hc.1] at h1
            have hxi : xs[i]? = some (xs[i]'(by omega)) := List.getElem?_eq_getElem (by omega)
            rw [List.getElem?_map, List.getElem?_map, List.getElem?_range hi, hxi]
            exact congrArg some (flat_vals n e _ _ _ k hL (h1.trans hxi))
          · rw [List.getElem?_eq_none (by simp; omega), List.getElem?_eq_none (by simp; omega)]
        · cases h
      · cases h
    · cases h
end

theorem laid_vals {P : Program} {w : World} : ∀ {laid : List (String × DataW Unit)} {ps : List MemPlace}, DataW.LaidVars P w laid ps → ∀ {n : String} {d : DataW Unit} {g : Nat} {t : TypeId} (k : Nat) {l : List Leaf}, (n, d) ∈ laid →
    P.globalNamed n = some g → (P.globals[g]?).map (·.type) = some t → flatF P k t = some l → w.var? P n = some (vals d).toArray
  | [], _, _, _, _, _, _, _, _, hm, _, _, _ => by simp at hm
  | (n', d') :: rest, _, h, n, d, g, t, k, l, hm, hg, ht, hf => by
    obtain ⟨g', t', cs, fuel, p, q, hg', ht', hvar, hd, hrest, _⟩ := h
    rcases List.mem_cons.1 hm with e | hm
    · cases e
      obtain rfl := Option.some.inj (hg.symm.trans hg')
      obtain rfl := Option.some.inj (ht.symm.trans ht')
      rw [hvar, ← flat_vals k t l _ _ _ hf hd]
    · exact laid_vals hrest k hm hg ht hf
theorem laid_cell {P : Program} {w : World} {laid : List (String × DataW Unit)} (h : laidMet P laid w) {n : String} {d : DataW Unit} {g : Nat} {t : TypeId} (k : Nat) {l : List Leaf} (hm : (n, d) ∈ laid)
    (hg : P.globalNamed n = some g) (ht : (P.globals[g]?).map (·.type) = some t) (hf : flatF P k t = some l) (i : Nat) : w.cell? ⟨g, i, none⟩ = (vals d)[i]? := by
  obtain ⟨ps, hl, _⟩ := h
  have := World.var?_cell hg (laid_vals hl k hm hg ht hf) i
  simpa using this

end Go.Proofs.YtfmkdoachjgjbaaGreatDoor
namespace Go.Proofs.YtfmkdoachjgjbaaGreatDoor
open Go.RowKit Go.Sort Go.ChangeShapes Go.WideShapes Go.ChangeAt

set_option maxRecDepth 100000 in
theorem tabs_ofD {W : World} {laid : List (String × DataW Unit)} (h : laidMet Tryz.prog laid W) (m3 : ("remitter/digest.table", Rows.laid_remitter_digest_table) ∈ laid) (m4 : ("remitter/digest.begin", Rows.laid_remitter_digest_begin) ∈ laid) : Tabs W := by
  refine ⟨fun i hi => ?_, fun i hi => ?_⟩
  · rw [laid_cell h 5 m3 (g := 4) (by kernel_rfl) (t := 321) (by kernel_rfl) (l := List.replicate 64 (.int .u32)) (by kernel_rfl)]
    have hv : vals (H := Unit) Rows.laid_remitter_digest_table = kTab.map (Value.int .u32) := by rfl
    rw [hv, List.getElem?_map, List.getD_eq_getElem?_getD, List.getElem?_eq_getElem (show i < kTab.length from hi)]
    rfl
  · rw [laid_cell h 5 m4 (g := 1) (by kernel_rfl) (t := 295) (by kernel_rfl) (l := List.replicate 8 (.int .u32)) (by kernel_rfl)]
    have hv : vals (H := Unit) Rows.laid_remitter_digest_begin = hBeg.map (Value.int .u32) := by rfl
    rw [hv, List.getElem?_map, List.getD_eq_getElem?_getD, List.getElem?_eq_getElem (show i < hBeg.length from hi)]
    rfl
set_option maxRecDepth 100000 in
theorem tc_of {W : World} {laid : List (String × DataW Unit)} (h : laidMet Tryz.prog laid W) (m1 : ("remitter/htlc.events", Rows.laid_remitter_htlc_events) ∈ laid) (m2 : ("remitter/htlc.spans", Rows.laid_remitter_htlc_spans) ∈ laid) (m3 : ("remitter/digest.table", Rows.laid_remitter_digest_table) ∈ laid) (m4 : ("remitter/digest.begin", Rows.laid_remitter_digest_begin) ∈ laid) : Tc W := by
  refine ⟨⟨fun i hi => ?_⟩, ⟨fun i hi => ?_⟩, tabs_ofD h m3 m4⟩
  · rw [laid_cell h 5 m1 (g := 0) (by kernel_rfl) (t := 282) (by kernel_rfl) (l := List.replicate 20 (.int .i64)) (by kernel_rfl)]
    have hv : vals (H := Unit) Rows.laid_remitter_htlc_events = eventsL.map (Value.int .i64) := by rfl
    rw [hv, List.getElem?_map, List.getD_eq_getElem?_getD, List.getElem?_eq_getElem (show i < eventsL.length from hi)]
    rfl
  · rw [laid_cell h 5 m2 (g := 2) (by kernel_rfl) (t := 303) (by kernel_rfl) (l := List.replicate 4 (.int .i64)) (by kernel_rfl)]
    have hv : vals (H := Unit) Rows.laid_remitter_htlc_spans = spansL.map (Value.int .i64) := by rfl
    rw [hv, List.getElem?_map, List.getD_eq_getElem?_getD, List.getElem?_eq_getElem (show i < spansL.length from hi)]
    rfl
end Go.Proofs.YtfmkdoachjgjbaaGreatDoor
