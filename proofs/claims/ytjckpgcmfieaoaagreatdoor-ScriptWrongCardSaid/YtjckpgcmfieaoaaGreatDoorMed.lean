/-
  What a listed variable of a type without pointers holds, cell for cell.
-/
import Derived.Test.YtjckpgcmfieaoaaGreatDoorMaa
import Derived.LaidLaws
import Derived.Lib.LaidTab
import Derived.Test.YtjckpgcmfieaoaaGreatDoorMdh
import Derived.Test.YtjckpgcmfieaoaaGreatDoorRows
import Derived.Test.YtjckpgcmfieaoaaGreatDoorWr0
import Derived.Test.YtjckpgcmfieaoaaGreatDoorWr1
import Derived.Test.YtjckpgcmfieaoaaGreatDoorWr2
import Derived.Test.YtjckpgcmfieaoaaGreatDoorWr3
import Derived.Test.YtjckpgcmfieaoaaGreatDoorWr4
set_option linter.unusedVariables false
set_option linter.unusedSimpArgs false
namespace Go.Proofs.YtjckpgcmfieaoaaGreatDoor
open Go.RowKit Go.ChangeShapes Go.WideShapes Go.ChangeAt Go.Deep

mutual
/-- The cells that a datum without pointers is read from. -/
def vals {H : Type} : DataW H → List Value
  | .lit (.bool b) => [.bool b]
  | .lit (.int k n) => [.int k n]
  | .lit (.string b) => [.string ⟨b.toArray⟩]
  | .agg ps => valsAll ps
  | _ => []
def valsAll {H : Type} : List (DataW H) → List Value
  | [] => []
  | d :: r => vals d ++ valsAll r
end
theorem valsAll_map {H α : Type} (f : α → DataW H) : ∀ l : List α, valsAll (l.map f) = (l.map fun x => vals (f x)).flatten
  | [] => rfl
  | x :: l => by rw [List.map_cons, List.map_cons, List.flatten_cons, ← valsAll_map f l]; rfl

section
variable {H : Type} {enc : TypeId × Value → H} {P : Program} {w : World} {base : Nat} {spare : Nat → Bool} {held : Bool}

theorem fields_vals {rec : TypeId → Option (List Leaf)} {cs : List Value} (hrec : ∀ t l c x fuel, rec t = some l → DataW.trod enc P w base spare held fuel t c = some x → c = vals x.1) :
    ∀ (fs : List Field) (o : Nat) (L : List Leaf) (xs : List (DataW H × List MemPlace)), flatFields P rec o fs = some L → cs.length = o + L.length → xs.length = fs.length →
      (∀ (i : Nat) f, fs[i]? = some f → ∃ fuel, DataW.trod enc P w base spare held fuel f.type ((cs.drop f.offset).take (P.cellsOf f.type)) = xs[i]?) → cs.drop o = valsAll (xs.map (·.1))
  | [], o, L, xs, h, hl, hx, _ => by
    simp only [flatFields, Option.some.injEq] at h
    subst h
    rw [List.length_eq_zero_iff.1 hx]
    exact List.drop_eq_nil_of_le (by simp at hl; omega)
  | f :: r, o, L, [], h, hl, hx, _ => by simp at hx
  | f :: r, o, L, x :: xs, h, hl, hx, hf => by
    unfold flatFields at h
    cases hr : rec f.type with
    | none => rw [hr] at h; cases h
    | some l =>
      rw [hr] at h
      simp only at h
      split at h
      · rename_i hc
        obtain ⟨ho, hk⟩ := hc
        rw [Option.map_eq_some_iff] at h
        obtain ⟨M, hM, rfl⟩ := h
        obtain ⟨fuel, hx0⟩ := hf 0 f rfl
        have h1 := hrec _ _ _ _ _ hr (hx0.trans rfl)
        rw [ho, hk] at h1
        rw [List.length_append] at hl
        have h2 := fields_vals hrec r (o + l.length) M xs hM (by omega) (by simpa using hx) (fun i g hg => hf (i + 1) g hg)
        have e : cs.drop o = (cs.drop o).take l.length ++ cs.drop (o + l.length) := by
          rw [← List.drop_drop, List.take_append_drop]
        rw [e, h1, h2]
        rfl
      · cases h

theorem flat_vals : ∀ (n : Nat) (t : TypeId) (l : List Leaf) (cs : List Value) (x : DataW H × List MemPlace) (fuel : Nat), flatF P n t = some l → DataW.trod enc P w base spare held fuel t cs = some x → cs = vals x.1
  | 0, _, _, _, _, _, h, _ => by simp [flatF] at h
  | n + 1, t, l, cs, x, fuel, h, hx => by
    unfold flatF at h
    split at h
    · rename_i hu
      obtain ⟨b, rfl, rfl⟩ := DataW.trod_bool hu hx
      rfl
    · rename_i k hu
      obtain ⟨z, rfl, rfl, hz⟩ := DataW.trod_int hu hx
      rfl
    · rename_i hu
      obtain ⟨s, rfl, rfl, hz⟩ := DataW.trod_string hu hx
      rfl
    · rename_i fs hu
      split at h
      · rename_i L hL
        split at h
        · rename_i hc
          simp only [Option.some.injEq] at h
          subst h
          obtain ⟨xs, m, _, rfl, hlen, hxl, hf⟩ := DataW.trod_struct hu hx
          have := fields_vals (rec := flatF P n) (cs := cs) (fun t l c x fuel h1 h2 => flat_vals n t l c x fuel h1 h2) fs.toList 0 L xs hL (by omega) (by simpa using hxl) fun i f hf' => ⟨m, hf i f (by simpa using hf')⟩
          exact this
        · cases h
      · cases h
    · rename_i m e hu
      split at h
      · rename_i L hL
        split at h
        · rename_i hc
          simp only [Option.some.injEq] at h
          subst h
          obtain ⟨xs, k, _, rfl, hlen, hxl, hf⟩ := DataW.trod_array hu hx
          show cs = valsAll (xs.map (·.1))
          rw [valsAll_map]
          refine (chunks L.length m cs (by omega)).trans ?_
          congr 1
          apply List.ext_getElem?
          intro i
          by_cases hi : i < m
          · have h1 := hf i hi
            rw [hc.1] at h1
            have hxi : xs[i]? = some (xs[i]'(by omega)) := List.getElem?_eq_getElem (by omega)
            rw [List.getElem?_map, List.getElem?_map, List.getElem?_range hi, hxi]
            exact congrArg some (flat_vals n e _ _ _ k hL (h1.trans hxi))
          · rw [List.getElem?_eq_none (by simp; omega), List.getElem?_eq_none (by simp; omega)]
        · cases h
      · cases h
    · cases h
end

theorem laid_vals {P : Program} {w : World} : ∀ {laid : List (String × DataW Unit)} {ps : List MemPlace}, DataW.LaidVars P w laid ps → ∀ {n : String} {d : DataW Unit} {g : Nat} {t : TypeId} (k : Nat) {l : List Leaf}, (n, d) ∈ laid →
    P.globalNamed n = some g → (P.globals[g]?).map (·.type) = some t → flatF P k t = some l → w.var? P n = some (vals d).toArray
  | [], _, _, _, _, _, _, _, _, hm, _, _, _ => by simp at hm
  | (n', d') :: rest, _, h, n, d, g, t, k, l, hm, hg, ht, hf => by
    obtain ⟨g', t', cs, fuel, p, q, hg', ht', hvar, hd, hrest, _⟩ := h
    rcases List.mem_cons.1 hm with e | hm
    · cases e
      obtain rfl := Option.some.inj (hg.symm.trans hg')
      obtain rfl := Option.some.inj (ht.symm.trans ht')
      rw [hvar, ← flat_vals k t l _ _ _ hf hd]
    · exact laid_vals hrest k hm hg ht hf
theorem laid_cell {P : Program} {w : World} {laid : List (String × DataW Unit)} (h : laidMet P laid w) {n : String} {d : DataW Unit} {g : Nat} {t : TypeId} (k : Nat) {l : List Leaf} (hm : (n, d) ∈ laid)
    (hg : P.globalNamed n = some g) (ht : (P.globals[g]?).map (·.type) = some t) (hf : flatF P k t = some l) (i : Nat) : w.cell? ⟨g, i, none⟩ = (vals d)[i]? := by
  obtain ⟨ps, hl, _⟩ := h
  have := World.var?_cell hg (laid_vals hl k hm hg ht hf) i
  simpa using this

end Go.Proofs.YtjckpgcmfieaoaaGreatDoor
namespace Go.Proofs.YtjckpgcmfieaoaaGreatDoor
open Go.RowKit Go.ChangeShapes Go.WideShapes Go.ChangeAt

theorem tab_at {W : World} {laid : List (String × DataW Unit)} (h : laidMet Tryz.prog laid W) {n : String} {d : DataW Unit} {g : Nat} {t : TypeId} {k : IntKind} {l : List Nat} (hm : (n, d) ∈ laid) (hg : Tryz.prog.globalNamed n = some g) (ht : (Tryz.prog.globals[g]?).map (·.type) = some t)
    (hf : flatF Tryz.prog 5 t = some (List.replicate l.length (.int k))) (hv : vals d = l.map fun (x : Nat) => Value.int k (x : Int)) (i : Nat) (hi : i < l.length) : W.cell? ⟨g, i, none⟩ = some (.int k (l.getD i 0 : Nat)) := by
  rw [laid_cell h 5 hm hg ht hf, hv, List.getElem?_map, List.getD_eq_getElem?_getD, List.getElem?_eq_getElem hi]
  rfl
set_option maxRecDepth 100000 in
theorem evTabs_of {W : World} {laid : List (String × DataW Unit)} (h : laidMet Tryz.prog laid W)
    (m1 : ("remitter/htlc.events", Rows.laid_remitter_htlc_events) ∈ laid)
    (m2 : ("remitter/htlc.spans", Rows.laid_remitter_htlc_spans) ∈ laid)
    (m3 : ("math/bits.deBruijn64tab", Rows.laid_math_bits_deBruijn64tab) ∈ laid)
    (m4 : ("internal/strconv.uint64pow10", Rows.laid_internal_strconv_uint64pow10) ∈ laid)
    (m5 : ("remitter/digest.table", Rows.laid_remitter_digest_table) ∈ laid)
    (m6 : ("remitter/digest.begin", Rows.laid_remitter_digest_begin) ∈ laid) : TabsAt W evTabs := by
  intro t ht
  simp only [evTabs, List.mem_cons, List.not_mem_nil, or_false] at ht
  rcases ht with rfl | rfl | rfl | rfl | rfl | rfl
  · exact ⟨by decide, by decide, tab_at h m1 (by kernel_rfl) (t := 367) (by kernel_rfl) (by kernel_rfl) (by rfl)⟩
  · exact ⟨by decide, by decide, tab_at h m2 (by kernel_rfl) (t := 414) (by kernel_rfl) (by kernel_rfl) (by rfl)⟩
  · exact ⟨by decide, by decide, tab_at h m3 (by kernel_rfl) (t := 368) (by kernel_rfl) (by kernel_rfl) (by rfl)⟩
  · exact ⟨by decide, by decide, tab_at h m4 (by kernel_rfl) (t := 426) (by kernel_rfl) (by kernel_rfl) (by rfl)⟩
  · exact ⟨by decide, by decide, tab_at h m5 (by kernel_rfl) (t := 344) (by kernel_rfl) (by kernel_rfl) (by rfl)⟩
  · exact ⟨by decide, by decide, tab_at h m6 (by kernel_rfl) (t := 241) (by kernel_rfl) (by kernel_rfl) (by rfl)⟩
end Go.Proofs.YtjckpgcmfieaoaaGreatDoor
namespace Go.Proofs.YtjckpgcmfieaoaaGreatDoor
open Go.RowKit

/-- One number that is not known. -/
theorem one_sym {W : World} {k : IntKind} {n lo hi : Nat} (h1 : lo ≤ n) (h2 : n ≤ hi) (hk : k.wrap (n : Int) = n) : VRs (bet1 W fun i => if i = 0 then some n else none) [.sint k (.term 1 (.var 0 lo hi) (.cst 0))] [.int k (n : Int)] := by
  refine .cons (.sint (SN.one0 ⟨[], ?_⟩) hk) .nil
  unfold SX.den
  rw [bet1_sym W _ (by decide)]
  simp only [if_true]
  rw [if_pos ⟨h1, h2⟩]
theorem wrong_card (a : Int) (W : World) (ha : (Lit.int .u16 a).wf = true) (ht : TabsAt W evTabs) : Calls Tryz.prog 8 #[.int .u16 a] W (Makes (.bool true) W) := by
  have hb : 0 ≤ a ∧ a < 65536 := by
    simp [Lit.wf, IntKind.min, IntKind.max, IntKind.signed, IntKind.bits] at ha
    omega
  obtain ⟨n, rfl⟩ := Int.eq_ofNat_of_zero_le hb.1
  have hw : IntKind.u16.wrap (n : Int) = n := by
    simp [IntKind.wrap, IntKind.bits, IntKind.signed]
    omega
  have he := enters_of Tryz.func8 (by kernel_rfl) rfl #[.int .u16 (n : Int)] W
  have go : ∀ {lo hi : Nat}, lo ≤ n → n ≤ hi → tellsTrue (eCall Tryz.prog intW 100 8 [.sint .u16 (.term 1 (.var 0 lo hi) (.cst 0))] (.mk (eTabH evTabs) 2048)) = true → Calls Tryz.prog 8 #[.int .u16 (n : Int)] W (Makes (.bool true) W) := fun h1 h2 h =>
    told_true1 (by kernel_rfl) intW_ok h W ht _ (one_sym h1 h2 hw) he
  rcases (by omega : n ≤ 9 ∨ (10 ≤ n ∧ n ≤ 99) ∨ (100 ≤ n ∧ n ≤ 999) ∨ (1000 ≤ n ∧ n ≤ 9999) ∨ (10000 ≤ n ∧ n ≤ 65535)) with h | h | h | h | h
  · exact go (Nat.zero_le _) h wrong_ev0
  · exact go h.1 h.2 wrong_ev1
  · exact go h.1 h.2 wrong_ev2
  · exact go h.1 h.2 wrong_ev3
  · exact go h.1 h.2 wrong_ev4
end Go.Proofs.YtjckpgcmfieaoaaGreatDoor
