/-
  Types without pointers: what their cells are, read off the type. One law for every such argument.
-/
import Derived.Test.YtbcjhpeighlncaaDoorBase
import Derived.ProofKit
import Derived.OpenShut
import Derived.ShutString
import Derived.ChangeOld
import Derived.Deep.Slices
namespace Go.Proofs.YtbcjhpeighlncaaDoor
set_option linter.unusedVariables false
set_option linter.unusedSimpArgs false
open Go.RowKit Go.ChangeShapes Go.WideShapes Go.ChangeAt Go.Deep

inductive Leaf where
  | bool
  | int (k : IntKind)
  | str
  deriving DecidableEq
def Leaf.fits : Leaf → Value → Prop
  | .bool, v => ∃ b, v = .bool b
  | .int k, v => ∃ n, v = .int k n ∧ (Lit.int k n).wf = true
  | .str, v => ∃ s : ByteArray, v = .string s ∧ s.size ≤ maxLen
/-- The cells are of these kinds. -/
def Fits : List Leaf → List Value → Prop
  | [], cs => cs = []
  | l :: ls, cs => ∃ v r, cs = v :: r ∧ l.fits v ∧ Fits ls r
theorem Fits.len : ∀ {ls : List Leaf} {cs : List Value}, Fits ls cs → cs.length = ls.length
  | [], _, h => by rw [show _ = [] from h]; rfl
  | l :: ls, _, h => by obtain ⟨v, r, rfl, _, hr⟩ := h; simp [hr.len]
theorem Fits.app : ∀ {ls ms : List Leaf} {cs ds : List Value}, Fits ls cs → Fits ms ds → Fits (ls ++ ms) (cs ++ ds)
  | [], _, _, _, h, k => by rw [show _ = [] from h]; exact k
  | l :: ls, _, _, _, h, k => by obtain ⟨v, r, rfl, hv, hr⟩ := h; exact ⟨v, _, rfl, hv, hr.app k⟩
theorem Fits.split : ∀ {ls ms : List Leaf} {cs : List Value}, Fits (ls ++ ms) cs → ∃ a b, cs = a ++ b ∧ Fits ls a ∧ Fits ms b
  | [], _, cs, h => ⟨[], cs, rfl, rfl, h⟩
  | l :: ls, _, _, h => by
    obtain ⟨v, r, rfl, hv, hr⟩ := h
    obtain ⟨a, b, rfl, ha, hb⟩ := Fits.split hr
    exact ⟨v :: a, b, rfl, ⟨v, a, rfl, hv, ha⟩, hb⟩
theorem Fits.cat : ∀ {L : List (List Leaf)} {C : List (List Value)}, L.length = C.length → (∀ (i : Nat) l c, L[i]? = some l → C[i]? = some c → Fits l c) → Fits L.flatten C.flatten
  | [], [], _, _ => rfl
  | [], _ :: _, h, _ => by simp at h
  | _ :: _, [], h, _ => by simp at h
  | l :: L, c :: C, h, k => by
    rw [List.flatten_cons, List.flatten_cons]
    exact (k 0 l c rfl rfl).app (Fits.cat (by simpa using h) fun i x y hx hy => k (i + 1) x y hx hy)
theorem Fits.ints : ∀ {n : Nat} {k : IntKind} {cs : List Value}, Fits (List.replicate n (.int k)) cs → ∃ l : List Int, l.length = n ∧ cs = l.map (Value.int k) ∧ ∀ x ∈ l, (Lit.int k x).wf = true
  | 0, _, _, h => ⟨[], rfl, h, by simp⟩
  | n + 1, k, _, h => by
    obtain ⟨v, r, rfl, ⟨x, rfl, hx⟩, hr⟩ := h
    obtain ⟨l, h1, rfl, h3⟩ := Fits.ints hr
    exact ⟨x :: l, by simp [h1], rfl, by intro y hy; rcases List.mem_cons.1 hy with rfl | hy; exact hx; exact h3 y hy⟩

/-- The leaves of the fields from offset o on. -/
def flatFields (P : Program) (rec : TypeId → Option (List Leaf)) : Nat → List Field → Option (List Leaf)
  | _, [] => some []
  | o, f :: r => match rec f.type with
    | none => none
    | some l => if f.offset = o ∧ P.cellsOf f.type = l.length then (flatFields P rec (o + l.length) r).map (l ++ ·) else none
/-- The leaves of a type. -/
def flatF (P : Program) : Nat → TypeId → Option (List Leaf)
  | 0, _ => none
  | n + 1, t => match P.underlying t with
    | some .bool => some [.bool]
    | some (.int k) => some [.int k]
    | some .string => some [.str]
    | some (.struct fs) => match flatFields P (flatF P n) 0 fs.toList with
      | some l => if P.cellsOf t = l.length then some l else none
      | none => none
    | some (.array m e) => match flatF P n e with
      | some l => if P.cellsOf e = l.length ∧ P.cellsOf t = m * l.length then some (List.replicate m l).flatten else none
      | none => none
    | _ => none

section
variable {H : Type} {enc : TypeId × Value → H} {P : Program} {w : World} {base : Nat} {spare : Nat → Bool} {held : Bool}

theorem fields_fit {rec : TypeId → Option (List Leaf)} {cs : List Value} (hrec : ∀ t l c x fuel, rec t = some l → DataW.trod enc P w base spare held fuel t c = some x → Fits l c) :
    ∀ (fs : List Field) (o : Nat) (L : List Leaf), flatFields P rec o fs = some L → cs.length = o + L.length →
      (∀ f ∈ fs, ∃ fuel x, DataW.trod enc P w base spare held fuel f.type ((cs.drop f.offset).take (P.cellsOf f.type)) = some x) → Fits L (cs.drop o)
  | [], o, L, h, hl, _ => by
    simp only [flatFields, Option.some.injEq] at h
    subst h
    show cs.drop o = []
    exact List.drop_eq_nil_of_le (by simp at hl; omega)
  | f :: r, o, L, h, hl, hf => by
    unfold flatFields at h
    cases hr : rec f.type with
    | none => rw [hr] at h; cases h
    | some l =>
      rw [hr] at h
      simp only at h
      split at h
      · rename_i hc
        obtain ⟨ho, hk⟩ := hc
        rw [Option.map_eq_some_iff] at h
        obtain ⟨M, hM, rfl⟩ := h
        obtain ⟨fuel, x, hx⟩ := hf f (List.mem_cons_self ..)
        have h1 := hrec _ _ _ _ _ hr hx
        rw [ho, hk] at h1
        rw [List.length_append] at hl
        have h2 := fields_fit hrec r (o + l.length) M hM (by omega) (fun g hg => hf g (List.mem_cons_of_mem _ hg))
        have e : cs.drop o = (cs.drop o).take l.length ++ cs.drop (o + l.length) := by
          rw [← List.drop_drop, List.take_append_drop]
        rw [e]
        exact h1.app h2
      · cases h

theorem chunks (k : Nat) : ∀ (m : Nat) (cs : List Value), cs.length = m * k → cs = ((List.range m).map fun i => (cs.drop (i * k)).take k).flatten
  | 0, cs, h => by
    have : cs = [] := List.length_eq_zero_iff.1 (by omega)
    subst this; rfl
  | m + 1, cs, h => by
    have hc := chunks k m (cs.drop k) (by rw [List.length_drop, h, Nat.succ_mul]; omega)
    rw [List.range_succ_eq_map, List.map_cons, List.flatten_cons, Nat.zero_mul, List.drop_zero, List.map_map]
    have e : ((List.range m).map ((fun i => (cs.drop (i * k)).take k) ∘ Nat.succ)) = ((List.range m).map fun i => ((cs.drop k).drop (i * k)).take k) := by
      apply List.map_congr_left
      intro i _
      show (cs.drop ((i + 1) * k)).take k = _
      rw [List.drop_drop, Nat.succ_mul, Nat.add_comm]
    rw [e, ← hc, List.take_append_drop]

/-- WHAT A READING TELLS OF THE CELLS. -/
theorem flat_fits : ∀ (n : Nat) (t : TypeId) (l : List Leaf) (cs : List Value) (x : DataW H × List MemPlace) (fuel : Nat), flatF P n t = some l → DataW.trod enc P w base spare held fuel t cs = some x → Fits l cs
  | 0, _, _, _, _, _, h, _ => by simp [flatF] at h
  | n + 1, t, l, cs, x, fuel, h, hx => by
    unfold flatF at h
    split at h
    · rename_i hu
      obtain ⟨b, rfl, _⟩ := DataW.trod_bool hu hx
      simp only [Option.some.injEq] at h
      subst h
      exact ⟨_, _, rfl, ⟨b, rfl⟩, rfl⟩
    · rename_i k hu
      obtain ⟨z, rfl, _, hz⟩ := DataW.trod_int hu hx
      simp only [Option.some.injEq] at h
      subst h
      exact ⟨_, _, rfl, ⟨z, rfl, hz⟩, rfl⟩
    · rename_i hu
      obtain ⟨s, rfl, _, hz⟩ := DataW.trod_string hu hx
      simp only [Option.some.injEq] at h
      subst h
      exact ⟨_, _, rfl, ⟨s, rfl, hz⟩, rfl⟩
    · rename_i fs hu
      split at h
      · rename_i L hL
        split at h
        · rename_i hc
          simp only [Option.some.injEq] at h
          subst h
          obtain ⟨xs, m, _, _, hlen, hxl, hf⟩ := DataW.trod_struct hu hx
          refine fields_fit (rec := flatF P n) (cs := cs) (fun t l c x fuel h1 h2 => flat_fits n t l c x fuel h1 h2) fs.toList 0 L hL (by omega) fun f hf' => ?_
          obtain ⟨i, hi⟩ := List.getElem?_of_mem hf'
          rw [Array.getElem?_toList] at hi
          have := hf i f hi
          have hlt : i < xs.length := by rw [hxl]; exact (Array.getElem?_eq_some_iff.1 hi).1
          rw [List.getElem?_eq_getElem hlt] at this
          exact ⟨m, _, this⟩
        · cases h
      · cases h
    · rename_i m e hu
      split at h
      · rename_i L hL
        split at h
        · rename_i hc
          simp only [Option.some.injEq] at h
          subst h
          obtain ⟨xs, k, _, _, hlen, hxl, hf⟩ := DataW.trod_array hu hx
          rw [chunks L.length m cs (by omega)]
          refine Fits.cat (by simp) fun i a c ha hc' => ?_
          obtain ⟨hi, rfl⟩ : i < m ∧ a = L := by
            rw [List.getElem?_replicate] at ha
            split at ha
            · exact ⟨‹_›, (Option.some.inj ha).symm⟩
            · cases ha
          rw [List.getElem?_map, List.getElem?_range hi, Option.map_some, Option.some.injEq] at hc'
          subst hc'
          have := hf i hi
          rw [hc.1, List.getElem?_eq_getElem (by omega)] at this
          exact flat_fits n e _ _ _ k hL this
        · cases h
      · cases h
    · cases h

theorem list_of {α : Type} {R : Nat → α → Prop} : ∀ {n : Nat}, (∀ i, i < n → ∃ a, R i a) → ∃ L : List α, L.length = n ∧ ∀ (i : Nat) a, L[i]? = some a → R i a
  | 0, _ => ⟨[], rfl, by simp⟩
  | n + 1, h => by
    obtain ⟨L, h1, h2⟩ := list_of (n := n) fun i hi => h i (by omega)
    obtain ⟨a, ha⟩ := h n (by omega)
    refine ⟨L ++ [a], by simp [h1], fun i b hb => ?_⟩
    rw [List.getElem?_append] at hb
    split at hb
    · exact h2 i b hb
    · rename_i hi
      obtain ⟨rfl, rfl⟩ : i = n ∧ b = a := by
        rw [List.getElem?_singleton] at hb
        split at hb
        · exact ⟨by omega, (Option.some.inj hb).symm⟩
        · cases hb
      exact ha
/-- A slice of such that came in: nil, or a row of cells. -/
theorem open_flat_slice {t e : TypeId} {v : Value} {d : DataW H} {p : List MemPlace} {l : List Leaf} {W : World} {b0 : Nat} (n : Nat) (ht : P.underlying t = some (.slice e)) (hl : flatF P n e = some l) (hc : P.cellsOf e = l.length) (hz : 0 < l.length)
    (hv : Value.okWide P W .any b0 t v) (h : DataW.Trod enc P W 0 (fun _ => true) true t v d p) :
    ∃ L : List (List Value), (∀ c ∈ L, Fits l c) ∧ ((∃ a cap, v = .slice a 0 cap ∧ L = []) ∨
      ∃ g off cap, v = .slice (some ⟨g, off, none⟩) L.length cap ∧ 0 < L.length ∧ L.length ≤ cap ∧ cap ≤ maxLen ∧ (∀ j, j < L.length * l.length → MemPlace.cell g (off + j) ∈ p) ∧ ∀ i c, L[i]? = some c → ∀ j, j < l.length → W.cell? ⟨g, off + (i * l.length + j), none⟩ = c[j]?) := by
  obtain ⟨a0, len, cap, rfl⟩ := okWide_slice ht hv
  obtain ⟨fuel, hf⟩ := h
  rcases open_slice ht hf with ⟨hcs, _⟩ | ⟨a, len', cap', m, k, D, Pl, hcs, _, hle, hm, hmm, hx, hi⟩
  · simp [Value.cells] at hcs
    obtain ⟨rfl, rfl, rfl⟩ := hcs
    exact ⟨[], by simp, .inl ⟨_, _, rfl, rfl⟩⟩
  · simp [Value.cells] at hcs
    obtain ⟨rfl, rfl, rfl⟩ := hcs
    by_cases h0 : len = 0
    · subst h0
      exact ⟨[], by simp, .inl ⟨_, _, rfl, rfl⟩⟩
    · replace hmm : m = cap := by simpa using hmm
      obtain ⟨L, hL, hR⟩ := list_of (n := len) (R := fun i cs' => W.cells? 0 (a.add (i * P.cellsOf e)) (P.cellsOf e) = some cs' ∧ DataW.trod enc P W 0 (fun _ => true) true k e cs' = some (D i, Pl i)) fun i hlt => by
        obtain ⟨cs', h1, h2⟩ := hi i (by omega)
        exact ⟨cs', h1, h2⟩
      obtain ⟨b, off, spot⟩ := a
      have hspot : spot = none := by
        obtain ⟨c0, hc0⟩ : ∃ c, L[0]? = some c := ⟨_, List.getElem?_eq_getElem (by omega)⟩
        obtain ⟨h1, h2⟩ := hR 0 c0 hc0
        obtain ⟨_, hcl, hat⟩ := World.cells?_some h1
        have := hat 0 (by omega)
        rw [Nat.zero_mul] at this
        have h3 : c0[0]? = some (c0[0]'(by omega)) := List.getElem?_eq_getElem (by omega)
        rw [h3] at this
        simpa [Addr.add] using World.cell?_spot this
      subst hspot
      refine ⟨L, ?_, .inr ⟨b, off, cap, by rw [hL], by omega, by omega, hm, ?_, ?_⟩⟩
      · intro c hc'
        obtain ⟨i, hi'⟩ := List.getElem?_of_mem hc'
        exact flat_fits n e l c _ k hl (hR i c hi').2
      · intro j hj
        simp only [Prod.mk.injEq] at hx
        rw [hx.2]
        refine List.mem_append_left _ ?_
        unfold MemPlace.row
        rw [List.mem_map]
        have : L.length * l.length ≤ m * l.length := Nat.mul_le_mul_right _ (by omega)
        exact ⟨j, by rw [List.mem_range, hc]; omega, rfl⟩
      · intro i c hi' j hj
        obtain ⟨h1, h2⟩ := hR i c hi'
        obtain ⟨_, hcl, hat⟩ := World.cells?_some h1
        have := hat j (by omega)
        rw [add_add, hc] at this
        have e1 : (⟨b, off, none⟩ : Addr).add (i * l.length + j) = ⟨b, off + (i * l.length + j), none⟩ := by unfold Addr.add; split <;> simp_all
        rwa [e1] at this

end
end Go.Proofs.YtbcjhpeighlncaaDoor
