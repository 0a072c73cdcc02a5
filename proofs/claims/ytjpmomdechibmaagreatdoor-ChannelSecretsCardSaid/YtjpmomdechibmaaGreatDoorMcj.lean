/-
  Types without pointers: what their cells are, read off the type. One law for every such argument.
-/
import Derived.Test.YtjpmomdechibmaaGreatDoorMaa
import Derived.ProofKit
import Derived.OpenShut
import Derived.ShutString
import Derived.ChangeOld
import Derived.Deep.Slices
import Derived.Laws.StructEq
import Derived.Stop.BytesEq
import Derived.Test.YtjpmomdechibmaaGreatDoorMcb
import Derived.Test.YtjpmomdechibmaaGreatDoorSha5
namespace Go.Proofs.YtjpmomdechibmaaGreatDoor
set_option linter.unusedVariables false
set_option linter.unusedSimpArgs false
open Go.RowKit Go.ChangeShapes Go.WideShapes Go.ChangeAt Go.Deep

inductive Leaf where
  | bool
  | int (k : IntKind)
  | str
  deriving DecidableEq
def Leaf.fits : Leaf → Value → Prop
  | .bool, v => ∃ b, v = .bool b
  | .int k, v => ∃ n, v = .int k n ∧ (Lit.int k n).wf = true
  | .str, v => ∃ s : ByteArray, v = .string s ∧ s.size ≤ maxLen
/-- The cells are of these kinds. -/
def Fits : List Leaf → List Value → Prop
  | [], cs => cs = []
  | l :: ls, cs => ∃ v r, cs = v :: r ∧ l.fits v ∧ Fits ls r
theorem Fits.len : ∀ {ls : List Leaf} {cs : List Value}, Fits ls cs → cs.length = ls.length
  | [], _, h => by rw [show _ = [] from h]; rfl
  | l :: ls, _, h => by obtain ⟨v, r, rfl, _, hr⟩ := h; simp [hr.len]
theorem Fits.app : ∀ {ls ms : List Leaf} {cs ds : List Value}, Fits ls cs → Fits ms ds → Fits (ls ++ ms) (cs ++ ds)
  | [], _, _, _, h, k => by rw [show _ = [] from h]; exact k
  | l :: ls, _, _, _, h, k => by obtain ⟨v, r, rfl, hv, hr⟩ := h; exact ⟨v, _, rfl, hv, hr.app k⟩
theorem Fits.split : ∀ {ls ms : List Leaf} {cs : List Value}, Fits (ls ++ ms) cs → ∃ a b, cs = a ++ b ∧ Fits ls a ∧ Fits ms b
  | [], _, cs, h => ⟨[], cs, rfl, rfl, h⟩
  | l :: ls, _, _, h => by
    obtain ⟨v, r, rfl, hv, hr⟩ := h
    obtain ⟨a, b, rfl, ha, hb⟩ := Fits.split hr
    exact ⟨v :: a, b, rfl, ⟨v, a, rfl, hv, ha⟩, hb⟩
theorem Fits.cat : ∀ {L : List (List Leaf)} {C : List (List Value)}, L.length = C.length → (∀ (i : Nat) l c, L[i]? = some l → C[i]? = some c → Fits l c) → Fits L.flatten C.flatten
  | [], [], _, _ => rfl
  | [], _ :: _, h, _ => by simp at h
  | _ :: _, [], h, _ => by simp at h
  | l :: L, c :: C, h, k => by
    rw [List.flatten_cons, List.flatten_cons]
    exact (k 0 l c rfl rfl).app (Fits.cat (by simpa using h) fun i x y hx hy => k (i + 1) x y hx hy)
theorem Fits.ints : ∀ {n : Nat} {k : IntKind} {cs : List Value}, Fits (List.replicate n (.int k)) cs → ∃ l : List Int, l.length = n ∧ cs = l.map (Value.int k) ∧ ∀ x ∈ l, (Lit.int k x).wf = true
  | 0, _, _, h => ⟨[], rfl, h, by simp⟩
  | n + 1, k, _, h => by
    obtain ⟨v, r, rfl, ⟨x, rfl, hx⟩, hr⟩ := h
    obtain ⟨l, h1, rfl, h3⟩ := Fits.ints hr
    exact ⟨x :: l, by simp [h1], rfl, by intro y hy; rcases List.mem_cons.1 hy with rfl | hy; exact hx; exact h3 y hy⟩

/-- The leaves of the fields from offset o on. -/
def flatFields (P : Program) (rec : TypeId → Option (List Leaf)) : Nat → List Field → Option (List Leaf)
  | _, [] => some []
  | o, f :: r => match rec f.type with
    | none => none
    | some l => if f.offset = o ∧ P.cellsOf f.type = l.length then (flatFields P rec (o + l.length) r).map (l ++ ·) else none
/-- The leaves of a type. -/
def flatF (P : Program) : Nat → TypeId → Option (List Leaf)
  | 0, _ => none
  | n + 1, t => match P.underlying t with
    | some .bool => some [.bool]
    | some (.int k) => some [.int k]
    | some .string => some [.str]
    | some (.struct fs) => match flatFields P (flatF P n) 0 fs.toList with
      | some l => if P.cellsOf t = l.length then some l else none
      | none => none
    | some (.array m e) => match flatF P n e with
      | some l => if P.cellsOf e = l.length ∧ P.cellsOf t = m * l.length then some (List.replicate m l).flatten else none
      | none => none
    | _ => none

section
variable {H : Type} {enc : TypeId × Value → H} {P : Program} {w : World} {base : Nat} {spare : Nat → Bool} {held : Bool}

theorem fields_fit {rec : TypeId → Option (List Leaf)} {cs : List Value} (hrec : ∀ t l c x fuel, rec t = some l → DataW.trod enc P w base spare held fuel t c = some x → Fits l c) :
    ∀ (fs : List Field) (o : Nat) (L : List Leaf), flatFields P rec o fs = some L → cs.length = o + L.length →
      (∀ f ∈ fs, ∃ fuel x, DataW.trod enc P w base spare held fuel f.type ((cs.drop f.offset).take (P.cellsOf f.type)) = some x) → Fits L (cs.drop o)
  | [], o, L, h, hl, _ => by
    simp only [flatFields, Option.some.injEq] at h
    subst h
    show cs.drop o = []
    exact List.drop_eq_nil_of_le (by simp at hl; omega)
  | f :: r, o, L, h, hl, hf => by
    unfold flatFields at h
    cases hr : rec f.type with
    | none => rw [hr] at h; cases h
    | some l =>
      rw [hr] at h
      simp only at h
      split at h
      · rename_i hc
        obtain ⟨ho, hk⟩ := hc
        rw [Option.map_eq_some_iff] at h
        obtain ⟨M, hM, rfl⟩ := h
        obtain ⟨fuel, x, hx⟩ := hf f (List.mem_cons_self ..)
        have h1 := hrec _ _ _ _ _ hr hx
        rw [ho, hk] at h1
        rw [List.length_append] at hl
        have h2 := fields_fit hrec r (o + l.length) M hM (by omega) (fun g hg => hf g (List.mem_cons_of_mem _ hg))
        have e : cs.drop o = (cs.drop o).take l.length ++ cs.drop (o + l.length) := by
          rw [← List.drop_drop, List.take_append_drop]
        rw [e]
        exact h1.app h2
      · cases h

theorem chunks (k : Nat) : ∀ (m : Nat) (cs : List Value), cs.length = m * k → cs = ((List.range m).map fun i => (cs.drop (i * k)).take k).flatten
  | 0, cs, h => by
    have : cs = [] := List.length_eq_zero_iff.1 (by omega)
    subst this; rfl
  | m + 1, cs, h => by
    have hc := chunks k m (cs.drop k) (by rw [List.length_drop, h, Nat.succ_mul]; omega)
    rw [List.range_succ_eq_map, List.map_cons, List.flatten_cons, Nat.zero_mul, List.drop_zero, List.map_map]
    have e : ((List.range m).map ((fun i => (cs.drop (i * k)).take k) ∘ Nat.succ)) = ((List.range m).map fun i => ((cs.drop k).drop (i * k)).take k) := by
      apply List.map_congr_left
      intro i _
      show (cs.drop ((i + 1) * k)).take k = _
      rw [List.drop_drop, Nat.succ_mul, Nat.add_comm]
    rw [e, ← hc, List.take_append_drop]

/-- WHAT A READING TELLS OF THE CELLS. -/
theorem flat_fits : ∀ (n : Nat) (t : TypeId) (l : List Leaf) (cs : List Value) (x : DataW H × List MemPlace) (fuel : Nat), flatF P n t = some l → DataW.trod enc P w base spare held fuel t cs = some x → Fits l cs
  | 0, _, _, _, _, _, h, _ => by simp [flatF] at h
  | n + 1, t, l, cs, x, fuel, h, hx => by
    unfold flatF at h
    split at h
    · rename_i hu
      obtain ⟨b, rfl, _⟩ := DataW.trod_bool hu hx
      simp only [Option.some.injEq] at h
      subst h
      exact ⟨_, _, rfl, ⟨b, rfl⟩, rfl⟩
    · rename_i k hu
      obtain ⟨z, rfl, _, hz⟩ := DataW.trod_int hu hx
      simp only [Option.some.injEq] at h
      subst h
      exact ⟨_, _, rfl, ⟨z, rfl, hz⟩, rfl⟩
    · rename_i hu
      obtain ⟨s, rfl, _, hz⟩ := DataW.trod_string hu hx
      simp only [Option.some.injEq] at h
      subst h
      exact ⟨_, _, rfl, ⟨s, rfl, hz⟩, rfl⟩
    · rename_i fs hu
      split at h
      · rename_i L hL
        split at h
        · rename_i hc
          simp only [Option.some.injEq] at h
          subst h
          obtain ⟨xs, m, _, _, hlen, hxl, hf⟩ := DataW.trod_struct hu hx
          refine fields_fit (rec := flatF P n) (cs := cs) (fun t l c x fuel h1 h2 => flat_fits n t l c x fuel h1 h2) fs.toList 0 L hL (by omega) fun f hf' => ?_
          obtain ⟨i, hi⟩ := List.getElem?_of_mem hf'
          rw [Array.getElem?_toList] at hi
          have := hf i f hi
          have hlt : i < xs.length := by rw [hxl]; exact (Array.getElem?_eq_some_iff.1 hi).1
          rw [List.getElem?_eq_getElem hlt] at this
          exact ⟨m, _, this⟩
        · cases h
      · cases h
    · rename_i m e hu
      split at h
      · rename_i L hL
        split at h
        · rename_i hc
          simp only [Option.some.injEq] at h
          subst h
          obtain ⟨xs, k, _, _, hlen, hxl, hf⟩ := DataW.trod_array hu hx
          rw [chunks L.length m cs (by omega)]
          refine Fits.cat (by simp) fun i a c ha hc' => ?_
          obtain ⟨hi, rfl⟩ : i < m ∧ a = L := by
            rw [List.getElem?_replicate] at ha
            split at ha
            · exact ⟨‹_›, (Option.some.inj ha).symm⟩
            · cases ha
          rw [List.getElem?_map, List.getElem?_range hi, Option.map_some, Option.some.injEq] at hc'
          subst hc'
          have := hf i hi
          rw [hc.1, List.getElem?_eq_getElem (by omega)] at this
          exact flat_fits n e _ _ _ k hL this
        · cases h
      · cases h
    · cases h

theorem list_of {α : Type} {R : Nat → α → Prop} : ∀ {n : Nat}, (∀ i, i < n → ∃ a, R i a) → ∃ L : List α, L.length = n ∧ ∀ (i : Nat) a, L[i]? = some a → R i a
  | 0, _ => ⟨[], rfl, by simp⟩
  | n + 1, h => by
    obtain ⟨L, h1, h2⟩ := list_of (n := n) fun i hi => h i (by omega)
    obtain ⟨a, ha⟩ := h n (by omega)
    refine ⟨L ++ [a], by simp [h1], fun i b hb => ?_⟩
    rw [List.getElem?_append] at hb
    split at hb
    · exact h2 i b hb
    · rename_i hi
      obtain ⟨rfl, rfl⟩ : i = n ∧ b = a := by
        rw [List.getElem?_singleton] at hb
        split at hb
        · exact ⟨by omega, (Option.some.inj hb).symm⟩
        · cases hb
      exact ha
/-- A slice of such that came in: nil, or a row of cells. -/
theorem open_flat_slice {t e : TypeId} {v : Value} {d : DataW H} {p : List MemPlace} {l : List Leaf} {W : World} {b0 : Nat} (n : Nat) (ht : P.underlying t = some (.slice e)) (hl : flatF P n e = some l) (hc : P.cellsOf e = l.length) (hz : 0 < l.length)
    (hv : Value.okWide P W .any b0 t v) (h : DataW.Trod enc P W 0 (fun _ => true) true t v d p) :
    ∃ L : List (List Value), (∀ c ∈ L, Fits l c) ∧ ((∃ a cap, v = .slice a 0 cap ∧ L = []) ∨
      ∃ g off cap, v = .slice (some ⟨g, off, none⟩) L.length cap ∧ 0 < L.length ∧ L.length ≤ cap ∧ cap ≤ maxLen ∧ (∀ j, j < L.length * l.length → MemPlace.cell g (off + j) ∈ p) ∧ ∀ i c, L[i]? = some c → ∀ j, j < l.length → W.cell? ⟨g, off + (i * l.length + j), none⟩ = c[j]?) := by
  obtain ⟨a0, len, cap, rfl⟩ := okWide_slice ht hv
  obtain ⟨fuel, hf⟩ := h
  rcases open_slice ht hf with ⟨hcs, _⟩ | ⟨a, len', cap', m, k, D, Pl, hcs, _, hle, hm, hmm, hx, hi⟩
  · simp [Value.cells] at hcs
    obtain ⟨rfl, rfl, rfl⟩ := hcs
    exact ⟨[], by simp, .inl ⟨_, _, rfl, rfl⟩⟩
  · simp [Value.cells] at hcs
    obtain ⟨rfl, rfl, rfl⟩ := hcs
    by_cases h0 : len = 0
    · subst h0
      exact ⟨[], by simp, .inl ⟨_, _, rfl, rfl⟩⟩
    · replace hmm : m = cap := by simpa using hmm
      obtain ⟨L, hL, hR⟩ := list_of (n := len) (R := fun i cs' => W.cells? 0 (a.add (i * P.cellsOf e)) (P.cellsOf e) = some cs' ∧ DataW.trod enc P W 0 (fun _ => true) true k e cs' = some (D i, Pl i)) fun i hlt => by
        obtain ⟨cs', h1, h2⟩ := hi i (by omega)
        exact ⟨cs', h1, h2⟩
      obtain ⟨b, off, spot⟩ := a
      have hspot : spot = none := by
        obtain ⟨c0, hc0⟩ : ∃ c, L[0]? = some c := ⟨_, List.getElem?_eq_getElem (by omega)⟩
        obtain ⟨h1, h2⟩ := hR 0 c0 hc0
        obtain ⟨_, hcl, hat⟩ := World.cells?_some h1
        have := hat 0 (by omega)
        rw [Nat.zero_mul] at this
        have h3 : c0[0]? = some (c0[0]'(by omega)) := List.getElem?_eq_getElem (by omega)
        rw [h3] at this
        simpa [Addr.add] using World.cell?_spot this
      subst hspot
      refine ⟨L, ?_, .inr ⟨b, off, cap, by rw [hL], by omega, by omega, hm, ?_, ?_⟩⟩
      · intro c hc'
        obtain ⟨i, hi'⟩ := List.getElem?_of_mem hc'
        exact flat_fits n e l c _ k hl (hR i c hi').2
      · intro j hj
        simp only [Prod.mk.injEq] at hx
        rw [hx.2]
        refine List.mem_append_left _ ?_
        unfold MemPlace.row
        rw [List.mem_map]
        have : L.length * l.length ≤ m * l.length := Nat.mul_le_mul_right _ (by omega)
        exact ⟨j, by rw [List.mem_range, hc]; omega, rfl⟩
      · intro i c hi' j hj
        obtain ⟨h1, h2⟩ := hR i c hi'
        obtain ⟨_, hcl, hat⟩ := World.cells?_some h1
        have := hat j (by omega)
        rw [add_add, hc] at this
        have e1 : (⟨b, off, none⟩ : Addr).add (i * l.length + j) = ⟨b, off + (i * l.length + j), none⟩ := by unfold Addr.add; split <;> simp_all
        rwa [e1] at this

end
end Go.Proofs.YtjpmomdechibmaaGreatDoor

/-
  '==' of structs and arrays without pointers: one law for every such type.
-/
namespace Go.Proofs.YtjpmomdechibmaaGreatDoor
set_option linter.unusedVariables false
set_option linter.unusedSimpArgs false
open Go.RowKit Go.ChangeShapes Go.WideShapes Go.ChangeAt Go.Deep

def aggB (P : Program) (t : TypeId) : Bool := match P.underlying t with | some (.struct _) => true | some (.array _ _) => true | _ => false
/-- A value of its cells. -/
def mkV (P : Program) (t : TypeId) (cs : List Value) : Value := if aggB P t then .agg cs.toArray else cs.headD undef
/-- May it be compared cell by cell? -/
def eqB (P : Program) : Nat → TypeId → Bool
  | 0, _ => false
  | n + 1, t => (P.info? t).isSome && match P.underlying t with
    | some .bool => true
    | some (.int _) => true
    | some .string => true
    | some (.struct fs) => !P.stoodInHeld t && fs.toList.all fun f => f.name != "_" && eqB P n f.type
    | some (.array _ e) => eqB P n e
    | _ => false

section
variable {P : Program}
theorem eqB_info {n : Nat} {t : TypeId} (h : eqB P n t = true) : ∃ i, P.info? t = some i := by
  cases n with
  | zero => cases h
  | succ n =>
    unfold eqB at h
    simp only [Bool.and_eq_true] at h
    exact Option.isSome_iff_exists.1 h.1
theorem run_sizeOf {t : TypeId} {i : TypeInfo} (h : P.info? t = some i) (w : World) : (sizeOf t).run P w = .ok (P.cellsOf t) w := by
  simp [sizeOf, typeInfo, h, Program.cellsOf]
theorem flat_leaf {n : Nat} {t : TypeId} {l : List Leaf} (h : flatF P n t = some l) (ha : aggB P t = false) : ∃ k, l = [k] := by
  cases n with
  | zero => simp [flatF] at h
  | succ n =>
    unfold flatF at h
    unfold aggB at ha
    split at h
    · exact ⟨_, (Option.some.inj h).symm⟩
    · exact ⟨_, (Option.some.inj h).symm⟩
    · exact ⟨_, (Option.some.inj h).symm⟩
    · rename_i hu; rw [hu] at ha; cases ha
    · rename_i hu; rw [hu] at ha; cases ha
    · cases h
theorem flat_und {n : Nat} {t : TypeId} {l : List Leaf} (h : flatF P n t = some l) : ∃ d, P.underlying t = some d := by
  cases n with
  | zero => simp [flatF] at h
  | succ n =>
    unfold flatF at h
    cases hu : P.underlying t with
    | none => rw [hu] at h; cases h
    | some d => exact ⟨d, rfl⟩
/-- A part of an aggregate is a value of its cells. -/
theorem run_part {n : Nat} {t : TypeId} {l : List Leaf} (h : flatF P n t = some l) (hc : P.cellsOf t = l.length) {i : TypeInfo} (hi : P.info? t = some i) (xs : List Value) (o : Nat) (hl : o + l.length ≤ xs.length) (w : World) :
    (part t xs.toArray o).run P w = .ok (mkV P t ((xs.drop o).take l.length)) w := by
  obtain ⟨d, hd⟩ := flat_und h
  unfold part mkV
  cases ha : aggB P t with
  | true =>
    have hag : (isAgg t).run P w = .ok true w := by
      unfold aggB at ha
      unfold isAgg
      simp only [Sem.run_bind, run_underlying hd, Result.andThen_ok]
      rw [hd] at ha
      cases d <;> simp at ha ⊢
    simp only [Sem.run_bind, hag, Result.andThen_ok, if_true, run_sizeOf hi, Sem.run_pure]
    congr 2
    apply Array.ext'
    rw [hc]
    simp [List.extract_eq_take_drop, List.take_drop]
  | false =>
    have hag : (isAgg t).run P w = .ok false w := by
      unfold aggB at ha
      unfold isAgg
      simp only [Sem.run_bind, run_underlying hd, Result.andThen_ok]
      rw [hd] at ha
      cases d <;> simp at ha ⊢
    obtain ⟨k, rfl⟩ := flat_leaf h ha
    have hlt : o < xs.length := by simp at hl; omega
    have hx : xs.toArray[o]? = some xs[o] := by simp [hlt]
    simp only [Sem.run_bind, hag, Result.andThen_ok, Bool.false_eq_true, if_false, hx, Sem.run_pure]
    congr 1
    rw [List.drop_eq_getElem_cons hlt]
    rfl

theorem eq_app {a b c d : List Value} (h : a.length = b.length) : a ++ c = b ++ d ↔ a = b ∧ c = d :=
  ⟨fun e => List.append_inj e h, fun ⟨e, f⟩ => by rw [e, f]⟩

theorem eqFields_flat {rec : TypeId → Option (List Leaf)} {d : Nat} {xs ys : List Value}
    (hrec : ∀ t l, rec t = some l → P.cellsOf t = l.length → ∀ o, o + l.length ≤ xs.length → (part t xs.toArray o).run P = (fun w => .ok (mkV P t ((xs.drop o).take l.length)) w) ∧ (part t ys.toArray o).run P = (fun w => .ok (mkV P t ((ys.drop o).take l.length)) w))
    (heq : ∀ t l, rec t = some l → ∀ a b, Fits l a → Fits l b → ∀ r : Bool, (r = true ↔ a = b) → ∀ w, (Op.equalIn d t (mkV P t a) (mkV P t b)).run P w = .ok r w) :
    ∀ (fs : List Field) (o : Nat) (L : List Leaf), flatFields P rec o fs = some L → (∀ f ∈ fs, f.name ≠ "_") → xs.length = o + L.length → ys.length = o + L.length → Fits L (xs.drop o) → Fits L (ys.drop o) →
      ∀ r : Bool, (r = true ↔ xs.drop o = ys.drop o) → ∀ w, (Op.eqFields d xs.toArray ys.toArray fs).run P w = .ok r w
  | [], o, L, h, _, hx, hy, _, _, r, hr, w => by
    simp only [flatFields, Option.some.injEq] at h
    subst h
    have : r = true := hr.2 (by rw [List.drop_eq_nil_of_le (by simp at hx; omega), List.drop_eq_nil_of_le (by simp at hy; omega)])
    subst this
    rfl
  | f :: fs, o, L, h, hn, hx, hy, fx, fy, r, hr, w => by
    unfold flatFields at h
    cases hl : rec f.type with
    | none => rw [hl] at h; cases h
    | some l =>
      rw [hl] at h
      simp only at h
      split at h
      · rename_i hc
        obtain ⟨ho, hk⟩ := hc
        rw [Option.map_eq_some_iff] at h
        obtain ⟨M, hM, rfl⟩ := h
        rw [List.length_append] at hx hy
        obtain ⟨a, a', ea, fa, fa'⟩ := fx.split
        obtain ⟨b, b', eb, fb, fb'⟩ := fy.split
        have la := fa.len
        have lb := fb.len
        have ta : (xs.drop o).take l.length = a := by rw [ea, ← la]; simp
        have tb : (ys.drop o).take l.length = b := by rw [eb, ← lb]; simp
        have da : xs.drop (o + l.length) = a' := by rw [← List.drop_drop, ea, ← la]; simp
        have db : ys.drop (o + l.length) = b' := by rw [← List.drop_drop, eb, ← lb]; simp
        obtain ⟨p1, p2⟩ := hrec f.type l hl hk o (by omega)
        unfold Op.eqFields
        rw [if_pos (hn f (List.mem_cons_self ..)), ho]
        simp only [Sem.run_bind, p1, p2, Result.andThen_ok, ta, tb]
        rw [ea, eb, eq_app (by rw [la, lb])] at hr
        by_cases hab : a = b
        · rw [heq f.type l hl a b fa fb true (by simp [hab]) w]
          simp only [Result.andThen_ok, Bool.not_true, Bool.false_eq_true, if_false]
          refine eqFields_flat hrec heq fs (o + l.length) M hM (fun g hg => hn g (List.mem_cons_of_mem _ hg)) (by omega) (by omega) (by rw [da]; exact fa') (by rw [db]; exact fb') r ?_ w
          rw [da, db, hr]
          simp [hab]
        · rw [heq f.type l hl a b fa fb false (by simp [hab]) w]
          have : r = false := by
            cases r with
            | false => rfl
            | true => exact absurd (hr.1 rfl).1 hab
          subst this
          simp
      · cases h

theorem equal_flat : ∀ (n d : Nat) (t : TypeId) (l : List Leaf) (xs ys : List Value), n ≤ d → eqB P n t = true → flatF P n t = some l → Fits l xs → Fits l ys → ∀ r : Bool, (r = true ↔ xs = ys) → ∀ w, (Op.equalIn d t (mkV P t xs) (mkV P t ys)).run P w = .ok r w
  | 0, _, _, _, _, _, _, h, _, _, _, _, _, _ => by cases h
  | n + 1, d, t, l, xs, ys, hd, he, h, fx, fy, r, hr, w => by
    obtain ⟨d, rfl⟩ : ∃ d', d = d' + 1 := ⟨d - 1, by omega⟩
    have hflat := h
    unfold flatF at h
    split at h
    · rename_i hu
      simp only [Option.some.injEq] at h
      subst h
      obtain ⟨_, _, rfl, ⟨a, rfl⟩, rfl⟩ := fx
      obtain ⟨_, _, rfl, ⟨b, rfl⟩, rfl⟩ := fy
      have ha : aggB P t = false := by unfold aggB; rw [hu]
      unfold mkV
      rw [ha]
      simp only [Bool.false_eq_true, if_false, List.headD_cons]
      rw [run_equalIn_bool' w d t a b hu]
      congr 1
      rw [Bool.eq_iff_iff, hr]
      simp
    · rename_i k hu
      simp only [Option.some.injEq] at h
      subst h
      obtain ⟨_, _, rfl, ⟨a, rfl, _⟩, rfl⟩ := fx
      obtain ⟨_, _, rfl, ⟨b, rfl, _⟩, rfl⟩ := fy
      have ha : aggB P t = false := by unfold aggB; rw [hu]
      unfold mkV
      rw [ha]
      simp only [Bool.false_eq_true, if_false, List.headD_cons]
      rw [run_equalIn_int w d t k k a b hu]
      congr 1
      rw [Bool.eq_iff_iff, hr]
      simp
    · rename_i hu
      simp only [Option.some.injEq] at h
      subst h
      obtain ⟨_, _, rfl, ⟨a, rfl, _⟩, rfl⟩ := fx
      obtain ⟨_, _, rfl, ⟨b, rfl, _⟩, rfl⟩ := fy
      have ha : aggB P t = false := by unfold aggB; rw [hu]
      unfold mkV
      rw [ha]
      simp only [Bool.false_eq_true, if_false, List.headD_cons]
      rw [run_equalIn_string w d t a b hu]
      congr 1
      rw [Bool.eq_iff_iff, hr, beq_iff_eq, ByteArray.toList_eq, ByteArray.toList_eq]
      constructor
      · intro h
        have : a = b := by
          obtain ⟨a⟩ := a
          obtain ⟨b⟩ := b
          exact congrArg ByteArray.mk (Array.ext' h)
        rw [this]
      · intro h
        cases h
        rfl
    · rename_i fs hu
      split at h
      · rename_i L hL
        split at h
        · rename_i hc
          simp only [Option.some.injEq] at h
          subst h
          unfold eqB at he
          rw [hu] at he
          simp only [Bool.and_eq_true, Bool.not_eq_true'] at he
          obtain ⟨_, hp, hfs⟩ := he
          have ha : aggB P t = true := by unfold aggB; rw [hu]
          unfold mkV
          rw [ha]
          simp only [if_true]
          have hfo : P.fieldsOf t = fs := by unfold Program.fieldsOf; rw [hu]
          rw [run_equalIn_struct w d t _ _ (by rw [hfo]; exact hu) hp, hfo]
          have hx := fx.len
          have hy := fy.len
          have hin : ∀ f ∈ fs.toList, f.name ≠ "_" ∧ eqB P n f.type = true := fun f hf => by
            have := List.all_eq_true.1 hfs f hf
            simpa using this
          -- only the fields' own types come up
          refine eqFields_flat (rec := fun t => if eqB P n t then flatF P n t else none) (fun t' l' h1 h2 o ho => ?_) (fun t' l' h1 a b fa fb r hr w => ?_) fs.toList 0 L ?_ (fun f hf => (hin f hf).1) (by omega) (by omega) fx fy r hr w
          · by_cases hb : eqB P n t' = true
            · rw [if_pos hb] at h1
              obtain ⟨i, hi⟩ := eqB_info hb
              exact ⟨funext fun w => run_part h1 h2 hi xs o ho w, funext fun w => run_part h1 h2 hi ys o (by omega) w⟩
            · rw [if_neg hb] at h1; cases h1
          · by_cases hb : eqB P n t' = true
            · rw [if_pos hb] at h1
              exact equal_flat n d t' l' a b (by omega) hb h1 fa fb r hr w
            · rw [if_neg hb] at h1; cases h1
          · have key : ∀ (gs : List Field) (o : Nat), (∀ f ∈ gs, eqB P n f.type = true) → flatFields P (fun t => if eqB P n t then flatF P n t else none) o gs = flatFields P (flatF P n) o gs := by
              intro gs
              induction gs with
              | nil => intro o _; rfl
              | cons g gs ih =>
                intro o hg
                unfold flatFields
                rw [if_pos (hg g (List.mem_cons_self ..))]
                cases flatF P n g.type with
                | none => rfl
                | some l => simp only [ih _ fun f hf => hg f (List.mem_cons_of_mem _ hf)]
            rw [key fs.toList 0 fun f hf => (hin f hf).2]
            exact hL
        · cases h
      · cases h
    · rename_i m e hu
      split at h
      · rename_i L hL
        split at h
        · rename_i hc
          simp only [Option.some.injEq] at h
          subst h
          unfold eqB at he
          rw [hu] at he
          simp only [Bool.and_eq_true] at he
          obtain ⟨_, heb⟩ := he
          obtain ⟨ie, hie⟩ := eqB_info heb
          have ha : aggB P t = true := by unfold aggB; rw [hu]
          unfold mkV
          rw [ha]
          simp only [if_true]
          have hlen : ((List.replicate m L).flatten).length = m * L.length := by simp
          have hx := fx.len
          have hy := fy.len
          rw [hlen] at hx hy
          -- chunk by chunk
          have hch : ∀ (m : Nat) (zs : List Value), Fits (List.replicate m L).flatten zs → ∀ i, i < m → Fits L ((zs.drop (i * L.length)).take L.length) := by
            intro m
            induction m with
            | zero => intro zs _ i hi; omega
            | succ m ih =>
              intro zs hz i hi
              rw [List.replicate_succ, List.flatten_cons] at hz
              obtain ⟨a, b, rfl, ha, hb⟩ := hz.split
              cases i with
              | zero => rw [Nat.zero_mul, List.drop_zero, ← ha.len, List.take_left]; exact ha
              | succ i =>
                have := ih b hb i (by omega)
                rw [Nat.succ_mul, Nat.add_comm, ← List.drop_drop, ← ha.len, List.drop_left]
                rw [ha.len]
                exact this
          have hrr : (r = true ↔ ∀ i ∈ List.range' 0 m 1, (xs.drop (i * L.length)).take L.length = (ys.drop (i * L.length)).take L.length) := by
            rw [hr]
            constructor
            · rintro rfl i _; rfl
            · intro H
              rw [chunks L.length m xs hx, chunks L.length m ys hy]
              congr 1
              apply List.map_congr_left
              intro i hi
              exact H i (by simpa using List.mem_range.1 hi)
          unfold Op.equalIn
          simp only [Sem.run_bind, run_underlying hu, Result.andThen_ok, run_sizeOf hie, Std.Legacy.Range.forIn_eq_forIn_range', Std.Legacy.Range.size, Nat.sub_zero, Nat.add_sub_cancel, Nat.div_one]
          have hl : ∀ i ∈ List.range' 0 m 1, i < m := fun i hi => by simpa using (List.mem_range'_1.1 hi).2
          clear hr
          generalize List.range' 0 m 1 = is at hl hrr ⊢
          induction is with
          | nil =>
            have : r = true := hrr.2 (by simp)
            subst this
            simp
          | cons i is ih =>
            have hi : i < m := hl i (by simp)
            have hle : i * L.length + L.length ≤ m * L.length := by have := Nat.mul_le_mul_right L.length (show i + 1 ≤ m from hi); rw [Nat.succ_mul] at this; exact this
            rw [hc.1]
            rw [hc.1] at ih
            have px := run_part hL hc.1 hie xs (i * L.length) (by omega) w
            have py := run_part hL hc.1 hie ys (i * L.length) (by omega) w
            simp only [List.forIn_cons, Sem.run_bind, px, py, Result.andThen_ok]
            by_cases hab : (xs.drop (i * L.length)).take L.length = (ys.drop (i * L.length)).take L.length
            · rw [equal_flat n d e L _ _ (by omega) heb hL (hch m xs fx i hi) (hch m ys fy i hi) true (by simp [hab]) w]
              simp only [Result.andThen_ok, Bool.not_true, Bool.false_eq_true, if_false, Sem.run_pure]
              refine ih (fun j hj => hl j (by simp [hj])) ?_
              rw [hrr]
              simp [hab]
            · rw [equal_flat n d e L _ _ (by omega) heb hL (hch m xs fx i hi) (hch m ys fy i hi) false (by simp [hab]) w]
              have : r = false := by
                cases r with
                | false => rfl
                | true => exact absurd (hrr.1 rfl i (by simp)) hab
              subst this
              simp
        · cases h
      · cases h
    · cases h

/-- '==' and '!=' of two aggregates. -/
theorem run_eql_flat (n : Nat) {t : TypeId} {l : List Leaf} (hn : n ≤ 10000) (he : eqB P n t = true) (hl : flatF P n t = some l) (ha : aggB P t = true) {xs ys : List Value} (fx : Fits l xs) (fy : Fits l ys) (r : Bool) (hr : r = true ↔ xs = ys) (w : World) :
    (binOp .eql t (.agg xs.toArray) (.agg ys.toArray)).run P w = .ok (.bool r) w := by
  have := equal_flat n 10000 t l xs ys hn he hl fx fy r hr w
  unfold mkV at this
  rw [ha] at this
  simp only [if_true] at this
  rw [run_eql_struct, this]
  rfl
theorem run_neq_flat (n : Nat) {t : TypeId} {l : List Leaf} (hn : n ≤ 10000) (he : eqB P n t = true) (hl : flatF P n t = some l) (ha : aggB P t = true) {xs ys : List Value} (fx : Fits l xs) (fy : Fits l ys) (r : Bool) (hr : r = true ↔ xs = ys) (w : World) :
    (binOp .neq t (.agg xs.toArray) (.agg ys.toArray)).run P w = .ok (.bool (!r)) w := by
  have := equal_flat n 10000 t l xs ys hn he hl fx fy r hr w
  unfold mkV at this
  rw [ha] at this
  simp only [if_true] at this
  rw [run_neq_struct, this]
  rfl
end
end Go.Proofs.YtjpmomdechibmaaGreatDoor

/-
  '==' and '!=' of hashes; what a sum's bytes are.
-/
namespace Go.Proofs.YtjpmomdechibmaaGreatDoor
set_option linter.unusedVariables false
set_option linter.unusedSimpArgs false
open Go.RowKit

def Bytes (h : List Int) : Prop := ∀ b ∈ h, 0 ≤ b ∧ b ≤ 255
theorem Tryz.flatHsh : flatF Tryz.prog 5 28 = some (List.replicate 32 (.int .u8)) := by kernel_rfl
theorem Tryz.eqHsh : eqB Tryz.prog 5 28 = true := by kernel_rfl
theorem Tryz.aggHsh : aggB Tryz.prog 28 = true := by kernel_rfl
theorem wf_byte {x : Int} (h : 0 ≤ x ∧ x ≤ 255) : (Lit.int .u8 x).wf = true := by
  simp [Lit.wf, IntKind.min, IntKind.max, IntKind.signed, IntKind.bits]; omega
theorem ints_fits' (k : IntKind) : ∀ (l : List Int), (∀ x ∈ l, (Lit.int k x).wf = true) → Fits (List.replicate l.length (.int k)) (l.map (Value.int k))
  | [], _ => rfl
  | x :: l, h => ⟨_, _, rfl, ⟨_, rfl, h x (List.mem_cons_self ..)⟩, ints_fits' k l fun y hy => h y (List.mem_cons_of_mem _ hy)⟩
theorem hsh_fits {h : List Int} (hl : h.length = 32) (hb : Bytes h) : Fits (List.replicate 32 (.int .u8)) (hshV h) := by
  have := ints_fits' .u8 h fun n hn => wf_byte (hb n hn)
  rwa [hl] at this
theorem hshV_inj {a b : List Int} (h : hshV a = hshV b) : a = b := by
  unfold hshV at h
  exact (List.map_inj_right (fun x y e => by injection e)).1 h
def neHsh (x y : Value) : Sem Value := binOp .neq 28 x y
theorem ne_hsh_fold (x y : Value) : binOp .neq 28 x y = neHsh x y := rfl
theorem ne_hsh {a b : List Int} (ha : a.length = 32) (hb : b.length = 32) (ba : Bytes a) (bb : Bytes b) (w : World) : (neHsh (.agg (hshV a).toArray) (.agg (hshV b).toArray)).run Tryz.prog w = .ok (.bool (a != b)) w := by
  have := run_neq_flat 5 (by decide) Tryz.eqHsh Tryz.flatHsh Tryz.aggHsh (hsh_fits ha ba) (hsh_fits hb bb) (a == b) (by constructor <;> intro e <;> simp_all [hshV_inj]; exact hshV_inj e) w
  exact this
def eqHsh (x y : Value) : Sem Value := binOp .eql 28 x y
theorem eq_hsh_fold (x y : Value) : binOp .eql 28 x y = eqHsh x y := rfl
theorem eq_hsh {a b : List Int} (ha : a.length = 32) (hb : b.length = 32) (ba : Bytes a) (bb : Bytes b) (w : World) : (eqHsh (.agg (hshV a).toArray) (.agg (hshV b).toArray)).run Tryz.prog w = .ok (.bool (a == b)) w := by
  have := run_eql_flat 5 (by decide) Tryz.eqHsh Tryz.flatHsh Tryz.aggHsh (hsh_fits ha ba) (hsh_fits hb bb) (a == b) (by constructor <;> intro e <;> simp_all [hshV_inj]; exact hshV_inj e) w
  exact this
theorem byAll_bytes (h : List Int) (n : Nat) : Bytes (byAll h n) := by
  induction n with
  | zero => intro x hx; rw [byAll_zero] at hx; have := List.eq_of_mem_replicate hx; omega
  | succ n ih =>
    intro x hx
    rw [byAll_succ] at hx
    rcases List.mem_or_eq_of_mem_set hx with h | rfl
    · exact ih x h
    · unfold byI; omega
theorem sumI_bytes (s : ByteArray) : Bytes (sumI s) := byAll_bytes _ _
theorem z32i_bytes : Bytes z32i := by
  intro b hb
  have := List.eq_of_mem_replicate hb
  omega

end Go.Proofs.YtjpmomdechibmaaGreatDoor
