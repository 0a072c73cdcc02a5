/-
  Types without pointers: what their cells are, read off the type. One law for every such argument.
-/
import Derived.Test.YtjckpgcmfieaoaaGreatDoorBase
import Derived.ProofKit
import Derived.OpenShut
import Derived.ShutString
import Derived.ChangeOld
import Derived.Deep.Slices
namespace Go.Proofs.YtjckpgcmfieaoaaGreatDoor
open Go.RowKit Go.ChangeShapes Go.WideShapes Go.ChangeAt Go.Deep

inductive Leaf where
  | bool
  | int (k : IntKind)
  | str
  deriving DecidableEq
def Leaf.fits : Leaf → Value → Prop
  | .bool, v => ∃ b, v = .bool b
  | .int k, v => ∃ n, v = .int k n ∧ (Lit.int k n).wf = true
  | .str, v => ∃ s : ByteArray, v = .string s ∧ s.size ≤ maxLen
/-- The cells are of these kinds. -/
def Fits : List Leaf → List Value → Prop
  | [], cs => cs = []
  | l :: ls, cs => ∃ v r, cs = v :: r ∧ l.fits v ∧ Fits ls r
theorem Fits.len : ∀ {ls : List Leaf} {cs : List Value}, Fits ls cs → cs.length = ls.length
  | [], _, h => by rw [show _ = [] from h]; rfl
  | l :: ls, _, h => by obtain ⟨v, r, rfl, _, hr⟩ := h; simp [hr.len]
theorem Fits.app : ∀ {ls ms : List Leaf} {cs ds : List Value}, Fits ls cs → Fits ms ds → Fits (ls ++ ms) (cs ++ ds)
  | [], _, _, _, h, k => by rw [show _ = [] from h]; exact k
  | l :: ls, _, _, _, h, k => by obtain ⟨v, r, rfl, hv, hr⟩ := h; exact ⟨v, _, rfl, hv, hr.app k⟩
theorem Fits.split : ∀ {ls ms : List Leaf} {cs : List Value}, Fits (ls ++ ms) cs → ∃ a b, cs = a ++ b ∧ Fits ls a ∧ Fits ms b
  | [], _, cs, h => ⟨[], cs, rfl, rfl, h⟩
  | l :: ls, _, _, h => by
    obtain ⟨v, r, rfl, hv, hr⟩ := h
    obtain ⟨a, b, rfl, ha, hb⟩ := Fits.split hr
    exact ⟨v :: a, b, rfl, ⟨v, a, rfl, hv, ha⟩, hb⟩

/-- The leaves of the fields from offset o on. -/
def flatFields (P : Program) (rec : TypeId → Option (List Leaf)) : Nat → List Field → Option (List Leaf)
  | _, [] => some []
  | o, f :: r => match rec f.type with
    | none => none
    | some l => if f.offset = o ∧ P.cellsOf f.type = l.length then (flatFields P rec (o + l.length) r).map (l ++ ·) else none
/-- The leaves of a type. -/
def flatF (P : Program) : Nat → TypeId → Option (List Leaf)
  | 0, _ => none
  | n + 1, t => match P.underlying t with
    | some .bool => some [.bool]
    | some (.int k) => some [.int k]
    | some .string => some [.str]
    | some (.struct fs) => match flatFields P (flatF P n) 0 fs.toList with
      | some l => if P.cellsOf t = l.length then some l else none
      | none => none
    | some (.array m e) => match flatF P n e with
      | some l => if P.cellsOf e = l.length ∧ P.cellsOf t = m * l.length then some (List.replicate m l).flatten else none
      | none => none
    | _ => none

section
variable {H : Type} {enc : TypeId × Value → H} {P : Program} {w : World} {base : Nat} {spare : Nat → Bool} {held : Bool}

theorem chunks (k : Nat) : ∀ (m : Nat) (cs : List Value), cs.length = m * k → cs = ((List.range m).map fun i => (cs.drop (i * k)).take k).flatten
  | 0, cs, h => by
    have : cs = [] := List.length_eq_zero_iff.1 (by omega)
    subst this; rfl
  | m + 1, cs, h => by
    have hc := chunks k m (cs.drop k) (by rw [List.length_drop, h, Nat.succ_mul]; omega)
    rw [List.range_succ_eq_map, List.map_cons, List.flatten_cons, Nat.zero_mul, List.drop_zero, List.map_map]
    have e : ((List.range m).map ((fun i => (cs.drop (i * k)).take k) ∘ Nat.succ)) = ((List.range m).map fun i => ((cs.drop k).drop (i * k)).take k) := by
      apply List.map_congr_left
      intro i _
      show (cs.drop ((i + 1) * k)).take k = _
      rw [List.drop_drop, Nat.succ_mul, Nat.add_comm]
    rw [e, ← hc, List.take_append_drop]

end
end Go.Proofs.YtjckpgcmfieaoaaGreatDoor
