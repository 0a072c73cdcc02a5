/-
  A struct that is built of its parts: a part laid into the zero cells.
-/
import Derived.Test.YtehdhnckfdiioaaDoorOps
import Derived.Great.BuildSlice
namespace Go.Proofs.YtehdhnckfdiioaaDoor
open Go.RowKit

theorem fill_mid (A P Z R : List Value) (h : Z.length = A.length) : (A.zipIdx).foldl (fun (cs : Array Value) (c, j) => cs.setIfInBounds (P.length + j) c) (P ++ (Z ++ R)).toArray = (P ++ (A ++ R)).toArray := by
  have key : ∀ (A : List Value) (k : Nat) (Q Z : List Value), Z.length = A.length → Q.length = P.length + k → (A.zipIdx k).foldl (fun (cs : Array Value) (c, j) => cs.setIfInBounds (P.length + j) c) (Q ++ (Z ++ R)).toArray = (Q ++ (A ++ R)).toArray := by
    intro A
    induction A with
    | nil => intro k Q Z hz _; rw [List.length_eq_zero_iff.1 hz]; rfl
    | cons a A ih =>
      intro k Q Z hz hp
      cases Z with
      | nil => simp at hz
      | cons z Z =>
        rw [List.zipIdx_cons, List.foldl_cons]
        have e : (Q ++ (z :: Z ++ R)).toArray.setIfInBounds (P.length + k) a = ((Q ++ [a]) ++ (Z ++ R)).toArray := by
          rw [← hp]; simp
        show List.foldl _ ((Q ++ (z :: Z ++ R)).toArray.setIfInBounds (P.length + k) a) _ = _
        rw [e, ih (k + 1) (Q ++ [a]) Z (by simpa using hz) (by simp [hp]; omega)]
        simp
  exact key A 0 P Z h rfl
theorem built_struct' {P : Program} {t : TypeId} {it : TypeInfo} {z : Value} {fields : Array Field} {places : List (Nat × Nat)} (hi : P.info? t = some it) (hu : P.underlying t = some (.struct fields)) (hz : it.zero = some z)
    (hp : fields.toList.mapM (fun f => (P.info? f.type).map fun i => (f.offset, i.size)) = some places) (parts : List (Nat × Value)) : P.built t parts = Instr.fill (places.toArray[·]?) z.cells parts := by
  unfold Program.built
  rw [hi, hu]
  simp only [hz, hp]
theorem zero_of {P : Program} {t : TypeId} {l : List Value} (h : ((P.info? t).map fun i => i.zero.map fun z => z.cells.toList) = some (some l)) : ∃ i z, P.info? t = some i ∧ i.zero = some z ∧ z.cells = l.toArray := by
  cases hi : P.info? t with
  | none => rw [hi] at h; simp at h
  | some i =>
    rw [hi, Option.map_some, Option.some.injEq] at h
    cases hz : i.zero with
    | none => rw [hz] at h; simp at h
    | some z =>
      rw [hz, Option.map_some, Option.some.injEq] at h
      exact ⟨i, z, rfl, hz, by rw [← h]⟩
theorem fill_one {place : Nat → Option (Nat × Nat)} {i off : Nat} {A P Z R : List Value} {cs : Array Value} (hp : place i = some (off, A.length)) (ho : P.length = off) (hz : Z.length = A.length) (hc : cs = (P ++ (Z ++ R)).toArray) (rest : List (Nat × Value)) :
    Instr.fill place cs ((i, .agg A.toArray) :: rest) = Instr.fill place (P ++ (A ++ R)).toArray rest := by
  subst hc ho
  rw [Instr.fill, hp]
  have hs : ¬ (A.toArray.size ≠ A.length || P.length + A.toArray.size > (P ++ (Z ++ R)).toArray.size) = true := by
    simp [hz]
  have hs' : ((Value.agg A.toArray).cells.size ≠ A.length || P.length + (Value.agg A.toArray).cells.size > (P ++ (Z ++ R)).toArray.size) = false := by
    simpa [Value.cells] using hs
  simp only [hs', Bool.false_eq_true, if_false]
  congr 1
  have := fill_mid A P Z R hz
  simpa [Value.cells] using this

end Go.Proofs.YtehdhnckfdiioaaDoor
