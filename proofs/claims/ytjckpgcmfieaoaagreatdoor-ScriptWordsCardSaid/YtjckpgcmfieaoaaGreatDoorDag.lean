/-
  A region that draws its order, by invariants: each operation is shown once, out of what is known of the operations that it looks at; whatever the order is.
-/
import Derived.Test.YtjckpgcmfieaoaaGreatDoorBase
import Derived.Orders
namespace Go.Proofs.YtjckpgcmfieaoaaGreatDoor
open Go.RowKit

/-- One operation by itself: what its value, and the world behind it, fulfil. -/
def opRun (P : Program) (o : Oper) (ρ : Operand → Value) (w : World) (K : Value → World → Prop) : Prop :=
  match (execOp ρ o).run P w with
  | .ok (.value v) w' => K v w'
  | .ok .skip w' => K undef w'
  | .ok (.enter f args) w' => Calls P f args w' fun e w'' => ∃ v, e = .returned v ∧ K v w''
  | _ => False

/-- Values laid into a frame: of operation p.1, into slot p.2. -/
def putL (a : Act) (vals : Nat → Value) : List (Nat × Nat) → Act
  | [] => a
  | p :: r => putL (a.put (some p.2) (vals p.1)) vals r

def looks (l : List Oper) (o : Oper) : List Nat := o.looksAt l.toArray

section
variable {P : Program} {l : List Oper} {A : List (List Nat)} {L : List (List (Nat × Nat))} {n : Nat}

/-- One operation's step. -/
def DagStep (P : Program) (a0 : Act) (S : World → Prop) (R : World → World → Prop) (Φ : Nat → Value → World → Prop) (i : Nat) (o : Oper) (Li : List (Nat × Nat)) : Prop :=
  ∀ (vals : Nat → Value) (w : World), S w → (∀ p ∈ Li, Φ p.1 (vals p.1) w) →
    match o.guard with
    | none => opRun P o (putL a0 vals Li).eval w fun v w' => R w w' ∧ S w' ∧ Φ i v w'
    | some (g, b) => Φ g (vals g) w → (vals g = .bool b → opRun P o (putL a0 vals Li).eval w fun v w' => R w w' ∧ S w' ∧ Φ i v w') ∧ (vals g ≠ .bool b → Φ i undef w)
/-- The steps of all. -/
def DagSteps (P : Program) (a0 : Act) (S : World → Prop) (R : World → World → Prop) (Φ : Nat → Value → World → Prop) : Nat → List Oper → List (List (Nat × Nat)) → Prop
  | _, [], _ => True
  | i, o :: os, L => DagStep P a0 S R Φ i o (L.headD []) ∧ DagSteps P a0 S R Φ (i + 1) os L.tail
theorem DagSteps.nil {a0 : Act} {S : World → Prop} {R : World → World → Prop} {Φ : Nat → Value → World → Prop} {i : Nat} {L : List (List (Nat × Nat))} : DagSteps P a0 S R Φ i [] L := trivial
theorem DagSteps.cons {a0 : Act} {S : World → Prop} {R : World → World → Prop} {Φ : Nat → Value → World → Prop} {i : Nat} {o : Oper} {os : List Oper} {Li : List (Nat × Nat)} {L : List (List (Nat × Nat))} (h : DagStep P a0 S R Φ i o Li)
    (k : DagSteps P a0 S R Φ (i + 1) os L) : DagSteps P a0 S R Φ i (o :: os) (Li :: L) := ⟨h, k⟩
/-- What is known of what an operation looks at. -/
def Prem (Φ : Nat → Value → World → Prop) (vals : Nat → Value) (w : World) : List (Nat × Nat) → Prop
  | [] => True
  | p :: r => Φ p.1 (vals p.1) w ∧ Prem Φ vals w r
theorem prem_of {Φ : Nat → Value → World → Prop} {vals : Nat → Value} {w : World} : ∀ {L : List (Nat × Nat)}, (∀ p ∈ L, Φ p.1 (vals p.1) w) → Prem Φ vals w L
  | [], _ => trivial
  | p :: r, h => ⟨h p (List.mem_cons_self ..), prem_of fun q hq => h q (List.mem_cons_of_mem _ hq)⟩
theorem DagSteps.plain {a0 : Act} {S : World → Prop} {R : World → World → Prop} {Φ : Nat → Value → World → Prop} {i : Nat} {o : Oper} {os : List Oper} {Li : List (Nat × Nat)} {L : List (List (Nat × Nat))} (hg : o.guard = none)
    (h : ∀ (vals : Nat → Value) (w : World), S w → Prem Φ vals w Li → opRun P o (putL a0 vals Li).eval w fun v w' => R w w' ∧ S w' ∧ Φ i v w')
    (k : DagSteps P a0 S R Φ (i + 1) os L) : DagSteps P a0 S R Φ i (o :: os) (Li :: L) :=
  ⟨fun vals w hS hp => by rw [hg]; exact h vals w hS (prem_of hp), k⟩
theorem DagSteps.at {a0 : Act} {S : World → Prop} {R : World → World → Prop} {Φ : Nat → Value → World → Prop} : ∀ {os : List Oper} {L : List (List (Nat × Nat))} {k : Nat}, DagSteps P a0 S R Φ k os L → ∀ (i : Nat) o, os[i]? = some o → DagStep P a0 S R Φ (k + i) o (L.getD i [])
  | [], _, _, _, _, _, h => by simp at h
  | o :: os, L, k, h, 0, o', he => by
    simp only [List.getElem?_cons_zero, Option.some.injEq] at he
    subst he
    have := h.1
    cases L <;> exact this
  | o :: os, L, k, h, i + 1, o', he => by
    have := DagSteps.at h.2 i o' (by simpa using he)
    rw [show k + (i + 1) = k + 1 + i by omega]
    cases L <;> exact this

end
end Go.Proofs.YtjckpgcmfieaoaaGreatDoor
