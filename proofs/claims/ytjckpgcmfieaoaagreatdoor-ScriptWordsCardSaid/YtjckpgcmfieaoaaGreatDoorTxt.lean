/-
  A region that draws its order, whose operations with effects stand in a row: it may be walked in its lexical order. Operations that only compute may stand anywhere; loads wait for, or are waited for by, each operation with an effect.
-/
import Derived.Test.YtjckpgcmfieaoaaGreatDoorDag
import Derived.Test.YtjckpgcmfieaoaaGreatDoorRN
namespace Go.Proofs.YtjckpgcmfieaoaaGreatDoor
open Go.RowKit

section
variable {P : Program} {ops : Array Oper} {Q : Exit → Act → World → Prop}

/-- What a value is in one world. -/
def YieldsW (P : Program) (ops : Array Oper) (w : World) (o : Oper) (v : Value) (a : Act) : Prop :=
  (Region.wanted o (yielded ops a.tmps) = true ∧ (execOp a.eval o).run P w = .ok (.value v) w) ∨ (Region.wanted o (yielded ops a.tmps) = false ∧ v = undef)
theorem YieldsW.wpOp {i : Nat} {o : Oper} {v : Value} {a : Act} {w : World} (hi : ops[i]? = some o) (hy : YieldsW P ops w o v a)
    {K : Act → World → Prop} (h : K (a.put o.dst v) w) : wpOp P ops Q i K a w := by
  unfold Go.wpOp
  simp only [hi]
  rcases hy with ⟨hw, hv⟩ | ⟨hw, rfl⟩
  · simp only [hw, if_true, Oper.wp, hv, Oper.upon]; exact .inl h
  · simp only [hw, Bool.false_eq_true, if_false]; exact h
/-- The same value in all worlds of a class. -/
def YieldsC (P : Program) (ops : Array Oper) (C : World → Prop) (o : Oper) (v : Value) (a : Act) : Prop := ∀ w, C w → YieldsW P ops w o v a
/-- What a class yields. -/
def YieldC (P : Program) (ops : Array Oper) (C : World → Prop) (c : Nat) (w : World) (o : Oper) (v : Value) (a : Act) : Prop := if c = 0 then YieldsC P ops (fun _ => True) o v a else if c = 3 then YieldsC P ops C o v a else YieldsW P ops w o v a
theorem YieldC.w {C : World → Prop} {c : Nat} {o : Oper} {v : Value} {a : Act} {w : World} (hy : YieldC P ops C c w o v a) (hC : c = 3 → C w) : YieldsW P ops w o v a := by
  unfold YieldC at hy
  split at hy
  · exact hy w trivial
  · split at hy
    · exact hy w (hC ‹_›)
    · exact hy

section
variable {C : World → Prop} {cl : List Nat} {kp : Nat → Bool}

end

/-- A plan: the operations in an order; where effects may stand in several orders, all of them. -/
inductive Plan where
  | done
  | step (i : Nat) (p : Plan)
  | fork (p q : Plan)
def Plan.first (eff : Nat → Bool) : Plan → List Nat
  | .done => []
  | .step i p => if eff i then [i] else p.first eff
  | .fork p q => p.first eff ++ q.first eff
def Plan.of : List Nat → Plan
  | [] => .done
  | i :: r => .step i (Plan.of r)

section
variable {A : List (List Nat)} {eff : Nat → Bool}
end
section
variable {C : World → Prop} {cl : List Nat} {A : List (List Nat)} {kp : Nat → Bool}
end

end
section
variable {P : Program} {l : List Oper} {Q : Exit → Act → World → Prop} {C : World → Prop} {cl : List Nat}

section
variable {ops : Array Oper} {o : Oper} {r : List Oper} {a : Act} {w : World}
section
variable {C : World → Prop} {cl : List Nat} {p q : Plan} {i : Nat}
end
end
end
/- The same rules, with the sides shown by themselves and the names drawn by themselves: by S1, S2 of tools/short_rules.py. -/
section
variable {P : Program} {ops : Array Oper} {Q : Exit → Act → World → Prop} {l : List Oper} {o : Oper} {r : List Oper} {a A : Act} {w : World} {C : World → Prop} {cl : List Nat} {p : Plan} {i : Nat}
end
theorem wrapI {x : Int} (h0 : -9223372036854775808 ≤ x) (h1 : x ≤ 9223372036854775807) : IntKind.i64.wrap x = x := by rw [IntKind.wrap_i64]; omega
end Go.Proofs.YtjckpgcmfieaoaaGreatDoor
