/-
  Operations one by one, each by its own run: for bodies whose literals are too long for the walk.
-/
import Derived.Test.YtehdhnckfdiioaaDoorRN
import Derived.Laws.Tables
namespace Go.Proofs.YtehdhnckfdiioaaDoor
open Go.RowKit

section
variable {P : Program} {ops : Array Oper} {rest : List Oper} {o : Oper} {a : Act} {w w' : World} {Q : Exit → Act → World → Prop}
theorem wpList_val {v : Value} (hg : o.guard = none) (h : (execOp a.eval o).run P w = .ok (.value v) w') (k : wpList P ops Q rest (a.put o.dst v) w') : wpList P ops Q (o :: rest) a w :=
  wpList_plain hg fun K hK => by
    unfold Oper.wp
    rw [h]
    exact hK _ _ k
theorem wpList_skip (hg : o.guard = none) (h : (execOp a.eval o).run P w = .ok .skip w') (k : wpList P ops Q rest (a.put o.dst undef) w') : wpList P ops Q (o :: rest) a w :=
  wpList_plain hg fun K hK => by
    unfold Oper.wp
    rw [h]
    exact hK _ _ k
theorem wpList_call {f : FuncId} {args : Array Value} (hg : o.guard = none) (h : (execOp a.eval o).run P w = .ok (.enter f args) w')
    (k : Calls P f args w' fun e w'' => ∃ v, e = .returned v ∧ wpList P ops Q rest (a.put o.dst v) w'') : wpList P ops Q (o :: rest) a w :=
  wpList_plain hg fun K hK => by
    unfold Oper.wp
    rw [h]
    simp only [Oper.upon]
    refine k.mono fun e w'' he => ?_
    obtain ⟨v, rfl, hv⟩ := he
    exact hK _ _ hv
end
theorem Upd.setRow {S : Nat → Prop} {a w : World} (h : Upd S a w) {g : Nat} (hg : g < a.heap.size → S g) (cs : Array Value) : Upd S a (w.setRow g cs) :=
  ⟨h.os, h.tape, h.output, by simpa using h.size, fun i hi hn => by
    rw [setRow_other _ _ _ _ (show i ≠ g from fun e => hn (e ▸ hg (e ▸ hi)))]
    exact h.block i hi hn⟩

end Go.Proofs.YtehdhnckfdiioaaDoor
