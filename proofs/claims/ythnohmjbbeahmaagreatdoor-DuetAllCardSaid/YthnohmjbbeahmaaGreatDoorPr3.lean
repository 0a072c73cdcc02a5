/-
  Law 13: hears (printed by tools/mk_pr3.py).
-/
import Derived.Test.YthnohmjbbeahmaaGreatDoorMch
import Derived.Laws.OwnMore
set_option linter.unusedVariables false
set_option linter.unusedSimpArgs false
namespace Go.Proofs.YthnohmjbbeahmaaGreatDoor
open Go.RowKit
theorem qse(ls:List MsgV)(h:∀l∈ls,l.hash.length=32):(ls.flatMap MsgV.cells).length=ls.length*38:=by
 induction ls with
 | nil=>rfl
 | cons x xs i =>
  rw[List.flatMap_cons,List.length_append,i (fun l g=>h l (List.mem_cons_of_mem _ g)),x.len (h x List.mem_cons_self),List.length_cons,Nat.succ_mul];omega
theorem qzi(ls:List MsgV):∀u∈ls.flatMap MsgV.cells,u.oneCell'=true:=by
 intro u i;obtain⟨l,-,g⟩:=List.mem_flatMap.1 i;exact l.one u g
theorem q4x{w:World}{ls:List MsgV}{base:Nat}{v:Value}(m:∀l∈ls,l.hash.length=32)(h:w.ownsRow base 71 38 v ls.length (ls.flatMap MsgV.cells)) :
  (v = .slice none 0 0∧ls=[])∨∃o c',v = .slice (some o) ls.length c'∧∀j u,(ls.flatMap MsgV.cells)[j]? = some u→w.cell? (o.add j)=some u:=by
 rcases h.2 with ⟨e,e0⟩ | ⟨g,cap,t,e,C,E,D,_,F,H⟩
 ·exact .inl ⟨e,List.length_eq_zero_iff.1 e0⟩
 ·refine .inr ⟨⟨g,0,none⟩,cap,e,?_⟩;intro j u q;rw[e] at h;have i:=(List.getElem?_eq_some_iff.1 q).1;rw[qse ls m] at i;have:=World.ownsRow.cellAt h j i;have z:(⟨g,0,none⟩:Addr).add j=⟨g,j,none⟩:=by cases j<;>simp[Addr.add]
  rw[z,this];exact q
theorem zde(w:World):(q81 0 #[]).run Tryz.prog w = .ok (.slice (some ⟨w.heap.size,0,none⟩) 0 0) (w.alloc (.cells #[] 71)):=by
 obtain⟨i,z,l,m,o⟩:=qec Tryz.zeroMsg;have g:i.size=38:=by have:=Tryz.infoMsg;rw[l] at this;simpa using this
 show (Instr.buildSlice 58 0 #[]).run Tryz.prog w=_;simp[Instr.buildSlice,run_underlying Tryz.underlying58,sizeOf,typeInfo,zeroValue,l,m,g,Instr.fill,newRow];rw[Array.eq_empty_of_size_eq_zero (xs:=Array.map _ (Array.range 0)) (by simp)]
section
variable {w0 w:World}{p gA gB:Nat}{SA SB:Nat→Prop}{a b:Ch}{wa wb:List MsgV}{ua ub:Value}{bad:Bool}
end
attribute [local go_sem ↓ high] zr zu zw zx qd4
attribute [local go_sem] qb3 qb9 qcf qkw zde zb
end Go.Proofs.YthnohmjbbeahmaaGreatDoor
