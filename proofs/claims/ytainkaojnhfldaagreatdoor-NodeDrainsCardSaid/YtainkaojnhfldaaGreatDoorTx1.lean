/-
  view.Text.
-/
import Derived.Test.YtainkaojnhfldaaGreatDoorMcg
import Derived.Test.YtainkaojnhfldaaGreatDoorTxt
set_option linter.unusedVariables false
set_option linter.unusedSimpArgs false
namespace Go.Proofs.YtainkaojnhfldaaGreatDoor
open Go.RowKit Go.Sort

theorem Tryz.infoHashT : (Tryz.prog.info? 32).map (·.size) = some 32 := by kernel_rfl
def ldHashT (x : Value) : Sem Value := Instr.loadAt 32 x
theorem ld_hasht_fold (x : Value) : Instr.loadAt 32 x = ldHashT x := rfl
theorem ld_hasht (b o : Nat) (w : World) : (ldHashT (.pointer (some ⟨b, o, none⟩))).run Tryz.prog w = match rowN w b o 32 with | some A => .ok (.agg A) w | none => slowLd Tryz.prog 32 w b o :=
  run_loadAt_rowN 32 32 _ Tryz.underlying32 rfl Tryz.infoHashT b o w
attribute [local go_sem ↓ high] ld_item_fold ld_hasht_fold
attribute [local go_sem] ld_item ld_hasht

end Go.Proofs.YtainkaojnhfldaaGreatDoor
