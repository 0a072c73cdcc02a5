/-
  The law ChannelHears, walked.
-/
import Derived.Test.YtjpmomdechibmaaGreatDoorMeg
set_option linter.unusedVariables false
set_option linter.unusedSimpArgs false
namespace Go.Proofs.YtjpmomdechibmaaGreatDoor
open Go.RowKit
theorem Tryz.infoact:(Tryz.prog.info? 75).map (·.size)=some 44:=by kernel_rfl
def zc9(x:Value):Sem Value:=Instr.loadAt 75 x
theorem qkm(x:Value):Instr.loadAt 75 x=zc9 x:=rfl
theorem q0p(b o:Nat)(w:World):(zc9 (.pointer (some ⟨b,o,none⟩))).run Tryz.prog w=match zx w b o 44 with | some A=> .ok (.agg A) w | none=>qdw Tryz.prog 75 w b o :=
 zy 75 44 _ Tryz.underlying75 rfl Tryz.infoact b o w
attribute [local go_sem ↓ high] qkm
attribute [local go_sem] q0p zq
theorem q80{o c:Int}(h:¬(1≤c∧c≤1125899906842624∧o≤c))(f:0≤c):c=0∨1125899906842624<c∨c<o:=by omega
end Go.Proofs.YtjpmomdechibmaaGreatDoor
