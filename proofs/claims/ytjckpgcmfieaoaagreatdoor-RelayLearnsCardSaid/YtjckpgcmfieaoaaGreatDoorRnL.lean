/-
  RelayLearns, evaluated; its law.
-/
import Derived.Test.YtjckpgcmfieaoaaGreatDoorRnA
import Derived.Test.YtjckpgcmfieaoaaGreatDoorRnB
import Derived.Test.YtjckpgcmfieaoaaGreatDoorRnC
import Derived.Test.YtjckpgcmfieaoaaGreatDoorRnD
import Derived.Test.YtjckpgcmfieaoaaGreatDoorRnE
import Derived.Test.YtjckpgcmfieaoaaGreatDoorRnF
import Derived.Test.YtjckpgcmfieaoaaGreatDoorRnG
import Derived.Test.YtjckpgcmfieaoaaGreatDoorRnH
set_option linter.unusedVariables false
set_option linter.unusedSimpArgs false
namespace Go.Proofs.YtjckpgcmfieaoaaGreatDoor
open Go.RowKit

noncomputable def lrA : ECall → List EV → ESt → EO := iRestL 2049 lL0_0 (gFin 2049 150 0 lL0_21)
noncomputable def lrB : ECall → List EV → ESt → EO := iRestL 2049 lL1_0 (gFin 2049 300 0 lL1_15)
theorem lrA_ok {k : ECall} {args : List EV} {s s' : ESt} {x : EV} (ha : lrA k args s = .v x s') : KOk Tryz.prog 15 args s x s' :=
  iRestL_ok (intS_KS 90) (n := 21) (q := 7) (r := 0) (by decide) (by decide) (by decide) (by decide) (by decide) (Tr.stage (n0 := 2302) lra_st1 (Tr.stage lra_st2 (Tr.stage lra_st3 (Tr.stage lra_st4 (.nil _))))) lra_idle rfl ha
theorem lrB_ok {k : ECall} {args : List EV} {s s' : ESt} {x : EV} (ha : lrB k args s = .v x s') : KOk Tryz.prog 15 args s x s' :=
  iRestL_ok (intS_KS 90) (n := 15) (q := 55) (r := 0) (by decide) (by decide) (by decide) (by decide) (by decide) (Tr.stage (n0 := 9237) lrb_st1 (Tr.stage lrb_st2 (Tr.stage lrb_st3 (Tr.stage lrb_st4 (.nil _))))) lrb_idle rfl ha
/-- The first rests, or the second. -/
noncomputable def lrR (k : ECall) (a : List EV) (s : ESt) : EO := match Nat.beq s.next 2302 with
  | true => lrA k a s
  | false => lrB k a s
theorem lrR_ok : ∀ k, KS Tryz.prog k → ∀ args s x s', lrR k args s = .v x s' → KOk Tryz.prog 15 args s x s' := fun k _ args s x s' ha => by
  unfold lrR at ha
  split at ha
  · exact lrA_ok ha
  · exact lrB_ok ha
set_option maxRecDepth 100000 in
theorem lr_ev : tellsTrue (eCall Tryz.prog (intD lrR) 100 3 [.sint .u16 (.term 1 (.var 0 0 65535) (.cst 0)), .sint .u8 (.term 1 (.var 1 0 255) (.cst 0))] (.mk (eTabH evTab5) 2048)) = true := by decide +kernel
theorem learns_card (n p : Int) (W : World) (hn : (Lit.int .u16 n).wf = true) (hp : (Lit.int .u8 p).wf = true) (ht : TabsAt W evTab5) : Calls Tryz.prog 3 #[.int .u16 n, .int .u8 p] W (Makes (.bool true) W) := by
  have bn : 0 ≤ n ∧ n < 65536 := by
    simp [Lit.wf, IntKind.min, IntKind.max, IntKind.signed, IntKind.bits] at hn
    omega
  have bp : 0 ≤ p ∧ p < 256 := by
    simp [Lit.wf, IntKind.min, IntKind.max, IntKind.signed, IntKind.bits] at hp
    omega
  obtain ⟨a, rfl⟩ := Int.eq_ofNat_of_zero_le bn.1
  obtain ⟨c, rfl⟩ := Int.eq_ofNat_of_zero_le bp.1
  have he := enters_of Tryz.func3 (by kernel_rfl) rfl #[.int .u16 (a : Int), .int .u8 (c : Int)] W
  exact told_true1 (by kernel_rfl) (intD_ok lrR_ok) lr_ev W ht (fun i => if i = 0 then some a else some c) (.cons (.sint (SN.one0 (sym_at (k := .u16) (by decide) rfl (Nat.zero_le _) (by omega))) (by simp [IntKind.wrap, IntKind.bits, IntKind.signed]; omega)) (.cons (.sint (SN.one0 (sym_at (k := .u8) (by decide) rfl (Nat.zero_le _) (by omega))) (by simp [IntKind.wrap, IntKind.bits, IntKind.signed]; omega)) .nil)) he
end Go.Proofs.YtjckpgcmfieaoaaGreatDoor
