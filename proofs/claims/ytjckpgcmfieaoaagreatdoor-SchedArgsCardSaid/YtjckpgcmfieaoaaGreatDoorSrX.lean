/-
  The closed facts of the row of SchedArgs.
-/
import Derived.Test.YtjckpgcmfieaoaaGreatDoorRows
import Derived.Test.YtjckpgcmfieaoaaGreatDoorChecked
import Derived.JoinedCond
import Derived.ProofKit
set_option linter.unusedVariables false
set_option linter.unusedSimpArgs false
namespace Go.Proofs.YtjckpgcmfieaoaaGreatDoor.schedArgs
set_option maxHeartbeats 100000000 in
theorem closed : joinedFacts Tryz.prog 6 Tryz.f6 (OpenSpec.ofChange Rows.schedArgsSpec).bare Rows.schedArgsRow = true := by
  unfold joinedFacts
  refine (Bool.and_eq_true_iff.2 ⟨(Bool.and_eq_true_iff.2 ⟨(Bool.and_eq_true_iff.2 ⟨(Bool.and_eq_true_iff.2 ⟨(Bool.and_eq_true_iff.2 ⟨(Bool.and_eq_true_iff.2 ⟨(Bool.and_eq_true_iff.2 ⟨(Bool.and_eq_true_iff.2 ⟨(Bool.and_eq_true_iff.2 ⟨(Bool.and_eq_true_iff.2 ⟨(Bool.and_eq_true_iff.2 ⟨(Bool.and_eq_true_iff.2 ⟨(Bool.and_eq_true_iff.2 ⟨(Bool.and_eq_true_iff.2 ⟨(Bool.and_eq_true_iff.2 ⟨(Bool.and_eq_true_iff.2 ⟨(Bool.and_eq_true_iff.2 ⟨(Bool.and_eq_true_iff.2 ⟨(Bool.and_eq_true_iff.2 ⟨(Bool.and_eq_true_iff.2 ⟨(Bool.and_eq_true_iff.2 ⟨(Bool.and_eq_true_iff.2 ⟨(Bool.and_eq_true_iff.2 ⟨(Bool.and_eq_true_iff.2 ⟨(Bool.and_eq_true_iff.2 ⟨(Bool.and_eq_true_iff.2 ⟨(Bool.and_eq_true_iff.2 ⟨(Bool.and_eq_true_iff.2 ⟨(Bool.and_eq_true_iff.2 ⟨(Bool.and_eq_true_iff.2 ⟨(Bool.and_eq_true_iff.2 ⟨?_, ?_⟩), ?_⟩), ?_⟩), ?_⟩), ?_⟩), ?_⟩), ?_⟩), ?_⟩), ?_⟩), ?_⟩), ?_⟩), ?_⟩), ?_⟩), ?_⟩), ?_⟩), ?_⟩), ?_⟩), ?_⟩), ?_⟩), ?_⟩), ?_⟩), ?_⟩), ?_⟩), ?_⟩), ?_⟩), ?_⟩), ?_⟩), ?_⟩), ?_⟩), ?_⟩), ?_⟩)
  all_goals (as_aux_lemma => kernel_rfl)
end Go.Proofs.YtjckpgcmfieaoaaGreatDoor.schedArgs
