/-
  The closed facts of the row of RelayDrains.
-/
import Derived.Test.YtjckpgcmfieaoaaGreatDoorRows
import Derived.Test.YtjckpgcmfieaoaaGreatDoorChecked
import Derived.JoinedCond
import Derived.ProofKit
set_option linter.unusedVariables false
set_option linter.unusedSimpArgs false
namespace Go.Proofs.YtjckpgcmfieaoaaGreatDoor.relayDrains
set_option maxHeartbeats 100000000 in
theorem closed : joinedFacts Tryz.prog 4 Tryz.f4 (OpenSpec.ofChange Rows.relayDrainsSpec).bare Rows.relayDrainsRow = true := by
  unfold joinedFacts
  refine (Bool.and_eq_true_iff.2 ⟨(Bool.and_eq_true_iff.2 ⟨(Bool.and_eq_true_iff.2 ⟨(Bool.and_eq_true_iff.2 ⟨(Bool.and_eq_true_iff.2 ⟨(Bool.and_eq_true_iff.2 ⟨(Bool.and_eq_true_iff.2 ⟨(Bool.and_eq_true_iff.2 ⟨(Bool.and_eq_true_iff.2 ⟨(Bool.and_eq_true_iff.2 ⟨(Bool.and_eq_true_iff.2 ⟨(Bool.and_eq_true_iff.2 ⟨(Bool.and_eq_true_iff.2 ⟨(Bool.and_eq_true_iff.2 ⟨(Bool.and_eq_true_iff.2 ⟨(Bool.and_eq_true_iff.2 ⟨(Bool.and_eq_true_iff.2 ⟨(Bool.and_eq_true_iff.2 ⟨(Bool.and_eq_true_iff.2 ⟨(Bool.and_eq_true_iff.2 ⟨(Bool.and_eq_true_iff.2 ⟨(Bool.and_eq_true_iff.2 ⟨(Bool.and_eq_true_iff.2 ⟨(Bool.and_eq_true_iff.2 ⟨(Bool.and_eq_true_iff.2 ⟨(Bool.and_eq_true_iff.2 ⟨(Bool.and_eq_true_iff.2 ⟨(Bool.and_eq_true_iff.2 ⟨(Bool.and_eq_true_iff.2 ⟨(Bool.and_eq_true_iff.2 ⟨(Bool.and_eq_true_iff.2 ⟨?_, ?_⟩), ?_⟩), ?_⟩), ?_⟩), ?_⟩), ?_⟩), ?_⟩), ?_⟩), ?_⟩), ?_⟩), ?_⟩), ?_⟩), ?_⟩), ?_⟩), ?_⟩), ?_⟩), ?_⟩), ?_⟩), ?_⟩), ?_⟩), ?_⟩), ?_⟩), ?_⟩), ?_⟩), ?_⟩), ?_⟩), ?_⟩), ?_⟩), ?_⟩), ?_⟩), ?_⟩)
  all_goals (as_aux_lemma => kernel_rfl)
end Go.Proofs.YtjckpgcmfieaoaaGreatDoor.relayDrains
