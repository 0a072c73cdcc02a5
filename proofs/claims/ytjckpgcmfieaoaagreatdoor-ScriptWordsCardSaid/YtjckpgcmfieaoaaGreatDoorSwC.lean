/-
  The closed facts of the row of ScriptWords.
-/
import Derived.Test.YtjckpgcmfieaoaaGreatDoorRows
import Derived.Test.YtjckpgcmfieaoaaGreatDoorChecked
import Derived.JoinedCond
import Derived.ProofKit
namespace Go.Proofs.YtjckpgcmfieaoaaGreatDoor.scriptWords
set_option maxHeartbeats 100000000 in
theorem closed : joinedFacts Tryz.prog 7 Tryz.f7 (OpenSpec.ofChange Rows.scriptWordsSpec).bare Rows.scriptWordsRow = true := by
  unfold joinedFacts
  refine (Bool.and_eq_true_iff.2 ⟨(Bool.and_eq_true_iff.2 ⟨(Bool.and_eq_true_iff.2 ⟨(Bool.and_eq_true_iff.2 ⟨(Bool.and_eq_true_iff.2 ⟨(Bool.and_eq_true_iff.2 ⟨(Bool.and_eq_true_iff.2 ⟨(Bool.and_eq_true_iff.2 ⟨(Bool.and_eq_true_iff.2 ⟨(Bool.and_eq_true_iff.2 ⟨(Bool.and_eq_true_iff.2 ⟨(Bool.and_eq_true_iff.2 ⟨(Bool.and_eq_true_iff.2 ⟨(Bool.and_eq_true_iff.2 ⟨(Bool.and_eq_true_iff.2 ⟨(Bool.and_eq_true_iff.2 ⟨(Bool.and_eq_true_iff.2 ⟨(Bool.and_eq_true_iff.2 ⟨(Bool.and_eq_true_iff.2 ⟨(Bool.and_eq_true_iff.2 ⟨(Bool.and_eq_true_iff.2 ⟨(Bool.and_eq_true_iff.2 ⟨(Bool.and_eq_true_iff.2 ⟨(Bool.and_eq_true_iff.2 ⟨(Bool.and_eq_true_iff.2 ⟨(Bool.and_eq_true_iff.2 ⟨(Bool.and_eq_true_iff.2 ⟨(Bool.and_eq_true_iff.2 ⟨(Bool.and_eq_true_iff.2 ⟨(Bool.and_eq_true_iff.2 ⟨(Bool.and_eq_true_iff.2 ⟨?_, ?_⟩), ?_⟩), ?_⟩), ?_⟩), ?_⟩), ?_⟩), ?_⟩), ?_⟩), ?_⟩), ?_⟩), ?_⟩), ?_⟩), ?_⟩), ?_⟩), ?_⟩), ?_⟩), ?_⟩), ?_⟩), ?_⟩), ?_⟩), ?_⟩), ?_⟩), ?_⟩), ?_⟩), ?_⟩), ?_⟩), ?_⟩), ?_⟩), ?_⟩), ?_⟩), ?_⟩)
  all_goals (as_aux_lemma => kernel_rfl)
end Go.Proofs.YtjckpgcmfieaoaaGreatDoor.scriptWords
