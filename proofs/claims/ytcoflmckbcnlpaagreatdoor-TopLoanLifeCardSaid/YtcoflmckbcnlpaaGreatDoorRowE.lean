/-
  The closed facts of the law's row, one by one. Conditions: none.
-/
import Derived.Test.YtcoflmckbcnlpaaGreatDoorRows
import Derived.ProofKit
import Derived.JoinedOf
namespace Go.Proofs.YtcoflmckbcnlpaaGreatDoor
open Go.RowKit
set_option maxRecDepth 100000
set_option maxHeartbeats 100000000 in
theorem topLoanLife_closed : joinedFacts Tryz.pinned.checked.prog 3 Tryz.f3 Rows.topLoanLifeSpec Rows.topLoanLifeRow = true := by
  unfold joinedFacts
  repeat' (first | with_reducible refine Bool.and_eq_true_iff.2 ⟨?_, ?_⟩)
  all_goals (as_aux_lemma => kernel_rfl)
end Go.Proofs.YtcoflmckbcnlpaaGreatDoor