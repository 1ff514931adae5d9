/-
  The closed facts of the law's row, one by one. Conditions: none.
-/
import Derived.Test.YtbhffbgbhgjdiaaGreatDoorRows
import Derived.ProofKit
import Derived.JoinedOf
set_option linter.unusedSimpArgs false
set_option linter.unusedVariables false
namespace Go.Proofs.YtbhffbgbhgjdiaaGreatDoor
open Go.RowKit
set_option maxRecDepth 100000
set_option maxHeartbeats 100000000 in
theorem topLate_closed:joinedFacts Tryz.pinned.checked.prog 3 Tryz.f3 Rows.topLateSpec Rows.topLateRow=true:=by
 unfold joinedFacts
 repeat' (first|with_reducible refine Bool.and_eq_true_iff.2 ⟨?_, ?_⟩)
 all_goals (as_aux_lemma=>kernel_rfl)
end Go.Proofs.YtbhffbgbhgjdiaaGreatDoor
