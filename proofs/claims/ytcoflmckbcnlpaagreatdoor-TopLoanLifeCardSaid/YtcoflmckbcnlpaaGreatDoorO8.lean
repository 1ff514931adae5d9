/-
  The balance of an account in a journal of one entry of two legs: its contract; the example of the books. Conditions: those that each theorem states.
-/
import Derived.Test.YtcoflmckbcnlpaaGreatDoorOf
import Derived.Test.YtcoflmckbcnlpaaGreatDoorO7
namespace Go.Proofs.YtcoflmckbcnlpaaGreatDoor
open Go.RowKit
set_option maxRecDepth 100000
set_option linter.unusedSimpArgs false
end Go.Proofs.YtcoflmckbcnlpaaGreatDoor