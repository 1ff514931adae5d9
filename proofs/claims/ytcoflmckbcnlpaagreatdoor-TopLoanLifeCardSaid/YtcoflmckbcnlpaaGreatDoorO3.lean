/-
  Examples of a law, run. Conditions: those that each theorem states.
-/
import Derived.Test.YtcoflmckbcnlpaaGreatDoorLK
namespace Go.Proofs.YtcoflmckbcnlpaaGreatDoor
open Go.RowKit
set_option maxRecDepth 100000
theorem Lives33_con : Con Tryz.prog CtxP 15 [] (.val (.ex (.bool true))) :=
  xcall_con (E := eng1) (n := 1000) base glbE_ok orc1_ok (by kernel_rfl)
end Go.Proofs.YtcoflmckbcnlpaaGreatDoor