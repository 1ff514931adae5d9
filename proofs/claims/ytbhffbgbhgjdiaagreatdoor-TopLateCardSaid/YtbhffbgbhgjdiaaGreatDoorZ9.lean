/-
  The same period behind an empty list, run. Conditions: none.
-/
import Derived.Test.YtbhffbgbhgjdiaaGreatDoorZ8
set_option linter.unusedSimpArgs false
set_option linter.unusedVariables false
namespace Go.Proofs.YtbhffbgbhgjdiaaGreatDoor
open Go.RowKit
set_option maxRecDepth 100000
theorem Aa2:Cn 51 [Vw,.sl [],gI 1000,gI 30] (.val Alq) :=
 Av (E:=Ap2) (n:=1000) base Bk Vg (Pr (by kernel_rfl))
end Go.Proofs.YtbhffbgbhgjdiaaGreatDoor
