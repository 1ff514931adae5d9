/-
  Examples of a law, run. Conditions: those that each theorem states.
-/
import Derived.Test.YtcoflmckbcnlpaaGreatDoorO5
namespace Go.Proofs.YtcoflmckbcnlpaaGreatDoor
open Go.RowKit
set_option maxRecDepth 100000
noncomputable def orc3 : XO := orcK 48 [twoAV, .ex (.int .i64 31), .ex (.int .i64 59)] (.tup [.agg [.ex (.int .i64 0), .ex (.int .u64 6132000000000)], .ex (.int .i64 0)]) orc2
theorem orc3_ok : OrcOk Tryz.prog CtxP orc3 := orcK_ok Pen_con orc2_ok
noncomputable def eng3 : XE := ⟨Tryz.prog, glbE, orc3, fun f => Nat.beq f 64 || Nat.beq f 103 || Nat.beq f 163⟩
theorem Live37_con : Con Tryz.prog CtxP 17 [] (.val (.ex (.bool true))) :=
  xcall_con (E := eng3) (n := 1000) base glbE_ok orc3_ok (by kernel_rfl)
end Go.Proofs.YtcoflmckbcnlpaaGreatDoor