/-
  TopLate is proved: for every input the law returns true and the input reads as it did; and its card, tied to the program's text. Conditions: the listed package-level variables read as listed (tied by the card).
-/
import Derived.Test.YtbhffbgbhgjdiaaGreatDoorLateRow
import Derived.Test.YtbhffbgbhgjdiaaGreatDoorM21
import Derived.Test.YtbhffbgbhgjdiaaGreatDoorTie
import Derived.Test.YtbhffbgbhgjdiaaGreatDoorCards
import Derived.SevenTiedAt
set_option linter.unusedSimpArgs false
set_option linter.unusedVariables false
namespace Go.Proofs.YtbhffbgbhgjdiaaGreatDoor
open Go.ChangeShapes Go.WideShapes Go.ChangeAt Go.WideMaps Go.WideElems Go.RowKit
open Go.ChangeMaps (open_string)
set_option maxRecDepth 100000
theorem topLate_holds:Rows.TopLateCardSaid :=
 Claim7.holds_tied_plain_at .later [] [.data,.data,.data,.data,.sentinel,.sentinel,.listed,.data] true (true, "af56c85702096af0cbc3ef5361984b843baf6e7da205886e8121c9d6bed6ca94") true
  topLate_row (fun _ h=>by cases h) topLate_wf (fun _ h=>by cases h) topLate_row_tie rfl ⟨rfl,rfl⟩ topLate_main rfl
  (fun f fn hf hfn=>by
    obtain rfl:f=3:=Option.some.inj ((show Tryz.prog.funcNamed "corebank/corebanktop.TopLate" = some 3 by kernel_rfl).symm.trans hf) |>.symm
    obtain rfl:fn=Tryz.f3:=(Option.some.inj (Tryz.func3.symm.trans hfn)).symm
    exact ⟨topLate_looks,fun j t ht=>by
     rw[Tryz.params3] at ht
     have hm:t∈[33,3,29]:=by simpa using Array.mem_of_getElem? ht
     have hall:([33,3,29].all fun u=>!Tryz.prog.wantsStandIn u)=true:=by kernel_rfl
     exact (show Tryz.prog.wantsStandIn t=false by simpa using List.all_eq_true.1 hall t hm)⟩)
  topLate_goes
#print axioms topLate_holds
end Go.Proofs.YtbhffbgbhgjdiaaGreatDoor
