/-
  DERIVED. GIVEN WITH THE SEED: THE CARDS: each row of YtcoflmckbcnlpaaGreatDoorRows.lean that lists a variable, with what it lists TIED to the program's text (the seventh form; the later family's looks); each row that meets fmt, with fmt's text TOLD by the authors' own Lean function (tested against real Go, not proved from fmt's source: count such statements apart). THE CARD IS WHAT COUNTS. Prove the row's statement (the work); the ties are given (YtcoflmckbcnlpaaGreatDoorTie.lean); close each card by the builder's one call (the guide's Derived/Test/ToyasCard.lean, 'card_holds'). Laid BY PROGRAM, IN A SANDBOX (cutbox-door.mjs). By AI agents, Wed Nov 11 2026. No macro, syntax, notation, axiom, sorry.
-/
import Derived.Test.YtcoflmckbcnlpaaGreatDoorRows
import GoSem.ClaimSeven
namespace Go.Proofs.YtcoflmckbcnlpaaGreatDoor
namespace Rows

/-- THE TIED CARD OF 'corebanktop.TopLoanLife'. -/
def topLoanLifeCard : Claim7 := { stood := { row := topLoanLifeRow, standIns := [], harness := (true, "229061b40d7238c45e5469fea3349405f37976bb70d379a074d713a940d7f17a"), looks := true }, kinds := [], alts := [], laidByText := true, laidKinds := [.data, .data, .data, .data, .sentinel, .sentinel, .listed, .data, .data], laidTests := true, laidLooks := .later }
def TopLoanLifeCardSaid : Prop := Claim7.holds Tryz.pinned (.plain (OpenSpec.ofChange topLoanLifeSpec)) topLoanLifeCard

/-- THE SECOND FORM's CARD OF 'corebanktop.TopLoanLife'. -/
def topLoanLifeUptoCard : Claim7 := { stood := { row := topLoanLifeUptoRow, standIns := [], harness := (true, "229061b40d7238c45e5469fea3349405f37976bb70d379a074d713a940d7f17a"), looks := true }, kinds := [], alts := [], laidByText := true, laidKinds := [.data, .data, .data, .data, .sentinel, .sentinel, .listed, .data, .data], laidTests := true, laidLooks := .later }
def TopLoanLifeUptoCardSaid : Prop := Claim7.holds Tryz.pinned (.plain (OpenSpec.upto topLoanLifeSpec)) topLoanLifeUptoCard
end Rows
end Go.Proofs.YtcoflmckbcnlpaaGreatDoor
