/-
  DERIVED. GIVEN WITH THE SEED: THE CARDS: each row of YtapghdjbffmifaaDoorRows.lean that lists a variable, with what it lists TIED to the program's text (the seventh form; the later family's looks); each row that meets fmt, with fmt's text TOLD by the authors' own Lean function (tested against real Go, not proved from fmt's source: count such statements apart). THE CARD IS WHAT COUNTS. Prove the row's statement (the work); the ties are given (YtapghdjbffmifaaDoorTie.lean); close each card by the builder's one call (the guide's Derived/Test/ToyasCard.lean, 'card_holds'). Laid BY PROGRAM, IN A SANDBOX (cutbox-door.mjs). By AI agents, Wed Nov 11 2026. No macro, syntax, notation, axiom, sorry.
-/
import Derived.Test.YtapghdjbffmifaaDoorRows
import GoSem.ClaimSeven
namespace Go.Proofs.YtapghdjbffmifaaDoor
namespace Rows

/-- THE TIED CARD OF 'corebanklaw48.TrailAppends'. -/
def trailAppendsCard : Claim7 := { stood := { row := trailAppendsRow, standIns := [], harness := (true, "8e0e29b0a17def2a2313c5f350772daf81812df657ce399830241510592ac8cf"), looks := true }, kinds := [], alts := [], laidByText := true, laidKinds := [.data, .data, .data], laidTests := true, laidLooks := .later }
def TrailAppendsCardSaid : Prop := Claim7.holds Tryd.pinned (.plain (OpenSpec.ofChange trailAppendsSpec)) trailAppendsCard

/-- THE TIED CARD OF 'corebanklaw48.TrailVerifies'. -/
def trailVerifiesCard : Claim7 := { stood := { row := trailVerifiesRow, standIns := [], harness := (true, "8e0e29b0a17def2a2313c5f350772daf81812df657ce399830241510592ac8cf"), looks := true }, kinds := [], alts := [], laidByText := true, laidKinds := [.data, .data, .data], laidTests := true, laidLooks := .later }
def TrailVerifiesCardSaid : Prop := Claim7.holds Tryd.pinned (.plain (OpenSpec.ofChange trailVerifiesSpec)) trailVerifiesCard

/-- THE TIED CARD OF 'corebanklaw48.TrailHolds'. -/
def trailHoldsCard : Claim7 := { stood := { row := trailHoldsRow, standIns := [], harness := (true, "8e0e29b0a17def2a2313c5f350772daf81812df657ce399830241510592ac8cf"), looks := true }, kinds := [], alts := [], laidByText := true, laidKinds := [.data, .data, .data], laidTests := true, laidLooks := .later }
def TrailHoldsCardSaid : Prop := Claim7.holds Tryd.pinned (.plain (OpenSpec.ofChange trailHoldsSpec)) trailHoldsCard

/-- THE TIED CARD OF 'corebanklaw48.TrailProves'. -/
def trailProvesCard : Claim7 := { stood := { row := trailProvesRow, standIns := [], harness := (true, "8e0e29b0a17def2a2313c5f350772daf81812df657ce399830241510592ac8cf"), looks := true }, kinds := [], alts := [], laidByText := true, laidKinds := [.data, .data, .data], laidTests := true, laidLooks := .later }
def TrailProvesCardSaid : Prop := Claim7.holds Tryd.pinned (.plain (OpenSpec.ofChange trailProvesSpec)) trailProvesCard

/-- THE TIED CARD OF 'corebanklaw48.TrailShows'. -/
def trailShowsCard : Claim7 := { stood := { row := trailShowsRow, standIns := [], harness := (true, "8e0e29b0a17def2a2313c5f350772daf81812df657ce399830241510592ac8cf"), looks := true }, kinds := [], alts := [], laidByText := true, laidKinds := [.data, .data, .data], laidTests := true, laidLooks := .later }
def TrailShowsCardSaid : Prop := Claim7.holds Tryd.pinned (.plain (OpenSpec.ofChange trailShowsSpec)) trailShowsCard

/-- THE TIED CARD OF 'corebanklaw08.DigestHexes'. -/
def digestHexesCard : Claim7 := { stood := { row := digestHexesRow, standIns := [], harness := (true, "8e0e29b0a17def2a2313c5f350772daf81812df657ce399830241510592ac8cf"), looks := true }, kinds := [], alts := [], laidByText := true, laidKinds := [.data, .data, .data, .sentinel, .sentinel], laidTests := true, laidLooks := .later }
def DigestHexesCardSaid : Prop := Claim7.holds Tryd.pinned (.plain (OpenSpec.ofChange digestHexesSpec)) digestHexesCard

/-- THE TIED CARD OF 'corebanklaw08.DigestRests'. -/
def digestRestsCard : Claim7 := { stood := { row := digestRestsRow, standIns := [], harness := (true, "8e0e29b0a17def2a2313c5f350772daf81812df657ce399830241510592ac8cf"), looks := true }, kinds := [], alts := [], laidByText := true, laidKinds := [.data, .data, .data, .sentinel, .sentinel], laidTests := true, laidLooks := .later }
def DigestRestsCardSaid : Prop := Claim7.holds Tryd.pinned (.plain (OpenSpec.ofChange digestRestsSpec)) digestRestsCard

/-- THE TIED CARD OF 'corebanklaw08.DigestNumbers'. -/
def digestNumbersCard : Claim7 := { stood := { row := digestNumbersRow, standIns := [], harness := (true, "8e0e29b0a17def2a2313c5f350772daf81812df657ce399830241510592ac8cf"), looks := true }, kinds := [], alts := [], laidByText := true, laidKinds := [.data, .data, .data, .sentinel, .sentinel], laidTests := true, laidLooks := .later }
def DigestNumbersCardSaid : Prop := Claim7.holds Tryd.pinned (.plain (OpenSpec.ofChange digestNumbersSpec)) digestNumbersCard

/-- THE TIED CARD OF 'corebanklaw08.DigestSeals'. -/
def digestSealsCard : Claim7 := { stood := { row := digestSealsRow, standIns := [], harness := (true, "8e0e29b0a17def2a2313c5f350772daf81812df657ce399830241510592ac8cf"), looks := true }, kinds := [], alts := [], laidByText := true, laidKinds := [.data, .data, .data, .sentinel, .sentinel], laidTests := true, laidLooks := .later }
def DigestSealsCardSaid : Prop := Claim7.holds Tryd.pinned (.plain (OpenSpec.ofChange digestSealsSpec)) digestSealsCard

/-- THE TIED CARD OF 'corebanklaw08.DigestTexts'. -/
def digestTextsCard : Claim7 := { stood := { row := digestTextsRow, standIns := [], harness := (true, "8e0e29b0a17def2a2313c5f350772daf81812df657ce399830241510592ac8cf"), looks := true }, kinds := [], alts := [], laidByText := true, laidKinds := [.data, .data, .data, .sentinel, .sentinel], laidTests := true, laidLooks := .later }
def DigestTextsCardSaid : Prop := Claim7.holds Tryd.pinned (.plain (OpenSpec.ofChange digestTextsSpec)) digestTextsCard

/-- THE TIED CARD OF 'corebanklaw08.DigestHashes'. -/
def digestHashesCard : Claim7 := { stood := { row := digestHashesRow, standIns := [], harness := (true, "8e0e29b0a17def2a2313c5f350772daf81812df657ce399830241510592ac8cf"), looks := true }, kinds := [], alts := [], laidByText := true, laidKinds := [.data, .data, .data, .sentinel, .sentinel], laidTests := true, laidLooks := .later }
def DigestHashesCardSaid : Prop := Claim7.holds Tryd.pinned (.plain (OpenSpec.ofChange digestHashesSpec)) digestHashesCard

/-- THE SECOND FORM's CARD OF 'corebanklaw48.TrailAppends'. -/
def trailAppendsUptoCard : Claim7 := { stood := { row := trailAppendsUptoRow, standIns := [], harness := (true, "8e0e29b0a17def2a2313c5f350772daf81812df657ce399830241510592ac8cf"), looks := true }, kinds := [], alts := [], laidByText := true, laidKinds := [.data, .data, .data], laidTests := true, laidLooks := .later }
def TrailAppendsUptoCardSaid : Prop := Claim7.holds Tryd.pinned (.plain (OpenSpec.upto trailAppendsSpec)) trailAppendsUptoCard

/-- THE SECOND FORM's CARD OF 'corebanklaw48.TrailVerifies'. -/
def trailVerifiesUptoCard : Claim7 := { stood := { row := trailVerifiesUptoRow, standIns := [], harness := (true, "8e0e29b0a17def2a2313c5f350772daf81812df657ce399830241510592ac8cf"), looks := true }, kinds := [], alts := [], laidByText := true, laidKinds := [.data, .data, .data], laidTests := true, laidLooks := .later }
def TrailVerifiesUptoCardSaid : Prop := Claim7.holds Tryd.pinned (.plain (OpenSpec.upto trailVerifiesSpec)) trailVerifiesUptoCard

/-- THE SECOND FORM's CARD OF 'corebanklaw48.TrailHolds'. -/
def trailHoldsUptoCard : Claim7 := { stood := { row := trailHoldsUptoRow, standIns := [], harness := (true, "8e0e29b0a17def2a2313c5f350772daf81812df657ce399830241510592ac8cf"), looks := true }, kinds := [], alts := [], laidByText := true, laidKinds := [.data, .data, .data], laidTests := true, laidLooks := .later }
def TrailHoldsUptoCardSaid : Prop := Claim7.holds Tryd.pinned (.plain (OpenSpec.upto trailHoldsSpec)) trailHoldsUptoCard

/-- THE SECOND FORM's CARD OF 'corebanklaw48.TrailProves'. -/
def trailProvesUptoCard : Claim7 := { stood := { row := trailProvesUptoRow, standIns := [], harness := (true, "8e0e29b0a17def2a2313c5f350772daf81812df657ce399830241510592ac8cf"), looks := true }, kinds := [], alts := [], laidByText := true, laidKinds := [.data, .data, .data], laidTests := true, laidLooks := .later }
def TrailProvesUptoCardSaid : Prop := Claim7.holds Tryd.pinned (.plain (OpenSpec.upto trailProvesSpec)) trailProvesUptoCard

/-- THE SECOND FORM's CARD OF 'corebanklaw48.TrailShows'. -/
def trailShowsUptoCard : Claim7 := { stood := { row := trailShowsUptoRow, standIns := [], harness := (true, "8e0e29b0a17def2a2313c5f350772daf81812df657ce399830241510592ac8cf"), looks := true }, kinds := [], alts := [], laidByText := true, laidKinds := [.data, .data, .data], laidTests := true, laidLooks := .later }
def TrailShowsUptoCardSaid : Prop := Claim7.holds Tryd.pinned (.plain (OpenSpec.upto trailShowsSpec)) trailShowsUptoCard

/-- THE SECOND FORM's CARD OF 'corebanklaw08.DigestHexes'. -/
def digestHexesUptoCard : Claim7 := { stood := { row := digestHexesUptoRow, standIns := [], harness := (true, "8e0e29b0a17def2a2313c5f350772daf81812df657ce399830241510592ac8cf"), looks := true }, kinds := [], alts := [], laidByText := true, laidKinds := [.data, .data, .data, .sentinel, .sentinel], laidTests := true, laidLooks := .later }
def DigestHexesUptoCardSaid : Prop := Claim7.holds Tryd.pinned (.plain (OpenSpec.upto digestHexesSpec)) digestHexesUptoCard

/-- THE SECOND FORM's CARD OF 'corebanklaw08.DigestRests'. -/
def digestRestsUptoCard : Claim7 := { stood := { row := digestRestsUptoRow, standIns := [], harness := (true, "8e0e29b0a17def2a2313c5f350772daf81812df657ce399830241510592ac8cf"), looks := true }, kinds := [], alts := [], laidByText := true, laidKinds := [.data, .data, .data, .sentinel, .sentinel], laidTests := true, laidLooks := .later }
def DigestRestsUptoCardSaid : Prop := Claim7.holds Tryd.pinned (.plain (OpenSpec.upto digestRestsSpec)) digestRestsUptoCard

/-- THE SECOND FORM's CARD OF 'corebanklaw08.DigestNumbers'. -/
def digestNumbersUptoCard : Claim7 := { stood := { row := digestNumbersUptoRow, standIns := [], harness := (true, "8e0e29b0a17def2a2313c5f350772daf81812df657ce399830241510592ac8cf"), looks := true }, kinds := [], alts := [], laidByText := true, laidKinds := [.data, .data, .data, .sentinel, .sentinel], laidTests := true, laidLooks := .later }
def DigestNumbersUptoCardSaid : Prop := Claim7.holds Tryd.pinned (.plain (OpenSpec.upto digestNumbersSpec)) digestNumbersUptoCard

/-- THE SECOND FORM's CARD OF 'corebanklaw08.DigestSeals'. -/
def digestSealsUptoCard : Claim7 := { stood := { row := digestSealsUptoRow, standIns := [], harness := (true, "8e0e29b0a17def2a2313c5f350772daf81812df657ce399830241510592ac8cf"), looks := true }, kinds := [], alts := [], laidByText := true, laidKinds := [.data, .data, .data, .sentinel, .sentinel], laidTests := true, laidLooks := .later }
def DigestSealsUptoCardSaid : Prop := Claim7.holds Tryd.pinned (.plain (OpenSpec.upto digestSealsSpec)) digestSealsUptoCard

/-- THE SECOND FORM's CARD OF 'corebanklaw08.DigestTexts'. -/
def digestTextsUptoCard : Claim7 := { stood := { row := digestTextsUptoRow, standIns := [], harness := (true, "8e0e29b0a17def2a2313c5f350772daf81812df657ce399830241510592ac8cf"), looks := true }, kinds := [], alts := [], laidByText := true, laidKinds := [.data, .data, .data, .sentinel, .sentinel], laidTests := true, laidLooks := .later }
def DigestTextsUptoCardSaid : Prop := Claim7.holds Tryd.pinned (.plain (OpenSpec.upto digestTextsSpec)) digestTextsUptoCard

/-- THE SECOND FORM's CARD OF 'corebanklaw08.DigestHashes'. -/
def digestHashesUptoCard : Claim7 := { stood := { row := digestHashesUptoRow, standIns := [], harness := (true, "8e0e29b0a17def2a2313c5f350772daf81812df657ce399830241510592ac8cf"), looks := true }, kinds := [], alts := [], laidByText := true, laidKinds := [.data, .data, .data, .sentinel, .sentinel], laidTests := true, laidLooks := .later }
def DigestHashesUptoCardSaid : Prop := Claim7.holds Tryd.pinned (.plain (OpenSpec.upto digestHashesSpec)) digestHashesUptoCard
end Rows
end Go.Proofs.YtapghdjbffmifaaDoor
