/-
  DERIVED. GIVEN WITH THE SEED: THE CARDS: each row of YtaphbajfjmhpnaaDoorRows.lean that lists a variable, with what it lists TIED to the program's text (the seventh form; the later family's looks); each row that meets fmt, with fmt's text TOLD by the authors' own Lean function (tested against real Go, not proved from fmt's source: count such statements apart). THE CARD IS WHAT COUNTS. Prove the row's statement (the work); the ties are given (YtaphbajfjmhpnaaDoorTie.lean); close each card by the builder's one call (the guide's Derived/Test/ToyasCard.lean, 'card_holds'). Laid BY PROGRAM, IN A SANDBOX (cutbox-door.mjs). By AI agents, Wed Nov 11 2026. No macro, syntax, notation, axiom, sorry.
-/
import Derived.Test.YtaphbajfjmhpnaaDoorRows
import GoSem.ClaimSeven
namespace Go.Proofs.YtaphbajfjmhpnaaDoor
namespace Rows

/-- THE TIED CARD OF 'corebanklaw03.MoneySums'. -/
def moneySumsCard : Claim7 := { stood := { row := moneySumsRow, standIns := [], harness := (true, "12c5f35dc7cd3b86ddf0f632bb12a0d94f0ab66711c19440ce4fe8a3c8e0c984"), looks := true }, kinds := [], alts := [], laidByText := true, laidKinds := [.data, .data, .data, .data, .sentinel, .sentinel, .pinned], laidTests := true, laidLooks := .later }
def MoneySumsCardSaid : Prop := Claim7.holds Tryd.pinned (.plain (OpenSpec.ofChange moneySumsSpec)) moneySumsCard

/-- THE TIED CARD OF 'corebanklaw03.MoneyCodes'. -/
def moneyCodesCard : Claim7 := { stood := { row := moneyCodesRow, standIns := [], harness := (true, "12c5f35dc7cd3b86ddf0f632bb12a0d94f0ab66711c19440ce4fe8a3c8e0c984"), looks := true }, kinds := [], alts := [], laidByText := true, laidKinds := [.data, .data, .data, .data, .sentinel, .sentinel, .pinned], laidTests := true, laidLooks := .later }
def MoneyCodesCardSaid : Prop := Claim7.holds Tryd.pinned (.plain (OpenSpec.ofChange moneyCodesSpec)) moneyCodesCard

/-- THE TIED CARD OF 'corebanklaw03.MoneyFormats'. -/
def moneyFormatsCard : Claim7 := { stood := { row := moneyFormatsRow, standIns := [], harness := (true, "12c5f35dc7cd3b86ddf0f632bb12a0d94f0ab66711c19440ce4fe8a3c8e0c984"), looks := true }, kinds := [], alts := [], laidByText := true, laidKinds := [.data, .data, .data, .data, .sentinel, .sentinel, .pinned], laidTests := true, laidLooks := .later }
def MoneyFormatsCardSaid : Prop := Claim7.holds Tryd.pinned (.plain (OpenSpec.ofChange moneyFormatsSpec)) moneyFormatsCard

/-- THE TIED CARD OF 'corebanklaw03.MoneyParses'. -/
def moneyParsesCard : Claim7 := { stood := { row := moneyParsesRow, standIns := [], harness := (true, "12c5f35dc7cd3b86ddf0f632bb12a0d94f0ab66711c19440ce4fe8a3c8e0c984"), looks := true }, kinds := [], alts := [], laidByText := true, laidKinds := [.data, .data, .data, .data, .sentinel, .sentinel, .pinned], laidTests := true, laidLooks := .later }
def MoneyParsesCardSaid : Prop := Claim7.holds Tryd.pinned (.plain (OpenSpec.ofChange moneyParsesSpec)) moneyParsesCard

/-- THE TIED CARD OF 'corebanklaw03.MoneyRoundTrips'. -/
def moneyRoundTripsCard : Claim7 := { stood := { row := moneyRoundTripsRow, standIns := [], harness := (true, "12c5f35dc7cd3b86ddf0f632bb12a0d94f0ab66711c19440ce4fe8a3c8e0c984"), looks := true }, kinds := [], alts := [], laidByText := true, laidKinds := [.data, .data, .data, .data, .sentinel, .sentinel, .pinned], laidTests := true, laidLooks := .later }
def MoneyRoundTripsCardSaid : Prop := Claim7.holds Tryd.pinned (.plain (OpenSpec.ofChange moneyRoundTripsSpec)) moneyRoundTripsCard

/-- THE TIED CARD OF 'corebanklaw03.MoneyAdds'. -/
def moneyAddsCard : Claim7 := { stood := { row := moneyAddsRow, standIns := [], harness := (true, "12c5f35dc7cd3b86ddf0f632bb12a0d94f0ab66711c19440ce4fe8a3c8e0c984"), looks := true }, kinds := [], alts := [], laidByText := true, laidKinds := [.data, .data, .data, .data, .sentinel, .sentinel, .pinned], laidTests := true, laidLooks := .later }
def MoneyAddsCardSaid : Prop := Claim7.holds Tryd.pinned (.plain (OpenSpec.ofChange moneyAddsSpec)) moneyAddsCard

/-- THE TIED CARD OF 'corebanklaw03.MoneyChecks'. -/
def moneyChecksCard : Claim7 := { stood := { row := moneyChecksRow, standIns := [], harness := (true, "12c5f35dc7cd3b86ddf0f632bb12a0d94f0ab66711c19440ce4fe8a3c8e0c984"), looks := true }, kinds := [], alts := [], laidByText := true, laidKinds := [.data, .data, .data, .data, .sentinel, .sentinel, .pinned], laidTests := true, laidLooks := .later }
def MoneyChecksCardSaid : Prop := Claim7.holds Tryd.pinned (.plain (OpenSpec.ofChange moneyChecksSpec)) moneyChecksCard

/-- THE SECOND FORM's CARD OF 'corebanklaw03.MoneySums'. -/
def moneySumsUptoCard : Claim7 := { stood := { row := moneySumsUptoRow, standIns := [], harness := (true, "12c5f35dc7cd3b86ddf0f632bb12a0d94f0ab66711c19440ce4fe8a3c8e0c984"), looks := true }, kinds := [], alts := [], laidByText := true, laidKinds := [.data, .data, .data, .data, .sentinel, .sentinel, .pinned], laidTests := true, laidLooks := .later }
def MoneySumsUptoCardSaid : Prop := Claim7.holds Tryd.pinned (.plain (OpenSpec.upto moneySumsSpec)) moneySumsUptoCard

/-- THE SECOND FORM's CARD OF 'corebanklaw03.MoneyCodes'. -/
def moneyCodesUptoCard : Claim7 := { stood := { row := moneyCodesUptoRow, standIns := [], harness := (true, "12c5f35dc7cd3b86ddf0f632bb12a0d94f0ab66711c19440ce4fe8a3c8e0c984"), looks := true }, kinds := [], alts := [], laidByText := true, laidKinds := [.data, .data, .data, .data, .sentinel, .sentinel, .pinned], laidTests := true, laidLooks := .later }
def MoneyCodesUptoCardSaid : Prop := Claim7.holds Tryd.pinned (.plain (OpenSpec.upto moneyCodesSpec)) moneyCodesUptoCard

/-- THE SECOND FORM's CARD OF 'corebanklaw03.MoneyFormats'. -/
def moneyFormatsUptoCard : Claim7 := { stood := { row := moneyFormatsUptoRow, standIns := [], harness := (true, "12c5f35dc7cd3b86ddf0f632bb12a0d94f0ab66711c19440ce4fe8a3c8e0c984"), looks := true }, kinds := [], alts := [], laidByText := true, laidKinds := [.data, .data, .data, .data, .sentinel, .sentinel, .pinned], laidTests := true, laidLooks := .later }
def MoneyFormatsUptoCardSaid : Prop := Claim7.holds Tryd.pinned (.plain (OpenSpec.upto moneyFormatsSpec)) moneyFormatsUptoCard

/-- THE SECOND FORM's CARD OF 'corebanklaw03.MoneyParses'. -/
def moneyParsesUptoCard : Claim7 := { stood := { row := moneyParsesUptoRow, standIns := [], harness := (true, "12c5f35dc7cd3b86ddf0f632bb12a0d94f0ab66711c19440ce4fe8a3c8e0c984"), looks := true }, kinds := [], alts := [], laidByText := true, laidKinds := [.data, .data, .data, .data, .sentinel, .sentinel, .pinned], laidTests := true, laidLooks := .later }
def MoneyParsesUptoCardSaid : Prop := Claim7.holds Tryd.pinned (.plain (OpenSpec.upto moneyParsesSpec)) moneyParsesUptoCard

/-- THE SECOND FORM's CARD OF 'corebanklaw03.MoneyRoundTrips'. -/
def moneyRoundTripsUptoCard : Claim7 := { stood := { row := moneyRoundTripsUptoRow, standIns := [], harness := (true, "12c5f35dc7cd3b86ddf0f632bb12a0d94f0ab66711c19440ce4fe8a3c8e0c984"), looks := true }, kinds := [], alts := [], laidByText := true, laidKinds := [.data, .data, .data, .data, .sentinel, .sentinel, .pinned], laidTests := true, laidLooks := .later }
def MoneyRoundTripsUptoCardSaid : Prop := Claim7.holds Tryd.pinned (.plain (OpenSpec.upto moneyRoundTripsSpec)) moneyRoundTripsUptoCard

/-- THE SECOND FORM's CARD OF 'corebanklaw03.MoneyAdds'. -/
def moneyAddsUptoCard : Claim7 := { stood := { row := moneyAddsUptoRow, standIns := [], harness := (true, "12c5f35dc7cd3b86ddf0f632bb12a0d94f0ab66711c19440ce4fe8a3c8e0c984"), looks := true }, kinds := [], alts := [], laidByText := true, laidKinds := [.data, .data, .data, .data, .sentinel, .sentinel, .pinned], laidTests := true, laidLooks := .later }
def MoneyAddsUptoCardSaid : Prop := Claim7.holds Tryd.pinned (.plain (OpenSpec.upto moneyAddsSpec)) moneyAddsUptoCard

/-- THE SECOND FORM's CARD OF 'corebanklaw03.MoneyChecks'. -/
def moneyChecksUptoCard : Claim7 := { stood := { row := moneyChecksUptoRow, standIns := [], harness := (true, "12c5f35dc7cd3b86ddf0f632bb12a0d94f0ab66711c19440ce4fe8a3c8e0c984"), looks := true }, kinds := [], alts := [], laidByText := true, laidKinds := [.data, .data, .data, .data, .sentinel, .sentinel, .pinned], laidTests := true, laidLooks := .later }
def MoneyChecksUptoCardSaid : Prop := Claim7.holds Tryd.pinned (.plain (OpenSpec.upto moneyChecksSpec)) moneyChecksUptoCard
end Rows
end Go.Proofs.YtaphbajfjmhpnaaDoor
