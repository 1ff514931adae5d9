/-
  DERIVED. GIVEN WITH THE SEED: THE CARDS: each row of YtfpknhhhjgdjbaaDoorRows.lean that lists a variable, with what it lists TIED to the program's text (the seventh form; the later family's looks); each row that meets fmt, with fmt's text TOLD by the authors' own Lean function (tested against real Go, not proved from fmt's source: count such statements apart). THE CARD IS WHAT COUNTS. Prove the row's statement (the work); the ties are given (YtfpknhhhjgdjbaaDoorTie.lean); close each card by the builder's one call (the guide's Derived/Test/ToyasCard.lean, 'card_holds'). Laid BY PROGRAM, IN A SANDBOX (cutbox-door.mjs). By AI agents, Wed Nov 11 2026. No macro, syntax, notation, axiom, sorry.
-/
import Derived.Test.YtfpknhhhjgdjbaaDoorRows
import GoSem.ClaimSeven
namespace Go.Proofs.YtfpknhhhjgdjbaaDoor
namespace Rows

/-- THE TIED CARD OF 'corebanklaw07.WirePacks'. -/
def wirePacksCard : Claim7 := { stood := { row := wirePacksRow, standIns := [], harness := (true, "fc3d24fd060b9bb91e564ac813a4130e30c32ee119466cb54064a5c8996e8a72"), looks := true }, kinds := [], alts := [], laidByText := true, laidKinds := [.data, .data, .data, .sentinel, .sentinel], laidTests := true, laidLooks := .later }
def WirePacksCardSaid : Prop := Claim7.holds Tryd.pinned (.plain (OpenSpec.ofChange wirePacksSpec)) wirePacksCard

/-- THE TIED CARD OF 'corebanklaw07.WireUnpacks'. -/
def wireUnpacksCard : Claim7 := { stood := { row := wireUnpacksRow, standIns := [], harness := (true, "fc3d24fd060b9bb91e564ac813a4130e30c32ee119466cb54064a5c8996e8a72"), looks := true }, kinds := [], alts := [], laidByText := true, laidKinds := [.data, .data, .data, .sentinel, .sentinel], laidTests := true, laidLooks := .later }
def WireUnpacksCardSaid : Prop := Claim7.holds Tryd.pinned (.plain (OpenSpec.ofChange wireUnpacksSpec)) wireUnpacksCard

/-- THE TIED CARD OF 'corebanklaw07.WireNumbers'. -/
def wireNumbersCard : Claim7 := { stood := { row := wireNumbersRow, standIns := [], harness := (true, "fc3d24fd060b9bb91e564ac813a4130e30c32ee119466cb54064a5c8996e8a72"), looks := true }, kinds := [], alts := [], laidByText := true, laidKinds := [.data, .data, .data, .sentinel, .sentinel], laidTests := true, laidLooks := .later }
def WireNumbersCardSaid : Prop := Claim7.holds Tryd.pinned (.plain (OpenSpec.ofChange wireNumbersSpec)) wireNumbersCard

/-- THE TIED CARD OF 'corebanklaw07.WireLists'. -/
def wireListsCard : Claim7 := { stood := { row := wireListsRow, standIns := [], harness := (true, "fc3d24fd060b9bb91e564ac813a4130e30c32ee119466cb54064a5c8996e8a72"), looks := true }, kinds := [], alts := [], laidByText := true, laidKinds := [.data, .data, .data, .sentinel, .sentinel], laidTests := true, laidLooks := .later }
def WireListsCardSaid : Prop := Claim7.holds Tryd.pinned (.plain (OpenSpec.ofChange wireListsSpec)) wireListsCard

/-- THE TIED CARD OF 'corebanklaw07.WireRoundTrips'. -/
def wireRoundTripsCard : Claim7 := { stood := { row := wireRoundTripsRow, standIns := [], harness := (true, "fc3d24fd060b9bb91e564ac813a4130e30c32ee119466cb54064a5c8996e8a72"), looks := true }, kinds := [], alts := [], laidByText := true, laidKinds := [.data, .data, .data, .sentinel, .sentinel], laidTests := true, laidLooks := .later }
def WireRoundTripsCardSaid : Prop := Claim7.holds Tryd.pinned (.plain (OpenSpec.ofChange wireRoundTripsSpec)) wireRoundTripsCard

/-- THE TIED CARD OF 'corebanklaw07.WireJoins'. -/
def wireJoinsCard : Claim7 := { stood := { row := wireJoinsRow, standIns := [], harness := (true, "fc3d24fd060b9bb91e564ac813a4130e30c32ee119466cb54064a5c8996e8a72"), looks := true }, kinds := [], alts := [], laidByText := true, laidKinds := [.data, .data, .data, .sentinel, .sentinel], laidTests := true, laidLooks := .later }
def WireJoinsCardSaid : Prop := Claim7.holds Tryd.pinned (.plain (OpenSpec.ofChange wireJoinsSpec)) wireJoinsCard

/-- THE TIED CARD OF 'corebanklaw43.MessageChecks'. -/
def messageChecksCard : Claim7 := { stood := { row := messageChecksRow, standIns := [], harness := (true, "fc3d24fd060b9bb91e564ac813a4130e30c32ee119466cb54064a5c8996e8a72"), looks := true }, kinds := [], alts := [], laidByText := true, laidKinds := [.data, .data, .data, .sentinel, .sentinel], laidTests := true, laidLooks := .later }
def MessageChecksCardSaid : Prop := Claim7.holds Tryd.pinned (.plain (OpenSpec.ofChange messageChecksSpec)) messageChecksCard

/-- THE TIED CARD OF 'corebanklaw43.MessageReceives'. -/
def messageReceivesCard : Claim7 := { stood := { row := messageReceivesRow, standIns := [], harness := (true, "fc3d24fd060b9bb91e564ac813a4130e30c32ee119466cb54064a5c8996e8a72"), looks := true }, kinds := [], alts := [], laidByText := true, laidKinds := [.data, .data, .data, .sentinel, .sentinel], laidTests := true, laidLooks := .later }
def MessageReceivesCardSaid : Prop := Claim7.holds Tryd.pinned (.plain (OpenSpec.ofChange messageReceivesSpec)) messageReceivesCard

/-- THE TIED CARD OF 'corebanklaw43.MessageMissing'. -/
def messageMissingCard : Claim7 := { stood := { row := messageMissingRow, standIns := [], harness := (true, "fc3d24fd060b9bb91e564ac813a4130e30c32ee119466cb54064a5c8996e8a72"), looks := true }, kinds := [], alts := [], laidByText := true, laidKinds := [.data, .data, .data, .sentinel, .sentinel], laidTests := true, laidLooks := .later }
def MessageMissingCardSaid : Prop := Claim7.holds Tryd.pinned (.plain (OpenSpec.ofChange messageMissingSpec)) messageMissingCard

/-- THE TIED CARD OF 'corebanklaw43.MessageRoundTrips'. -/
def messageRoundTripsCard : Claim7 := { stood := { row := messageRoundTripsRow, standIns := [], harness := (true, "fc3d24fd060b9bb91e564ac813a4130e30c32ee119466cb54064a5c8996e8a72"), looks := true }, kinds := [], alts := [], laidByText := true, laidKinds := [.data, .data, .data, .sentinel, .sentinel], laidTests := true, laidLooks := .later }
def MessageRoundTripsCardSaid : Prop := Claim7.holds Tryd.pinned (.plain (OpenSpec.ofChange messageRoundTripsSpec)) messageRoundTripsCard

/-- THE TIED CARD OF 'corebanklaw43.MessageOrders'. -/
def messageOrdersCard : Claim7 := { stood := { row := messageOrdersRow, standIns := [], harness := (true, "fc3d24fd060b9bb91e564ac813a4130e30c32ee119466cb54064a5c8996e8a72"), looks := true }, kinds := [], alts := [], laidByText := true, laidKinds := [.data, .data, .data, .sentinel, .sentinel], laidTests := true, laidLooks := .later }
def MessageOrdersCardSaid : Prop := Claim7.holds Tryd.pinned (.plain (OpenSpec.ofChange messageOrdersSpec)) messageOrdersCard

/-- THE TIED CARD OF 'corebanklaw43.MessageOnce'. -/
def messageOnceCard : Claim7 := { stood := { row := messageOnceRow, standIns := [], harness := (true, "fc3d24fd060b9bb91e564ac813a4130e30c32ee119466cb54064a5c8996e8a72"), looks := true }, kinds := [], alts := [], laidByText := true, laidKinds := [.data, .data, .data, .sentinel, .sentinel], laidTests := true, laidLooks := .later }
def MessageOnceCardSaid : Prop := Claim7.holds Tryd.pinned (.plain (OpenSpec.ofChange messageOnceSpec)) messageOnceCard

/-- THE SECOND FORM's CARD OF 'corebanklaw07.WirePacks'. -/
def wirePacksUptoCard : Claim7 := { stood := { row := wirePacksUptoRow, standIns := [], harness := (true, "fc3d24fd060b9bb91e564ac813a4130e30c32ee119466cb54064a5c8996e8a72"), looks := true }, kinds := [], alts := [], laidByText := true, laidKinds := [.data, .data, .data, .sentinel, .sentinel], laidTests := true, laidLooks := .later }
def WirePacksUptoCardSaid : Prop := Claim7.holds Tryd.pinned (.plain (OpenSpec.upto wirePacksSpec)) wirePacksUptoCard

/-- THE SECOND FORM's CARD OF 'corebanklaw07.WireUnpacks'. -/
def wireUnpacksUptoCard : Claim7 := { stood := { row := wireUnpacksUptoRow, standIns := [], harness := (true, "fc3d24fd060b9bb91e564ac813a4130e30c32ee119466cb54064a5c8996e8a72"), looks := true }, kinds := [], alts := [], laidByText := true, laidKinds := [.data, .data, .data, .sentinel, .sentinel], laidTests := true, laidLooks := .later }
def WireUnpacksUptoCardSaid : Prop := Claim7.holds Tryd.pinned (.plain (OpenSpec.upto wireUnpacksSpec)) wireUnpacksUptoCard

/-- THE SECOND FORM's CARD OF 'corebanklaw07.WireNumbers'. -/
def wireNumbersUptoCard : Claim7 := { stood := { row := wireNumbersUptoRow, standIns := [], harness := (true, "fc3d24fd060b9bb91e564ac813a4130e30c32ee119466cb54064a5c8996e8a72"), looks := true }, kinds := [], alts := [], laidByText := true, laidKinds := [.data, .data, .data, .sentinel, .sentinel], laidTests := true, laidLooks := .later }
def WireNumbersUptoCardSaid : Prop := Claim7.holds Tryd.pinned (.plain (OpenSpec.upto wireNumbersSpec)) wireNumbersUptoCard

/-- THE SECOND FORM's CARD OF 'corebanklaw07.WireLists'. -/
def wireListsUptoCard : Claim7 := { stood := { row := wireListsUptoRow, standIns := [], harness := (true, "fc3d24fd060b9bb91e564ac813a4130e30c32ee119466cb54064a5c8996e8a72"), looks := true }, kinds := [], alts := [], laidByText := true, laidKinds := [.data, .data, .data, .sentinel, .sentinel], laidTests := true, laidLooks := .later }
def WireListsUptoCardSaid : Prop := Claim7.holds Tryd.pinned (.plain (OpenSpec.upto wireListsSpec)) wireListsUptoCard

/-- THE SECOND FORM's CARD OF 'corebanklaw07.WireRoundTrips'. -/
def wireRoundTripsUptoCard : Claim7 := { stood := { row := wireRoundTripsUptoRow, standIns := [], harness := (true, "fc3d24fd060b9bb91e564ac813a4130e30c32ee119466cb54064a5c8996e8a72"), looks := true }, kinds := [], alts := [], laidByText := true, laidKinds := [.data, .data, .data, .sentinel, .sentinel], laidTests := true, laidLooks := .later }
def WireRoundTripsUptoCardSaid : Prop := Claim7.holds Tryd.pinned (.plain (OpenSpec.upto wireRoundTripsSpec)) wireRoundTripsUptoCard

/-- THE SECOND FORM's CARD OF 'corebanklaw07.WireJoins'. -/
def wireJoinsUptoCard : Claim7 := { stood := { row := wireJoinsUptoRow, standIns := [], harness := (true, "fc3d24fd060b9bb91e564ac813a4130e30c32ee119466cb54064a5c8996e8a72"), looks := true }, kinds := [], alts := [], laidByText := true, laidKinds := [.data, .data, .data, .sentinel, .sentinel], laidTests := true, laidLooks := .later }
def WireJoinsUptoCardSaid : Prop := Claim7.holds Tryd.pinned (.plain (OpenSpec.upto wireJoinsSpec)) wireJoinsUptoCard

/-- THE SECOND FORM's CARD OF 'corebanklaw43.MessageChecks'. -/
def messageChecksUptoCard : Claim7 := { stood := { row := messageChecksUptoRow, standIns := [], harness := (true, "fc3d24fd060b9bb91e564ac813a4130e30c32ee119466cb54064a5c8996e8a72"), looks := true }, kinds := [], alts := [], laidByText := true, laidKinds := [.data, .data, .data, .sentinel, .sentinel], laidTests := true, laidLooks := .later }
def MessageChecksUptoCardSaid : Prop := Claim7.holds Tryd.pinned (.plain (OpenSpec.upto messageChecksSpec)) messageChecksUptoCard

/-- THE SECOND FORM's CARD OF 'corebanklaw43.MessageReceives'. -/
def messageReceivesUptoCard : Claim7 := { stood := { row := messageReceivesUptoRow, standIns := [], harness := (true, "fc3d24fd060b9bb91e564ac813a4130e30c32ee119466cb54064a5c8996e8a72"), looks := true }, kinds := [], alts := [], laidByText := true, laidKinds := [.data, .data, .data, .sentinel, .sentinel], laidTests := true, laidLooks := .later }
def MessageReceivesUptoCardSaid : Prop := Claim7.holds Tryd.pinned (.plain (OpenSpec.upto messageReceivesSpec)) messageReceivesUptoCard

/-- THE SECOND FORM's CARD OF 'corebanklaw43.MessageMissing'. -/
def messageMissingUptoCard : Claim7 := { stood := { row := messageMissingUptoRow, standIns := [], harness := (true, "fc3d24fd060b9bb91e564ac813a4130e30c32ee119466cb54064a5c8996e8a72"), looks := true }, kinds := [], alts := [], laidByText := true, laidKinds := [.data, .data, .data, .sentinel, .sentinel], laidTests := true, laidLooks := .later }
def MessageMissingUptoCardSaid : Prop := Claim7.holds Tryd.pinned (.plain (OpenSpec.upto messageMissingSpec)) messageMissingUptoCard

/-- THE SECOND FORM's CARD OF 'corebanklaw43.MessageRoundTrips'. -/
def messageRoundTripsUptoCard : Claim7 := { stood := { row := messageRoundTripsUptoRow, standIns := [], harness := (true, "fc3d24fd060b9bb91e564ac813a4130e30c32ee119466cb54064a5c8996e8a72"), looks := true }, kinds := [], alts := [], laidByText := true, laidKinds := [.data, .data, .data, .sentinel, .sentinel], laidTests := true, laidLooks := .later }
def MessageRoundTripsUptoCardSaid : Prop := Claim7.holds Tryd.pinned (.plain (OpenSpec.upto messageRoundTripsSpec)) messageRoundTripsUptoCard

/-- THE SECOND FORM's CARD OF 'corebanklaw43.MessageOrders'. -/
def messageOrdersUptoCard : Claim7 := { stood := { row := messageOrdersUptoRow, standIns := [], harness := (true, "fc3d24fd060b9bb91e564ac813a4130e30c32ee119466cb54064a5c8996e8a72"), looks := true }, kinds := [], alts := [], laidByText := true, laidKinds := [.data, .data, .data, .sentinel, .sentinel], laidTests := true, laidLooks := .later }
def MessageOrdersUptoCardSaid : Prop := Claim7.holds Tryd.pinned (.plain (OpenSpec.upto messageOrdersSpec)) messageOrdersUptoCard

/-- THE SECOND FORM's CARD OF 'corebanklaw43.MessageOnce'. -/
def messageOnceUptoCard : Claim7 := { stood := { row := messageOnceUptoRow, standIns := [], harness := (true, "fc3d24fd060b9bb91e564ac813a4130e30c32ee119466cb54064a5c8996e8a72"), looks := true }, kinds := [], alts := [], laidByText := true, laidKinds := [.data, .data, .data, .sentinel, .sentinel], laidTests := true, laidLooks := .later }
def MessageOnceUptoCardSaid : Prop := Claim7.holds Tryd.pinned (.plain (OpenSpec.upto messageOnceSpec)) messageOnceUptoCard
end Rows
end Go.Proofs.YtfpknhhhjgdjbaaDoor
