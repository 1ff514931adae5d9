/-
  DERIVED. GIVEN WITH THE SEED: THE CARDS: each row of YtmnnphalljnmhaaDoorRows.lean that lists a variable, with what it lists TIED to the program's text (the seventh form; the later family's looks); each row that meets fmt, with fmt's text TOLD by the authors' own Lean function (tested against real Go, not proved from fmt's source: count such statements apart). THE CARD IS WHAT COUNTS. Prove the row's statement (the work); the ties are given (YtmnnphalljnmhaaDoorTie.lean); close each card by the builder's one call (the guide's Derived/Test/ToyasCard.lean, 'card_holds'). Laid BY PROGRAM, IN A SANDBOX (cutbox-door.mjs). By AI agents, Wed Nov 11 2026. No macro, syntax, notation, axiom, sorry.
-/
import Derived.Test.YtmnnphalljnmhaaDoorRows
import GoSem.ClaimSeven
namespace Go.Proofs.YtmnnphalljnmhaaDoor
namespace Rows

/-- THE TIED CARD OF 'corebanklaw20.JournalPosts'. -/
def journalPostsCard : Claim7 := { stood := { row := journalPostsRow, standIns := [], harness := (true, "6b70823db90205445a2702432eba51b2a9ffb492dce779ac6c5f663d8d272bbd"), looks := true }, kinds := [], alts := [], laidByText := true, laidKinds := [.data, .data, .data], laidTests := true, laidLooks := .later }
def JournalPostsCardSaid : Prop := Claim7.holds Tryd.pinned (.plain (OpenSpec.ofChange journalPostsSpec)) journalPostsCard

/-- THE TIED CARD OF 'corebanklaw20.JournalFinds'. -/
def journalFindsCard : Claim7 := { stood := { row := journalFindsRow, standIns := [], harness := (true, "6b70823db90205445a2702432eba51b2a9ffb492dce779ac6c5f663d8d272bbd"), looks := true }, kinds := [], alts := [], laidByText := true, laidKinds := [.data, .data, .data], laidTests := true, laidLooks := .later }
def JournalFindsCardSaid : Prop := Claim7.holds Tryd.pinned (.plain (OpenSpec.ofChange journalFindsSpec)) journalFindsCard

/-- THE TIED CARD OF 'corebanklaw20.JournalVerifies'. -/
def journalVerifiesCard : Claim7 := { stood := { row := journalVerifiesRow, standIns := [], harness := (true, "6b70823db90205445a2702432eba51b2a9ffb492dce779ac6c5f663d8d272bbd"), looks := true }, kinds := [], alts := [], laidByText := true, laidKinds := [.data, .data, .data], laidTests := true, laidLooks := .later }
def JournalVerifiesCardSaid : Prop := Claim7.holds Tryd.pinned (.plain (OpenSpec.ofChange journalVerifiesSpec)) journalVerifiesCard

/-- THE TIED CARD OF 'corebanklaw20.JournalChains'. -/
def journalChainsCard : Claim7 := { stood := { row := journalChainsRow, standIns := [], harness := (true, "6b70823db90205445a2702432eba51b2a9ffb492dce779ac6c5f663d8d272bbd"), looks := true }, kinds := [], alts := [], laidByText := true, laidKinds := [.data, .data, .data], laidTests := true, laidLooks := .later }
def JournalChainsCardSaid : Prop := Claim7.holds Tryd.pinned (.plain (OpenSpec.ofChange journalChainsSpec)) journalChainsCard

/-- THE TIED CARD OF 'corebanklaw20.JournalKeeps'. -/
def journalKeepsCard : Claim7 := { stood := { row := journalKeepsRow, standIns := [], harness := (true, "6b70823db90205445a2702432eba51b2a9ffb492dce779ac6c5f663d8d272bbd"), looks := true }, kinds := [], alts := [], laidByText := true, laidKinds := [.data, .data, .data], laidTests := true, laidLooks := .later }
def JournalKeepsCardSaid : Prop := Claim7.holds Tryd.pinned (.plain (OpenSpec.ofChange journalKeepsSpec)) journalKeepsCard

/-- THE TIED CARD OF 'corebanklaw19.EntryChecks'. -/
def entryChecksCard : Claim7 := { stood := { row := entryChecksRow, standIns := [], harness := (true, "6b70823db90205445a2702432eba51b2a9ffb492dce779ac6c5f663d8d272bbd"), looks := true }, kinds := [], alts := [], laidByText := true, laidKinds := [.data, .data, .data, .sentinel, .sentinel], laidTests := true, laidLooks := .later }
def EntryChecksCardSaid : Prop := Claim7.holds Tryd.pinned (.plain (OpenSpec.ofChange entryChecksSpec)) entryChecksCard

/-- THE TIED CARD OF 'corebanklaw19.EntryNets'. -/
def entryNetsCard : Claim7 := { stood := { row := entryNetsRow, standIns := [], harness := (true, "6b70823db90205445a2702432eba51b2a9ffb492dce779ac6c5f663d8d272bbd"), looks := true }, kinds := [], alts := [], laidByText := true, laidKinds := [.data, .data, .data, .sentinel, .sentinel], laidTests := true, laidLooks := .later }
def EntryNetsCardSaid : Prop := Claim7.holds Tryd.pinned (.plain (OpenSpec.ofChange entryNetsSpec)) entryNetsCard

/-- THE TIED CARD OF 'corebanklaw19.EntryTurns'. -/
def entryTurnsCard : Claim7 := { stood := { row := entryTurnsRow, standIns := [], harness := (true, "6b70823db90205445a2702432eba51b2a9ffb492dce779ac6c5f663d8d272bbd"), looks := true }, kinds := [], alts := [], laidByText := true, laidKinds := [.data, .data, .data, .sentinel, .sentinel], laidTests := true, laidLooks := .later }
def EntryTurnsCardSaid : Prop := Claim7.holds Tryd.pinned (.plain (OpenSpec.ofChange entryTurnsSpec)) entryTurnsCard

/-- THE TIED CARD OF 'corebanklaw19.EntryCodes'. -/
def entryCodesCard : Claim7 := { stood := { row := entryCodesRow, standIns := [], harness := (true, "6b70823db90205445a2702432eba51b2a9ffb492dce779ac6c5f663d8d272bbd"), looks := true }, kinds := [], alts := [], laidByText := true, laidKinds := [.data, .data, .data, .sentinel, .sentinel], laidTests := true, laidLooks := .later }
def EntryCodesCardSaid : Prop := Claim7.holds Tryd.pinned (.plain (OpenSpec.ofChange entryCodesSpec)) entryCodesCard

/-- THE TIED CARD OF 'corebanklaw19.EntryRoundTrips'. -/
def entryRoundTripsCard : Claim7 := { stood := { row := entryRoundTripsRow, standIns := [], harness := (true, "6b70823db90205445a2702432eba51b2a9ffb492dce779ac6c5f663d8d272bbd"), looks := true }, kinds := [], alts := [], laidByText := true, laidKinds := [.data, .data, .data, .sentinel, .sentinel], laidTests := true, laidLooks := .later }
def EntryRoundTripsCardSaid : Prop := Claim7.holds Tryd.pinned (.plain (OpenSpec.ofChange entryRoundTripsSpec)) entryRoundTripsCard

/-- THE TIED CARD OF 'corebanklaw19.EntryReverses'. -/
def entryReversesCard : Claim7 := { stood := { row := entryReversesRow, standIns := [], harness := (true, "6b70823db90205445a2702432eba51b2a9ffb492dce779ac6c5f663d8d272bbd"), looks := true }, kinds := [], alts := [], laidByText := true, laidKinds := [.data, .data, .data, .sentinel, .sentinel], laidTests := true, laidLooks := .later }
def EntryReversesCardSaid : Prop := Claim7.holds Tryd.pinned (.plain (OpenSpec.ofChange entryReversesSpec)) entryReversesCard

/-- THE TIED CARD OF 'corebanklaw19.EntryJoins'. -/
def entryJoinsCard : Claim7 := { stood := { row := entryJoinsRow, standIns := [], harness := (true, "6b70823db90205445a2702432eba51b2a9ffb492dce779ac6c5f663d8d272bbd"), looks := true }, kinds := [], alts := [], laidByText := true, laidKinds := [.data, .data, .data, .sentinel, .sentinel], laidTests := true, laidLooks := .later }
def EntryJoinsCardSaid : Prop := Claim7.holds Tryd.pinned (.plain (OpenSpec.ofChange entryJoinsSpec)) entryJoinsCard

/-- THE SECOND FORM's CARD OF 'corebanklaw20.JournalPosts'. -/
def journalPostsUptoCard : Claim7 := { stood := { row := journalPostsUptoRow, standIns := [], harness := (true, "6b70823db90205445a2702432eba51b2a9ffb492dce779ac6c5f663d8d272bbd"), looks := true }, kinds := [], alts := [], laidByText := true, laidKinds := [.data, .data, .data], laidTests := true, laidLooks := .later }
def JournalPostsUptoCardSaid : Prop := Claim7.holds Tryd.pinned (.plain (OpenSpec.upto journalPostsSpec)) journalPostsUptoCard

/-- THE SECOND FORM's CARD OF 'corebanklaw20.JournalFinds'. -/
def journalFindsUptoCard : Claim7 := { stood := { row := journalFindsUptoRow, standIns := [], harness := (true, "6b70823db90205445a2702432eba51b2a9ffb492dce779ac6c5f663d8d272bbd"), looks := true }, kinds := [], alts := [], laidByText := true, laidKinds := [.data, .data, .data], laidTests := true, laidLooks := .later }
def JournalFindsUptoCardSaid : Prop := Claim7.holds Tryd.pinned (.plain (OpenSpec.upto journalFindsSpec)) journalFindsUptoCard

/-- THE SECOND FORM's CARD OF 'corebanklaw20.JournalVerifies'. -/
def journalVerifiesUptoCard : Claim7 := { stood := { row := journalVerifiesUptoRow, standIns := [], harness := (true, "6b70823db90205445a2702432eba51b2a9ffb492dce779ac6c5f663d8d272bbd"), looks := true }, kinds := [], alts := [], laidByText := true, laidKinds := [.data, .data, .data], laidTests := true, laidLooks := .later }
def JournalVerifiesUptoCardSaid : Prop := Claim7.holds Tryd.pinned (.plain (OpenSpec.upto journalVerifiesSpec)) journalVerifiesUptoCard

/-- THE SECOND FORM's CARD OF 'corebanklaw20.JournalChains'. -/
def journalChainsUptoCard : Claim7 := { stood := { row := journalChainsUptoRow, standIns := [], harness := (true, "6b70823db90205445a2702432eba51b2a9ffb492dce779ac6c5f663d8d272bbd"), looks := true }, kinds := [], alts := [], laidByText := true, laidKinds := [.data, .data, .data], laidTests := true, laidLooks := .later }
def JournalChainsUptoCardSaid : Prop := Claim7.holds Tryd.pinned (.plain (OpenSpec.upto journalChainsSpec)) journalChainsUptoCard

/-- THE SECOND FORM's CARD OF 'corebanklaw20.JournalKeeps'. -/
def journalKeepsUptoCard : Claim7 := { stood := { row := journalKeepsUptoRow, standIns := [], harness := (true, "6b70823db90205445a2702432eba51b2a9ffb492dce779ac6c5f663d8d272bbd"), looks := true }, kinds := [], alts := [], laidByText := true, laidKinds := [.data, .data, .data], laidTests := true, laidLooks := .later }
def JournalKeepsUptoCardSaid : Prop := Claim7.holds Tryd.pinned (.plain (OpenSpec.upto journalKeepsSpec)) journalKeepsUptoCard

/-- THE SECOND FORM's CARD OF 'corebanklaw19.EntryChecks'. -/
def entryChecksUptoCard : Claim7 := { stood := { row := entryChecksUptoRow, standIns := [], harness := (true, "6b70823db90205445a2702432eba51b2a9ffb492dce779ac6c5f663d8d272bbd"), looks := true }, kinds := [], alts := [], laidByText := true, laidKinds := [.data, .data, .data, .sentinel, .sentinel], laidTests := true, laidLooks := .later }
def EntryChecksUptoCardSaid : Prop := Claim7.holds Tryd.pinned (.plain (OpenSpec.upto entryChecksSpec)) entryChecksUptoCard

/-- THE SECOND FORM's CARD OF 'corebanklaw19.EntryNets'. -/
def entryNetsUptoCard : Claim7 := { stood := { row := entryNetsUptoRow, standIns := [], harness := (true, "6b70823db90205445a2702432eba51b2a9ffb492dce779ac6c5f663d8d272bbd"), looks := true }, kinds := [], alts := [], laidByText := true, laidKinds := [.data, .data, .data, .sentinel, .sentinel], laidTests := true, laidLooks := .later }
def EntryNetsUptoCardSaid : Prop := Claim7.holds Tryd.pinned (.plain (OpenSpec.upto entryNetsSpec)) entryNetsUptoCard

/-- THE SECOND FORM's CARD OF 'corebanklaw19.EntryTurns'. -/
def entryTurnsUptoCard : Claim7 := { stood := { row := entryTurnsUptoRow, standIns := [], harness := (true, "6b70823db90205445a2702432eba51b2a9ffb492dce779ac6c5f663d8d272bbd"), looks := true }, kinds := [], alts := [], laidByText := true, laidKinds := [.data, .data, .data, .sentinel, .sentinel], laidTests := true, laidLooks := .later }
def EntryTurnsUptoCardSaid : Prop := Claim7.holds Tryd.pinned (.plain (OpenSpec.upto entryTurnsSpec)) entryTurnsUptoCard

/-- THE SECOND FORM's CARD OF 'corebanklaw19.EntryCodes'. -/
def entryCodesUptoCard : Claim7 := { stood := { row := entryCodesUptoRow, standIns := [], harness := (true, "6b70823db90205445a2702432eba51b2a9ffb492dce779ac6c5f663d8d272bbd"), looks := true }, kinds := [], alts := [], laidByText := true, laidKinds := [.data, .data, .data, .sentinel, .sentinel], laidTests := true, laidLooks := .later }
def EntryCodesUptoCardSaid : Prop := Claim7.holds Tryd.pinned (.plain (OpenSpec.upto entryCodesSpec)) entryCodesUptoCard

/-- THE SECOND FORM's CARD OF 'corebanklaw19.EntryRoundTrips'. -/
def entryRoundTripsUptoCard : Claim7 := { stood := { row := entryRoundTripsUptoRow, standIns := [], harness := (true, "6b70823db90205445a2702432eba51b2a9ffb492dce779ac6c5f663d8d272bbd"), looks := true }, kinds := [], alts := [], laidByText := true, laidKinds := [.data, .data, .data, .sentinel, .sentinel], laidTests := true, laidLooks := .later }
def EntryRoundTripsUptoCardSaid : Prop := Claim7.holds Tryd.pinned (.plain (OpenSpec.upto entryRoundTripsSpec)) entryRoundTripsUptoCard

/-- THE SECOND FORM's CARD OF 'corebanklaw19.EntryReverses'. -/
def entryReversesUptoCard : Claim7 := { stood := { row := entryReversesUptoRow, standIns := [], harness := (true, "6b70823db90205445a2702432eba51b2a9ffb492dce779ac6c5f663d8d272bbd"), looks := true }, kinds := [], alts := [], laidByText := true, laidKinds := [.data, .data, .data, .sentinel, .sentinel], laidTests := true, laidLooks := .later }
def EntryReversesUptoCardSaid : Prop := Claim7.holds Tryd.pinned (.plain (OpenSpec.upto entryReversesSpec)) entryReversesUptoCard

/-- THE SECOND FORM's CARD OF 'corebanklaw19.EntryJoins'. -/
def entryJoinsUptoCard : Claim7 := { stood := { row := entryJoinsUptoRow, standIns := [], harness := (true, "6b70823db90205445a2702432eba51b2a9ffb492dce779ac6c5f663d8d272bbd"), looks := true }, kinds := [], alts := [], laidByText := true, laidKinds := [.data, .data, .data, .sentinel, .sentinel], laidTests := true, laidLooks := .later }
def EntryJoinsUptoCardSaid : Prop := Claim7.holds Tryd.pinned (.plain (OpenSpec.upto entryJoinsSpec)) entryJoinsUptoCard
end Rows
end Go.Proofs.YtmnnphalljnmhaaDoor
