/-
  NARROWER THAN 'FOR EVERY INPUT', by the rows' own cells (each row's printed sentence says how): JournalPosts: laid · JournalFinds: laid · JournalVerifies: laid · JournalChains: laid · JournalKeeps: laid · EntryChecks: laid · EntryNets: laid · EntryTurns: laid · EntryCodes: laid · EntryRoundTrips: laid · EntryReverses: laid · EntryJoins: laid.
  DERIVED. THE GIVEN ROWS OF THIS SEAT. 12 by the template 'for every input the law returns true; each argument reads behind the call as it read before'; 0 by the template 'total and deterministic' (their statements: YtmnnphalljnmhaaDoorTotals.lean).
  GIVEN WITH THE SEED: the statements are not yours to turn. If you find one false, say at which input.
  Laid BY PROGRAM, IN A SANDBOX (cutbox-rows.mjs): the forced cells as the released guide's own fill.sh prints them over the translation 99a111ce4931ffd1… (all of the seat's roots in one cut). By AI agents, Wed Nov 11 2026. No macro, syntax, notation, axiom, sorry.
-/
import Derived.Test.YtmnnphalljnmhaaDoorChecked
import GoSem.Claim
import GoSem.ClaimJoined
import GoSem.ClaimMapViews
import Derived.JoinedTies
import Derived.KernelRfl
namespace Go.Proofs.YtmnnphalljnmhaaDoor
/- THE CELL 'sum', in the pinned program and in every row, IS THE sha256 OF THE DUMP (.gsa) THAT YtmnnphalljnmhaaDoorProg.lean LOADS. Nothing in Lean hashes anything: it is a label: what it is worth is what the hold of that sum in a sandbox is worth. -/
noncomputable def Tryd.pinned : Pinned := { name := "ytmnnphalljnmhaadoor", sum := "99a111ce4931ffd19984fc6003dfc8865bbe7cfab3c8c1058f6778cf535c4b9c", checked := Tryd.checked }
namespace Rows
def none {H : Type} : Left H := { results := [], args := [] }

/- WHAT THE LISTED PACKAGE-LEVEL VARIABLES READ AS WHEN THE CALL BEGINS. Each datum BY PROGRAM (the guide's laid-datum.mjs) off the statement by which the dump's own 'gosem.cut.vars' lays the variable. In a bare row this is a premise. The card (YtmnnphalljnmhaaDoorCards.lean) ties it to the program's text. -/
def laid_math_bits_deBruijn32tab {H : Type} : DataW H := .agg [.lit (.int .u8 0), .lit (.int .u8 1), .lit (.int .u8 28), .lit (.int .u8 2), .lit (.int .u8 29), .lit (.int .u8 14), .lit (.int .u8 24), .lit (.int .u8 3), .lit (.int .u8 30), .lit (.int .u8 22), .lit (.int .u8 20), .lit (.int .u8 15), .lit (.int .u8 25), .lit (.int .u8 17), .lit (.int .u8 4), .lit (.int .u8 8), .lit (.int .u8 31), .lit (.int .u8 27), .lit (.int .u8 13), .lit (.int .u8 23), .lit (.int .u8 21), .lit (.int .u8 19), .lit (.int .u8 16), .lit (.int .u8 7), .lit (.int .u8 26), .lit (.int .u8 12), .lit (.int .u8 18), .lit (.int .u8 6), .lit (.int .u8 11), .lit (.int .u8 5), .lit (.int .u8 10), .lit (.int .u8 9)]
def laid_math_bits_deBruijn64tab {H : Type} : DataW H := .agg [.lit (.int .u8 0), .lit (.int .u8 1), .lit (.int .u8 56), .lit (.int .u8 2), .lit (.int .u8 57), .lit (.int .u8 49), .lit (.int .u8 28), .lit (.int .u8 3), .lit (.int .u8 61), .lit (.int .u8 58), .lit (.int .u8 42), .lit (.int .u8 50), .lit (.int .u8 38), .lit (.int .u8 29), .lit (.int .u8 17), .lit (.int .u8 4), .lit (.int .u8 62), .lit (.int .u8 47), .lit (.int .u8 59), .lit (.int .u8 36), .lit (.int .u8 45), .lit (.int .u8 43), .lit (.int .u8 51), .lit (.int .u8 22), .lit (.int .u8 53), .lit (.int .u8 39), .lit (.int .u8 33), .lit (.int .u8 30), .lit (.int .u8 24), .lit (.int .u8 18), .lit (.int .u8 12), .lit (.int .u8 5), .lit (.int .u8 63), .lit (.int .u8 55), .lit (.int .u8 48), .lit (.int .u8 27), .lit (.int .u8 60), .lit (.int .u8 41), .lit (.int .u8 37), .lit (.int .u8 16), .lit (.int .u8 46), .lit (.int .u8 35), .lit (.int .u8 44), .lit (.int .u8 21), .lit (.int .u8 52), .lit (.int .u8 32), .lit (.int .u8 23), .lit (.int .u8 11), .lit (.int .u8 54), .lit (.int .u8 26), .lit (.int .u8 40), .lit (.int .u8 15), .lit (.int .u8 34), .lit (.int .u8 20), .lit (.int .u8 31), .lit (.int .u8 10), .lit (.int .u8 25), .lit (.int .u8 14), .lit (.int .u8 19), .lit (.int .u8 9), .lit (.int .u8 13), .lit (.int .u8 8), .lit (.int .u8 7), .lit (.int .u8 6)]
def laid_internal_strconv_uint64pow10 {H : Type} : DataW H := .agg [.lit (.int .u64 1), .lit (.int .u64 10), .lit (.int .u64 100), .lit (.int .u64 1000), .lit (.int .u64 10000), .lit (.int .u64 100000), .lit (.int .u64 1000000), .lit (.int .u64 10000000), .lit (.int .u64 100000000), .lit (.int .u64 1000000000), .lit (.int .u64 10000000000), .lit (.int .u64 100000000000), .lit (.int .u64 1000000000000), .lit (.int .u64 10000000000000), .lit (.int .u64 100000000000000), .lit (.int .u64 1000000000000000), .lit (.int .u64 10000000000000000), .lit (.int .u64 100000000000000000), .lit (.int .u64 1000000000000000000), .lit (.int .u64 10000000000000000000)]
def laid_strconv_ErrRange {H : Type} : DataW H := .iface "*errors.errorString" (.ptr (.agg [.lit (.string [118, 97, 108, 117, 101, 32, 111, 117, 116, 32, 111, 102, 32, 114, 97, 110, 103, 101])]))
def laid_strconv_ErrSyntax {H : Type} : DataW H := .iface "*errors.errorString" (.ptr (.agg [.lit (.string [105, 110, 118, 97, 108, 105, 100, 32, 115, 121, 110, 116, 97, 120])]))

/-- 'corebanklaw20.JournalPosts': WHATEVER THE INPUT: true; the input reads as it did. -/
def journalPostsSpec : ChangeSpec := { name := "journalPosts", fn := fun _ => fun
  | [d1, d2] => { results := [.lit (.bool true)], args := [d1, d2] }
  | _ => none }
def journalPostsRow : OpenClaim := { program := "ytmnnphalljnmhaadoor", sum := "99a111ce4931ffd19984fc6003dfc8865bbe7cfab3c8c1058f6778cf535c4b9c", func := "corebank/corebanklaw20.JournalPosts", spec := "journalPosts", inPlace := ["slices.overlaps[corebank/api.Money]"], unfollowed := true, recurses := true, named := ["internal/strconv.uint64pow10", "math/bits.deBruijn32tab", "math/bits.deBruijn64tab"], apart := false, laid := [("math/bits.deBruijn32tab", laid_math_bits_deBruijn32tab), ("math/bits.deBruijn64tab", laid_math_bits_deBruijn64tab), ("internal/strconv.uint64pow10", laid_internal_strconv_uint64pow10)] }
def JournalPostsSaid : Prop := journalPostsRow.holds Tryd.pinned (OpenSpec.ofChange journalPostsSpec)

/-- ITS FALSE NEIGHBOUR: 'it returns false'. Refute it at one input. -/
def journalPostsWrong : ChangeSpec := { name := "journalPosts", fn := fun _ => fun
  | [d1, d2] => { results := [.lit (.bool false)], args := [d1, d2] }
  | _ => none }
def JournalPostsWrongFalsely : Prop := journalPostsRow.holds Tryd.pinned (OpenSpec.ofChange journalPostsWrong)

/-- 'corebanklaw20.JournalFinds': WHATEVER THE INPUT: true; the input reads as it did. -/
def journalFindsSpec : ChangeSpec := { name := "journalFinds", fn := fun _ => fun
  | [d1, d2, d3] => { results := [.lit (.bool true)], args := [d1, d2, d3] }
  | _ => none }
def journalFindsRow : OpenClaim := { program := "ytmnnphalljnmhaadoor", sum := "99a111ce4931ffd19984fc6003dfc8865bbe7cfab3c8c1058f6778cf535c4b9c", func := "corebank/corebanklaw20.JournalFinds", spec := "journalFinds", inPlace := ["slices.overlaps[corebank/api.Money]"], unfollowed := true, recurses := true, named := ["internal/strconv.uint64pow10", "math/bits.deBruijn32tab", "math/bits.deBruijn64tab"], apart := false, laid := [("math/bits.deBruijn32tab", laid_math_bits_deBruijn32tab), ("math/bits.deBruijn64tab", laid_math_bits_deBruijn64tab), ("internal/strconv.uint64pow10", laid_internal_strconv_uint64pow10)] }
def JournalFindsSaid : Prop := journalFindsRow.holds Tryd.pinned (OpenSpec.ofChange journalFindsSpec)

/-- ITS FALSE NEIGHBOUR: 'it returns false'. Refute it at one input. -/
def journalFindsWrong : ChangeSpec := { name := "journalFinds", fn := fun _ => fun
  | [d1, d2, d3] => { results := [.lit (.bool false)], args := [d1, d2, d3] }
  | _ => none }
def JournalFindsWrongFalsely : Prop := journalFindsRow.holds Tryd.pinned (OpenSpec.ofChange journalFindsWrong)

/-- 'corebanklaw20.JournalVerifies': WHATEVER THE INPUT: true; the input reads as it did. -/
def journalVerifiesSpec : ChangeSpec := { name := "journalVerifies", fn := fun _ => fun
  | [d1, d2] => { results := [.lit (.bool true)], args := [d1, d2] }
  | _ => none }
def journalVerifiesRow : OpenClaim := { program := "ytmnnphalljnmhaadoor", sum := "99a111ce4931ffd19984fc6003dfc8865bbe7cfab3c8c1058f6778cf535c4b9c", func := "corebank/corebanklaw20.JournalVerifies", spec := "journalVerifies", inPlace := ["slices.overlaps[corebank/api.Money]"], unfollowed := true, recurses := true, named := ["internal/strconv.uint64pow10", "math/bits.deBruijn32tab", "math/bits.deBruijn64tab"], apart := false, laid := [("math/bits.deBruijn32tab", laid_math_bits_deBruijn32tab), ("math/bits.deBruijn64tab", laid_math_bits_deBruijn64tab), ("internal/strconv.uint64pow10", laid_internal_strconv_uint64pow10)] }
def JournalVerifiesSaid : Prop := journalVerifiesRow.holds Tryd.pinned (OpenSpec.ofChange journalVerifiesSpec)

/-- ITS FALSE NEIGHBOUR: 'it returns false'. Refute it at one input. -/
def journalVerifiesWrong : ChangeSpec := { name := "journalVerifies", fn := fun _ => fun
  | [d1, d2] => { results := [.lit (.bool false)], args := [d1, d2] }
  | _ => none }
def JournalVerifiesWrongFalsely : Prop := journalVerifiesRow.holds Tryd.pinned (OpenSpec.ofChange journalVerifiesWrong)

/-- 'corebanklaw20.JournalChains': WHATEVER THE INPUT: true; the input reads as it did. -/
def journalChainsSpec : ChangeSpec := { name := "journalChains", fn := fun _ => fun
  | [d1, d2, d3] => { results := [.lit (.bool true)], args := [d1, d2, d3] }
  | _ => none }
def journalChainsRow : OpenClaim := { program := "ytmnnphalljnmhaadoor", sum := "99a111ce4931ffd19984fc6003dfc8865bbe7cfab3c8c1058f6778cf535c4b9c", func := "corebank/corebanklaw20.JournalChains", spec := "journalChains", inPlace := ["slices.overlaps[corebank/api.Money]"], unfollowed := true, recurses := true, named := ["internal/strconv.uint64pow10", "math/bits.deBruijn32tab", "math/bits.deBruijn64tab"], apart := false, laid := [("math/bits.deBruijn32tab", laid_math_bits_deBruijn32tab), ("math/bits.deBruijn64tab", laid_math_bits_deBruijn64tab), ("internal/strconv.uint64pow10", laid_internal_strconv_uint64pow10)] }
def JournalChainsSaid : Prop := journalChainsRow.holds Tryd.pinned (OpenSpec.ofChange journalChainsSpec)

/-- ITS FALSE NEIGHBOUR: 'it returns false'. Refute it at one input. -/
def journalChainsWrong : ChangeSpec := { name := "journalChains", fn := fun _ => fun
  | [d1, d2, d3] => { results := [.lit (.bool false)], args := [d1, d2, d3] }
  | _ => none }
def JournalChainsWrongFalsely : Prop := journalChainsRow.holds Tryd.pinned (OpenSpec.ofChange journalChainsWrong)

/-- 'corebanklaw20.JournalKeeps': WHATEVER THE INPUT: true; the input reads as it did. -/
def journalKeepsSpec : ChangeSpec := { name := "journalKeeps", fn := fun _ => fun
  | [d1, d2] => { results := [.lit (.bool true)], args := [d1, d2] }
  | _ => none }
def journalKeepsRow : OpenClaim := { program := "ytmnnphalljnmhaadoor", sum := "99a111ce4931ffd19984fc6003dfc8865bbe7cfab3c8c1058f6778cf535c4b9c", func := "corebank/corebanklaw20.JournalKeeps", spec := "journalKeeps", inPlace := ["slices.overlaps[corebank/api.Money]"], unfollowed := true, recurses := true, named := ["internal/strconv.uint64pow10", "math/bits.deBruijn32tab", "math/bits.deBruijn64tab"], apart := false, laid := [("math/bits.deBruijn32tab", laid_math_bits_deBruijn32tab), ("math/bits.deBruijn64tab", laid_math_bits_deBruijn64tab), ("internal/strconv.uint64pow10", laid_internal_strconv_uint64pow10)] }
def JournalKeepsSaid : Prop := journalKeepsRow.holds Tryd.pinned (OpenSpec.ofChange journalKeepsSpec)

/-- ITS FALSE NEIGHBOUR: 'it returns false'. Refute it at one input. -/
def journalKeepsWrong : ChangeSpec := { name := "journalKeeps", fn := fun _ => fun
  | [d1, d2] => { results := [.lit (.bool false)], args := [d1, d2] }
  | _ => none }
def JournalKeepsWrongFalsely : Prop := journalKeepsRow.holds Tryd.pinned (OpenSpec.ofChange journalKeepsWrong)

/-- 'corebanklaw19.EntryChecks': WHATEVER THE INPUT: true; the input reads as it did. -/
def entryChecksSpec : ChangeSpec := { name := "entryChecks", fn := fun _ => fun
  | [d] => { results := [.lit (.bool true)], args := [d] }
  | _ => none }
def entryChecksRow : OpenClaim := { program := "ytmnnphalljnmhaadoor", sum := "99a111ce4931ffd19984fc6003dfc8865bbe7cfab3c8c1058f6778cf535c4b9c", func := "corebank/corebanklaw19.EntryChecks", spec := "entryChecks", inPlace := ["slices.overlaps[corebank/api.Money]", "slices.overlaps[corebank/api.Leg]"], unfollowed := true, recurses := true, named := ["internal/strconv.uint64pow10", "math/bits.deBruijn32tab", "math/bits.deBruijn64tab", "strconv.ErrSyntax", "strconv.ErrRange"], apart := false, laid := [("math/bits.deBruijn32tab", laid_math_bits_deBruijn32tab), ("math/bits.deBruijn64tab", laid_math_bits_deBruijn64tab), ("internal/strconv.uint64pow10", laid_internal_strconv_uint64pow10), ("strconv.ErrRange", laid_strconv_ErrRange), ("strconv.ErrSyntax", laid_strconv_ErrSyntax)] }
def EntryChecksSaid : Prop := entryChecksRow.holds Tryd.pinned (OpenSpec.ofChange entryChecksSpec)

/-- ITS FALSE NEIGHBOUR: 'it returns false'. Refute it at one input. -/
def entryChecksWrong : ChangeSpec := { name := "entryChecks", fn := fun _ => fun
  | [d] => { results := [.lit (.bool false)], args := [d] }
  | _ => none }
def EntryChecksWrongFalsely : Prop := entryChecksRow.holds Tryd.pinned (OpenSpec.ofChange entryChecksWrong)

/-- 'corebanklaw19.EntryNets': WHATEVER THE INPUT: true; the input reads as it did. -/
def entryNetsSpec : ChangeSpec := { name := "entryNets", fn := fun _ => fun
  | [d] => { results := [.lit (.bool true)], args := [d] }
  | _ => none }
def entryNetsRow : OpenClaim := { program := "ytmnnphalljnmhaadoor", sum := "99a111ce4931ffd19984fc6003dfc8865bbe7cfab3c8c1058f6778cf535c4b9c", func := "corebank/corebanklaw19.EntryNets", spec := "entryNets", inPlace := ["slices.overlaps[corebank/api.Money]", "slices.overlaps[corebank/api.Leg]"], unfollowed := true, recurses := true, named := ["internal/strconv.uint64pow10", "math/bits.deBruijn32tab", "math/bits.deBruijn64tab", "strconv.ErrSyntax", "strconv.ErrRange"], apart := false, laid := [("math/bits.deBruijn32tab", laid_math_bits_deBruijn32tab), ("math/bits.deBruijn64tab", laid_math_bits_deBruijn64tab), ("internal/strconv.uint64pow10", laid_internal_strconv_uint64pow10), ("strconv.ErrRange", laid_strconv_ErrRange), ("strconv.ErrSyntax", laid_strconv_ErrSyntax)] }
def EntryNetsSaid : Prop := entryNetsRow.holds Tryd.pinned (OpenSpec.ofChange entryNetsSpec)

/-- ITS FALSE NEIGHBOUR: 'it returns false'. Refute it at one input. -/
def entryNetsWrong : ChangeSpec := { name := "entryNets", fn := fun _ => fun
  | [d] => { results := [.lit (.bool false)], args := [d] }
  | _ => none }
def EntryNetsWrongFalsely : Prop := entryNetsRow.holds Tryd.pinned (OpenSpec.ofChange entryNetsWrong)

/-- 'corebanklaw19.EntryTurns': WHATEVER THE INPUT: true; the input reads as it did. -/
def entryTurnsSpec : ChangeSpec := { name := "entryTurns", fn := fun _ => fun
  | [d1, d2, d3] => { results := [.lit (.bool true)], args := [d1, d2, d3] }
  | _ => none }
def entryTurnsRow : OpenClaim := { program := "ytmnnphalljnmhaadoor", sum := "99a111ce4931ffd19984fc6003dfc8865bbe7cfab3c8c1058f6778cf535c4b9c", func := "corebank/corebanklaw19.EntryTurns", spec := "entryTurns", inPlace := ["slices.overlaps[corebank/api.Money]", "slices.overlaps[corebank/api.Leg]"], unfollowed := true, recurses := true, named := ["internal/strconv.uint64pow10", "math/bits.deBruijn32tab", "math/bits.deBruijn64tab", "strconv.ErrSyntax", "strconv.ErrRange"], apart := false, laid := [("math/bits.deBruijn32tab", laid_math_bits_deBruijn32tab), ("math/bits.deBruijn64tab", laid_math_bits_deBruijn64tab), ("internal/strconv.uint64pow10", laid_internal_strconv_uint64pow10), ("strconv.ErrRange", laid_strconv_ErrRange), ("strconv.ErrSyntax", laid_strconv_ErrSyntax)] }
def EntryTurnsSaid : Prop := entryTurnsRow.holds Tryd.pinned (OpenSpec.ofChange entryTurnsSpec)

/-- ITS FALSE NEIGHBOUR: 'it returns false'. Refute it at one input. -/
def entryTurnsWrong : ChangeSpec := { name := "entryTurns", fn := fun _ => fun
  | [d1, d2, d3] => { results := [.lit (.bool false)], args := [d1, d2, d3] }
  | _ => none }
def EntryTurnsWrongFalsely : Prop := entryTurnsRow.holds Tryd.pinned (OpenSpec.ofChange entryTurnsWrong)

/-- 'corebanklaw19.EntryCodes': WHATEVER THE INPUT: true; the input reads as it did. -/
def entryCodesSpec : ChangeSpec := { name := "entryCodes", fn := fun _ => fun
  | [d1, d2, d3] => { results := [.lit (.bool true)], args := [d1, d2, d3] }
  | _ => none }
def entryCodesRow : OpenClaim := { program := "ytmnnphalljnmhaadoor", sum := "99a111ce4931ffd19984fc6003dfc8865bbe7cfab3c8c1058f6778cf535c4b9c", func := "corebank/corebanklaw19.EntryCodes", spec := "entryCodes", inPlace := ["slices.overlaps[corebank/api.Money]", "slices.overlaps[corebank/api.Leg]"], unfollowed := true, recurses := true, named := ["internal/strconv.uint64pow10", "math/bits.deBruijn32tab", "math/bits.deBruijn64tab", "strconv.ErrSyntax", "strconv.ErrRange"], apart := false, laid := [("math/bits.deBruijn32tab", laid_math_bits_deBruijn32tab), ("math/bits.deBruijn64tab", laid_math_bits_deBruijn64tab), ("internal/strconv.uint64pow10", laid_internal_strconv_uint64pow10), ("strconv.ErrRange", laid_strconv_ErrRange), ("strconv.ErrSyntax", laid_strconv_ErrSyntax)] }
def EntryCodesSaid : Prop := entryCodesRow.holds Tryd.pinned (OpenSpec.ofChange entryCodesSpec)

/-- ITS FALSE NEIGHBOUR: 'it returns false'. Refute it at one input. -/
def entryCodesWrong : ChangeSpec := { name := "entryCodes", fn := fun _ => fun
  | [d1, d2, d3] => { results := [.lit (.bool false)], args := [d1, d2, d3] }
  | _ => none }
def EntryCodesWrongFalsely : Prop := entryCodesRow.holds Tryd.pinned (OpenSpec.ofChange entryCodesWrong)

/-- 'corebanklaw19.EntryRoundTrips': WHATEVER THE INPUT: true; the input reads as it did. -/
def entryRoundTripsSpec : ChangeSpec := { name := "entryRoundTrips", fn := fun _ => fun
  | [d1, d2] => { results := [.lit (.bool true)], args := [d1, d2] }
  | _ => none }
def entryRoundTripsRow : OpenClaim := { program := "ytmnnphalljnmhaadoor", sum := "99a111ce4931ffd19984fc6003dfc8865bbe7cfab3c8c1058f6778cf535c4b9c", func := "corebank/corebanklaw19.EntryRoundTrips", spec := "entryRoundTrips", inPlace := ["slices.overlaps[corebank/api.Money]", "slices.overlaps[corebank/api.Leg]"], unfollowed := true, recurses := true, named := ["internal/strconv.uint64pow10", "math/bits.deBruijn32tab", "math/bits.deBruijn64tab", "strconv.ErrSyntax", "strconv.ErrRange"], apart := false, laid := [("math/bits.deBruijn32tab", laid_math_bits_deBruijn32tab), ("math/bits.deBruijn64tab", laid_math_bits_deBruijn64tab), ("internal/strconv.uint64pow10", laid_internal_strconv_uint64pow10), ("strconv.ErrRange", laid_strconv_ErrRange), ("strconv.ErrSyntax", laid_strconv_ErrSyntax)] }
def EntryRoundTripsSaid : Prop := entryRoundTripsRow.holds Tryd.pinned (OpenSpec.ofChange entryRoundTripsSpec)

/-- ITS FALSE NEIGHBOUR: 'it returns false'. Refute it at one input. -/
def entryRoundTripsWrong : ChangeSpec := { name := "entryRoundTrips", fn := fun _ => fun
  | [d1, d2] => { results := [.lit (.bool false)], args := [d1, d2] }
  | _ => none }
def EntryRoundTripsWrongFalsely : Prop := entryRoundTripsRow.holds Tryd.pinned (OpenSpec.ofChange entryRoundTripsWrong)

/-- 'corebanklaw19.EntryReverses': WHATEVER THE INPUT: true; the input reads as it did. -/
def entryReversesSpec : ChangeSpec := { name := "entryReverses", fn := fun _ => fun
  | [d1, d2, d3] => { results := [.lit (.bool true)], args := [d1, d2, d3] }
  | _ => none }
def entryReversesRow : OpenClaim := { program := "ytmnnphalljnmhaadoor", sum := "99a111ce4931ffd19984fc6003dfc8865bbe7cfab3c8c1058f6778cf535c4b9c", func := "corebank/corebanklaw19.EntryReverses", spec := "entryReverses", inPlace := ["slices.overlaps[corebank/api.Money]", "slices.overlaps[corebank/api.Leg]"], unfollowed := true, recurses := true, named := ["internal/strconv.uint64pow10", "math/bits.deBruijn32tab", "math/bits.deBruijn64tab", "strconv.ErrSyntax", "strconv.ErrRange"], apart := false, laid := [("math/bits.deBruijn32tab", laid_math_bits_deBruijn32tab), ("math/bits.deBruijn64tab", laid_math_bits_deBruijn64tab), ("internal/strconv.uint64pow10", laid_internal_strconv_uint64pow10), ("strconv.ErrRange", laid_strconv_ErrRange), ("strconv.ErrSyntax", laid_strconv_ErrSyntax)] }
def EntryReversesSaid : Prop := entryReversesRow.holds Tryd.pinned (OpenSpec.ofChange entryReversesSpec)

/-- ITS FALSE NEIGHBOUR: 'it returns false'. Refute it at one input. -/
def entryReversesWrong : ChangeSpec := { name := "entryReverses", fn := fun _ => fun
  | [d1, d2, d3] => { results := [.lit (.bool false)], args := [d1, d2, d3] }
  | _ => none }
def EntryReversesWrongFalsely : Prop := entryReversesRow.holds Tryd.pinned (OpenSpec.ofChange entryReversesWrong)

/-- 'corebanklaw19.EntryJoins': WHATEVER THE INPUT: true; the input reads as it did. -/
def entryJoinsSpec : ChangeSpec := { name := "entryJoins", fn := fun _ => fun
  | [d] => { results := [.lit (.bool true)], args := [d] }
  | _ => none }
def entryJoinsRow : OpenClaim := { program := "ytmnnphalljnmhaadoor", sum := "99a111ce4931ffd19984fc6003dfc8865bbe7cfab3c8c1058f6778cf535c4b9c", func := "corebank/corebanklaw19.EntryJoins", spec := "entryJoins", inPlace := ["slices.overlaps[corebank/api.Money]", "slices.overlaps[corebank/api.Leg]"], unfollowed := true, recurses := true, named := ["internal/strconv.uint64pow10", "math/bits.deBruijn32tab", "math/bits.deBruijn64tab", "strconv.ErrSyntax", "strconv.ErrRange"], apart := false, laid := [("math/bits.deBruijn32tab", laid_math_bits_deBruijn32tab), ("math/bits.deBruijn64tab", laid_math_bits_deBruijn64tab), ("internal/strconv.uint64pow10", laid_internal_strconv_uint64pow10), ("strconv.ErrRange", laid_strconv_ErrRange), ("strconv.ErrSyntax", laid_strconv_ErrSyntax)] }
def EntryJoinsSaid : Prop := entryJoinsRow.holds Tryd.pinned (OpenSpec.ofChange entryJoinsSpec)

/-- ITS FALSE NEIGHBOUR: 'it returns false'. Refute it at one input. -/
def entryJoinsWrong : ChangeSpec := { name := "entryJoins", fn := fun _ => fun
  | [d] => { results := [.lit (.bool false)], args := [d] }
  | _ => none }
def EntryJoinsWrongFalsely : Prop := entryJoinsRow.holds Tryd.pinned (OpenSpec.ofChange entryJoinsWrong)

/- THE SECOND FORM. 'bulk': how many values and letters a reading holds, each counted each time it is reached (what is shared counts as often as it is met; a slice's spare places count too). A statement '..UptoSaid' is the law's where the arguments, and the package variables that the reading takes, are together of bulk at most 1048576: NARROWER than '..Said'. Prove '..Said' where nothing that the law and all that it calls make is longer than what came in: it says more and counts as full. Else prove '..UptoSaid'. A law counts once. -/
mutual
def uptoBulk {H : Type} : DataW H → Nat
  | .lit (.string bytes) => bytes.length + 1
  | .lit _ => 1
  | .nil => 1
  | .ptr d => uptoBulk d + 1
  | .slice elems spare => uptoBulkAll elems + uptoBulkAll spare + 1
  | .agg parts => uptoBulkAll parts + 1
  | .iface _ d => uptoBulk d + 1
  | .map entries => uptoBulkEntries entries + 1
  | .held _ => 1
def uptoBulkAll {H : Type} : List (DataW H) → Nat
  | [] => 0
  | d :: r => uptoBulk d + uptoBulkAll r
def uptoBulkEntries {H : Type} : List (Lit × DataW H) → Nat
  | [] => 0
  | x :: r => uptoBulkEntry x + uptoBulkEntries r
def uptoBulkEntry {H : Type} : Lit × DataW H → Nat
  | (.string bytes, d) => bytes.length + uptoBulk d + 1
  | (_, d) => uptoBulk d + 1
 end
def uptoSmall : (H : Type) → List (DataW H) → Bool := fun _ ds => decide (uptoBulkAll ds ≤ 1048576)
def OpenSpec.upto (s : _root_.Go.ChangeSpec) : _root_.Go.OpenSpec := { _root_.Go.OpenSpec.ofChange s with cond := some uptoSmall }

/-- 'corebanklaw20.JournalPosts', WHERE WHAT IT READS IS OF BULK AT MOST 1048576: true; the input reads as it did. -/
def journalPostsUptoRow : OpenClaim := { program := "ytmnnphalljnmhaadoor", sum := "99a111ce4931ffd19984fc6003dfc8865bbe7cfab3c8c1058f6778cf535c4b9c", func := "corebank/corebanklaw20.JournalPosts", spec := "journalPosts", inPlace := ["slices.overlaps[corebank/api.Money]"], unfollowed := true, recurses := true, named := ["internal/strconv.uint64pow10", "math/bits.deBruijn32tab", "math/bits.deBruijn64tab"], apart := false, laid := [("math/bits.deBruijn32tab", laid_math_bits_deBruijn32tab), ("math/bits.deBruijn64tab", laid_math_bits_deBruijn64tab), ("internal/strconv.uint64pow10", laid_internal_strconv_uint64pow10)], narrowed := true }
def JournalPostsUptoSaid : Prop := journalPostsUptoRow.holds Tryd.pinned (OpenSpec.upto journalPostsSpec)

/-- 'corebanklaw20.JournalFinds', WHERE WHAT IT READS IS OF BULK AT MOST 1048576: true; the input reads as it did. -/
def journalFindsUptoRow : OpenClaim := { program := "ytmnnphalljnmhaadoor", sum := "99a111ce4931ffd19984fc6003dfc8865bbe7cfab3c8c1058f6778cf535c4b9c", func := "corebank/corebanklaw20.JournalFinds", spec := "journalFinds", inPlace := ["slices.overlaps[corebank/api.Money]"], unfollowed := true, recurses := true, named := ["internal/strconv.uint64pow10", "math/bits.deBruijn32tab", "math/bits.deBruijn64tab"], apart := false, laid := [("math/bits.deBruijn32tab", laid_math_bits_deBruijn32tab), ("math/bits.deBruijn64tab", laid_math_bits_deBruijn64tab), ("internal/strconv.uint64pow10", laid_internal_strconv_uint64pow10)], narrowed := true }
def JournalFindsUptoSaid : Prop := journalFindsUptoRow.holds Tryd.pinned (OpenSpec.upto journalFindsSpec)

/-- 'corebanklaw20.JournalVerifies', WHERE WHAT IT READS IS OF BULK AT MOST 1048576: true; the input reads as it did. -/
def journalVerifiesUptoRow : OpenClaim := { program := "ytmnnphalljnmhaadoor", sum := "99a111ce4931ffd19984fc6003dfc8865bbe7cfab3c8c1058f6778cf535c4b9c", func := "corebank/corebanklaw20.JournalVerifies", spec := "journalVerifies", inPlace := ["slices.overlaps[corebank/api.Money]"], unfollowed := true, recurses := true, named := ["internal/strconv.uint64pow10", "math/bits.deBruijn32tab", "math/bits.deBruijn64tab"], apart := false, laid := [("math/bits.deBruijn32tab", laid_math_bits_deBruijn32tab), ("math/bits.deBruijn64tab", laid_math_bits_deBruijn64tab), ("internal/strconv.uint64pow10", laid_internal_strconv_uint64pow10)], narrowed := true }
def JournalVerifiesUptoSaid : Prop := journalVerifiesUptoRow.holds Tryd.pinned (OpenSpec.upto journalVerifiesSpec)

/-- 'corebanklaw20.JournalChains', WHERE WHAT IT READS IS OF BULK AT MOST 1048576: true; the input reads as it did. -/
def journalChainsUptoRow : OpenClaim := { program := "ytmnnphalljnmhaadoor", sum := "99a111ce4931ffd19984fc6003dfc8865bbe7cfab3c8c1058f6778cf535c4b9c", func := "corebank/corebanklaw20.JournalChains", spec := "journalChains", inPlace := ["slices.overlaps[corebank/api.Money]"], unfollowed := true, recurses := true, named := ["internal/strconv.uint64pow10", "math/bits.deBruijn32tab", "math/bits.deBruijn64tab"], apart := false, laid := [("math/bits.deBruijn32tab", laid_math_bits_deBruijn32tab), ("math/bits.deBruijn64tab", laid_math_bits_deBruijn64tab), ("internal/strconv.uint64pow10", laid_internal_strconv_uint64pow10)], narrowed := true }
def JournalChainsUptoSaid : Prop := journalChainsUptoRow.holds Tryd.pinned (OpenSpec.upto journalChainsSpec)

/-- 'corebanklaw20.JournalKeeps', WHERE WHAT IT READS IS OF BULK AT MOST 1048576: true; the input reads as it did. -/
def journalKeepsUptoRow : OpenClaim := { program := "ytmnnphalljnmhaadoor", sum := "99a111ce4931ffd19984fc6003dfc8865bbe7cfab3c8c1058f6778cf535c4b9c", func := "corebank/corebanklaw20.JournalKeeps", spec := "journalKeeps", inPlace := ["slices.overlaps[corebank/api.Money]"], unfollowed := true, recurses := true, named := ["internal/strconv.uint64pow10", "math/bits.deBruijn32tab", "math/bits.deBruijn64tab"], apart := false, laid := [("math/bits.deBruijn32tab", laid_math_bits_deBruijn32tab), ("math/bits.deBruijn64tab", laid_math_bits_deBruijn64tab), ("internal/strconv.uint64pow10", laid_internal_strconv_uint64pow10)], narrowed := true }
def JournalKeepsUptoSaid : Prop := journalKeepsUptoRow.holds Tryd.pinned (OpenSpec.upto journalKeepsSpec)

/-- 'corebanklaw19.EntryChecks', WHERE WHAT IT READS IS OF BULK AT MOST 1048576: true; the input reads as it did. -/
def entryChecksUptoRow : OpenClaim := { program := "ytmnnphalljnmhaadoor", sum := "99a111ce4931ffd19984fc6003dfc8865bbe7cfab3c8c1058f6778cf535c4b9c", func := "corebank/corebanklaw19.EntryChecks", spec := "entryChecks", inPlace := ["slices.overlaps[corebank/api.Money]", "slices.overlaps[corebank/api.Leg]"], unfollowed := true, recurses := true, named := ["internal/strconv.uint64pow10", "math/bits.deBruijn32tab", "math/bits.deBruijn64tab", "strconv.ErrSyntax", "strconv.ErrRange"], apart := false, laid := [("math/bits.deBruijn32tab", laid_math_bits_deBruijn32tab), ("math/bits.deBruijn64tab", laid_math_bits_deBruijn64tab), ("internal/strconv.uint64pow10", laid_internal_strconv_uint64pow10), ("strconv.ErrRange", laid_strconv_ErrRange), ("strconv.ErrSyntax", laid_strconv_ErrSyntax)], narrowed := true }
def EntryChecksUptoSaid : Prop := entryChecksUptoRow.holds Tryd.pinned (OpenSpec.upto entryChecksSpec)

/-- 'corebanklaw19.EntryNets', WHERE WHAT IT READS IS OF BULK AT MOST 1048576: true; the input reads as it did. -/
def entryNetsUptoRow : OpenClaim := { program := "ytmnnphalljnmhaadoor", sum := "99a111ce4931ffd19984fc6003dfc8865bbe7cfab3c8c1058f6778cf535c4b9c", func := "corebank/corebanklaw19.EntryNets", spec := "entryNets", inPlace := ["slices.overlaps[corebank/api.Money]", "slices.overlaps[corebank/api.Leg]"], unfollowed := true, recurses := true, named := ["internal/strconv.uint64pow10", "math/bits.deBruijn32tab", "math/bits.deBruijn64tab", "strconv.ErrSyntax", "strconv.ErrRange"], apart := false, laid := [("math/bits.deBruijn32tab", laid_math_bits_deBruijn32tab), ("math/bits.deBruijn64tab", laid_math_bits_deBruijn64tab), ("internal/strconv.uint64pow10", laid_internal_strconv_uint64pow10), ("strconv.ErrRange", laid_strconv_ErrRange), ("strconv.ErrSyntax", laid_strconv_ErrSyntax)], narrowed := true }
def EntryNetsUptoSaid : Prop := entryNetsUptoRow.holds Tryd.pinned (OpenSpec.upto entryNetsSpec)

/-- 'corebanklaw19.EntryTurns', WHERE WHAT IT READS IS OF BULK AT MOST 1048576: true; the input reads as it did. -/
def entryTurnsUptoRow : OpenClaim := { program := "ytmnnphalljnmhaadoor", sum := "99a111ce4931ffd19984fc6003dfc8865bbe7cfab3c8c1058f6778cf535c4b9c", func := "corebank/corebanklaw19.EntryTurns", spec := "entryTurns", inPlace := ["slices.overlaps[corebank/api.Money]", "slices.overlaps[corebank/api.Leg]"], unfollowed := true, recurses := true, named := ["internal/strconv.uint64pow10", "math/bits.deBruijn32tab", "math/bits.deBruijn64tab", "strconv.ErrSyntax", "strconv.ErrRange"], apart := false, laid := [("math/bits.deBruijn32tab", laid_math_bits_deBruijn32tab), ("math/bits.deBruijn64tab", laid_math_bits_deBruijn64tab), ("internal/strconv.uint64pow10", laid_internal_strconv_uint64pow10), ("strconv.ErrRange", laid_strconv_ErrRange), ("strconv.ErrSyntax", laid_strconv_ErrSyntax)], narrowed := true }
def EntryTurnsUptoSaid : Prop := entryTurnsUptoRow.holds Tryd.pinned (OpenSpec.upto entryTurnsSpec)

/-- 'corebanklaw19.EntryCodes', WHERE WHAT IT READS IS OF BULK AT MOST 1048576: true; the input reads as it did. -/
def entryCodesUptoRow : OpenClaim := { program := "ytmnnphalljnmhaadoor", sum := "99a111ce4931ffd19984fc6003dfc8865bbe7cfab3c8c1058f6778cf535c4b9c", func := "corebank/corebanklaw19.EntryCodes", spec := "entryCodes", inPlace := ["slices.overlaps[corebank/api.Money]", "slices.overlaps[corebank/api.Leg]"], unfollowed := true, recurses := true, named := ["internal/strconv.uint64pow10", "math/bits.deBruijn32tab", "math/bits.deBruijn64tab", "strconv.ErrSyntax", "strconv.ErrRange"], apart := false, laid := [("math/bits.deBruijn32tab", laid_math_bits_deBruijn32tab), ("math/bits.deBruijn64tab", laid_math_bits_deBruijn64tab), ("internal/strconv.uint64pow10", laid_internal_strconv_uint64pow10), ("strconv.ErrRange", laid_strconv_ErrRange), ("strconv.ErrSyntax", laid_strconv_ErrSyntax)], narrowed := true }
def EntryCodesUptoSaid : Prop := entryCodesUptoRow.holds Tryd.pinned (OpenSpec.upto entryCodesSpec)

/-- 'corebanklaw19.EntryRoundTrips', WHERE WHAT IT READS IS OF BULK AT MOST 1048576: true; the input reads as it did. -/
def entryRoundTripsUptoRow : OpenClaim := { program := "ytmnnphalljnmhaadoor", sum := "99a111ce4931ffd19984fc6003dfc8865bbe7cfab3c8c1058f6778cf535c4b9c", func := "corebank/corebanklaw19.EntryRoundTrips", spec := "entryRoundTrips", inPlace := ["slices.overlaps[corebank/api.Money]", "slices.overlaps[corebank/api.Leg]"], unfollowed := true, recurses := true, named := ["internal/strconv.uint64pow10", "math/bits.deBruijn32tab", "math/bits.deBruijn64tab", "strconv.ErrSyntax", "strconv.ErrRange"], apart := false, laid := [("math/bits.deBruijn32tab", laid_math_bits_deBruijn32tab), ("math/bits.deBruijn64tab", laid_math_bits_deBruijn64tab), ("internal/strconv.uint64pow10", laid_internal_strconv_uint64pow10), ("strconv.ErrRange", laid_strconv_ErrRange), ("strconv.ErrSyntax", laid_strconv_ErrSyntax)], narrowed := true }
def EntryRoundTripsUptoSaid : Prop := entryRoundTripsUptoRow.holds Tryd.pinned (OpenSpec.upto entryRoundTripsSpec)

/-- 'corebanklaw19.EntryReverses', WHERE WHAT IT READS IS OF BULK AT MOST 1048576: true; the input reads as it did. -/
def entryReversesUptoRow : OpenClaim := { program := "ytmnnphalljnmhaadoor", sum := "99a111ce4931ffd19984fc6003dfc8865bbe7cfab3c8c1058f6778cf535c4b9c", func := "corebank/corebanklaw19.EntryReverses", spec := "entryReverses", inPlace := ["slices.overlaps[corebank/api.Money]", "slices.overlaps[corebank/api.Leg]"], unfollowed := true, recurses := true, named := ["internal/strconv.uint64pow10", "math/bits.deBruijn32tab", "math/bits.deBruijn64tab", "strconv.ErrSyntax", "strconv.ErrRange"], apart := false, laid := [("math/bits.deBruijn32tab", laid_math_bits_deBruijn32tab), ("math/bits.deBruijn64tab", laid_math_bits_deBruijn64tab), ("internal/strconv.uint64pow10", laid_internal_strconv_uint64pow10), ("strconv.ErrRange", laid_strconv_ErrRange), ("strconv.ErrSyntax", laid_strconv_ErrSyntax)], narrowed := true }
def EntryReversesUptoSaid : Prop := entryReversesUptoRow.holds Tryd.pinned (OpenSpec.upto entryReversesSpec)

/-- 'corebanklaw19.EntryJoins', WHERE WHAT IT READS IS OF BULK AT MOST 1048576: true; the input reads as it did. -/
def entryJoinsUptoRow : OpenClaim := { program := "ytmnnphalljnmhaadoor", sum := "99a111ce4931ffd19984fc6003dfc8865bbe7cfab3c8c1058f6778cf535c4b9c", func := "corebank/corebanklaw19.EntryJoins", spec := "entryJoins", inPlace := ["slices.overlaps[corebank/api.Money]", "slices.overlaps[corebank/api.Leg]"], unfollowed := true, recurses := true, named := ["internal/strconv.uint64pow10", "math/bits.deBruijn32tab", "math/bits.deBruijn64tab", "strconv.ErrSyntax", "strconv.ErrRange"], apart := false, laid := [("math/bits.deBruijn32tab", laid_math_bits_deBruijn32tab), ("math/bits.deBruijn64tab", laid_math_bits_deBruijn64tab), ("internal/strconv.uint64pow10", laid_internal_strconv_uint64pow10), ("strconv.ErrRange", laid_strconv_ErrRange), ("strconv.ErrSyntax", laid_strconv_ErrSyntax)], narrowed := true }
def EntryJoinsUptoSaid : Prop := entryJoinsUptoRow.holds Tryd.pinned (OpenSpec.upto entryJoinsSpec)

end Rows
end Go.Proofs.YtmnnphalljnmhaaDoor
