/-
  NARROWER THAN 'FOR EVERY INPUT', by the rows' own cells (each row's printed sentence says how): FnExactDriftOf: loops, laid · FnExactTellWatcher: loops, laid · FnExactKnownBy: loops, laid · FnExactTakeNotice: loops, laid · FnExactPackJournal: loops, laid · FnExactKeepChange: loops, laid.
  DERIVED. THE GIVEN ROWS OF THIS SEAT. 6 by the template 'for every input the law returns true; each argument reads behind the call as it read before'; 0 by the template 'total and deterministic' (their statements: YtmcjbaafmjlblaaGreatDoorTotals.lean).
  GIVEN WITH THE SEED: the statements are not yours to turn. If you find one false, say at which input.
  Laid BY PROGRAM, IN A SANDBOX (cutbox-rows.mjs): the forced cells as the released guide's own fill.sh prints them over the translation 1e6d59a5e0762b94… (all of the seat's roots in one cut). By AI agents, Wed Nov 11 2026. No macro, syntax, notation, axiom, sorry.
-/
import Derived.Test.YtmcjbaafmjlblaaGreatDoorChecked
import GoSem.Claim
import GoSem.ClaimJoined
import GoSem.ClaimMapViews
import Derived.JoinedTies
import Derived.KernelRfl
namespace Go.Proofs.YtmcjbaafmjlblaaGreatDoor
/- THE CELL 'sum', in the pinned program and in every row, IS THE sha256 OF THE DUMP (.gsa) THAT YtmcjbaafmjlblaaGreatDoorProg.lean LOADS. Nothing in Lean hashes anything: it is a label: what it is worth is what the hold of that sum in a sandbox is worth. -/
noncomputable def Tryz.pinned : Pinned := { name := "ytmcjbaafmjlblaagreatdoor", sum := "1e6d59a5e0762b943e2f43095f19c104b97b95f917e064afca8ea271d1e4a321", checked := Tryz.checked }
namespace Rows
def none {H : Type} : Left H := { results := [], args := [] }

/- WHAT THE LISTED PACKAGE-LEVEL VARIABLES READ AS WHEN THE CALL BEGINS. Each datum BY PROGRAM (the guide's laid-datum.mjs) off the statement by which the dump's own 'gosem.cut.vars' lays the variable. In a bare row this is a premise. The card (YtmcjbaafmjlblaaGreatDoorCards.lean) ties it to the program's text. -/
def laid_math_bits_deBruijn32tab {H : Type} : DataW H := .agg [.lit (.int .u8 0), .lit (.int .u8 1), .lit (.int .u8 28), .lit (.int .u8 2), .lit (.int .u8 29), .lit (.int .u8 14), .lit (.int .u8 24), .lit (.int .u8 3), .lit (.int .u8 30), .lit (.int .u8 22), .lit (.int .u8 20), .lit (.int .u8 15), .lit (.int .u8 25), .lit (.int .u8 17), .lit (.int .u8 4), .lit (.int .u8 8), .lit (.int .u8 31), .lit (.int .u8 27), .lit (.int .u8 13), .lit (.int .u8 23), .lit (.int .u8 21), .lit (.int .u8 19), .lit (.int .u8 16), .lit (.int .u8 7), .lit (.int .u8 26), .lit (.int .u8 12), .lit (.int .u8 18), .lit (.int .u8 6), .lit (.int .u8 11), .lit (.int .u8 5), .lit (.int .u8 10), .lit (.int .u8 9)]
def laid_math_bits_deBruijn64tab {H : Type} : DataW H := .agg [.lit (.int .u8 0), .lit (.int .u8 1), .lit (.int .u8 56), .lit (.int .u8 2), .lit (.int .u8 57), .lit (.int .u8 49), .lit (.int .u8 28), .lit (.int .u8 3), .lit (.int .u8 61), .lit (.int .u8 58), .lit (.int .u8 42), .lit (.int .u8 50), .lit (.int .u8 38), .lit (.int .u8 29), .lit (.int .u8 17), .lit (.int .u8 4), .lit (.int .u8 62), .lit (.int .u8 47), .lit (.int .u8 59), .lit (.int .u8 36), .lit (.int .u8 45), .lit (.int .u8 43), .lit (.int .u8 51), .lit (.int .u8 22), .lit (.int .u8 53), .lit (.int .u8 39), .lit (.int .u8 33), .lit (.int .u8 30), .lit (.int .u8 24), .lit (.int .u8 18), .lit (.int .u8 12), .lit (.int .u8 5), .lit (.int .u8 63), .lit (.int .u8 55), .lit (.int .u8 48), .lit (.int .u8 27), .lit (.int .u8 60), .lit (.int .u8 41), .lit (.int .u8 37), .lit (.int .u8 16), .lit (.int .u8 46), .lit (.int .u8 35), .lit (.int .u8 44), .lit (.int .u8 21), .lit (.int .u8 52), .lit (.int .u8 32), .lit (.int .u8 23), .lit (.int .u8 11), .lit (.int .u8 54), .lit (.int .u8 26), .lit (.int .u8 40), .lit (.int .u8 15), .lit (.int .u8 34), .lit (.int .u8 20), .lit (.int .u8 31), .lit (.int .u8 10), .lit (.int .u8 25), .lit (.int .u8 14), .lit (.int .u8 19), .lit (.int .u8 9), .lit (.int .u8 13), .lit (.int .u8 8), .lit (.int .u8 7), .lit (.int .u8 6)]
def laid_internal_strconv_uint64pow10 {H : Type} : DataW H := .agg [.lit (.int .u64 1), .lit (.int .u64 10), .lit (.int .u64 100), .lit (.int .u64 1000), .lit (.int .u64 10000), .lit (.int .u64 100000), .lit (.int .u64 1000000), .lit (.int .u64 10000000), .lit (.int .u64 100000000), .lit (.int .u64 1000000000), .lit (.int .u64 10000000000), .lit (.int .u64 100000000000), .lit (.int .u64 1000000000000), .lit (.int .u64 10000000000000), .lit (.int .u64 100000000000000), .lit (.int .u64 1000000000000000), .lit (.int .u64 10000000000000000), .lit (.int .u64 100000000000000000), .lit (.int .u64 1000000000000000000), .lit (.int .u64 10000000000000000000)]

/-- 'laws.FnExactDriftOf': WHATEVER THE INPUT: true; the input reads as it did. -/
def fnExactDriftOfSpec : ChangeSpec := { name := "fnExactDriftOf", fn := fun _ => fun
  | [d1, d2] => { results := [.lit (.bool true)], args := [d1, d2] }
  | _ => none }
def fnExactDriftOfRow : OpenClaim := { program := "ytmcjbaafmjlblaagreatdoor", sum := "1e6d59a5e0762b943e2f43095f19c104b97b95f917e064afca8ea271d1e4a321", func := "loop.example/g03013/laws.FnExactDriftOf", spec := "fnExactDriftOf", inPlace := ["internal/bytealg.IndexByteString"], unfollowed := true, recurses := true, named := ["internal/strconv.uint64pow10", "math/bits.deBruijn32tab", "math/bits.deBruijn64tab"], loops := true, apart := false, laid := [("math/bits.deBruijn32tab", laid_math_bits_deBruijn32tab), ("math/bits.deBruijn64tab", laid_math_bits_deBruijn64tab), ("internal/strconv.uint64pow10", laid_internal_strconv_uint64pow10)] }
def FnExactDriftOfSaid : Prop := fnExactDriftOfRow.holds Tryz.pinned (OpenSpec.ofChange fnExactDriftOfSpec)

/-- ITS FALSE NEIGHBOUR: 'it returns false'. Refute it at one input. -/
def fnExactDriftOfWrong : ChangeSpec := { name := "fnExactDriftOf", fn := fun _ => fun
  | [d1, d2] => { results := [.lit (.bool false)], args := [d1, d2] }
  | _ => none }
def FnExactDriftOfWrongFalsely : Prop := fnExactDriftOfRow.holds Tryz.pinned (OpenSpec.ofChange fnExactDriftOfWrong)

/-- 'laws.FnExactTellWatcher': WHATEVER THE INPUT: true; the input reads as it did. -/
def fnExactTellWatcherSpec : ChangeSpec := { name := "fnExactTellWatcher", fn := fun _ => fun
  | [d1, d2, d3, d4] => { results := [.lit (.bool true)], args := [d1, d2, d3, d4] }
  | _ => none }
def fnExactTellWatcherRow : OpenClaim := { program := "ytmcjbaafmjlblaagreatdoor", sum := "1e6d59a5e0762b943e2f43095f19c104b97b95f917e064afca8ea271d1e4a321", func := "loop.example/g03013/laws.FnExactTellWatcher", spec := "fnExactTellWatcher", inPlace := ["internal/bytealg.IndexByteString"], unfollowed := true, recurses := true, named := ["internal/strconv.uint64pow10", "math/bits.deBruijn32tab", "math/bits.deBruijn64tab"], loops := true, apart := false, laid := [("math/bits.deBruijn32tab", laid_math_bits_deBruijn32tab), ("math/bits.deBruijn64tab", laid_math_bits_deBruijn64tab), ("internal/strconv.uint64pow10", laid_internal_strconv_uint64pow10)] }
def FnExactTellWatcherSaid : Prop := fnExactTellWatcherRow.holds Tryz.pinned (OpenSpec.ofChange fnExactTellWatcherSpec)

/-- ITS FALSE NEIGHBOUR: 'it returns false'. Refute it at one input. -/
def fnExactTellWatcherWrong : ChangeSpec := { name := "fnExactTellWatcher", fn := fun _ => fun
  | [d1, d2, d3, d4] => { results := [.lit (.bool false)], args := [d1, d2, d3, d4] }
  | _ => none }
def FnExactTellWatcherWrongFalsely : Prop := fnExactTellWatcherRow.holds Tryz.pinned (OpenSpec.ofChange fnExactTellWatcherWrong)

/-- 'laws.FnExactKnownBy': WHATEVER THE INPUT: true; the input reads as it did. -/
def fnExactKnownBySpec : ChangeSpec := { name := "fnExactKnownBy", fn := fun _ => fun
  | [d1, d2] => { results := [.lit (.bool true)], args := [d1, d2] }
  | _ => none }
def fnExactKnownByRow : OpenClaim := { program := "ytmcjbaafmjlblaagreatdoor", sum := "1e6d59a5e0762b943e2f43095f19c104b97b95f917e064afca8ea271d1e4a321", func := "loop.example/g03013/laws.FnExactKnownBy", spec := "fnExactKnownBy", inPlace := ["internal/bytealg.IndexByteString", "slices.overlaps[loop.example/g03013/impl.Node]"], unfollowed := true, recurses := true, named := ["internal/strconv.uint64pow10", "math/bits.deBruijn32tab", "math/bits.deBruijn64tab"], loops := true, apart := false, laid := [("math/bits.deBruijn32tab", laid_math_bits_deBruijn32tab), ("math/bits.deBruijn64tab", laid_math_bits_deBruijn64tab), ("internal/strconv.uint64pow10", laid_internal_strconv_uint64pow10)] }
def FnExactKnownBySaid : Prop := fnExactKnownByRow.holds Tryz.pinned (OpenSpec.ofChange fnExactKnownBySpec)

/-- ITS FALSE NEIGHBOUR: 'it returns false'. Refute it at one input. -/
def fnExactKnownByWrong : ChangeSpec := { name := "fnExactKnownBy", fn := fun _ => fun
  | [d1, d2] => { results := [.lit (.bool false)], args := [d1, d2] }
  | _ => none }
def FnExactKnownByWrongFalsely : Prop := fnExactKnownByRow.holds Tryz.pinned (OpenSpec.ofChange fnExactKnownByWrong)

/-- 'laws.FnExactTakeNotice': WHATEVER THE INPUT: true; the input reads as it did. -/
def fnExactTakeNoticeSpec : ChangeSpec := { name := "fnExactTakeNotice", fn := fun _ => fun
  | [d1, d2] => { results := [.lit (.bool true)], args := [d1, d2] }
  | _ => none }
def fnExactTakeNoticeRow : OpenClaim := { program := "ytmcjbaafmjlblaagreatdoor", sum := "1e6d59a5e0762b943e2f43095f19c104b97b95f917e064afca8ea271d1e4a321", func := "loop.example/g03013/laws.FnExactTakeNotice", spec := "fnExactTakeNotice", inPlace := ["internal/bytealg.IndexByteString", "slices.overlaps[loop.example/g03013/impl.Node]"], unfollowed := true, recurses := true, named := ["internal/strconv.uint64pow10", "math/bits.deBruijn32tab", "math/bits.deBruijn64tab"], loops := true, apart := false, laid := [("math/bits.deBruijn32tab", laid_math_bits_deBruijn32tab), ("math/bits.deBruijn64tab", laid_math_bits_deBruijn64tab), ("internal/strconv.uint64pow10", laid_internal_strconv_uint64pow10)] }
def FnExactTakeNoticeSaid : Prop := fnExactTakeNoticeRow.holds Tryz.pinned (OpenSpec.ofChange fnExactTakeNoticeSpec)

/-- ITS FALSE NEIGHBOUR: 'it returns false'. Refute it at one input. -/
def fnExactTakeNoticeWrong : ChangeSpec := { name := "fnExactTakeNotice", fn := fun _ => fun
  | [d1, d2] => { results := [.lit (.bool false)], args := [d1, d2] }
  | _ => none }
def FnExactTakeNoticeWrongFalsely : Prop := fnExactTakeNoticeRow.holds Tryz.pinned (OpenSpec.ofChange fnExactTakeNoticeWrong)

/-- 'laws.FnExactPackJournal': WHATEVER THE INPUT: true; the input reads as it did. -/
def fnExactPackJournalSpec : ChangeSpec := { name := "fnExactPackJournal", fn := fun _ => fun
  | [d1, d2, d3] => { results := [.lit (.bool true)], args := [d1, d2, d3] }
  | _ => none }
def fnExactPackJournalRow : OpenClaim := { program := "ytmcjbaafmjlblaagreatdoor", sum := "1e6d59a5e0762b943e2f43095f19c104b97b95f917e064afca8ea271d1e4a321", func := "loop.example/g03013/laws.FnExactPackJournal", spec := "fnExactPackJournal", inPlace := ["internal/bytealg.IndexByteString", "slices.overlaps[loop.example/g03013/impl.Node]"], unfollowed := true, recurses := true, named := ["internal/strconv.uint64pow10", "math/bits.deBruijn32tab", "math/bits.deBruijn64tab"], loops := true, apart := false, laid := [("math/bits.deBruijn32tab", laid_math_bits_deBruijn32tab), ("math/bits.deBruijn64tab", laid_math_bits_deBruijn64tab), ("internal/strconv.uint64pow10", laid_internal_strconv_uint64pow10)] }
def FnExactPackJournalSaid : Prop := fnExactPackJournalRow.holds Tryz.pinned (OpenSpec.ofChange fnExactPackJournalSpec)

/-- ITS FALSE NEIGHBOUR: 'it returns false'. Refute it at one input. -/
def fnExactPackJournalWrong : ChangeSpec := { name := "fnExactPackJournal", fn := fun _ => fun
  | [d1, d2, d3] => { results := [.lit (.bool false)], args := [d1, d2, d3] }
  | _ => none }
def FnExactPackJournalWrongFalsely : Prop := fnExactPackJournalRow.holds Tryz.pinned (OpenSpec.ofChange fnExactPackJournalWrong)

/-- 'laws.FnExactKeepChange': WHATEVER THE INPUT: true; the input reads as it did. -/
def fnExactKeepChangeSpec : ChangeSpec := { name := "fnExactKeepChange", fn := fun _ => fun
  | [d1, d2, d3, d4, d5] => { results := [.lit (.bool true)], args := [d1, d2, d3, d4, d5] }
  | _ => none }
def fnExactKeepChangeRow : OpenClaim := { program := "ytmcjbaafmjlblaagreatdoor", sum := "1e6d59a5e0762b943e2f43095f19c104b97b95f917e064afca8ea271d1e4a321", func := "loop.example/g03013/laws.FnExactKeepChange", spec := "fnExactKeepChange", inPlace := ["internal/bytealg.IndexByteString", "slices.overlaps[loop.example/g03013/impl.Node]"], unfollowed := true, recurses := true, named := ["internal/strconv.uint64pow10", "math/bits.deBruijn32tab", "math/bits.deBruijn64tab"], loops := true, apart := false, laid := [("math/bits.deBruijn32tab", laid_math_bits_deBruijn32tab), ("math/bits.deBruijn64tab", laid_math_bits_deBruijn64tab), ("internal/strconv.uint64pow10", laid_internal_strconv_uint64pow10)] }
def FnExactKeepChangeSaid : Prop := fnExactKeepChangeRow.holds Tryz.pinned (OpenSpec.ofChange fnExactKeepChangeSpec)

/-- ITS FALSE NEIGHBOUR: 'it returns false'. Refute it at one input. -/
def fnExactKeepChangeWrong : ChangeSpec := { name := "fnExactKeepChange", fn := fun _ => fun
  | [d1, d2, d3, d4, d5] => { results := [.lit (.bool false)], args := [d1, d2, d3, d4, d5] }
  | _ => none }
def FnExactKeepChangeWrongFalsely : Prop := fnExactKeepChangeRow.holds Tryz.pinned (OpenSpec.ofChange fnExactKeepChangeWrong)

/- THE SECOND FORM. 'bulk': how many values and letters a reading holds, each counted each time it is reached (what is shared counts as often as it is met; a slice's spare places count too). A statement '..UptoSaid' is the law's where the arguments, and the package variables that the reading takes, are together of bulk at most 1048576: NARROWER than '..Said'. Prove '..Said' where nothing that the law and all that it calls make is longer than what came in: it says more and counts as full. Else prove '..UptoSaid'. A law counts once. -/
mutual
def uptoBulk {H : Type} : DataW H → Nat
  | .lit (.string bytes) => bytes.length + 1
  | .lit _ => 1
  | .nil => 1
  | .ptr d => uptoBulk d + 1
  | .slice elems spare => uptoBulkAll elems + uptoBulkAll spare + 1
  | .agg parts => uptoBulkAll parts + 1
  | .iface _ d => uptoBulk d + 1
  | .map entries => uptoBulkEntries entries + 1
  | .held _ => 1
def uptoBulkAll {H : Type} : List (DataW H) → Nat
  | [] => 0
  | d :: r => uptoBulk d + uptoBulkAll r
def uptoBulkEntries {H : Type} : List (Lit × DataW H) → Nat
  | [] => 0
  | x :: r => uptoBulkEntry x + uptoBulkEntries r
def uptoBulkEntry {H : Type} : Lit × DataW H → Nat
  | (.string bytes, d) => bytes.length + uptoBulk d + 1
  | (_, d) => uptoBulk d + 1
 end
def uptoSmall : (H : Type) → List (DataW H) → Bool := fun _ ds => decide (uptoBulkAll ds ≤ 1048576)
def OpenSpec.upto (s : _root_.Go.ChangeSpec) : _root_.Go.OpenSpec := { _root_.Go.OpenSpec.ofChange s with cond := some uptoSmall }

/-- 'laws.FnExactDriftOf', WHERE WHAT IT READS IS OF BULK AT MOST 1048576: true; the input reads as it did. -/
def fnExactDriftOfUptoRow : OpenClaim := { program := "ytmcjbaafmjlblaagreatdoor", sum := "1e6d59a5e0762b943e2f43095f19c104b97b95f917e064afca8ea271d1e4a321", func := "loop.example/g03013/laws.FnExactDriftOf", spec := "fnExactDriftOf", inPlace := ["internal/bytealg.IndexByteString"], unfollowed := true, recurses := true, named := ["internal/strconv.uint64pow10", "math/bits.deBruijn32tab", "math/bits.deBruijn64tab"], loops := true, apart := false, laid := [("math/bits.deBruijn32tab", laid_math_bits_deBruijn32tab), ("math/bits.deBruijn64tab", laid_math_bits_deBruijn64tab), ("internal/strconv.uint64pow10", laid_internal_strconv_uint64pow10)], narrowed := true }
def FnExactDriftOfUptoSaid : Prop := fnExactDriftOfUptoRow.holds Tryz.pinned (OpenSpec.upto fnExactDriftOfSpec)

/-- 'laws.FnExactTellWatcher', WHERE WHAT IT READS IS OF BULK AT MOST 1048576: true; the input reads as it did. -/
def fnExactTellWatcherUptoRow : OpenClaim := { program := "ytmcjbaafmjlblaagreatdoor", sum := "1e6d59a5e0762b943e2f43095f19c104b97b95f917e064afca8ea271d1e4a321", func := "loop.example/g03013/laws.FnExactTellWatcher", spec := "fnExactTellWatcher", inPlace := ["internal/bytealg.IndexByteString"], unfollowed := true, recurses := true, named := ["internal/strconv.uint64pow10", "math/bits.deBruijn32tab", "math/bits.deBruijn64tab"], loops := true, apart := false, laid := [("math/bits.deBruijn32tab", laid_math_bits_deBruijn32tab), ("math/bits.deBruijn64tab", laid_math_bits_deBruijn64tab), ("internal/strconv.uint64pow10", laid_internal_strconv_uint64pow10)], narrowed := true }
def FnExactTellWatcherUptoSaid : Prop := fnExactTellWatcherUptoRow.holds Tryz.pinned (OpenSpec.upto fnExactTellWatcherSpec)

/-- 'laws.FnExactKnownBy', WHERE WHAT IT READS IS OF BULK AT MOST 1048576: true; the input reads as it did. -/
def fnExactKnownByUptoRow : OpenClaim := { program := "ytmcjbaafmjlblaagreatdoor", sum := "1e6d59a5e0762b943e2f43095f19c104b97b95f917e064afca8ea271d1e4a321", func := "loop.example/g03013/laws.FnExactKnownBy", spec := "fnExactKnownBy", inPlace := ["internal/bytealg.IndexByteString", "slices.overlaps[loop.example/g03013/impl.Node]"], unfollowed := true, recurses := true, named := ["internal/strconv.uint64pow10", "math/bits.deBruijn32tab", "math/bits.deBruijn64tab"], loops := true, apart := false, laid := [("math/bits.deBruijn32tab", laid_math_bits_deBruijn32tab), ("math/bits.deBruijn64tab", laid_math_bits_deBruijn64tab), ("internal/strconv.uint64pow10", laid_internal_strconv_uint64pow10)], narrowed := true }
def FnExactKnownByUptoSaid : Prop := fnExactKnownByUptoRow.holds Tryz.pinned (OpenSpec.upto fnExactKnownBySpec)

/-- 'laws.FnExactTakeNotice', WHERE WHAT IT READS IS OF BULK AT MOST 1048576: true; the input reads as it did. -/
def fnExactTakeNoticeUptoRow : OpenClaim := { program := "ytmcjbaafmjlblaagreatdoor", sum := "1e6d59a5e0762b943e2f43095f19c104b97b95f917e064afca8ea271d1e4a321", func := "loop.example/g03013/laws.FnExactTakeNotice", spec := "fnExactTakeNotice", inPlace := ["internal/bytealg.IndexByteString", "slices.overlaps[loop.example/g03013/impl.Node]"], unfollowed := true, recurses := true, named := ["internal/strconv.uint64pow10", "math/bits.deBruijn32tab", "math/bits.deBruijn64tab"], loops := true, apart := false, laid := [("math/bits.deBruijn32tab", laid_math_bits_deBruijn32tab), ("math/bits.deBruijn64tab", laid_math_bits_deBruijn64tab), ("internal/strconv.uint64pow10", laid_internal_strconv_uint64pow10)], narrowed := true }
def FnExactTakeNoticeUptoSaid : Prop := fnExactTakeNoticeUptoRow.holds Tryz.pinned (OpenSpec.upto fnExactTakeNoticeSpec)

/-- 'laws.FnExactPackJournal', WHERE WHAT IT READS IS OF BULK AT MOST 1048576: true; the input reads as it did. -/
def fnExactPackJournalUptoRow : OpenClaim := { program := "ytmcjbaafmjlblaagreatdoor", sum := "1e6d59a5e0762b943e2f43095f19c104b97b95f917e064afca8ea271d1e4a321", func := "loop.example/g03013/laws.FnExactPackJournal", spec := "fnExactPackJournal", inPlace := ["internal/bytealg.IndexByteString", "slices.overlaps[loop.example/g03013/impl.Node]"], unfollowed := true, recurses := true, named := ["internal/strconv.uint64pow10", "math/bits.deBruijn32tab", "math/bits.deBruijn64tab"], loops := true, apart := false, laid := [("math/bits.deBruijn32tab", laid_math_bits_deBruijn32tab), ("math/bits.deBruijn64tab", laid_math_bits_deBruijn64tab), ("internal/strconv.uint64pow10", laid_internal_strconv_uint64pow10)], narrowed := true }
def FnExactPackJournalUptoSaid : Prop := fnExactPackJournalUptoRow.holds Tryz.pinned (OpenSpec.upto fnExactPackJournalSpec)

/-- 'laws.FnExactKeepChange', WHERE WHAT IT READS IS OF BULK AT MOST 1048576: true; the input reads as it did. -/
def fnExactKeepChangeUptoRow : OpenClaim := { program := "ytmcjbaafmjlblaagreatdoor", sum := "1e6d59a5e0762b943e2f43095f19c104b97b95f917e064afca8ea271d1e4a321", func := "loop.example/g03013/laws.FnExactKeepChange", spec := "fnExactKeepChange", inPlace := ["internal/bytealg.IndexByteString", "slices.overlaps[loop.example/g03013/impl.Node]"], unfollowed := true, recurses := true, named := ["internal/strconv.uint64pow10", "math/bits.deBruijn32tab", "math/bits.deBruijn64tab"], loops := true, apart := false, laid := [("math/bits.deBruijn32tab", laid_math_bits_deBruijn32tab), ("math/bits.deBruijn64tab", laid_math_bits_deBruijn64tab), ("internal/strconv.uint64pow10", laid_internal_strconv_uint64pow10)], narrowed := true }
def FnExactKeepChangeUptoSaid : Prop := fnExactKeepChangeUptoRow.holds Tryz.pinned (OpenSpec.upto fnExactKeepChangeSpec)

end Rows
end Go.Proofs.YtmcjbaafmjlblaaGreatDoor
