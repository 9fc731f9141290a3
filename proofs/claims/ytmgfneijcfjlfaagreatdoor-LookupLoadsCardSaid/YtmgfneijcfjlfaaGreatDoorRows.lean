/-
  NARROWER THAN 'FOR EVERY INPUT', by the rows' own cells (each row's printed sentence says how): LookupGets: laid · LookupPaths: laid · LookupWalks: laid · LookupRefuses: laid · LookupLoads: laid · LookupSpoilt: laid.
  DERIVED. THE GIVEN ROWS OF THIS SEAT. 6 by the template 'for every input the law returns true; each argument reads behind the call as it read before'; 0 by the template 'total and deterministic' (their statements: YtmgfneijcfjlfaaGreatDoorTotals.lean).
  GIVEN WITH THE SEED: the statements are not yours to turn. If you find one false, say at which input.
  Laid BY PROGRAM, IN A SANDBOX (cutbox-rows.mjs): the forced cells as the released guide's own fill.sh prints them over the translation c4295eaaa91b52ca… (all of the seat's roots in one cut). By AI agents, Wed Nov 11 2026. No macro, syntax, notation, axiom, sorry.
-/
import Derived.Test.YtmgfneijcfjlfaaGreatDoorChecked
import GoSem.Claim
import GoSem.ClaimJoined
import GoSem.ClaimMapViews
import Derived.JoinedTies
import Derived.KernelRfl
namespace Go.Proofs.YtmgfneijcfjlfaaGreatDoor
/- THE CELL 'sum', in the pinned program and in every row, IS THE sha256 OF THE DUMP (.gsa) THAT YtmgfneijcfjlfaaGreatDoorProg.lean LOADS. Nothing in Lean hashes anything: it is a label: what it is worth is what the hold of that sum in a sandbox is worth. -/
noncomputable def Tryz.pinned : Pinned := { name := "ytmgfneijcfjlfaagreatdoor", sum := "c4295eaaa91b52ca080b081579518bf5b9975bc6df661d06d575d13563f7b52f", checked := Tryz.checked }
namespace Rows
def none {H : Type} : Left H := { results := [], args := [] }

/- WHAT THE LISTED PACKAGE-LEVEL VARIABLES READ AS WHEN THE CALL BEGINS. Each datum BY PROGRAM (the guide's laid-datum.mjs) off the statement by which the dump's own 'gosem.cut.vars' lays the variable. In a bare row this is a premise. The card (YtmgfneijcfjlfaaGreatDoorCards.lean) ties it to the program's text. -/
def laid_scrinium_api_ErrForm {H : Type} : DataW H := .iface "*errors.errorString" (.ptr (.agg [.lit (.string [102, 111, 114, 109])]))
def laid_scrinium_api_ErrRange {H : Type} : DataW H := .iface "*errors.errorString" (.ptr (.agg [.lit (.string [114, 97, 110, 103, 101])]))
def laid_scrinium_api_ErrFull {H : Type} : DataW H := .iface "*errors.errorString" (.ptr (.agg [.lit (.string [102, 117, 108, 108])]))
def laid_scrinium_api_ErrNone {H : Type} : DataW H := .iface "*errors.errorString" (.ptr (.agg [.lit (.string [110, 111, 110, 101])]))
def laid_scrinium_api_ErrCorrupt {H : Type} : DataW H := .iface "*errors.errorString" (.ptr (.agg [.lit (.string [99, 111, 114, 114, 117, 112, 116])]))
def laid_scrinium_api_ErrFuel {H : Type} : DataW H := .iface "*errors.errorString" (.ptr (.agg [.lit (.string [102, 117, 101, 108])]))
def laid_scrinium_api_ErrState {H : Type} : DataW H := .iface "*errors.errorString" (.ptr (.agg [.lit (.string [115, 116, 97, 116, 101])]))
def laid_scrinium_api_ErrLong {H : Type} : DataW H := .iface "*errors.errorString" (.ptr (.agg [.lit (.string [108, 111, 110, 103])]))
def laid_scrinium_api_ErrTwice {H : Type} : DataW H := .iface "*errors.errorString" (.ptr (.agg [.lit (.string [116, 119, 105, 99, 101])]))
def laid_errors_errorType {H : Type} : DataW H := .iface "internal/reflectlite.rtype" (.agg [.ptr (.lit (.string [101, 114, 114, 111, 114]))])

/-- 'scriniumlaw11.LookupGets': WHATEVER THE INPUT: true; the input reads as it did. -/
def lookupGetsSpec : ChangeSpec := { name := "lookupGets", fn := fun _ => fun
  | [d1, d2] => { results := [.lit (.bool true)], args := [d1, d2] }
  | _ => none }
def lookupGetsRow : OpenClaim := { program := "ytmgfneijcfjlfaagreatdoor", sum := "c4295eaaa91b52ca080b081579518bf5b9975bc6df661d06d575d13563f7b52f", func := "scrinium/scriniumlaw11.LookupGets", spec := "lookupGets", inPlace := ["internal/reflectlite.TypeOf"], unfollowed := true, recurses := true, named := ["scrinium/api.ErrRange", "scrinium/api.ErrState", "scrinium/api.ErrForm", "scrinium/api.ErrFull", "scrinium/api.ErrCorrupt", "scrinium/api.ErrNone", "scrinium/api.ErrFuel", "scrinium/api.ErrLong", "scrinium/api.ErrTwice"], apart := false, laid := [("scrinium/api.ErrForm", laid_scrinium_api_ErrForm), ("scrinium/api.ErrRange", laid_scrinium_api_ErrRange), ("scrinium/api.ErrFull", laid_scrinium_api_ErrFull), ("scrinium/api.ErrNone", laid_scrinium_api_ErrNone), ("scrinium/api.ErrCorrupt", laid_scrinium_api_ErrCorrupt), ("scrinium/api.ErrFuel", laid_scrinium_api_ErrFuel), ("scrinium/api.ErrState", laid_scrinium_api_ErrState), ("scrinium/api.ErrLong", laid_scrinium_api_ErrLong), ("scrinium/api.ErrTwice", laid_scrinium_api_ErrTwice)] }
def LookupGetsSaid : Prop := lookupGetsRow.holds Tryz.pinned (OpenSpec.ofChange lookupGetsSpec)

/-- ITS FALSE NEIGHBOUR: 'it returns false'. Refute it at one input. -/
def lookupGetsWrong : ChangeSpec := { name := "lookupGets", fn := fun _ => fun
  | [d1, d2] => { results := [.lit (.bool false)], args := [d1, d2] }
  | _ => none }
def LookupGetsWrongFalsely : Prop := lookupGetsRow.holds Tryz.pinned (OpenSpec.ofChange lookupGetsWrong)

/-- 'scriniumlaw11.LookupPaths': WHATEVER THE INPUT: true; the input reads as it did. -/
def lookupPathsSpec : ChangeSpec := { name := "lookupPaths", fn := fun _ => fun
  | [d1, d2] => { results := [.lit (.bool true)], args := [d1, d2] }
  | _ => none }
def lookupPathsRow : OpenClaim := { program := "ytmgfneijcfjlfaagreatdoor", sum := "c4295eaaa91b52ca080b081579518bf5b9975bc6df661d06d575d13563f7b52f", func := "scrinium/scriniumlaw11.LookupPaths", spec := "lookupPaths", inPlace := ["internal/reflectlite.TypeOf"], unfollowed := true, recurses := true, named := ["scrinium/api.ErrRange", "scrinium/api.ErrState", "scrinium/api.ErrForm", "scrinium/api.ErrFull", "scrinium/api.ErrCorrupt", "scrinium/api.ErrNone", "scrinium/api.ErrFuel", "scrinium/api.ErrLong", "scrinium/api.ErrTwice"], apart := false, laid := [("scrinium/api.ErrForm", laid_scrinium_api_ErrForm), ("scrinium/api.ErrRange", laid_scrinium_api_ErrRange), ("scrinium/api.ErrFull", laid_scrinium_api_ErrFull), ("scrinium/api.ErrNone", laid_scrinium_api_ErrNone), ("scrinium/api.ErrCorrupt", laid_scrinium_api_ErrCorrupt), ("scrinium/api.ErrFuel", laid_scrinium_api_ErrFuel), ("scrinium/api.ErrState", laid_scrinium_api_ErrState), ("scrinium/api.ErrLong", laid_scrinium_api_ErrLong), ("scrinium/api.ErrTwice", laid_scrinium_api_ErrTwice)] }
def LookupPathsSaid : Prop := lookupPathsRow.holds Tryz.pinned (OpenSpec.ofChange lookupPathsSpec)

/-- ITS FALSE NEIGHBOUR: 'it returns false'. Refute it at one input. -/
def lookupPathsWrong : ChangeSpec := { name := "lookupPaths", fn := fun _ => fun
  | [d1, d2] => { results := [.lit (.bool false)], args := [d1, d2] }
  | _ => none }
def LookupPathsWrongFalsely : Prop := lookupPathsRow.holds Tryz.pinned (OpenSpec.ofChange lookupPathsWrong)

/-- 'scriniumlaw11.LookupWalks': WHATEVER THE INPUT: true; the input reads as it did. -/
def lookupWalksSpec : ChangeSpec := { name := "lookupWalks", fn := fun _ => fun
  | [d] => { results := [.lit (.bool true)], args := [d] }
  | _ => none }
def lookupWalksRow : OpenClaim := { program := "ytmgfneijcfjlfaagreatdoor", sum := "c4295eaaa91b52ca080b081579518bf5b9975bc6df661d06d575d13563f7b52f", func := "scrinium/scriniumlaw11.LookupWalks", spec := "lookupWalks", unfollowed := true, recurses := true, named := ["scrinium/api.ErrRange", "scrinium/api.ErrState", "scrinium/api.ErrForm", "scrinium/api.ErrFull", "scrinium/api.ErrCorrupt"], apart := false, laid := [("scrinium/api.ErrForm", laid_scrinium_api_ErrForm), ("scrinium/api.ErrRange", laid_scrinium_api_ErrRange), ("scrinium/api.ErrFull", laid_scrinium_api_ErrFull), ("scrinium/api.ErrCorrupt", laid_scrinium_api_ErrCorrupt), ("scrinium/api.ErrState", laid_scrinium_api_ErrState)] }
def LookupWalksSaid : Prop := lookupWalksRow.holds Tryz.pinned (OpenSpec.ofChange lookupWalksSpec)

/-- ITS FALSE NEIGHBOUR: 'it returns false'. Refute it at one input. -/
def lookupWalksWrong : ChangeSpec := { name := "lookupWalks", fn := fun _ => fun
  | [d] => { results := [.lit (.bool false)], args := [d] }
  | _ => none }
def LookupWalksWrongFalsely : Prop := lookupWalksRow.holds Tryz.pinned (OpenSpec.ofChange lookupWalksWrong)

/-- 'scriniumlaw11.LookupRefuses': WHATEVER THE INPUT: true; the input reads as it did. -/
def lookupRefusesSpec : ChangeSpec := { name := "lookupRefuses", fn := fun _ => fun
  | [d1, d2] => { results := [.lit (.bool true)], args := [d1, d2] }
  | _ => none }
def lookupRefusesRow : OpenClaim := { program := "ytmgfneijcfjlfaagreatdoor", sum := "c4295eaaa91b52ca080b081579518bf5b9975bc6df661d06d575d13563f7b52f", func := "scrinium/scriniumlaw11.LookupRefuses", spec := "lookupRefuses", inPlace := ["internal/reflectlite.TypeOf"], unfollowed := true, recurses := true, named := ["scrinium/api.ErrRange", "scrinium/api.ErrState", "scrinium/api.ErrForm", "scrinium/api.ErrFull", "scrinium/api.ErrCorrupt", "scrinium/api.ErrNone", "scrinium/api.ErrFuel", "scrinium/api.ErrLong", "scrinium/api.ErrTwice"], apart := false, laid := [("scrinium/api.ErrForm", laid_scrinium_api_ErrForm), ("scrinium/api.ErrRange", laid_scrinium_api_ErrRange), ("scrinium/api.ErrFull", laid_scrinium_api_ErrFull), ("scrinium/api.ErrNone", laid_scrinium_api_ErrNone), ("scrinium/api.ErrCorrupt", laid_scrinium_api_ErrCorrupt), ("scrinium/api.ErrFuel", laid_scrinium_api_ErrFuel), ("scrinium/api.ErrState", laid_scrinium_api_ErrState), ("scrinium/api.ErrLong", laid_scrinium_api_ErrLong), ("scrinium/api.ErrTwice", laid_scrinium_api_ErrTwice)] }
def LookupRefusesSaid : Prop := lookupRefusesRow.holds Tryz.pinned (OpenSpec.ofChange lookupRefusesSpec)

/-- ITS FALSE NEIGHBOUR: 'it returns false'. Refute it at one input. -/
def lookupRefusesWrong : ChangeSpec := { name := "lookupRefuses", fn := fun _ => fun
  | [d1, d2] => { results := [.lit (.bool false)], args := [d1, d2] }
  | _ => none }
def LookupRefusesWrongFalsely : Prop := lookupRefusesRow.holds Tryz.pinned (OpenSpec.ofChange lookupRefusesWrong)

/-- 'scriniumlaw11.LookupLoads': WHATEVER THE INPUT: true; the input reads as it did. -/
def lookupLoadsSpec : ChangeSpec := { name := "lookupLoads", fn := fun _ => fun
  | [d] => { results := [.lit (.bool true)], args := [d] }
  | _ => none }
def lookupLoadsRow : OpenClaim := { program := "ytmgfneijcfjlfaagreatdoor", sum := "c4295eaaa91b52ca080b081579518bf5b9975bc6df661d06d575d13563f7b52f", func := "scrinium/scriniumlaw11.LookupLoads", spec := "lookupLoads", inPlace := ["internal/reflectlite.TypeOf", "internal/reflectlite.ValueOf", "(internal/reflectlite.Value).Type", "(internal/reflectlite.Value).IsNil", "(internal/reflectlite.Value).Elem", "(internal/reflectlite.Value).Set"], unfollowed := true, recurses := true, named := ["scrinium/api.ErrRange", "scrinium/api.ErrState", "scrinium/api.ErrForm", "scrinium/api.ErrFull", "scrinium/api.ErrCorrupt", "scrinium/api.ErrNone", "scrinium/api.ErrFuel", "scrinium/api.ErrLong", "scrinium/api.ErrTwice", "errors.errorType"], apart := false, laid := [("errors.errorType", laid_errors_errorType), ("scrinium/api.ErrForm", laid_scrinium_api_ErrForm), ("scrinium/api.ErrRange", laid_scrinium_api_ErrRange), ("scrinium/api.ErrFull", laid_scrinium_api_ErrFull), ("scrinium/api.ErrNone", laid_scrinium_api_ErrNone), ("scrinium/api.ErrCorrupt", laid_scrinium_api_ErrCorrupt), ("scrinium/api.ErrFuel", laid_scrinium_api_ErrFuel), ("scrinium/api.ErrState", laid_scrinium_api_ErrState), ("scrinium/api.ErrLong", laid_scrinium_api_ErrLong), ("scrinium/api.ErrTwice", laid_scrinium_api_ErrTwice)] }
def LookupLoadsSaid : Prop := lookupLoadsRow.holds Tryz.pinned (OpenSpec.ofChange lookupLoadsSpec)

/-- ITS FALSE NEIGHBOUR: 'it returns false'. Refute it at one input. -/
def lookupLoadsWrong : ChangeSpec := { name := "lookupLoads", fn := fun _ => fun
  | [d] => { results := [.lit (.bool false)], args := [d] }
  | _ => none }
def LookupLoadsWrongFalsely : Prop := lookupLoadsRow.holds Tryz.pinned (OpenSpec.ofChange lookupLoadsWrong)

/-- 'scriniumlaw11.LookupSpoilt': WHATEVER THE INPUT: true; the input reads as it did. -/
def lookupSpoiltSpec : ChangeSpec := { name := "lookupSpoilt", fn := fun _ => fun
  | [d1, d2, d3] => { results := [.lit (.bool true)], args := [d1, d2, d3] }
  | _ => none }
def lookupSpoiltRow : OpenClaim := { program := "ytmgfneijcfjlfaagreatdoor", sum := "c4295eaaa91b52ca080b081579518bf5b9975bc6df661d06d575d13563f7b52f", func := "scrinium/scriniumlaw11.LookupSpoilt", spec := "lookupSpoilt", inPlace := ["internal/reflectlite.TypeOf"], unfollowed := true, recurses := true, named := ["scrinium/api.ErrRange", "scrinium/api.ErrState", "scrinium/api.ErrForm", "scrinium/api.ErrFull", "scrinium/api.ErrCorrupt", "scrinium/api.ErrNone", "scrinium/api.ErrFuel", "scrinium/api.ErrLong", "scrinium/api.ErrTwice"], apart := false, laid := [("scrinium/api.ErrForm", laid_scrinium_api_ErrForm), ("scrinium/api.ErrRange", laid_scrinium_api_ErrRange), ("scrinium/api.ErrFull", laid_scrinium_api_ErrFull), ("scrinium/api.ErrNone", laid_scrinium_api_ErrNone), ("scrinium/api.ErrCorrupt", laid_scrinium_api_ErrCorrupt), ("scrinium/api.ErrFuel", laid_scrinium_api_ErrFuel), ("scrinium/api.ErrState", laid_scrinium_api_ErrState), ("scrinium/api.ErrLong", laid_scrinium_api_ErrLong), ("scrinium/api.ErrTwice", laid_scrinium_api_ErrTwice)] }
def LookupSpoiltSaid : Prop := lookupSpoiltRow.holds Tryz.pinned (OpenSpec.ofChange lookupSpoiltSpec)

/-- ITS FALSE NEIGHBOUR: 'it returns false'. Refute it at one input. -/
def lookupSpoiltWrong : ChangeSpec := { name := "lookupSpoilt", fn := fun _ => fun
  | [d1, d2, d3] => { results := [.lit (.bool false)], args := [d1, d2, d3] }
  | _ => none }
def LookupSpoiltWrongFalsely : Prop := lookupSpoiltRow.holds Tryz.pinned (OpenSpec.ofChange lookupSpoiltWrong)

/- THE SECOND FORM. 'bulk': how many values and letters a reading holds, each counted each time it is reached (what is shared counts as often as it is met; a slice's spare places count too). A statement '..UptoSaid' is the law's where the arguments, and the package variables that the reading takes, are together of bulk at most 1048576: NARROWER than '..Said'. Prove '..Said' where nothing that the law and all that it calls make is longer than what came in: it says more and counts as full. Else prove '..UptoSaid'. A law counts once. -/
mutual
def uptoBulk {H : Type} : DataW H → Nat
  | .lit (.string bytes) => bytes.length + 1
  | .lit _ => 1
  | .nil => 1
  | .ptr d => uptoBulk d + 1
  | .slice elems spare => uptoBulkAll elems + uptoBulkAll spare + 1
  | .agg parts => uptoBulkAll parts + 1
  | .iface _ d => uptoBulk d + 1
  | .map entries => uptoBulkEntries entries + 1
  | .held _ => 1
def uptoBulkAll {H : Type} : List (DataW H) → Nat
  | [] => 0
  | d :: r => uptoBulk d + uptoBulkAll r
def uptoBulkEntries {H : Type} : List (Lit × DataW H) → Nat
  | [] => 0
  | x :: r => uptoBulkEntry x + uptoBulkEntries r
def uptoBulkEntry {H : Type} : Lit × DataW H → Nat
  | (.string bytes, d) => bytes.length + uptoBulk d + 1
  | (_, d) => uptoBulk d + 1
 end
def uptoSmall : (H : Type) → List (DataW H) → Bool := fun _ ds => decide (uptoBulkAll ds ≤ 1048576)
def OpenSpec.upto (s : _root_.Go.ChangeSpec) : _root_.Go.OpenSpec := { _root_.Go.OpenSpec.ofChange s with cond := some uptoSmall }

/-- 'scriniumlaw11.LookupGets', WHERE WHAT IT READS IS OF BULK AT MOST 1048576: true; the input reads as it did. -/
def lookupGetsUptoRow : OpenClaim := { program := "ytmgfneijcfjlfaagreatdoor", sum := "c4295eaaa91b52ca080b081579518bf5b9975bc6df661d06d575d13563f7b52f", func := "scrinium/scriniumlaw11.LookupGets", spec := "lookupGets", inPlace := ["internal/reflectlite.TypeOf"], unfollowed := true, recurses := true, named := ["scrinium/api.ErrRange", "scrinium/api.ErrState", "scrinium/api.ErrForm", "scrinium/api.ErrFull", "scrinium/api.ErrCorrupt", "scrinium/api.ErrNone", "scrinium/api.ErrFuel", "scrinium/api.ErrLong", "scrinium/api.ErrTwice"], apart := false, laid := [("scrinium/api.ErrForm", laid_scrinium_api_ErrForm), ("scrinium/api.ErrRange", laid_scrinium_api_ErrRange), ("scrinium/api.ErrFull", laid_scrinium_api_ErrFull), ("scrinium/api.ErrNone", laid_scrinium_api_ErrNone), ("scrinium/api.ErrCorrupt", laid_scrinium_api_ErrCorrupt), ("scrinium/api.ErrFuel", laid_scrinium_api_ErrFuel), ("scrinium/api.ErrState", laid_scrinium_api_ErrState), ("scrinium/api.ErrLong", laid_scrinium_api_ErrLong), ("scrinium/api.ErrTwice", laid_scrinium_api_ErrTwice)], narrowed := true }
def LookupGetsUptoSaid : Prop := lookupGetsUptoRow.holds Tryz.pinned (OpenSpec.upto lookupGetsSpec)

/-- 'scriniumlaw11.LookupPaths', WHERE WHAT IT READS IS OF BULK AT MOST 1048576: true; the input reads as it did. -/
def lookupPathsUptoRow : OpenClaim := { program := "ytmgfneijcfjlfaagreatdoor", sum := "c4295eaaa91b52ca080b081579518bf5b9975bc6df661d06d575d13563f7b52f", func := "scrinium/scriniumlaw11.LookupPaths", spec := "lookupPaths", inPlace := ["internal/reflectlite.TypeOf"], unfollowed := true, recurses := true, named := ["scrinium/api.ErrRange", "scrinium/api.ErrState", "scrinium/api.ErrForm", "scrinium/api.ErrFull", "scrinium/api.ErrCorrupt", "scrinium/api.ErrNone", "scrinium/api.ErrFuel", "scrinium/api.ErrLong", "scrinium/api.ErrTwice"], apart := false, laid := [("scrinium/api.ErrForm", laid_scrinium_api_ErrForm), ("scrinium/api.ErrRange", laid_scrinium_api_ErrRange), ("scrinium/api.ErrFull", laid_scrinium_api_ErrFull), ("scrinium/api.ErrNone", laid_scrinium_api_ErrNone), ("scrinium/api.ErrCorrupt", laid_scrinium_api_ErrCorrupt), ("scrinium/api.ErrFuel", laid_scrinium_api_ErrFuel), ("scrinium/api.ErrState", laid_scrinium_api_ErrState), ("scrinium/api.ErrLong", laid_scrinium_api_ErrLong), ("scrinium/api.ErrTwice", laid_scrinium_api_ErrTwice)], narrowed := true }
def LookupPathsUptoSaid : Prop := lookupPathsUptoRow.holds Tryz.pinned (OpenSpec.upto lookupPathsSpec)

/-- 'scriniumlaw11.LookupWalks', WHERE WHAT IT READS IS OF BULK AT MOST 1048576: true; the input reads as it did. -/
def lookupWalksUptoRow : OpenClaim := { program := "ytmgfneijcfjlfaagreatdoor", sum := "c4295eaaa91b52ca080b081579518bf5b9975bc6df661d06d575d13563f7b52f", func := "scrinium/scriniumlaw11.LookupWalks", spec := "lookupWalks", unfollowed := true, recurses := true, named := ["scrinium/api.ErrRange", "scrinium/api.ErrState", "scrinium/api.ErrForm", "scrinium/api.ErrFull", "scrinium/api.ErrCorrupt"], apart := false, laid := [("scrinium/api.ErrForm", laid_scrinium_api_ErrForm), ("scrinium/api.ErrRange", laid_scrinium_api_ErrRange), ("scrinium/api.ErrFull", laid_scrinium_api_ErrFull), ("scrinium/api.ErrCorrupt", laid_scrinium_api_ErrCorrupt), ("scrinium/api.ErrState", laid_scrinium_api_ErrState)], narrowed := true }
def LookupWalksUptoSaid : Prop := lookupWalksUptoRow.holds Tryz.pinned (OpenSpec.upto lookupWalksSpec)

/-- 'scriniumlaw11.LookupRefuses', WHERE WHAT IT READS IS OF BULK AT MOST 1048576: true; the input reads as it did. -/
def lookupRefusesUptoRow : OpenClaim := { program := "ytmgfneijcfjlfaagreatdoor", sum := "c4295eaaa91b52ca080b081579518bf5b9975bc6df661d06d575d13563f7b52f", func := "scrinium/scriniumlaw11.LookupRefuses", spec := "lookupRefuses", inPlace := ["internal/reflectlite.TypeOf"], unfollowed := true, recurses := true, named := ["scrinium/api.ErrRange", "scrinium/api.ErrState", "scrinium/api.ErrForm", "scrinium/api.ErrFull", "scrinium/api.ErrCorrupt", "scrinium/api.ErrNone", "scrinium/api.ErrFuel", "scrinium/api.ErrLong", "scrinium/api.ErrTwice"], apart := false, laid := [("scrinium/api.ErrForm", laid_scrinium_api_ErrForm), ("scrinium/api.ErrRange", laid_scrinium_api_ErrRange), ("scrinium/api.ErrFull", laid_scrinium_api_ErrFull), ("scrinium/api.ErrNone", laid_scrinium_api_ErrNone), ("scrinium/api.ErrCorrupt", laid_scrinium_api_ErrCorrupt), ("scrinium/api.ErrFuel", laid_scrinium_api_ErrFuel), ("scrinium/api.ErrState", laid_scrinium_api_ErrState), ("scrinium/api.ErrLong", laid_scrinium_api_ErrLong), ("scrinium/api.ErrTwice", laid_scrinium_api_ErrTwice)], narrowed := true }
def LookupRefusesUptoSaid : Prop := lookupRefusesUptoRow.holds Tryz.pinned (OpenSpec.upto lookupRefusesSpec)

/-- 'scriniumlaw11.LookupLoads', WHERE WHAT IT READS IS OF BULK AT MOST 1048576: true; the input reads as it did. -/
def lookupLoadsUptoRow : OpenClaim := { program := "ytmgfneijcfjlfaagreatdoor", sum := "c4295eaaa91b52ca080b081579518bf5b9975bc6df661d06d575d13563f7b52f", func := "scrinium/scriniumlaw11.LookupLoads", spec := "lookupLoads", inPlace := ["internal/reflectlite.TypeOf", "internal/reflectlite.ValueOf", "(internal/reflectlite.Value).Type", "(internal/reflectlite.Value).IsNil", "(internal/reflectlite.Value).Elem", "(internal/reflectlite.Value).Set"], unfollowed := true, recurses := true, named := ["scrinium/api.ErrRange", "scrinium/api.ErrState", "scrinium/api.ErrForm", "scrinium/api.ErrFull", "scrinium/api.ErrCorrupt", "scrinium/api.ErrNone", "scrinium/api.ErrFuel", "scrinium/api.ErrLong", "scrinium/api.ErrTwice", "errors.errorType"], apart := false, laid := [("errors.errorType", laid_errors_errorType), ("scrinium/api.ErrForm", laid_scrinium_api_ErrForm), ("scrinium/api.ErrRange", laid_scrinium_api_ErrRange), ("scrinium/api.ErrFull", laid_scrinium_api_ErrFull), ("scrinium/api.ErrNone", laid_scrinium_api_ErrNone), ("scrinium/api.ErrCorrupt", laid_scrinium_api_ErrCorrupt), ("scrinium/api.ErrFuel", laid_scrinium_api_ErrFuel), ("scrinium/api.ErrState", laid_scrinium_api_ErrState), ("scrinium/api.ErrLong", laid_scrinium_api_ErrLong), ("scrinium/api.ErrTwice", laid_scrinium_api_ErrTwice)], narrowed := true }
def LookupLoadsUptoSaid : Prop := lookupLoadsUptoRow.holds Tryz.pinned (OpenSpec.upto lookupLoadsSpec)

/-- 'scriniumlaw11.LookupSpoilt', WHERE WHAT IT READS IS OF BULK AT MOST 1048576: true; the input reads as it did. -/
def lookupSpoiltUptoRow : OpenClaim := { program := "ytmgfneijcfjlfaagreatdoor", sum := "c4295eaaa91b52ca080b081579518bf5b9975bc6df661d06d575d13563f7b52f", func := "scrinium/scriniumlaw11.LookupSpoilt", spec := "lookupSpoilt", inPlace := ["internal/reflectlite.TypeOf"], unfollowed := true, recurses := true, named := ["scrinium/api.ErrRange", "scrinium/api.ErrState", "scrinium/api.ErrForm", "scrinium/api.ErrFull", "scrinium/api.ErrCorrupt", "scrinium/api.ErrNone", "scrinium/api.ErrFuel", "scrinium/api.ErrLong", "scrinium/api.ErrTwice"], apart := false, laid := [("scrinium/api.ErrForm", laid_scrinium_api_ErrForm), ("scrinium/api.ErrRange", laid_scrinium_api_ErrRange), ("scrinium/api.ErrFull", laid_scrinium_api_ErrFull), ("scrinium/api.ErrNone", laid_scrinium_api_ErrNone), ("scrinium/api.ErrCorrupt", laid_scrinium_api_ErrCorrupt), ("scrinium/api.ErrFuel", laid_scrinium_api_ErrFuel), ("scrinium/api.ErrState", laid_scrinium_api_ErrState), ("scrinium/api.ErrLong", laid_scrinium_api_ErrLong), ("scrinium/api.ErrTwice", laid_scrinium_api_ErrTwice)], narrowed := true }
def LookupSpoiltUptoSaid : Prop := lookupSpoiltUptoRow.holds Tryz.pinned (OpenSpec.upto lookupSpoiltSpec)

end Rows
end Go.Proofs.YtmgfneijcfjlfaaGreatDoor
