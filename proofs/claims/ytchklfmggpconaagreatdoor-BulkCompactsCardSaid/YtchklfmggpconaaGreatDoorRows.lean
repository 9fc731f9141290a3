/-
  NARROWER THAN 'FOR EVERY INPUT', by the rows' own cells (each row's printed sentence says how): BulkHeavy: laid · BulkDiffs: laid · BulkLoads: laid · BulkCompacts: laid · BulkRefuses: laid.
  DERIVED. THE GIVEN ROWS OF THIS SEAT. 5 by the template 'for every input the law returns true; each argument reads behind the call as it read before'; 0 by the template 'total and deterministic' (their statements: YtchklfmggpconaaGreatDoorTotals.lean).
  GIVEN WITH THE SEED: the statements are not yours to turn. If you find one false, say at which input.
  Laid BY PROGRAM, IN A SANDBOX (cutbox-rows.mjs): the forced cells as the released guide's own fill.sh prints them over the translation e1582351cea7ff17… (all of the seat's roots in one cut). By AI agents, Wed Nov 11 2026. No macro, syntax, notation, axiom, sorry.
-/
import Derived.Test.YtchklfmggpconaaGreatDoorChecked
import GoSem.Claim
import GoSem.ClaimJoined
import GoSem.ClaimMapViews
import Derived.JoinedTies
import Derived.KernelRfl
namespace Go.Proofs.YtchklfmggpconaaGreatDoor
/- THE CELL 'sum', in the pinned program and in every row, IS THE sha256 OF THE DUMP (.gsa) THAT YtchklfmggpconaaGreatDoorProg.lean LOADS. Nothing in Lean hashes anything: it is a label: what it is worth is what the hold of that sum in a sandbox is worth. -/
noncomputable def Tryz.pinned : Pinned := { name := "ytchklfmggpconaagreatdoor", sum := "e1582351cea7ff175b1a76fd59d415ea45465d4779da2795eee6e4bab87835fc", checked := Tryz.checked }
namespace Rows
def none {H : Type} : Left H := { results := [], args := [] }

/- WHAT THE LISTED PACKAGE-LEVEL VARIABLES READ AS WHEN THE CALL BEGINS. Each datum BY PROGRAM (the guide's laid-datum.mjs) off the statement by which the dump's own 'gosem.cut.vars' lays the variable. In a bare row this is a premise. The card (YtchklfmggpconaaGreatDoorCards.lean) ties it to the program's text. -/
def laid_scrinium_api_ErrForm {H : Type} : DataW H := .iface "*errors.errorString" (.ptr (.agg [.lit (.string [102, 111, 114, 109])]))
def laid_scrinium_api_ErrRange {H : Type} : DataW H := .iface "*errors.errorString" (.ptr (.agg [.lit (.string [114, 97, 110, 103, 101])]))
def laid_scrinium_api_ErrFull {H : Type} : DataW H := .iface "*errors.errorString" (.ptr (.agg [.lit (.string [102, 117, 108, 108])]))
def laid_scrinium_api_ErrCorrupt {H : Type} : DataW H := .iface "*errors.errorString" (.ptr (.agg [.lit (.string [99, 111, 114, 114, 117, 112, 116])]))
def laid_scrinium_api_ErrState {H : Type} : DataW H := .iface "*errors.errorString" (.ptr (.agg [.lit (.string [115, 116, 97, 116, 101])]))
def laid_scrinium_api_ErrLong {H : Type} : DataW H := .iface "*errors.errorString" (.ptr (.agg [.lit (.string [108, 111, 110, 103])]))
def laid_scrinium_api_ErrNone {H : Type} : DataW H := .iface "*errors.errorString" (.ptr (.agg [.lit (.string [110, 111, 110, 101])]))
def laid_scrinium_api_ErrFuel {H : Type} : DataW H := .iface "*errors.errorString" (.ptr (.agg [.lit (.string [102, 117, 101, 108])]))
def laid_scrinium_api_ErrTwice {H : Type} : DataW H := .iface "*errors.errorString" (.ptr (.agg [.lit (.string [116, 119, 105, 99, 101])]))

/-- 'scriniumlaw15.BulkHeavy': WHATEVER THE INPUT: true; the input reads as it did. -/
def bulkHeavySpec : ChangeSpec := { name := "bulkHeavy", fn := fun _ => fun
  | [d] => { results := [.lit (.bool true)], args := [d] }
  | _ => none }
def bulkHeavyRow : OpenClaim := { program := "ytchklfmggpconaagreatdoor", sum := "e1582351cea7ff175b1a76fd59d415ea45465d4779da2795eee6e4bab87835fc", func := "scrinium/scriniumlaw15.BulkHeavy", spec := "bulkHeavy", unfollowed := true, recurses := true, named := ["scrinium/api.ErrRange", "scrinium/api.ErrState", "scrinium/api.ErrForm", "scrinium/api.ErrLong", "scrinium/api.ErrFull", "scrinium/api.ErrCorrupt"], apart := false, laid := [("scrinium/api.ErrForm", laid_scrinium_api_ErrForm), ("scrinium/api.ErrRange", laid_scrinium_api_ErrRange), ("scrinium/api.ErrFull", laid_scrinium_api_ErrFull), ("scrinium/api.ErrCorrupt", laid_scrinium_api_ErrCorrupt), ("scrinium/api.ErrState", laid_scrinium_api_ErrState), ("scrinium/api.ErrLong", laid_scrinium_api_ErrLong)] }
def BulkHeavySaid : Prop := bulkHeavyRow.holds Tryz.pinned (OpenSpec.ofChange bulkHeavySpec)

/-- ITS FALSE NEIGHBOUR: 'it returns false'. Refute it at one input. -/
def bulkHeavyWrong : ChangeSpec := { name := "bulkHeavy", fn := fun _ => fun
  | [d] => { results := [.lit (.bool false)], args := [d] }
  | _ => none }
def BulkHeavyWrongFalsely : Prop := bulkHeavyRow.holds Tryz.pinned (OpenSpec.ofChange bulkHeavyWrong)

/-- 'scriniumlaw15.BulkDiffs': WHATEVER THE INPUT: true; the input reads as it did. -/
def bulkDiffsSpec : ChangeSpec := { name := "bulkDiffs", fn := fun _ => fun
  | [d1, d2] => { results := [.lit (.bool true)], args := [d1, d2] }
  | _ => none }
def bulkDiffsRow : OpenClaim := { program := "ytchklfmggpconaagreatdoor", sum := "e1582351cea7ff175b1a76fd59d415ea45465d4779da2795eee6e4bab87835fc", func := "scrinium/scriniumlaw15.BulkDiffs", spec := "bulkDiffs", unfollowed := true, recurses := true, named := ["scrinium/api.ErrRange", "scrinium/api.ErrState", "scrinium/api.ErrForm", "scrinium/api.ErrLong", "scrinium/api.ErrFull", "scrinium/api.ErrCorrupt"], apart := false, laid := [("scrinium/api.ErrForm", laid_scrinium_api_ErrForm), ("scrinium/api.ErrRange", laid_scrinium_api_ErrRange), ("scrinium/api.ErrFull", laid_scrinium_api_ErrFull), ("scrinium/api.ErrCorrupt", laid_scrinium_api_ErrCorrupt), ("scrinium/api.ErrState", laid_scrinium_api_ErrState), ("scrinium/api.ErrLong", laid_scrinium_api_ErrLong)] }
def BulkDiffsSaid : Prop := bulkDiffsRow.holds Tryz.pinned (OpenSpec.ofChange bulkDiffsSpec)

/-- ITS FALSE NEIGHBOUR: 'it returns false'. Refute it at one input. -/
def bulkDiffsWrong : ChangeSpec := { name := "bulkDiffs", fn := fun _ => fun
  | [d1, d2] => { results := [.lit (.bool false)], args := [d1, d2] }
  | _ => none }
def BulkDiffsWrongFalsely : Prop := bulkDiffsRow.holds Tryz.pinned (OpenSpec.ofChange bulkDiffsWrong)

/-- 'scriniumlaw15.BulkLoads': WHATEVER THE INPUT: true; the input reads as it did. -/
def bulkLoadsSpec : ChangeSpec := { name := "bulkLoads", fn := fun _ => fun
  | [d] => { results := [.lit (.bool true)], args := [d] }
  | _ => none }
def bulkLoadsRow : OpenClaim := { program := "ytchklfmggpconaagreatdoor", sum := "e1582351cea7ff175b1a76fd59d415ea45465d4779da2795eee6e4bab87835fc", func := "scrinium/scriniumlaw15.BulkLoads", spec := "bulkLoads", unfollowed := true, recurses := true, named := ["scrinium/api.ErrRange", "scrinium/api.ErrState", "scrinium/api.ErrForm", "scrinium/api.ErrLong", "scrinium/api.ErrFull", "scrinium/api.ErrCorrupt"], apart := false, laid := [("scrinium/api.ErrForm", laid_scrinium_api_ErrForm), ("scrinium/api.ErrRange", laid_scrinium_api_ErrRange), ("scrinium/api.ErrFull", laid_scrinium_api_ErrFull), ("scrinium/api.ErrCorrupt", laid_scrinium_api_ErrCorrupt), ("scrinium/api.ErrState", laid_scrinium_api_ErrState), ("scrinium/api.ErrLong", laid_scrinium_api_ErrLong)] }
def BulkLoadsSaid : Prop := bulkLoadsRow.holds Tryz.pinned (OpenSpec.ofChange bulkLoadsSpec)

/-- ITS FALSE NEIGHBOUR: 'it returns false'. Refute it at one input. -/
def bulkLoadsWrong : ChangeSpec := { name := "bulkLoads", fn := fun _ => fun
  | [d] => { results := [.lit (.bool false)], args := [d] }
  | _ => none }
def BulkLoadsWrongFalsely : Prop := bulkLoadsRow.holds Tryz.pinned (OpenSpec.ofChange bulkLoadsWrong)

/-- 'scriniumlaw15.BulkCompacts': WHATEVER THE INPUT: true; the input reads as it did. -/
def bulkCompactsSpec : ChangeSpec := { name := "bulkCompacts", fn := fun _ => fun
  | [d] => { results := [.lit (.bool true)], args := [d] }
  | _ => none }
def bulkCompactsRow : OpenClaim := { program := "ytchklfmggpconaagreatdoor", sum := "e1582351cea7ff175b1a76fd59d415ea45465d4779da2795eee6e4bab87835fc", func := "scrinium/scriniumlaw15.BulkCompacts", spec := "bulkCompacts", unfollowed := true, recurses := true, named := ["scrinium/api.ErrRange", "scrinium/api.ErrState", "scrinium/api.ErrLong", "scrinium/api.ErrCorrupt", "scrinium/api.ErrFull", "scrinium/api.ErrForm"], apart := false, laid := [("scrinium/api.ErrForm", laid_scrinium_api_ErrForm), ("scrinium/api.ErrRange", laid_scrinium_api_ErrRange), ("scrinium/api.ErrFull", laid_scrinium_api_ErrFull), ("scrinium/api.ErrCorrupt", laid_scrinium_api_ErrCorrupt), ("scrinium/api.ErrState", laid_scrinium_api_ErrState), ("scrinium/api.ErrLong", laid_scrinium_api_ErrLong)] }
def BulkCompactsSaid : Prop := bulkCompactsRow.holds Tryz.pinned (OpenSpec.ofChange bulkCompactsSpec)

/-- ITS FALSE NEIGHBOUR: 'it returns false'. Refute it at one input. -/
def bulkCompactsWrong : ChangeSpec := { name := "bulkCompacts", fn := fun _ => fun
  | [d] => { results := [.lit (.bool false)], args := [d] }
  | _ => none }
def BulkCompactsWrongFalsely : Prop := bulkCompactsRow.holds Tryz.pinned (OpenSpec.ofChange bulkCompactsWrong)

/-- 'scriniumlaw15.BulkRefuses': WHATEVER THE INPUT: true; the input reads as it did. -/
def bulkRefusesSpec : ChangeSpec := { name := "bulkRefuses", fn := fun _ => fun
  | [d1, d2, d3] => { results := [.lit (.bool true)], args := [d1, d2, d3] }
  | _ => none }
def bulkRefusesRow : OpenClaim := { program := "ytchklfmggpconaagreatdoor", sum := "e1582351cea7ff175b1a76fd59d415ea45465d4779da2795eee6e4bab87835fc", func := "scrinium/scriniumlaw15.BulkRefuses", spec := "bulkRefuses", inPlace := ["internal/reflectlite.TypeOf"], unfollowed := true, recurses := true, named := ["scrinium/api.ErrRange", "scrinium/api.ErrState", "scrinium/api.ErrForm", "scrinium/api.ErrLong", "scrinium/api.ErrFull", "scrinium/api.ErrNone", "scrinium/api.ErrCorrupt", "scrinium/api.ErrFuel", "scrinium/api.ErrTwice"], apart := false, laid := [("scrinium/api.ErrForm", laid_scrinium_api_ErrForm), ("scrinium/api.ErrRange", laid_scrinium_api_ErrRange), ("scrinium/api.ErrFull", laid_scrinium_api_ErrFull), ("scrinium/api.ErrNone", laid_scrinium_api_ErrNone), ("scrinium/api.ErrCorrupt", laid_scrinium_api_ErrCorrupt), ("scrinium/api.ErrFuel", laid_scrinium_api_ErrFuel), ("scrinium/api.ErrState", laid_scrinium_api_ErrState), ("scrinium/api.ErrLong", laid_scrinium_api_ErrLong), ("scrinium/api.ErrTwice", laid_scrinium_api_ErrTwice)] }
def BulkRefusesSaid : Prop := bulkRefusesRow.holds Tryz.pinned (OpenSpec.ofChange bulkRefusesSpec)

/-- ITS FALSE NEIGHBOUR: 'it returns false'. Refute it at one input. -/
def bulkRefusesWrong : ChangeSpec := { name := "bulkRefuses", fn := fun _ => fun
  | [d1, d2, d3] => { results := [.lit (.bool false)], args := [d1, d2, d3] }
  | _ => none }
def BulkRefusesWrongFalsely : Prop := bulkRefusesRow.holds Tryz.pinned (OpenSpec.ofChange bulkRefusesWrong)

/- THE SECOND FORM. 'bulk': how many values and letters a reading holds, each counted each time it is reached (what is shared counts as often as it is met; a slice's spare places count too). A statement '..UptoSaid' is the law's where the arguments, and the package variables that the reading takes, are together of bulk at most 1048576: NARROWER than '..Said'. Prove '..Said' where nothing that the law and all that it calls make is longer than what came in: it says more and counts as full. Else prove '..UptoSaid'. A law counts once. -/
mutual
def uptoBulk {H : Type} : DataW H → Nat
  | .lit (.string bytes) => bytes.length + 1
  | .lit _ => 1
  | .nil => 1
  | .ptr d => uptoBulk d + 1
  | .slice elems spare => uptoBulkAll elems + uptoBulkAll spare + 1
  | .agg parts => uptoBulkAll parts + 1
  | .iface _ d => uptoBulk d + 1
  | .map entries => uptoBulkEntries entries + 1
  | .held _ => 1
def uptoBulkAll {H : Type} : List (DataW H) → Nat
  | [] => 0
  | d :: r => uptoBulk d + uptoBulkAll r
def uptoBulkEntries {H : Type} : List (Lit × DataW H) → Nat
  | [] => 0
  | x :: r => uptoBulkEntry x + uptoBulkEntries r
def uptoBulkEntry {H : Type} : Lit × DataW H → Nat
  | (.string bytes, d) => bytes.length + uptoBulk d + 1
  | (_, d) => uptoBulk d + 1
 end
def uptoSmall : (H : Type) → List (DataW H) → Bool := fun _ ds => decide (uptoBulkAll ds ≤ 1048576)
def OpenSpec.upto (s : _root_.Go.ChangeSpec) : _root_.Go.OpenSpec := { _root_.Go.OpenSpec.ofChange s with cond := some uptoSmall }

/-- 'scriniumlaw15.BulkHeavy', WHERE WHAT IT READS IS OF BULK AT MOST 1048576: true; the input reads as it did. -/
def bulkHeavyUptoRow : OpenClaim := { program := "ytchklfmggpconaagreatdoor", sum := "e1582351cea7ff175b1a76fd59d415ea45465d4779da2795eee6e4bab87835fc", func := "scrinium/scriniumlaw15.BulkHeavy", spec := "bulkHeavy", unfollowed := true, recurses := true, named := ["scrinium/api.ErrRange", "scrinium/api.ErrState", "scrinium/api.ErrForm", "scrinium/api.ErrLong", "scrinium/api.ErrFull", "scrinium/api.ErrCorrupt"], apart := false, laid := [("scrinium/api.ErrForm", laid_scrinium_api_ErrForm), ("scrinium/api.ErrRange", laid_scrinium_api_ErrRange), ("scrinium/api.ErrFull", laid_scrinium_api_ErrFull), ("scrinium/api.ErrCorrupt", laid_scrinium_api_ErrCorrupt), ("scrinium/api.ErrState", laid_scrinium_api_ErrState), ("scrinium/api.ErrLong", laid_scrinium_api_ErrLong)], narrowed := true }
def BulkHeavyUptoSaid : Prop := bulkHeavyUptoRow.holds Tryz.pinned (OpenSpec.upto bulkHeavySpec)

/-- 'scriniumlaw15.BulkDiffs', WHERE WHAT IT READS IS OF BULK AT MOST 1048576: true; the input reads as it did. -/
def bulkDiffsUptoRow : OpenClaim := { program := "ytchklfmggpconaagreatdoor", sum := "e1582351cea7ff175b1a76fd59d415ea45465d4779da2795eee6e4bab87835fc", func := "scrinium/scriniumlaw15.BulkDiffs", spec := "bulkDiffs", unfollowed := true, recurses := true, named := ["scrinium/api.ErrRange", "scrinium/api.ErrState", "scrinium/api.ErrForm", "scrinium/api.ErrLong", "scrinium/api.ErrFull", "scrinium/api.ErrCorrupt"], apart := false, laid := [("scrinium/api.ErrForm", laid_scrinium_api_ErrForm), ("scrinium/api.ErrRange", laid_scrinium_api_ErrRange), ("scrinium/api.ErrFull", laid_scrinium_api_ErrFull), ("scrinium/api.ErrCorrupt", laid_scrinium_api_ErrCorrupt), ("scrinium/api.ErrState", laid_scrinium_api_ErrState), ("scrinium/api.ErrLong", laid_scrinium_api_ErrLong)], narrowed := true }
def BulkDiffsUptoSaid : Prop := bulkDiffsUptoRow.holds Tryz.pinned (OpenSpec.upto bulkDiffsSpec)

/-- 'scriniumlaw15.BulkLoads', WHERE WHAT IT READS IS OF BULK AT MOST 1048576: true; the input reads as it did. -/
def bulkLoadsUptoRow : OpenClaim := { program := "ytchklfmggpconaagreatdoor", sum := "e1582351cea7ff175b1a76fd59d415ea45465d4779da2795eee6e4bab87835fc", func := "scrinium/scriniumlaw15.BulkLoads", spec := "bulkLoads", unfollowed := true, recurses := true, named := ["scrinium/api.ErrRange", "scrinium/api.ErrState", "scrinium/api.ErrForm", "scrinium/api.ErrLong", "scrinium/api.ErrFull", "scrinium/api.ErrCorrupt"], apart := false, laid := [("scrinium/api.ErrForm", laid_scrinium_api_ErrForm), ("scrinium/api.ErrRange", laid_scrinium_api_ErrRange), ("scrinium/api.ErrFull", laid_scrinium_api_ErrFull), ("scrinium/api.ErrCorrupt", laid_scrinium_api_ErrCorrupt), ("scrinium/api.ErrState", laid_scrinium_api_ErrState), ("scrinium/api.ErrLong", laid_scrinium_api_ErrLong)], narrowed := true }
def BulkLoadsUptoSaid : Prop := bulkLoadsUptoRow.holds Tryz.pinned (OpenSpec.upto bulkLoadsSpec)

/-- 'scriniumlaw15.BulkCompacts', WHERE WHAT IT READS IS OF BULK AT MOST 1048576: true; the input reads as it did. -/
def bulkCompactsUptoRow : OpenClaim := { program := "ytchklfmggpconaagreatdoor", sum := "e1582351cea7ff175b1a76fd59d415ea45465d4779da2795eee6e4bab87835fc", func := "scrinium/scriniumlaw15.BulkCompacts", spec := "bulkCompacts", unfollowed := true, recurses := true, named := ["scrinium/api.ErrRange", "scrinium/api.ErrState", "scrinium/api.ErrLong", "scrinium/api.ErrCorrupt", "scrinium/api.ErrFull", "scrinium/api.ErrForm"], apart := false, laid := [("scrinium/api.ErrForm", laid_scrinium_api_ErrForm), ("scrinium/api.ErrRange", laid_scrinium_api_ErrRange), ("scrinium/api.ErrFull", laid_scrinium_api_ErrFull), ("scrinium/api.ErrCorrupt", laid_scrinium_api_ErrCorrupt), ("scrinium/api.ErrState", laid_scrinium_api_ErrState), ("scrinium/api.ErrLong", laid_scrinium_api_ErrLong)], narrowed := true }
def BulkCompactsUptoSaid : Prop := bulkCompactsUptoRow.holds Tryz.pinned (OpenSpec.upto bulkCompactsSpec)

/-- 'scriniumlaw15.BulkRefuses', WHERE WHAT IT READS IS OF BULK AT MOST 1048576: true; the input reads as it did. -/
def bulkRefusesUptoRow : OpenClaim := { program := "ytchklfmggpconaagreatdoor", sum := "e1582351cea7ff175b1a76fd59d415ea45465d4779da2795eee6e4bab87835fc", func := "scrinium/scriniumlaw15.BulkRefuses", spec := "bulkRefuses", inPlace := ["internal/reflectlite.TypeOf"], unfollowed := true, recurses := true, named := ["scrinium/api.ErrRange", "scrinium/api.ErrState", "scrinium/api.ErrForm", "scrinium/api.ErrLong", "scrinium/api.ErrFull", "scrinium/api.ErrNone", "scrinium/api.ErrCorrupt", "scrinium/api.ErrFuel", "scrinium/api.ErrTwice"], apart := false, laid := [("scrinium/api.ErrForm", laid_scrinium_api_ErrForm), ("scrinium/api.ErrRange", laid_scrinium_api_ErrRange), ("scrinium/api.ErrFull", laid_scrinium_api_ErrFull), ("scrinium/api.ErrNone", laid_scrinium_api_ErrNone), ("scrinium/api.ErrCorrupt", laid_scrinium_api_ErrCorrupt), ("scrinium/api.ErrFuel", laid_scrinium_api_ErrFuel), ("scrinium/api.ErrState", laid_scrinium_api_ErrState), ("scrinium/api.ErrLong", laid_scrinium_api_ErrLong), ("scrinium/api.ErrTwice", laid_scrinium_api_ErrTwice)], narrowed := true }
def BulkRefusesUptoSaid : Prop := bulkRefusesUptoRow.holds Tryz.pinned (OpenSpec.upto bulkRefusesSpec)

end Rows
end Go.Proofs.YtchklfmggpconaaGreatDoor
