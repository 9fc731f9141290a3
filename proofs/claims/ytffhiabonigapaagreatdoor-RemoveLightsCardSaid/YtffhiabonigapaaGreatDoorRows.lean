/-
  NARROWER THAN 'FOR EVERY INPUT', by the rows' own cells (each row's printed sentence says how): InsertCuts: laid · InsertRefuses: laid · InsertDowns: laid · RemoveLights: laid · RemoveJoins: laid · InsertPlays: laid · InsertKeeps: laid · InsertFull: laid · RemoveRefuses: laid.
  DERIVED. THE GIVEN ROWS OF THIS SEAT. 9 by the template 'for every input the law returns true; each argument reads behind the call as it read before'; 0 by the template 'total and deterministic' (their statements: YtffhiabonigapaaGreatDoorTotals.lean).
  GIVEN WITH THE SEED: the statements are not yours to turn. If you find one false, say at which input.
  Laid BY PROGRAM, IN A SANDBOX (cutbox-rows.mjs): the forced cells as the released guide's own fill.sh prints them over the translation 4736684fbac47b30… (all of the seat's roots in one cut). By AI agents, Wed Nov 11 2026. No macro, syntax, notation, axiom, sorry.
-/
import Derived.Test.YtffhiabonigapaaGreatDoorChecked
import GoSem.Claim
import GoSem.ClaimJoined
import GoSem.ClaimMapViews
import Derived.JoinedTies
import Derived.KernelRfl
namespace Go.Proofs.YtffhiabonigapaaGreatDoor
/- THE CELL 'sum', in the pinned program and in every row, IS THE sha256 OF THE DUMP (.gsa) THAT YtffhiabonigapaaGreatDoorProg.lean LOADS. Nothing in Lean hashes anything: it is a label: what it is worth is what the hold of that sum in a sandbox is worth. -/
noncomputable def Tryz.pinned : Pinned := { name := "ytffhiabonigapaagreatdoor", sum := "4736684fbac47b30e3d347275bf8449295ff882c62ed00486a5100a416b0681f", checked := Tryz.checked }
namespace Rows
def none {H : Type} : Left H := { results := [], args := [] }

/- WHAT THE LISTED PACKAGE-LEVEL VARIABLES READ AS WHEN THE CALL BEGINS. Each datum BY PROGRAM (the guide's laid-datum.mjs) off the statement by which the dump's own 'gosem.cut.vars' lays the variable. In a bare row this is a premise. The card (YtffhiabonigapaaGreatDoorCards.lean) ties it to the program's text. -/
def laid_scrinium_api_ErrForm {H : Type} : DataW H := .iface "*errors.errorString" (.ptr (.agg [.lit (.string [102, 111, 114, 109])]))
def laid_scrinium_api_ErrRange {H : Type} : DataW H := .iface "*errors.errorString" (.ptr (.agg [.lit (.string [114, 97, 110, 103, 101])]))
def laid_scrinium_api_ErrFull {H : Type} : DataW H := .iface "*errors.errorString" (.ptr (.agg [.lit (.string [102, 117, 108, 108])]))
def laid_scrinium_api_ErrCorrupt {H : Type} : DataW H := .iface "*errors.errorString" (.ptr (.agg [.lit (.string [99, 111, 114, 114, 117, 112, 116])]))
def laid_scrinium_api_ErrState {H : Type} : DataW H := .iface "*errors.errorString" (.ptr (.agg [.lit (.string [115, 116, 97, 116, 101])]))
def laid_scrinium_api_ErrLong {H : Type} : DataW H := .iface "*errors.errorString" (.ptr (.agg [.lit (.string [108, 111, 110, 103])]))
def laid_scrinium_api_ErrNone {H : Type} : DataW H := .iface "*errors.errorString" (.ptr (.agg [.lit (.string [110, 111, 110, 101])]))
def laid_scrinium_api_ErrFuel {H : Type} : DataW H := .iface "*errors.errorString" (.ptr (.agg [.lit (.string [102, 117, 101, 108])]))
def laid_scrinium_api_ErrTwice {H : Type} : DataW H := .iface "*errors.errorString" (.ptr (.agg [.lit (.string [116, 119, 105, 99, 101])]))

/-- 'scriniumlaw13.InsertCuts': WHATEVER THE INPUT: true; the input reads as it did. -/
def insertCutsSpec : ChangeSpec := { name := "insertCuts", fn := fun _ => fun
  | [d1, d2] => { results := [.lit (.bool true)], args := [d1, d2] }
  | _ => none }
def insertCutsRow : OpenClaim := { program := "ytffhiabonigapaagreatdoor", sum := "4736684fbac47b30e3d347275bf8449295ff882c62ed00486a5100a416b0681f", func := "scrinium/scriniumlaw13.InsertCuts", spec := "insertCuts", unfollowed := true, recurses := true, named := ["scrinium/api.ErrRange", "scrinium/api.ErrState", "scrinium/api.ErrLong", "scrinium/api.ErrCorrupt", "scrinium/api.ErrFull", "scrinium/api.ErrForm"], apart := false, laid := [("scrinium/api.ErrForm", laid_scrinium_api_ErrForm), ("scrinium/api.ErrRange", laid_scrinium_api_ErrRange), ("scrinium/api.ErrFull", laid_scrinium_api_ErrFull), ("scrinium/api.ErrCorrupt", laid_scrinium_api_ErrCorrupt), ("scrinium/api.ErrState", laid_scrinium_api_ErrState), ("scrinium/api.ErrLong", laid_scrinium_api_ErrLong)] }
def InsertCutsSaid : Prop := insertCutsRow.holds Tryz.pinned (OpenSpec.ofChange insertCutsSpec)

/-- ITS FALSE NEIGHBOUR: 'it returns false'. Refute it at one input. -/
def insertCutsWrong : ChangeSpec := { name := "insertCuts", fn := fun _ => fun
  | [d1, d2] => { results := [.lit (.bool false)], args := [d1, d2] }
  | _ => none }
def InsertCutsWrongFalsely : Prop := insertCutsRow.holds Tryz.pinned (OpenSpec.ofChange insertCutsWrong)

/-- 'scriniumlaw13.InsertRefuses': WHATEVER THE INPUT: true; the input reads as it did. -/
def insertRefusesSpec : ChangeSpec := { name := "insertRefuses", fn := fun _ => fun
  | [d1, d2, d3] => { results := [.lit (.bool true)], args := [d1, d2, d3] }
  | _ => none }
def insertRefusesRow : OpenClaim := { program := "ytffhiabonigapaagreatdoor", sum := "4736684fbac47b30e3d347275bf8449295ff882c62ed00486a5100a416b0681f", func := "scrinium/scriniumlaw13.InsertRefuses", spec := "insertRefuses", inPlace := ["internal/reflectlite.TypeOf"], unfollowed := true, recurses := true, named := ["scrinium/api.ErrRange", "scrinium/api.ErrState", "scrinium/api.ErrLong", "scrinium/api.ErrCorrupt", "scrinium/api.ErrFull", "scrinium/api.ErrForm", "scrinium/api.ErrNone", "scrinium/api.ErrFuel", "scrinium/api.ErrTwice"], apart := false, laid := [("scrinium/api.ErrForm", laid_scrinium_api_ErrForm), ("scrinium/api.ErrRange", laid_scrinium_api_ErrRange), ("scrinium/api.ErrFull", laid_scrinium_api_ErrFull), ("scrinium/api.ErrNone", laid_scrinium_api_ErrNone), ("scrinium/api.ErrCorrupt", laid_scrinium_api_ErrCorrupt), ("scrinium/api.ErrFuel", laid_scrinium_api_ErrFuel), ("scrinium/api.ErrState", laid_scrinium_api_ErrState), ("scrinium/api.ErrLong", laid_scrinium_api_ErrLong), ("scrinium/api.ErrTwice", laid_scrinium_api_ErrTwice)] }
def InsertRefusesSaid : Prop := insertRefusesRow.holds Tryz.pinned (OpenSpec.ofChange insertRefusesSpec)

/-- ITS FALSE NEIGHBOUR: 'it returns false'. Refute it at one input. -/
def insertRefusesWrong : ChangeSpec := { name := "insertRefuses", fn := fun _ => fun
  | [d1, d2, d3] => { results := [.lit (.bool false)], args := [d1, d2, d3] }
  | _ => none }
def InsertRefusesWrongFalsely : Prop := insertRefusesRow.holds Tryz.pinned (OpenSpec.ofChange insertRefusesWrong)

/-- 'scriniumlaw13.InsertDowns': WHATEVER THE INPUT: true; the input reads as it did. -/
def insertDownsSpec : ChangeSpec := { name := "insertDowns", fn := fun _ => fun
  | [d1, d2] => { results := [.lit (.bool true)], args := [d1, d2] }
  | _ => none }
def insertDownsRow : OpenClaim := { program := "ytffhiabonigapaagreatdoor", sum := "4736684fbac47b30e3d347275bf8449295ff882c62ed00486a5100a416b0681f", func := "scrinium/scriniumlaw13.InsertDowns", spec := "insertDowns", inPlace := ["internal/reflectlite.TypeOf"], unfollowed := true, recurses := true, named := ["scrinium/api.ErrRange", "scrinium/api.ErrState", "scrinium/api.ErrLong", "scrinium/api.ErrCorrupt", "scrinium/api.ErrFull", "scrinium/api.ErrForm", "scrinium/api.ErrNone", "scrinium/api.ErrFuel", "scrinium/api.ErrTwice"], apart := false, laid := [("scrinium/api.ErrForm", laid_scrinium_api_ErrForm), ("scrinium/api.ErrRange", laid_scrinium_api_ErrRange), ("scrinium/api.ErrFull", laid_scrinium_api_ErrFull), ("scrinium/api.ErrNone", laid_scrinium_api_ErrNone), ("scrinium/api.ErrCorrupt", laid_scrinium_api_ErrCorrupt), ("scrinium/api.ErrFuel", laid_scrinium_api_ErrFuel), ("scrinium/api.ErrState", laid_scrinium_api_ErrState), ("scrinium/api.ErrLong", laid_scrinium_api_ErrLong), ("scrinium/api.ErrTwice", laid_scrinium_api_ErrTwice)] }
def InsertDownsSaid : Prop := insertDownsRow.holds Tryz.pinned (OpenSpec.ofChange insertDownsSpec)

/-- ITS FALSE NEIGHBOUR: 'it returns false'. Refute it at one input. -/
def insertDownsWrong : ChangeSpec := { name := "insertDowns", fn := fun _ => fun
  | [d1, d2] => { results := [.lit (.bool false)], args := [d1, d2] }
  | _ => none }
def InsertDownsWrongFalsely : Prop := insertDownsRow.holds Tryz.pinned (OpenSpec.ofChange insertDownsWrong)

/-- 'scriniumlaw14.RemoveLights': WHATEVER THE INPUT: true; the input reads as it did. -/
def removeLightsSpec : ChangeSpec := { name := "removeLights", fn := fun _ => fun
  | [d1, d2] => { results := [.lit (.bool true)], args := [d1, d2] }
  | _ => none }
def removeLightsRow : OpenClaim := { program := "ytffhiabonigapaagreatdoor", sum := "4736684fbac47b30e3d347275bf8449295ff882c62ed00486a5100a416b0681f", func := "scrinium/scriniumlaw14.RemoveLights", spec := "removeLights", unfollowed := true, recurses := true, named := ["scrinium/api.ErrRange", "scrinium/api.ErrState", "scrinium/api.ErrLong", "scrinium/api.ErrCorrupt", "scrinium/api.ErrFull", "scrinium/api.ErrForm"], apart := false, laid := [("scrinium/api.ErrForm", laid_scrinium_api_ErrForm), ("scrinium/api.ErrRange", laid_scrinium_api_ErrRange), ("scrinium/api.ErrFull", laid_scrinium_api_ErrFull), ("scrinium/api.ErrCorrupt", laid_scrinium_api_ErrCorrupt), ("scrinium/api.ErrState", laid_scrinium_api_ErrState), ("scrinium/api.ErrLong", laid_scrinium_api_ErrLong)] }
def RemoveLightsSaid : Prop := removeLightsRow.holds Tryz.pinned (OpenSpec.ofChange removeLightsSpec)

/-- ITS FALSE NEIGHBOUR: 'it returns false'. Refute it at one input. -/
def removeLightsWrong : ChangeSpec := { name := "removeLights", fn := fun _ => fun
  | [d1, d2] => { results := [.lit (.bool false)], args := [d1, d2] }
  | _ => none }
def RemoveLightsWrongFalsely : Prop := removeLightsRow.holds Tryz.pinned (OpenSpec.ofChange removeLightsWrong)

/-- 'scriniumlaw14.RemoveJoins': WHATEVER THE INPUT: true; the input reads as it did. -/
def removeJoinsSpec : ChangeSpec := { name := "removeJoins", fn := fun _ => fun
  | [d1, d2, d3] => { results := [.lit (.bool true)], args := [d1, d2, d3] }
  | _ => none }
def removeJoinsRow : OpenClaim := { program := "ytffhiabonigapaagreatdoor", sum := "4736684fbac47b30e3d347275bf8449295ff882c62ed00486a5100a416b0681f", func := "scrinium/scriniumlaw14.RemoveJoins", spec := "removeJoins", unfollowed := true, recurses := true, named := ["scrinium/api.ErrRange", "scrinium/api.ErrState", "scrinium/api.ErrLong", "scrinium/api.ErrCorrupt", "scrinium/api.ErrFull", "scrinium/api.ErrForm"], apart := false, laid := [("scrinium/api.ErrForm", laid_scrinium_api_ErrForm), ("scrinium/api.ErrRange", laid_scrinium_api_ErrRange), ("scrinium/api.ErrFull", laid_scrinium_api_ErrFull), ("scrinium/api.ErrCorrupt", laid_scrinium_api_ErrCorrupt), ("scrinium/api.ErrState", laid_scrinium_api_ErrState), ("scrinium/api.ErrLong", laid_scrinium_api_ErrLong)] }
def RemoveJoinsSaid : Prop := removeJoinsRow.holds Tryz.pinned (OpenSpec.ofChange removeJoinsSpec)

/-- ITS FALSE NEIGHBOUR: 'it returns false'. Refute it at one input. -/
def removeJoinsWrong : ChangeSpec := { name := "removeJoins", fn := fun _ => fun
  | [d1, d2, d3] => { results := [.lit (.bool false)], args := [d1, d2, d3] }
  | _ => none }
def RemoveJoinsWrongFalsely : Prop := removeJoinsRow.holds Tryz.pinned (OpenSpec.ofChange removeJoinsWrong)

/-- 'scriniumlaw13.InsertPlays': WHATEVER THE INPUT: true; the input reads as it did. -/
def insertPlaysSpec : ChangeSpec := { name := "insertPlays", fn := fun _ => fun
  | [d] => { results := [.lit (.bool true)], args := [d] }
  | _ => none }
def insertPlaysRow : OpenClaim := { program := "ytffhiabonigapaagreatdoor", sum := "4736684fbac47b30e3d347275bf8449295ff882c62ed00486a5100a416b0681f", func := "scrinium/scriniumlaw13.InsertPlays", spec := "insertPlays", inPlace := ["internal/reflectlite.TypeOf"], unfollowed := true, recurses := true, named := ["scrinium/api.ErrRange", "scrinium/api.ErrState", "scrinium/api.ErrLong", "scrinium/api.ErrCorrupt", "scrinium/api.ErrFull", "scrinium/api.ErrForm", "scrinium/api.ErrNone", "scrinium/api.ErrFuel", "scrinium/api.ErrTwice"], apart := false, laid := [("scrinium/api.ErrForm", laid_scrinium_api_ErrForm), ("scrinium/api.ErrRange", laid_scrinium_api_ErrRange), ("scrinium/api.ErrFull", laid_scrinium_api_ErrFull), ("scrinium/api.ErrNone", laid_scrinium_api_ErrNone), ("scrinium/api.ErrCorrupt", laid_scrinium_api_ErrCorrupt), ("scrinium/api.ErrFuel", laid_scrinium_api_ErrFuel), ("scrinium/api.ErrState", laid_scrinium_api_ErrState), ("scrinium/api.ErrLong", laid_scrinium_api_ErrLong), ("scrinium/api.ErrTwice", laid_scrinium_api_ErrTwice)] }
def InsertPlaysSaid : Prop := insertPlaysRow.holds Tryz.pinned (OpenSpec.ofChange insertPlaysSpec)

/-- ITS FALSE NEIGHBOUR: 'it returns false'. Refute it at one input. -/
def insertPlaysWrong : ChangeSpec := { name := "insertPlays", fn := fun _ => fun
  | [d] => { results := [.lit (.bool false)], args := [d] }
  | _ => none }
def InsertPlaysWrongFalsely : Prop := insertPlaysRow.holds Tryz.pinned (OpenSpec.ofChange insertPlaysWrong)

/-- 'scriniumlaw13.InsertKeeps': WHATEVER THE INPUT: true; the input reads as it did. -/
def insertKeepsSpec : ChangeSpec := { name := "insertKeeps", fn := fun _ => fun
  | [d1, d2] => { results := [.lit (.bool true)], args := [d1, d2] }
  | _ => none }
def insertKeepsRow : OpenClaim := { program := "ytffhiabonigapaagreatdoor", sum := "4736684fbac47b30e3d347275bf8449295ff882c62ed00486a5100a416b0681f", func := "scrinium/scriniumlaw13.InsertKeeps", spec := "insertKeeps", inPlace := ["internal/reflectlite.TypeOf"], unfollowed := true, recurses := true, named := ["scrinium/api.ErrRange", "scrinium/api.ErrState", "scrinium/api.ErrLong", "scrinium/api.ErrCorrupt", "scrinium/api.ErrFull", "scrinium/api.ErrForm", "scrinium/api.ErrNone", "scrinium/api.ErrFuel", "scrinium/api.ErrTwice"], apart := false, laid := [("scrinium/api.ErrForm", laid_scrinium_api_ErrForm), ("scrinium/api.ErrRange", laid_scrinium_api_ErrRange), ("scrinium/api.ErrFull", laid_scrinium_api_ErrFull), ("scrinium/api.ErrNone", laid_scrinium_api_ErrNone), ("scrinium/api.ErrCorrupt", laid_scrinium_api_ErrCorrupt), ("scrinium/api.ErrFuel", laid_scrinium_api_ErrFuel), ("scrinium/api.ErrState", laid_scrinium_api_ErrState), ("scrinium/api.ErrLong", laid_scrinium_api_ErrLong), ("scrinium/api.ErrTwice", laid_scrinium_api_ErrTwice)] }
def InsertKeepsSaid : Prop := insertKeepsRow.holds Tryz.pinned (OpenSpec.ofChange insertKeepsSpec)

/-- ITS FALSE NEIGHBOUR: 'it returns false'. Refute it at one input. -/
def insertKeepsWrong : ChangeSpec := { name := "insertKeeps", fn := fun _ => fun
  | [d1, d2] => { results := [.lit (.bool false)], args := [d1, d2] }
  | _ => none }
def InsertKeepsWrongFalsely : Prop := insertKeepsRow.holds Tryz.pinned (OpenSpec.ofChange insertKeepsWrong)

/-- 'scriniumlaw13.InsertFull': WHATEVER THE INPUT: true; the input reads as it did. -/
def insertFullSpec : ChangeSpec := { name := "insertFull", fn := fun _ => fun
  | [d] => { results := [.lit (.bool true)], args := [d] }
  | _ => none }
def insertFullRow : OpenClaim := { program := "ytffhiabonigapaagreatdoor", sum := "4736684fbac47b30e3d347275bf8449295ff882c62ed00486a5100a416b0681f", func := "scrinium/scriniumlaw13.InsertFull", spec := "insertFull", inPlace := ["internal/reflectlite.TypeOf"], unfollowed := true, recurses := true, named := ["scrinium/api.ErrRange", "scrinium/api.ErrState", "scrinium/api.ErrLong", "scrinium/api.ErrCorrupt", "scrinium/api.ErrFull", "scrinium/api.ErrForm", "scrinium/api.ErrNone", "scrinium/api.ErrFuel", "scrinium/api.ErrTwice"], apart := false, laid := [("scrinium/api.ErrForm", laid_scrinium_api_ErrForm), ("scrinium/api.ErrRange", laid_scrinium_api_ErrRange), ("scrinium/api.ErrFull", laid_scrinium_api_ErrFull), ("scrinium/api.ErrNone", laid_scrinium_api_ErrNone), ("scrinium/api.ErrCorrupt", laid_scrinium_api_ErrCorrupt), ("scrinium/api.ErrFuel", laid_scrinium_api_ErrFuel), ("scrinium/api.ErrState", laid_scrinium_api_ErrState), ("scrinium/api.ErrLong", laid_scrinium_api_ErrLong), ("scrinium/api.ErrTwice", laid_scrinium_api_ErrTwice)] }
def InsertFullSaid : Prop := insertFullRow.holds Tryz.pinned (OpenSpec.ofChange insertFullSpec)

/-- ITS FALSE NEIGHBOUR: 'it returns false'. Refute it at one input. -/
def insertFullWrong : ChangeSpec := { name := "insertFull", fn := fun _ => fun
  | [d] => { results := [.lit (.bool false)], args := [d] }
  | _ => none }
def InsertFullWrongFalsely : Prop := insertFullRow.holds Tryz.pinned (OpenSpec.ofChange insertFullWrong)

/-- 'scriniumlaw14.RemoveRefuses': WHATEVER THE INPUT: true; the input reads as it did. -/
def removeRefusesSpec : ChangeSpec := { name := "removeRefuses", fn := fun _ => fun
  | [d1, d2] => { results := [.lit (.bool true)], args := [d1, d2] }
  | _ => none }
def removeRefusesRow : OpenClaim := { program := "ytffhiabonigapaagreatdoor", sum := "4736684fbac47b30e3d347275bf8449295ff882c62ed00486a5100a416b0681f", func := "scrinium/scriniumlaw14.RemoveRefuses", spec := "removeRefuses", inPlace := ["internal/reflectlite.TypeOf"], unfollowed := true, recurses := true, named := ["scrinium/api.ErrRange", "scrinium/api.ErrState", "scrinium/api.ErrCorrupt", "scrinium/api.ErrFull", "scrinium/api.ErrForm", "scrinium/api.ErrNone", "scrinium/api.ErrFuel", "scrinium/api.ErrLong", "scrinium/api.ErrTwice"], apart := false, laid := [("scrinium/api.ErrForm", laid_scrinium_api_ErrForm), ("scrinium/api.ErrRange", laid_scrinium_api_ErrRange), ("scrinium/api.ErrFull", laid_scrinium_api_ErrFull), ("scrinium/api.ErrNone", laid_scrinium_api_ErrNone), ("scrinium/api.ErrCorrupt", laid_scrinium_api_ErrCorrupt), ("scrinium/api.ErrFuel", laid_scrinium_api_ErrFuel), ("scrinium/api.ErrState", laid_scrinium_api_ErrState), ("scrinium/api.ErrLong", laid_scrinium_api_ErrLong), ("scrinium/api.ErrTwice", laid_scrinium_api_ErrTwice)] }
def RemoveRefusesSaid : Prop := removeRefusesRow.holds Tryz.pinned (OpenSpec.ofChange removeRefusesSpec)

/-- ITS FALSE NEIGHBOUR: 'it returns false'. Refute it at one input. -/
def removeRefusesWrong : ChangeSpec := { name := "removeRefuses", fn := fun _ => fun
  | [d1, d2] => { results := [.lit (.bool false)], args := [d1, d2] }
  | _ => none }
def RemoveRefusesWrongFalsely : Prop := removeRefusesRow.holds Tryz.pinned (OpenSpec.ofChange removeRefusesWrong)

/- THE SECOND FORM. 'bulk': how many values and letters a reading holds, each counted each time it is reached (what is shared counts as often as it is met; a slice's spare places count too). A statement '..UptoSaid' is the law's where the arguments, and the package variables that the reading takes, are together of bulk at most 1048576: NARROWER than '..Said'. Prove '..Said' where nothing that the law and all that it calls make is longer than what came in: it says more and counts as full. Else prove '..UptoSaid'. A law counts once. -/
mutual
def uptoBulk {H : Type} : DataW H → Nat
  | .lit (.string bytes) => bytes.length + 1
  | .lit _ => 1
  | .nil => 1
  | .ptr d => uptoBulk d + 1
  | .slice elems spare => uptoBulkAll elems + uptoBulkAll spare + 1
  | .agg parts => uptoBulkAll parts + 1
  | .iface _ d => uptoBulk d + 1
  | .map entries => uptoBulkEntries entries + 1
  | .held _ => 1
def uptoBulkAll {H : Type} : List (DataW H) → Nat
  | [] => 0
  | d :: r => uptoBulk d + uptoBulkAll r
def uptoBulkEntries {H : Type} : List (Lit × DataW H) → Nat
  | [] => 0
  | x :: r => uptoBulkEntry x + uptoBulkEntries r
def uptoBulkEntry {H : Type} : Lit × DataW H → Nat
  | (.string bytes, d) => bytes.length + uptoBulk d + 1
  | (_, d) => uptoBulk d + 1
 end
def uptoSmall : (H : Type) → List (DataW H) → Bool := fun _ ds => decide (uptoBulkAll ds ≤ 1048576)
def OpenSpec.upto (s : _root_.Go.ChangeSpec) : _root_.Go.OpenSpec := { _root_.Go.OpenSpec.ofChange s with cond := some uptoSmall }

/-- 'scriniumlaw13.InsertCuts', WHERE WHAT IT READS IS OF BULK AT MOST 1048576: true; the input reads as it did. -/
def insertCutsUptoRow : OpenClaim := { program := "ytffhiabonigapaagreatdoor", sum := "4736684fbac47b30e3d347275bf8449295ff882c62ed00486a5100a416b0681f", func := "scrinium/scriniumlaw13.InsertCuts", spec := "insertCuts", unfollowed := true, recurses := true, named := ["scrinium/api.ErrRange", "scrinium/api.ErrState", "scrinium/api.ErrLong", "scrinium/api.ErrCorrupt", "scrinium/api.ErrFull", "scrinium/api.ErrForm"], apart := false, laid := [("scrinium/api.ErrForm", laid_scrinium_api_ErrForm), ("scrinium/api.ErrRange", laid_scrinium_api_ErrRange), ("scrinium/api.ErrFull", laid_scrinium_api_ErrFull), ("scrinium/api.ErrCorrupt", laid_scrinium_api_ErrCorrupt), ("scrinium/api.ErrState", laid_scrinium_api_ErrState), ("scrinium/api.ErrLong", laid_scrinium_api_ErrLong)], narrowed := true }
def InsertCutsUptoSaid : Prop := insertCutsUptoRow.holds Tryz.pinned (OpenSpec.upto insertCutsSpec)

/-- 'scriniumlaw13.InsertRefuses', WHERE WHAT IT READS IS OF BULK AT MOST 1048576: true; the input reads as it did. -/
def insertRefusesUptoRow : OpenClaim := { program := "ytffhiabonigapaagreatdoor", sum := "4736684fbac47b30e3d347275bf8449295ff882c62ed00486a5100a416b0681f", func := "scrinium/scriniumlaw13.InsertRefuses", spec := "insertRefuses", inPlace := ["internal/reflectlite.TypeOf"], unfollowed := true, recurses := true, named := ["scrinium/api.ErrRange", "scrinium/api.ErrState", "scrinium/api.ErrLong", "scrinium/api.ErrCorrupt", "scrinium/api.ErrFull", "scrinium/api.ErrForm", "scrinium/api.ErrNone", "scrinium/api.ErrFuel", "scrinium/api.ErrTwice"], apart := false, laid := [("scrinium/api.ErrForm", laid_scrinium_api_ErrForm), ("scrinium/api.ErrRange", laid_scrinium_api_ErrRange), ("scrinium/api.ErrFull", laid_scrinium_api_ErrFull), ("scrinium/api.ErrNone", laid_scrinium_api_ErrNone), ("scrinium/api.ErrCorrupt", laid_scrinium_api_ErrCorrupt), ("scrinium/api.ErrFuel", laid_scrinium_api_ErrFuel), ("scrinium/api.ErrState", laid_scrinium_api_ErrState), ("scrinium/api.ErrLong", laid_scrinium_api_ErrLong), ("scrinium/api.ErrTwice", laid_scrinium_api_ErrTwice)], narrowed := true }
def InsertRefusesUptoSaid : Prop := insertRefusesUptoRow.holds Tryz.pinned (OpenSpec.upto insertRefusesSpec)

/-- 'scriniumlaw13.InsertDowns', WHERE WHAT IT READS IS OF BULK AT MOST 1048576: true; the input reads as it did. -/
def insertDownsUptoRow : OpenClaim := { program := "ytffhiabonigapaagreatdoor", sum := "4736684fbac47b30e3d347275bf8449295ff882c62ed00486a5100a416b0681f", func := "scrinium/scriniumlaw13.InsertDowns", spec := "insertDowns", inPlace := ["internal/reflectlite.TypeOf"], unfollowed := true, recurses := true, named := ["scrinium/api.ErrRange", "scrinium/api.ErrState", "scrinium/api.ErrLong", "scrinium/api.ErrCorrupt", "scrinium/api.ErrFull", "scrinium/api.ErrForm", "scrinium/api.ErrNone", "scrinium/api.ErrFuel", "scrinium/api.ErrTwice"], apart := false, laid := [("scrinium/api.ErrForm", laid_scrinium_api_ErrForm), ("scrinium/api.ErrRange", laid_scrinium_api_ErrRange), ("scrinium/api.ErrFull", laid_scrinium_api_ErrFull), ("scrinium/api.ErrNone", laid_scrinium_api_ErrNone), ("scrinium/api.ErrCorrupt", laid_scrinium_api_ErrCorrupt), ("scrinium/api.ErrFuel", laid_scrinium_api_ErrFuel), ("scrinium/api.ErrState", laid_scrinium_api_ErrState), ("scrinium/api.ErrLong", laid_scrinium_api_ErrLong), ("scrinium/api.ErrTwice", laid_scrinium_api_ErrTwice)], narrowed := true }
def InsertDownsUptoSaid : Prop := insertDownsUptoRow.holds Tryz.pinned (OpenSpec.upto insertDownsSpec)

/-- 'scriniumlaw14.RemoveLights', WHERE WHAT IT READS IS OF BULK AT MOST 1048576: true; the input reads as it did. -/
def removeLightsUptoRow : OpenClaim := { program := "ytffhiabonigapaagreatdoor", sum := "4736684fbac47b30e3d347275bf8449295ff882c62ed00486a5100a416b0681f", func := "scrinium/scriniumlaw14.RemoveLights", spec := "removeLights", unfollowed := true, recurses := true, named := ["scrinium/api.ErrRange", "scrinium/api.ErrState", "scrinium/api.ErrLong", "scrinium/api.ErrCorrupt", "scrinium/api.ErrFull", "scrinium/api.ErrForm"], apart := false, laid := [("scrinium/api.ErrForm", laid_scrinium_api_ErrForm), ("scrinium/api.ErrRange", laid_scrinium_api_ErrRange), ("scrinium/api.ErrFull", laid_scrinium_api_ErrFull), ("scrinium/api.ErrCorrupt", laid_scrinium_api_ErrCorrupt), ("scrinium/api.ErrState", laid_scrinium_api_ErrState), ("scrinium/api.ErrLong", laid_scrinium_api_ErrLong)], narrowed := true }
def RemoveLightsUptoSaid : Prop := removeLightsUptoRow.holds Tryz.pinned (OpenSpec.upto removeLightsSpec)

/-- 'scriniumlaw14.RemoveJoins', WHERE WHAT IT READS IS OF BULK AT MOST 1048576: true; the input reads as it did. -/
def removeJoinsUptoRow : OpenClaim := { program := "ytffhiabonigapaagreatdoor", sum := "4736684fbac47b30e3d347275bf8449295ff882c62ed00486a5100a416b0681f", func := "scrinium/scriniumlaw14.RemoveJoins", spec := "removeJoins", unfollowed := true, recurses := true, named := ["scrinium/api.ErrRange", "scrinium/api.ErrState", "scrinium/api.ErrLong", "scrinium/api.ErrCorrupt", "scrinium/api.ErrFull", "scrinium/api.ErrForm"], apart := false, laid := [("scrinium/api.ErrForm", laid_scrinium_api_ErrForm), ("scrinium/api.ErrRange", laid_scrinium_api_ErrRange), ("scrinium/api.ErrFull", laid_scrinium_api_ErrFull), ("scrinium/api.ErrCorrupt", laid_scrinium_api_ErrCorrupt), ("scrinium/api.ErrState", laid_scrinium_api_ErrState), ("scrinium/api.ErrLong", laid_scrinium_api_ErrLong)], narrowed := true }
def RemoveJoinsUptoSaid : Prop := removeJoinsUptoRow.holds Tryz.pinned (OpenSpec.upto removeJoinsSpec)

/-- 'scriniumlaw13.InsertPlays', WHERE WHAT IT READS IS OF BULK AT MOST 1048576: true; the input reads as it did. -/
def insertPlaysUptoRow : OpenClaim := { program := "ytffhiabonigapaagreatdoor", sum := "4736684fbac47b30e3d347275bf8449295ff882c62ed00486a5100a416b0681f", func := "scrinium/scriniumlaw13.InsertPlays", spec := "insertPlays", inPlace := ["internal/reflectlite.TypeOf"], unfollowed := true, recurses := true, named := ["scrinium/api.ErrRange", "scrinium/api.ErrState", "scrinium/api.ErrLong", "scrinium/api.ErrCorrupt", "scrinium/api.ErrFull", "scrinium/api.ErrForm", "scrinium/api.ErrNone", "scrinium/api.ErrFuel", "scrinium/api.ErrTwice"], apart := false, laid := [("scrinium/api.ErrForm", laid_scrinium_api_ErrForm), ("scrinium/api.ErrRange", laid_scrinium_api_ErrRange), ("scrinium/api.ErrFull", laid_scrinium_api_ErrFull), ("scrinium/api.ErrNone", laid_scrinium_api_ErrNone), ("scrinium/api.ErrCorrupt", laid_scrinium_api_ErrCorrupt), ("scrinium/api.ErrFuel", laid_scrinium_api_ErrFuel), ("scrinium/api.ErrState", laid_scrinium_api_ErrState), ("scrinium/api.ErrLong", laid_scrinium_api_ErrLong), ("scrinium/api.ErrTwice", laid_scrinium_api_ErrTwice)], narrowed := true }
def InsertPlaysUptoSaid : Prop := insertPlaysUptoRow.holds Tryz.pinned (OpenSpec.upto insertPlaysSpec)

/-- 'scriniumlaw13.InsertKeeps', WHERE WHAT IT READS IS OF BULK AT MOST 1048576: true; the input reads as it did. -/
def insertKeepsUptoRow : OpenClaim := { program := "ytffhiabonigapaagreatdoor", sum := "4736684fbac47b30e3d347275bf8449295ff882c62ed00486a5100a416b0681f", func := "scrinium/scriniumlaw13.InsertKeeps", spec := "insertKeeps", inPlace := ["internal/reflectlite.TypeOf"], unfollowed := true, recurses := true, named := ["scrinium/api.ErrRange", "scrinium/api.ErrState", "scrinium/api.ErrLong", "scrinium/api.ErrCorrupt", "scrinium/api.ErrFull", "scrinium/api.ErrForm", "scrinium/api.ErrNone", "scrinium/api.ErrFuel", "scrinium/api.ErrTwice"], apart := false, laid := [("scrinium/api.ErrForm", laid_scrinium_api_ErrForm), ("scrinium/api.ErrRange", laid_scrinium_api_ErrRange), ("scrinium/api.ErrFull", laid_scrinium_api_ErrFull), ("scrinium/api.ErrNone", laid_scrinium_api_ErrNone), ("scrinium/api.ErrCorrupt", laid_scrinium_api_ErrCorrupt), ("scrinium/api.ErrFuel", laid_scrinium_api_ErrFuel), ("scrinium/api.ErrState", laid_scrinium_api_ErrState), ("scrinium/api.ErrLong", laid_scrinium_api_ErrLong), ("scrinium/api.ErrTwice", laid_scrinium_api_ErrTwice)], narrowed := true }
def InsertKeepsUptoSaid : Prop := insertKeepsUptoRow.holds Tryz.pinned (OpenSpec.upto insertKeepsSpec)

/-- 'scriniumlaw13.InsertFull', WHERE WHAT IT READS IS OF BULK AT MOST 1048576: true; the input reads as it did. -/
def insertFullUptoRow : OpenClaim := { program := "ytffhiabonigapaagreatdoor", sum := "4736684fbac47b30e3d347275bf8449295ff882c62ed00486a5100a416b0681f", func := "scrinium/scriniumlaw13.InsertFull", spec := "insertFull", inPlace := ["internal/reflectlite.TypeOf"], unfollowed := true, recurses := true, named := ["scrinium/api.ErrRange", "scrinium/api.ErrState", "scrinium/api.ErrLong", "scrinium/api.ErrCorrupt", "scrinium/api.ErrFull", "scrinium/api.ErrForm", "scrinium/api.ErrNone", "scrinium/api.ErrFuel", "scrinium/api.ErrTwice"], apart := false, laid := [("scrinium/api.ErrForm", laid_scrinium_api_ErrForm), ("scrinium/api.ErrRange", laid_scrinium_api_ErrRange), ("scrinium/api.ErrFull", laid_scrinium_api_ErrFull), ("scrinium/api.ErrNone", laid_scrinium_api_ErrNone), ("scrinium/api.ErrCorrupt", laid_scrinium_api_ErrCorrupt), ("scrinium/api.ErrFuel", laid_scrinium_api_ErrFuel), ("scrinium/api.ErrState", laid_scrinium_api_ErrState), ("scrinium/api.ErrLong", laid_scrinium_api_ErrLong), ("scrinium/api.ErrTwice", laid_scrinium_api_ErrTwice)], narrowed := true }
def InsertFullUptoSaid : Prop := insertFullUptoRow.holds Tryz.pinned (OpenSpec.upto insertFullSpec)

/-- 'scriniumlaw14.RemoveRefuses', WHERE WHAT IT READS IS OF BULK AT MOST 1048576: true; the input reads as it did. -/
def removeRefusesUptoRow : OpenClaim := { program := "ytffhiabonigapaagreatdoor", sum := "4736684fbac47b30e3d347275bf8449295ff882c62ed00486a5100a416b0681f", func := "scrinium/scriniumlaw14.RemoveRefuses", spec := "removeRefuses", inPlace := ["internal/reflectlite.TypeOf"], unfollowed := true, recurses := true, named := ["scrinium/api.ErrRange", "scrinium/api.ErrState", "scrinium/api.ErrCorrupt", "scrinium/api.ErrFull", "scrinium/api.ErrForm", "scrinium/api.ErrNone", "scrinium/api.ErrFuel", "scrinium/api.ErrLong", "scrinium/api.ErrTwice"], apart := false, laid := [("scrinium/api.ErrForm", laid_scrinium_api_ErrForm), ("scrinium/api.ErrRange", laid_scrinium_api_ErrRange), ("scrinium/api.ErrFull", laid_scrinium_api_ErrFull), ("scrinium/api.ErrNone", laid_scrinium_api_ErrNone), ("scrinium/api.ErrCorrupt", laid_scrinium_api_ErrCorrupt), ("scrinium/api.ErrFuel", laid_scrinium_api_ErrFuel), ("scrinium/api.ErrState", laid_scrinium_api_ErrState), ("scrinium/api.ErrLong", laid_scrinium_api_ErrLong), ("scrinium/api.ErrTwice", laid_scrinium_api_ErrTwice)], narrowed := true }
def RemoveRefusesUptoSaid : Prop := removeRefusesUptoRow.holds Tryz.pinned (OpenSpec.upto removeRefusesSpec)

end Rows
end Go.Proofs.YtffhiabonigapaaGreatDoor
