/-
  NARROWER THAN 'FOR EVERY INPUT', by the rows' own cells (each row's printed sentence says how): BoundSafe: laid · ScrubFinds: laid · ScrubSound: laid · ScrubRefuses: laid · ScrubReads: laid · ScrubHeals: laid.
  DERIVED. THE GIVEN ROWS OF THIS SEAT. 6 by the template 'for every input the law returns true; each argument reads behind the call as it read before'; 0 by the template 'total and deterministic' (their statements: YteabpacpngaoaaaGreatDoorTotals.lean).
  GIVEN WITH THE SEED: the statements are not yours to turn. If you find one false, say at which input.
  Laid BY PROGRAM, IN A SANDBOX (cutbox-rows.mjs): the forced cells as the released guide's own fill.sh prints them over the translation b245ea73bdaf6e08… (all of the seat's roots in one cut). By AI agents, Wed Nov 11 2026. No macro, syntax, notation, axiom, sorry.
-/
import Derived.Test.YteabpacpngaoaaaGreatDoorChecked
import GoSem.Claim
import GoSem.ClaimJoined
import GoSem.ClaimMapViews
import Derived.JoinedTies
import Derived.KernelRfl
namespace Go.Proofs.YteabpacpngaoaaaGreatDoor
/- THE CELL 'sum', in the pinned program and in every row, IS THE sha256 OF THE DUMP (.gsa) THAT YteabpacpngaoaaaGreatDoorProg.lean LOADS. Nothing in Lean hashes anything: it is a label: what it is worth is what the hold of that sum in a sandbox is worth. -/
noncomputable def Tryz.pinned : Pinned := { name := "yteabpacpngaoaaagreatdoor", sum := "b245ea73bdaf6e087b20f8d97df9bf77d459d2e6c79fe429f17b62038bb787a7", checked := Tryz.checked }
namespace Rows
def none {H : Type} : Left H := { results := [], args := [] }

/- WHAT THE LISTED PACKAGE-LEVEL VARIABLES READ AS WHEN THE CALL BEGINS. Each datum BY PROGRAM (the guide's laid-datum.mjs) off the statement by which the dump's own 'gosem.cut.vars' lays the variable. In a bare row this is a premise. The card (YteabpacpngaoaaaGreatDoorCards.lean) ties it to the program's text. -/
def laid_scrinium_api_ErrForm {H : Type} : DataW H := .iface "*errors.errorString" (.ptr (.agg [.lit (.string [102, 111, 114, 109])]))
def laid_scrinium_api_ErrRange {H : Type} : DataW H := .iface "*errors.errorString" (.ptr (.agg [.lit (.string [114, 97, 110, 103, 101])]))
def laid_scrinium_api_ErrFull {H : Type} : DataW H := .iface "*errors.errorString" (.ptr (.agg [.lit (.string [102, 117, 108, 108])]))
def laid_scrinium_api_ErrNone {H : Type} : DataW H := .iface "*errors.errorString" (.ptr (.agg [.lit (.string [110, 111, 110, 101])]))
def laid_scrinium_api_ErrCorrupt {H : Type} : DataW H := .iface "*errors.errorString" (.ptr (.agg [.lit (.string [99, 111, 114, 114, 117, 112, 116])]))
def laid_scrinium_api_ErrFuel {H : Type} : DataW H := .iface "*errors.errorString" (.ptr (.agg [.lit (.string [102, 117, 101, 108])]))
def laid_scrinium_api_ErrState {H : Type} : DataW H := .iface "*errors.errorString" (.ptr (.agg [.lit (.string [115, 116, 97, 116, 101])]))
def laid_scrinium_api_ErrLong {H : Type} : DataW H := .iface "*errors.errorString" (.ptr (.agg [.lit (.string [108, 111, 110, 103])]))
def laid_scrinium_api_ErrTwice {H : Type} : DataW H := .iface "*errors.errorString" (.ptr (.agg [.lit (.string [116, 119, 105, 99, 101])]))

/-- 'scriniumlaw19.BoundSafe': WHATEVER THE INPUT: true; the input reads as it did. -/
def boundSafeSpec : ChangeSpec := { name := "boundSafe", fn := fun _ => fun
  | [d1, d2] => { results := [.lit (.bool true)], args := [d1, d2] }
  | _ => none }
def boundSafeRow : OpenClaim := { program := "yteabpacpngaoaaagreatdoor", sum := "b245ea73bdaf6e087b20f8d97df9bf77d459d2e6c79fe429f17b62038bb787a7", func := "scrinium/scriniumlaw19.BoundSafe", spec := "boundSafe", inPlace := ["internal/reflectlite.TypeOf"], unfollowed := true, recurses := true, named := ["scrinium/api.ErrRange", "scrinium/api.ErrState", "scrinium/api.ErrForm", "scrinium/api.ErrCorrupt", "scrinium/api.ErrFull", "scrinium/api.ErrLong", "scrinium/api.ErrNone", "scrinium/api.ErrFuel", "scrinium/api.ErrTwice"], apart := false, laid := [("scrinium/api.ErrForm", laid_scrinium_api_ErrForm), ("scrinium/api.ErrRange", laid_scrinium_api_ErrRange), ("scrinium/api.ErrFull", laid_scrinium_api_ErrFull), ("scrinium/api.ErrNone", laid_scrinium_api_ErrNone), ("scrinium/api.ErrCorrupt", laid_scrinium_api_ErrCorrupt), ("scrinium/api.ErrFuel", laid_scrinium_api_ErrFuel), ("scrinium/api.ErrState", laid_scrinium_api_ErrState), ("scrinium/api.ErrLong", laid_scrinium_api_ErrLong), ("scrinium/api.ErrTwice", laid_scrinium_api_ErrTwice)] }
def BoundSafeSaid : Prop := boundSafeRow.holds Tryz.pinned (OpenSpec.ofChange boundSafeSpec)

/-- ITS FALSE NEIGHBOUR: 'it returns false'. Refute it at one input. -/
def boundSafeWrong : ChangeSpec := { name := "boundSafe", fn := fun _ => fun
  | [d1, d2] => { results := [.lit (.bool false)], args := [d1, d2] }
  | _ => none }
def BoundSafeWrongFalsely : Prop := boundSafeRow.holds Tryz.pinned (OpenSpec.ofChange boundSafeWrong)

/-- 'scriniumlaw18.ScrubFinds': WHATEVER THE INPUT: true; the input reads as it did. -/
def scrubFindsSpec : ChangeSpec := { name := "scrubFinds", fn := fun _ => fun
  | [d1, d2] => { results := [.lit (.bool true)], args := [d1, d2] }
  | _ => none }
def scrubFindsRow : OpenClaim := { program := "yteabpacpngaoaaagreatdoor", sum := "b245ea73bdaf6e087b20f8d97df9bf77d459d2e6c79fe429f17b62038bb787a7", func := "scrinium/scriniumlaw18.ScrubFinds", spec := "scrubFinds", inPlace := ["internal/reflectlite.TypeOf"], unfollowed := true, recurses := true, named := ["scrinium/api.ErrRange", "scrinium/api.ErrState", "scrinium/api.ErrForm", "scrinium/api.ErrCorrupt", "scrinium/api.ErrFull", "scrinium/api.ErrLong", "scrinium/api.ErrNone", "scrinium/api.ErrFuel", "scrinium/api.ErrTwice"], apart := false, laid := [("scrinium/api.ErrForm", laid_scrinium_api_ErrForm), ("scrinium/api.ErrRange", laid_scrinium_api_ErrRange), ("scrinium/api.ErrFull", laid_scrinium_api_ErrFull), ("scrinium/api.ErrNone", laid_scrinium_api_ErrNone), ("scrinium/api.ErrCorrupt", laid_scrinium_api_ErrCorrupt), ("scrinium/api.ErrFuel", laid_scrinium_api_ErrFuel), ("scrinium/api.ErrState", laid_scrinium_api_ErrState), ("scrinium/api.ErrLong", laid_scrinium_api_ErrLong), ("scrinium/api.ErrTwice", laid_scrinium_api_ErrTwice)] }
def ScrubFindsSaid : Prop := scrubFindsRow.holds Tryz.pinned (OpenSpec.ofChange scrubFindsSpec)

/-- ITS FALSE NEIGHBOUR: 'it returns false'. Refute it at one input. -/
def scrubFindsWrong : ChangeSpec := { name := "scrubFinds", fn := fun _ => fun
  | [d1, d2] => { results := [.lit (.bool false)], args := [d1, d2] }
  | _ => none }
def ScrubFindsWrongFalsely : Prop := scrubFindsRow.holds Tryz.pinned (OpenSpec.ofChange scrubFindsWrong)

/-- 'scriniumlaw18.ScrubSound': WHATEVER THE INPUT: true; the input reads as it did. -/
def scrubSoundSpec : ChangeSpec := { name := "scrubSound", fn := fun _ => fun
  | [d] => { results := [.lit (.bool true)], args := [d] }
  | _ => none }
def scrubSoundRow : OpenClaim := { program := "yteabpacpngaoaaagreatdoor", sum := "b245ea73bdaf6e087b20f8d97df9bf77d459d2e6c79fe429f17b62038bb787a7", func := "scrinium/scriniumlaw18.ScrubSound", spec := "scrubSound", inPlace := ["internal/reflectlite.TypeOf"], unfollowed := true, recurses := true, named := ["scrinium/api.ErrRange", "scrinium/api.ErrState", "scrinium/api.ErrForm", "scrinium/api.ErrCorrupt", "scrinium/api.ErrFull", "scrinium/api.ErrLong", "scrinium/api.ErrNone", "scrinium/api.ErrFuel", "scrinium/api.ErrTwice"], apart := false, laid := [("scrinium/api.ErrForm", laid_scrinium_api_ErrForm), ("scrinium/api.ErrRange", laid_scrinium_api_ErrRange), ("scrinium/api.ErrFull", laid_scrinium_api_ErrFull), ("scrinium/api.ErrNone", laid_scrinium_api_ErrNone), ("scrinium/api.ErrCorrupt", laid_scrinium_api_ErrCorrupt), ("scrinium/api.ErrFuel", laid_scrinium_api_ErrFuel), ("scrinium/api.ErrState", laid_scrinium_api_ErrState), ("scrinium/api.ErrLong", laid_scrinium_api_ErrLong), ("scrinium/api.ErrTwice", laid_scrinium_api_ErrTwice)] }
def ScrubSoundSaid : Prop := scrubSoundRow.holds Tryz.pinned (OpenSpec.ofChange scrubSoundSpec)

/-- ITS FALSE NEIGHBOUR: 'it returns false'. Refute it at one input. -/
def scrubSoundWrong : ChangeSpec := { name := "scrubSound", fn := fun _ => fun
  | [d] => { results := [.lit (.bool false)], args := [d] }
  | _ => none }
def ScrubSoundWrongFalsely : Prop := scrubSoundRow.holds Tryz.pinned (OpenSpec.ofChange scrubSoundWrong)

/-- 'scriniumlaw18.ScrubRefuses': WHATEVER THE INPUT: true; the input reads as it did. -/
def scrubRefusesSpec : ChangeSpec := { name := "scrubRefuses", fn := fun _ => fun
  | [d] => { results := [.lit (.bool true)], args := [d] }
  | _ => none }
def scrubRefusesRow : OpenClaim := { program := "yteabpacpngaoaaagreatdoor", sum := "b245ea73bdaf6e087b20f8d97df9bf77d459d2e6c79fe429f17b62038bb787a7", func := "scrinium/scriniumlaw18.ScrubRefuses", spec := "scrubRefuses", inPlace := ["internal/reflectlite.TypeOf"], unfollowed := true, recurses := true, named := ["scrinium/api.ErrState", "scrinium/api.ErrCorrupt", "scrinium/api.ErrRange", "scrinium/api.ErrForm", "scrinium/api.ErrFull", "scrinium/api.ErrNone", "scrinium/api.ErrFuel", "scrinium/api.ErrLong", "scrinium/api.ErrTwice"], apart := false, laid := [("scrinium/api.ErrForm", laid_scrinium_api_ErrForm), ("scrinium/api.ErrRange", laid_scrinium_api_ErrRange), ("scrinium/api.ErrFull", laid_scrinium_api_ErrFull), ("scrinium/api.ErrNone", laid_scrinium_api_ErrNone), ("scrinium/api.ErrCorrupt", laid_scrinium_api_ErrCorrupt), ("scrinium/api.ErrFuel", laid_scrinium_api_ErrFuel), ("scrinium/api.ErrState", laid_scrinium_api_ErrState), ("scrinium/api.ErrLong", laid_scrinium_api_ErrLong), ("scrinium/api.ErrTwice", laid_scrinium_api_ErrTwice)] }
def ScrubRefusesSaid : Prop := scrubRefusesRow.holds Tryz.pinned (OpenSpec.ofChange scrubRefusesSpec)

/-- ITS FALSE NEIGHBOUR: 'it returns false'. Refute it at one input. -/
def scrubRefusesWrong : ChangeSpec := { name := "scrubRefuses", fn := fun _ => fun
  | [d] => { results := [.lit (.bool false)], args := [d] }
  | _ => none }
def ScrubRefusesWrongFalsely : Prop := scrubRefusesRow.holds Tryz.pinned (OpenSpec.ofChange scrubRefusesWrong)

/-- 'scriniumlaw18.ScrubReads': WHATEVER THE INPUT: true; the input reads as it did. -/
def scrubReadsSpec : ChangeSpec := { name := "scrubReads", fn := fun _ => fun
  | [d1, d2] => { results := [.lit (.bool true)], args := [d1, d2] }
  | _ => none }
def scrubReadsRow : OpenClaim := { program := "yteabpacpngaoaaagreatdoor", sum := "b245ea73bdaf6e087b20f8d97df9bf77d459d2e6c79fe429f17b62038bb787a7", func := "scrinium/scriniumlaw18.ScrubReads", spec := "scrubReads", inPlace := ["internal/reflectlite.TypeOf"], unfollowed := true, recurses := true, named := ["scrinium/api.ErrRange", "scrinium/api.ErrState", "scrinium/api.ErrForm", "scrinium/api.ErrCorrupt", "scrinium/api.ErrFull", "scrinium/api.ErrLong", "scrinium/api.ErrNone", "scrinium/api.ErrFuel", "scrinium/api.ErrTwice"], apart := false, laid := [("scrinium/api.ErrForm", laid_scrinium_api_ErrForm), ("scrinium/api.ErrRange", laid_scrinium_api_ErrRange), ("scrinium/api.ErrFull", laid_scrinium_api_ErrFull), ("scrinium/api.ErrNone", laid_scrinium_api_ErrNone), ("scrinium/api.ErrCorrupt", laid_scrinium_api_ErrCorrupt), ("scrinium/api.ErrFuel", laid_scrinium_api_ErrFuel), ("scrinium/api.ErrState", laid_scrinium_api_ErrState), ("scrinium/api.ErrLong", laid_scrinium_api_ErrLong), ("scrinium/api.ErrTwice", laid_scrinium_api_ErrTwice)] }
def ScrubReadsSaid : Prop := scrubReadsRow.holds Tryz.pinned (OpenSpec.ofChange scrubReadsSpec)

/-- ITS FALSE NEIGHBOUR: 'it returns false'. Refute it at one input. -/
def scrubReadsWrong : ChangeSpec := { name := "scrubReads", fn := fun _ => fun
  | [d1, d2] => { results := [.lit (.bool false)], args := [d1, d2] }
  | _ => none }
def ScrubReadsWrongFalsely : Prop := scrubReadsRow.holds Tryz.pinned (OpenSpec.ofChange scrubReadsWrong)

/-- 'scriniumlaw18.ScrubHeals': WHATEVER THE INPUT: true; the input reads as it did. -/
def scrubHealsSpec : ChangeSpec := { name := "scrubHeals", fn := fun _ => fun
  | [d1, d2] => { results := [.lit (.bool true)], args := [d1, d2] }
  | _ => none }
def scrubHealsRow : OpenClaim := { program := "yteabpacpngaoaaagreatdoor", sum := "b245ea73bdaf6e087b20f8d97df9bf77d459d2e6c79fe429f17b62038bb787a7", func := "scrinium/scriniumlaw18.ScrubHeals", spec := "scrubHeals", inPlace := ["internal/reflectlite.TypeOf"], unfollowed := true, recurses := true, named := ["scrinium/api.ErrRange", "scrinium/api.ErrState", "scrinium/api.ErrForm", "scrinium/api.ErrCorrupt", "scrinium/api.ErrFull", "scrinium/api.ErrLong", "scrinium/api.ErrNone", "scrinium/api.ErrFuel", "scrinium/api.ErrTwice"], apart := false, laid := [("scrinium/api.ErrForm", laid_scrinium_api_ErrForm), ("scrinium/api.ErrRange", laid_scrinium_api_ErrRange), ("scrinium/api.ErrFull", laid_scrinium_api_ErrFull), ("scrinium/api.ErrNone", laid_scrinium_api_ErrNone), ("scrinium/api.ErrCorrupt", laid_scrinium_api_ErrCorrupt), ("scrinium/api.ErrFuel", laid_scrinium_api_ErrFuel), ("scrinium/api.ErrState", laid_scrinium_api_ErrState), ("scrinium/api.ErrLong", laid_scrinium_api_ErrLong), ("scrinium/api.ErrTwice", laid_scrinium_api_ErrTwice)] }
def ScrubHealsSaid : Prop := scrubHealsRow.holds Tryz.pinned (OpenSpec.ofChange scrubHealsSpec)

/-- ITS FALSE NEIGHBOUR: 'it returns false'. Refute it at one input. -/
def scrubHealsWrong : ChangeSpec := { name := "scrubHeals", fn := fun _ => fun
  | [d1, d2] => { results := [.lit (.bool false)], args := [d1, d2] }
  | _ => none }
def ScrubHealsWrongFalsely : Prop := scrubHealsRow.holds Tryz.pinned (OpenSpec.ofChange scrubHealsWrong)

/- THE SECOND FORM. 'bulk': how many values and letters a reading holds, each counted each time it is reached (what is shared counts as often as it is met; a slice's spare places count too). A statement '..UptoSaid' is the law's where the arguments, and the package variables that the reading takes, are together of bulk at most 1048576: NARROWER than '..Said'. Prove '..Said' where nothing that the law and all that it calls make is longer than what came in: it says more and counts as full. Else prove '..UptoSaid'. A law counts once. -/
mutual
def uptoBulk {H : Type} : DataW H → Nat
  | .lit (.string bytes) => bytes.length + 1
  | .lit _ => 1
  | .nil => 1
  | .ptr d => uptoBulk d + 1
  | .slice elems spare => uptoBulkAll elems + uptoBulkAll spare + 1
  | .agg parts => uptoBulkAll parts + 1
  | .iface _ d => uptoBulk d + 1
  | .map entries => uptoBulkEntries entries + 1
  | .held _ => 1
def uptoBulkAll {H : Type} : List (DataW H) → Nat
  | [] => 0
  | d :: r => uptoBulk d + uptoBulkAll r
def uptoBulkEntries {H : Type} : List (Lit × DataW H) → Nat
  | [] => 0
  | x :: r => uptoBulkEntry x + uptoBulkEntries r
def uptoBulkEntry {H : Type} : Lit × DataW H → Nat
  | (.string bytes, d) => bytes.length + uptoBulk d + 1
  | (_, d) => uptoBulk d + 1
 end
def uptoSmall : (H : Type) → List (DataW H) → Bool := fun _ ds => decide (uptoBulkAll ds ≤ 1048576)
def OpenSpec.upto (s : _root_.Go.ChangeSpec) : _root_.Go.OpenSpec := { _root_.Go.OpenSpec.ofChange s with cond := some uptoSmall }

/-- 'scriniumlaw19.BoundSafe', WHERE WHAT IT READS IS OF BULK AT MOST 1048576: true; the input reads as it did. -/
def boundSafeUptoRow : OpenClaim := { program := "yteabpacpngaoaaagreatdoor", sum := "b245ea73bdaf6e087b20f8d97df9bf77d459d2e6c79fe429f17b62038bb787a7", func := "scrinium/scriniumlaw19.BoundSafe", spec := "boundSafe", inPlace := ["internal/reflectlite.TypeOf"], unfollowed := true, recurses := true, named := ["scrinium/api.ErrRange", "scrinium/api.ErrState", "scrinium/api.ErrForm", "scrinium/api.ErrCorrupt", "scrinium/api.ErrFull", "scrinium/api.ErrLong", "scrinium/api.ErrNone", "scrinium/api.ErrFuel", "scrinium/api.ErrTwice"], apart := false, laid := [("scrinium/api.ErrForm", laid_scrinium_api_ErrForm), ("scrinium/api.ErrRange", laid_scrinium_api_ErrRange), ("scrinium/api.ErrFull", laid_scrinium_api_ErrFull), ("scrinium/api.ErrNone", laid_scrinium_api_ErrNone), ("scrinium/api.ErrCorrupt", laid_scrinium_api_ErrCorrupt), ("scrinium/api.ErrFuel", laid_scrinium_api_ErrFuel), ("scrinium/api.ErrState", laid_scrinium_api_ErrState), ("scrinium/api.ErrLong", laid_scrinium_api_ErrLong), ("scrinium/api.ErrTwice", laid_scrinium_api_ErrTwice)], narrowed := true }
def BoundSafeUptoSaid : Prop := boundSafeUptoRow.holds Tryz.pinned (OpenSpec.upto boundSafeSpec)

/-- 'scriniumlaw18.ScrubFinds', WHERE WHAT IT READS IS OF BULK AT MOST 1048576: true; the input reads as it did. -/
def scrubFindsUptoRow : OpenClaim := { program := "yteabpacpngaoaaagreatdoor", sum := "b245ea73bdaf6e087b20f8d97df9bf77d459d2e6c79fe429f17b62038bb787a7", func := "scrinium/scriniumlaw18.ScrubFinds", spec := "scrubFinds", inPlace := ["internal/reflectlite.TypeOf"], unfollowed := true, recurses := true, named := ["scrinium/api.ErrRange", "scrinium/api.ErrState", "scrinium/api.ErrForm", "scrinium/api.ErrCorrupt", "scrinium/api.ErrFull", "scrinium/api.ErrLong", "scrinium/api.ErrNone", "scrinium/api.ErrFuel", "scrinium/api.ErrTwice"], apart := false, laid := [("scrinium/api.ErrForm", laid_scrinium_api_ErrForm), ("scrinium/api.ErrRange", laid_scrinium_api_ErrRange), ("scrinium/api.ErrFull", laid_scrinium_api_ErrFull), ("scrinium/api.ErrNone", laid_scrinium_api_ErrNone), ("scrinium/api.ErrCorrupt", laid_scrinium_api_ErrCorrupt), ("scrinium/api.ErrFuel", laid_scrinium_api_ErrFuel), ("scrinium/api.ErrState", laid_scrinium_api_ErrState), ("scrinium/api.ErrLong", laid_scrinium_api_ErrLong), ("scrinium/api.ErrTwice", laid_scrinium_api_ErrTwice)], narrowed := true }
def ScrubFindsUptoSaid : Prop := scrubFindsUptoRow.holds Tryz.pinned (OpenSpec.upto scrubFindsSpec)

/-- 'scriniumlaw18.ScrubSound', WHERE WHAT IT READS IS OF BULK AT MOST 1048576: true; the input reads as it did. -/
def scrubSoundUptoRow : OpenClaim := { program := "yteabpacpngaoaaagreatdoor", sum := "b245ea73bdaf6e087b20f8d97df9bf77d459d2e6c79fe429f17b62038bb787a7", func := "scrinium/scriniumlaw18.ScrubSound", spec := "scrubSound", inPlace := ["internal/reflectlite.TypeOf"], unfollowed := true, recurses := true, named := ["scrinium/api.ErrRange", "scrinium/api.ErrState", "scrinium/api.ErrForm", "scrinium/api.ErrCorrupt", "scrinium/api.ErrFull", "scrinium/api.ErrLong", "scrinium/api.ErrNone", "scrinium/api.ErrFuel", "scrinium/api.ErrTwice"], apart := false, laid := [("scrinium/api.ErrForm", laid_scrinium_api_ErrForm), ("scrinium/api.ErrRange", laid_scrinium_api_ErrRange), ("scrinium/api.ErrFull", laid_scrinium_api_ErrFull), ("scrinium/api.ErrNone", laid_scrinium_api_ErrNone), ("scrinium/api.ErrCorrupt", laid_scrinium_api_ErrCorrupt), ("scrinium/api.ErrFuel", laid_scrinium_api_ErrFuel), ("scrinium/api.ErrState", laid_scrinium_api_ErrState), ("scrinium/api.ErrLong", laid_scrinium_api_ErrLong), ("scrinium/api.ErrTwice", laid_scrinium_api_ErrTwice)], narrowed := true }
def ScrubSoundUptoSaid : Prop := scrubSoundUptoRow.holds Tryz.pinned (OpenSpec.upto scrubSoundSpec)

/-- 'scriniumlaw18.ScrubRefuses', WHERE WHAT IT READS IS OF BULK AT MOST 1048576: true; the input reads as it did. -/
def scrubRefusesUptoRow : OpenClaim := { program := "yteabpacpngaoaaagreatdoor", sum := "b245ea73bdaf6e087b20f8d97df9bf77d459d2e6c79fe429f17b62038bb787a7", func := "scrinium/scriniumlaw18.ScrubRefuses", spec := "scrubRefuses", inPlace := ["internal/reflectlite.TypeOf"], unfollowed := true, recurses := true, named := ["scrinium/api.ErrState", "scrinium/api.ErrCorrupt", "scrinium/api.ErrRange", "scrinium/api.ErrForm", "scrinium/api.ErrFull", "scrinium/api.ErrNone", "scrinium/api.ErrFuel", "scrinium/api.ErrLong", "scrinium/api.ErrTwice"], apart := false, laid := [("scrinium/api.ErrForm", laid_scrinium_api_ErrForm), ("scrinium/api.ErrRange", laid_scrinium_api_ErrRange), ("scrinium/api.ErrFull", laid_scrinium_api_ErrFull), ("scrinium/api.ErrNone", laid_scrinium_api_ErrNone), ("scrinium/api.ErrCorrupt", laid_scrinium_api_ErrCorrupt), ("scrinium/api.ErrFuel", laid_scrinium_api_ErrFuel), ("scrinium/api.ErrState", laid_scrinium_api_ErrState), ("scrinium/api.ErrLong", laid_scrinium_api_ErrLong), ("scrinium/api.ErrTwice", laid_scrinium_api_ErrTwice)], narrowed := true }
def ScrubRefusesUptoSaid : Prop := scrubRefusesUptoRow.holds Tryz.pinned (OpenSpec.upto scrubRefusesSpec)

/-- 'scriniumlaw18.ScrubReads', WHERE WHAT IT READS IS OF BULK AT MOST 1048576: true; the input reads as it did. -/
def scrubReadsUptoRow : OpenClaim := { program := "yteabpacpngaoaaagreatdoor", sum := "b245ea73bdaf6e087b20f8d97df9bf77d459d2e6c79fe429f17b62038bb787a7", func := "scrinium/scriniumlaw18.ScrubReads", spec := "scrubReads", inPlace := ["internal/reflectlite.TypeOf"], unfollowed := true, recurses := true, named := ["scrinium/api.ErrRange", "scrinium/api.ErrState", "scrinium/api.ErrForm", "scrinium/api.ErrCorrupt", "scrinium/api.ErrFull", "scrinium/api.ErrLong", "scrinium/api.ErrNone", "scrinium/api.ErrFuel", "scrinium/api.ErrTwice"], apart := false, laid := [("scrinium/api.ErrForm", laid_scrinium_api_ErrForm), ("scrinium/api.ErrRange", laid_scrinium_api_ErrRange), ("scrinium/api.ErrFull", laid_scrinium_api_ErrFull), ("scrinium/api.ErrNone", laid_scrinium_api_ErrNone), ("scrinium/api.ErrCorrupt", laid_scrinium_api_ErrCorrupt), ("scrinium/api.ErrFuel", laid_scrinium_api_ErrFuel), ("scrinium/api.ErrState", laid_scrinium_api_ErrState), ("scrinium/api.ErrLong", laid_scrinium_api_ErrLong), ("scrinium/api.ErrTwice", laid_scrinium_api_ErrTwice)], narrowed := true }
def ScrubReadsUptoSaid : Prop := scrubReadsUptoRow.holds Tryz.pinned (OpenSpec.upto scrubReadsSpec)

/-- 'scriniumlaw18.ScrubHeals', WHERE WHAT IT READS IS OF BULK AT MOST 1048576: true; the input reads as it did. -/
def scrubHealsUptoRow : OpenClaim := { program := "yteabpacpngaoaaagreatdoor", sum := "b245ea73bdaf6e087b20f8d97df9bf77d459d2e6c79fe429f17b62038bb787a7", func := "scrinium/scriniumlaw18.ScrubHeals", spec := "scrubHeals", inPlace := ["internal/reflectlite.TypeOf"], unfollowed := true, recurses := true, named := ["scrinium/api.ErrRange", "scrinium/api.ErrState", "scrinium/api.ErrForm", "scrinium/api.ErrCorrupt", "scrinium/api.ErrFull", "scrinium/api.ErrLong", "scrinium/api.ErrNone", "scrinium/api.ErrFuel", "scrinium/api.ErrTwice"], apart := false, laid := [("scrinium/api.ErrForm", laid_scrinium_api_ErrForm), ("scrinium/api.ErrRange", laid_scrinium_api_ErrRange), ("scrinium/api.ErrFull", laid_scrinium_api_ErrFull), ("scrinium/api.ErrNone", laid_scrinium_api_ErrNone), ("scrinium/api.ErrCorrupt", laid_scrinium_api_ErrCorrupt), ("scrinium/api.ErrFuel", laid_scrinium_api_ErrFuel), ("scrinium/api.ErrState", laid_scrinium_api_ErrState), ("scrinium/api.ErrLong", laid_scrinium_api_ErrLong), ("scrinium/api.ErrTwice", laid_scrinium_api_ErrTwice)], narrowed := true }
def ScrubHealsUptoSaid : Prop := scrubHealsUptoRow.holds Tryz.pinned (OpenSpec.upto scrubHealsSpec)

end Rows
end Go.Proofs.YteabpacpngaoaaaGreatDoor
