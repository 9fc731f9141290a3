/-
  NARROWER THAN 'FOR EVERY INPUT', by the rows' own cells (each row's printed sentence says how): ChainNeeds: laid · ChainErases: laid · ChainBack: laid · ChainRefuses: laid · ChainWrites: laid · ChainCorrupt: laid.
  DERIVED. THE GIVEN ROWS OF THIS SEAT. 6 by the template 'for every input the law returns true; each argument reads behind the call as it read before'; 0 by the template 'total and deterministic' (their statements: YtidjkcfjocppmaaDoorTotals.lean).
  GIVEN WITH THE SEED: the statements are not yours to turn. If you find one false, say at which input.
  Laid BY PROGRAM, IN A SANDBOX (cutbox-rows.mjs): the forced cells as the released guide's own fill.sh prints them over the translation 107225846185f091… (all of the seat's roots in one cut). By AI agents, Wed Nov 11 2026. No macro, syntax, notation, axiom, sorry.
-/
import Derived.Test.YtidjkcfjocppmaaDoorChecked
import GoSem.Claim
import GoSem.ClaimJoined
import GoSem.ClaimMapViews
import Derived.JoinedTies
import Derived.KernelRfl
namespace Go.Proofs.YtidjkcfjocppmaaDoor
/- THE CELL 'sum', in the pinned program and in every row, IS THE sha256 OF THE DUMP (.gsa) THAT YtidjkcfjocppmaaDoorProg.lean LOADS. Nothing in Lean hashes anything: it is a label: what it is worth is what the hold of that sum in a sandbox is worth. -/
noncomputable def Tryd.pinned : Pinned := { name := "ytidjkcfjocppmaadoor", sum := "107225846185f091711e25410265aad2ee34239605e044e8ba49fbb3c2dff932", checked := Tryd.checked }
namespace Rows
def none {H : Type} : Left H := { results := [], args := [] }

/- WHAT THE LISTED PACKAGE-LEVEL VARIABLES READ AS WHEN THE CALL BEGINS. Each datum BY PROGRAM (the guide's laid-datum.mjs) off the statement by which the dump's own 'gosem.cut.vars' lays the variable. In a bare row this is a premise. The card (YtidjkcfjocppmaaDoorCards.lean) ties it to the program's text. -/
def laid_scrinium_api_ErrForm {H : Type} : DataW H := .iface "*errors.errorString" (.ptr (.agg [.lit (.string [102, 111, 114, 109])]))
def laid_scrinium_api_ErrRange {H : Type} : DataW H := .iface "*errors.errorString" (.ptr (.agg [.lit (.string [114, 97, 110, 103, 101])]))
def laid_scrinium_api_ErrFull {H : Type} : DataW H := .iface "*errors.errorString" (.ptr (.agg [.lit (.string [102, 117, 108, 108])]))
def laid_scrinium_api_ErrCorrupt {H : Type} : DataW H := .iface "*errors.errorString" (.ptr (.agg [.lit (.string [99, 111, 114, 114, 117, 112, 116])]))
def laid_scrinium_api_ErrState {H : Type} : DataW H := .iface "*errors.errorString" (.ptr (.agg [.lit (.string [115, 116, 97, 116, 101])]))
def laid_scrinium_api_ErrNone {H : Type} : DataW H := .iface "*errors.errorString" (.ptr (.agg [.lit (.string [110, 111, 110, 101])]))
def laid_scrinium_api_ErrFuel {H : Type} : DataW H := .iface "*errors.errorString" (.ptr (.agg [.lit (.string [102, 117, 101, 108])]))
def laid_scrinium_api_ErrLong {H : Type} : DataW H := .iface "*errors.errorString" (.ptr (.agg [.lit (.string [108, 111, 110, 103])]))
def laid_scrinium_api_ErrTwice {H : Type} : DataW H := .iface "*errors.errorString" (.ptr (.agg [.lit (.string [116, 119, 105, 99, 101])]))
def laid_errors_errorType {H : Type} : DataW H := .iface "internal/reflectlite.rtype" (.agg [.ptr (.lit (.string [101, 114, 114, 111, 114]))])

/-- 'scriniumlaw10.ChainNeeds': WHATEVER THE INPUT: true; the input reads as it did. -/
def chainNeedsSpec : ChangeSpec := { name := "chainNeeds", fn := fun _ => fun
  | [d1, d2] => { results := [.lit (.bool true)], args := [d1, d2] }
  | _ => none }
def chainNeedsRow : OpenClaim := { program := "ytidjkcfjocppmaadoor", sum := "107225846185f091711e25410265aad2ee34239605e044e8ba49fbb3c2dff932", func := "scrinium/scriniumlaw10.ChainNeeds", spec := "chainNeeds", unfollowed := true, recurses := true, named := ["scrinium/api.ErrRange", "scrinium/api.ErrState", "scrinium/api.ErrFull", "scrinium/api.ErrForm", "scrinium/api.ErrCorrupt"], apart := false, laid := [("scrinium/api.ErrForm", laid_scrinium_api_ErrForm), ("scrinium/api.ErrRange", laid_scrinium_api_ErrRange), ("scrinium/api.ErrFull", laid_scrinium_api_ErrFull), ("scrinium/api.ErrCorrupt", laid_scrinium_api_ErrCorrupt), ("scrinium/api.ErrState", laid_scrinium_api_ErrState)] }
def ChainNeedsSaid : Prop := chainNeedsRow.holds Tryd.pinned (OpenSpec.ofChange chainNeedsSpec)

/-- ITS FALSE NEIGHBOUR: 'it returns false'. Refute it at one input. -/
def chainNeedsWrong : ChangeSpec := { name := "chainNeeds", fn := fun _ => fun
  | [d1, d2] => { results := [.lit (.bool false)], args := [d1, d2] }
  | _ => none }
def ChainNeedsWrongFalsely : Prop := chainNeedsRow.holds Tryd.pinned (OpenSpec.ofChange chainNeedsWrong)

/-- 'scriniumlaw10.ChainErases': WHATEVER THE INPUT: true; the input reads as it did. -/
def chainErasesSpec : ChangeSpec := { name := "chainErases", fn := fun _ => fun
  | [d1, d2] => { results := [.lit (.bool true)], args := [d1, d2] }
  | _ => none }
def chainErasesRow : OpenClaim := { program := "ytidjkcfjocppmaadoor", sum := "107225846185f091711e25410265aad2ee34239605e044e8ba49fbb3c2dff932", func := "scrinium/scriniumlaw10.ChainErases", spec := "chainErases", unfollowed := true, recurses := true, named := ["scrinium/api.ErrRange", "scrinium/api.ErrState", "scrinium/api.ErrFull", "scrinium/api.ErrForm", "scrinium/api.ErrCorrupt"], apart := false, laid := [("scrinium/api.ErrForm", laid_scrinium_api_ErrForm), ("scrinium/api.ErrRange", laid_scrinium_api_ErrRange), ("scrinium/api.ErrFull", laid_scrinium_api_ErrFull), ("scrinium/api.ErrCorrupt", laid_scrinium_api_ErrCorrupt), ("scrinium/api.ErrState", laid_scrinium_api_ErrState)] }
def ChainErasesSaid : Prop := chainErasesRow.holds Tryd.pinned (OpenSpec.ofChange chainErasesSpec)

/-- ITS FALSE NEIGHBOUR: 'it returns false'. Refute it at one input. -/
def chainErasesWrong : ChangeSpec := { name := "chainErases", fn := fun _ => fun
  | [d1, d2] => { results := [.lit (.bool false)], args := [d1, d2] }
  | _ => none }
def ChainErasesWrongFalsely : Prop := chainErasesRow.holds Tryd.pinned (OpenSpec.ofChange chainErasesWrong)

/-- 'scriniumlaw10.ChainBack': WHATEVER THE INPUT: true; the input reads as it did. -/
def chainBackSpec : ChangeSpec := { name := "chainBack", fn := fun _ => fun
  | [d1, d2] => { results := [.lit (.bool true)], args := [d1, d2] }
  | _ => none }
def chainBackRow : OpenClaim := { program := "ytidjkcfjocppmaadoor", sum := "107225846185f091711e25410265aad2ee34239605e044e8ba49fbb3c2dff932", func := "scrinium/scriniumlaw10.ChainBack", spec := "chainBack", inPlace := ["internal/reflectlite.TypeOf"], unfollowed := true, recurses := true, named := ["scrinium/api.ErrRange", "scrinium/api.ErrState", "scrinium/api.ErrFull", "scrinium/api.ErrForm", "scrinium/api.ErrNone", "scrinium/api.ErrCorrupt", "scrinium/api.ErrFuel", "scrinium/api.ErrLong", "scrinium/api.ErrTwice"], apart := false, laid := [("scrinium/api.ErrForm", laid_scrinium_api_ErrForm), ("scrinium/api.ErrRange", laid_scrinium_api_ErrRange), ("scrinium/api.ErrFull", laid_scrinium_api_ErrFull), ("scrinium/api.ErrNone", laid_scrinium_api_ErrNone), ("scrinium/api.ErrCorrupt", laid_scrinium_api_ErrCorrupt), ("scrinium/api.ErrFuel", laid_scrinium_api_ErrFuel), ("scrinium/api.ErrState", laid_scrinium_api_ErrState), ("scrinium/api.ErrLong", laid_scrinium_api_ErrLong), ("scrinium/api.ErrTwice", laid_scrinium_api_ErrTwice)] }
def ChainBackSaid : Prop := chainBackRow.holds Tryd.pinned (OpenSpec.ofChange chainBackSpec)

/-- ITS FALSE NEIGHBOUR: 'it returns false'. Refute it at one input. -/
def chainBackWrong : ChangeSpec := { name := "chainBack", fn := fun _ => fun
  | [d1, d2] => { results := [.lit (.bool false)], args := [d1, d2] }
  | _ => none }
def ChainBackWrongFalsely : Prop := chainBackRow.holds Tryd.pinned (OpenSpec.ofChange chainBackWrong)

/-- 'scriniumlaw10.ChainRefuses': WHATEVER THE INPUT: true; the input reads as it did. -/
def chainRefusesSpec : ChangeSpec := { name := "chainRefuses", fn := fun _ => fun
  | [d1, d2] => { results := [.lit (.bool true)], args := [d1, d2] }
  | _ => none }
def chainRefusesRow : OpenClaim := { program := "ytidjkcfjocppmaadoor", sum := "107225846185f091711e25410265aad2ee34239605e044e8ba49fbb3c2dff932", func := "scrinium/scriniumlaw10.ChainRefuses", spec := "chainRefuses", inPlace := ["internal/reflectlite.TypeOf"], unfollowed := true, recurses := true, named := ["scrinium/api.ErrRange", "scrinium/api.ErrState", "scrinium/api.ErrCorrupt", "scrinium/api.ErrFull", "scrinium/api.ErrForm", "scrinium/api.ErrNone", "scrinium/api.ErrFuel", "scrinium/api.ErrLong", "scrinium/api.ErrTwice"], apart := false, laid := [("scrinium/api.ErrForm", laid_scrinium_api_ErrForm), ("scrinium/api.ErrRange", laid_scrinium_api_ErrRange), ("scrinium/api.ErrFull", laid_scrinium_api_ErrFull), ("scrinium/api.ErrNone", laid_scrinium_api_ErrNone), ("scrinium/api.ErrCorrupt", laid_scrinium_api_ErrCorrupt), ("scrinium/api.ErrFuel", laid_scrinium_api_ErrFuel), ("scrinium/api.ErrState", laid_scrinium_api_ErrState), ("scrinium/api.ErrLong", laid_scrinium_api_ErrLong), ("scrinium/api.ErrTwice", laid_scrinium_api_ErrTwice)] }
def ChainRefusesSaid : Prop := chainRefusesRow.holds Tryd.pinned (OpenSpec.ofChange chainRefusesSpec)

/-- ITS FALSE NEIGHBOUR: 'it returns false'. Refute it at one input. -/
def chainRefusesWrong : ChangeSpec := { name := "chainRefuses", fn := fun _ => fun
  | [d1, d2] => { results := [.lit (.bool false)], args := [d1, d2] }
  | _ => none }
def ChainRefusesWrongFalsely : Prop := chainRefusesRow.holds Tryd.pinned (OpenSpec.ofChange chainRefusesWrong)

/-- 'scriniumlaw10.ChainWrites': WHATEVER THE INPUT: true; the input reads as it did. -/
def chainWritesSpec : ChangeSpec := { name := "chainWrites", fn := fun _ => fun
  | [d1, d2, d3] => { results := [.lit (.bool true)], args := [d1, d2, d3] }
  | _ => none }
def chainWritesRow : OpenClaim := { program := "ytidjkcfjocppmaadoor", sum := "107225846185f091711e25410265aad2ee34239605e044e8ba49fbb3c2dff932", func := "scrinium/scriniumlaw10.ChainWrites", spec := "chainWrites", inPlace := ["internal/reflectlite.TypeOf"], unfollowed := true, recurses := true, named := ["scrinium/api.ErrRange", "scrinium/api.ErrState", "scrinium/api.ErrFull", "scrinium/api.ErrForm", "scrinium/api.ErrNone", "scrinium/api.ErrCorrupt", "scrinium/api.ErrFuel", "scrinium/api.ErrLong", "scrinium/api.ErrTwice"], apart := false, laid := [("scrinium/api.ErrForm", laid_scrinium_api_ErrForm), ("scrinium/api.ErrRange", laid_scrinium_api_ErrRange), ("scrinium/api.ErrFull", laid_scrinium_api_ErrFull), ("scrinium/api.ErrNone", laid_scrinium_api_ErrNone), ("scrinium/api.ErrCorrupt", laid_scrinium_api_ErrCorrupt), ("scrinium/api.ErrFuel", laid_scrinium_api_ErrFuel), ("scrinium/api.ErrState", laid_scrinium_api_ErrState), ("scrinium/api.ErrLong", laid_scrinium_api_ErrLong), ("scrinium/api.ErrTwice", laid_scrinium_api_ErrTwice)] }
def ChainWritesSaid : Prop := chainWritesRow.holds Tryd.pinned (OpenSpec.ofChange chainWritesSpec)

/-- ITS FALSE NEIGHBOUR: 'it returns false'. Refute it at one input. -/
def chainWritesWrong : ChangeSpec := { name := "chainWrites", fn := fun _ => fun
  | [d1, d2, d3] => { results := [.lit (.bool false)], args := [d1, d2, d3] }
  | _ => none }
def ChainWritesWrongFalsely : Prop := chainWritesRow.holds Tryd.pinned (OpenSpec.ofChange chainWritesWrong)

/-- 'scriniumlaw10.ChainCorrupt': WHATEVER THE INPUT: true; the input reads as it did. -/
def chainCorruptSpec : ChangeSpec := { name := "chainCorrupt", fn := fun _ => fun
  | [d1, d2] => { results := [.lit (.bool true)], args := [d1, d2] }
  | _ => none }
def chainCorruptRow : OpenClaim := { program := "ytidjkcfjocppmaadoor", sum := "107225846185f091711e25410265aad2ee34239605e044e8ba49fbb3c2dff932", func := "scrinium/scriniumlaw10.ChainCorrupt", spec := "chainCorrupt", inPlace := ["internal/reflectlite.TypeOf", "internal/reflectlite.ValueOf", "(internal/reflectlite.Value).Type", "(internal/reflectlite.Value).IsNil", "(internal/reflectlite.Value).Elem", "(internal/reflectlite.Value).Set"], unfollowed := true, recurses := true, named := ["scrinium/api.ErrRange", "scrinium/api.ErrState", "scrinium/api.ErrFull", "scrinium/api.ErrForm", "scrinium/api.ErrCorrupt", "scrinium/api.ErrNone", "scrinium/api.ErrFuel", "scrinium/api.ErrLong", "scrinium/api.ErrTwice", "errors.errorType"], apart := false, laid := [("errors.errorType", laid_errors_errorType), ("scrinium/api.ErrForm", laid_scrinium_api_ErrForm), ("scrinium/api.ErrRange", laid_scrinium_api_ErrRange), ("scrinium/api.ErrFull", laid_scrinium_api_ErrFull), ("scrinium/api.ErrNone", laid_scrinium_api_ErrNone), ("scrinium/api.ErrCorrupt", laid_scrinium_api_ErrCorrupt), ("scrinium/api.ErrFuel", laid_scrinium_api_ErrFuel), ("scrinium/api.ErrState", laid_scrinium_api_ErrState), ("scrinium/api.ErrLong", laid_scrinium_api_ErrLong), ("scrinium/api.ErrTwice", laid_scrinium_api_ErrTwice)] }
def ChainCorruptSaid : Prop := chainCorruptRow.holds Tryd.pinned (OpenSpec.ofChange chainCorruptSpec)

/-- ITS FALSE NEIGHBOUR: 'it returns false'. Refute it at one input. -/
def chainCorruptWrong : ChangeSpec := { name := "chainCorrupt", fn := fun _ => fun
  | [d1, d2] => { results := [.lit (.bool false)], args := [d1, d2] }
  | _ => none }
def ChainCorruptWrongFalsely : Prop := chainCorruptRow.holds Tryd.pinned (OpenSpec.ofChange chainCorruptWrong)

/- THE SECOND FORM. 'bulk': how many values and letters a reading holds, each counted each time it is reached (what is shared counts as often as it is met; a slice's spare places count too). A statement '..UptoSaid' is the law's where the arguments, and the package variables that the reading takes, are together of bulk at most 1048576: NARROWER than '..Said'. Prove '..Said' where nothing that the law and all that it calls make is longer than what came in: it says more and counts as full. Else prove '..UptoSaid'. A law counts once. -/
mutual
def uptoBulk {H : Type} : DataW H → Nat
  | .lit (.string bytes) => bytes.length + 1
  | .lit _ => 1
  | .nil => 1
  | .ptr d => uptoBulk d + 1
  | .slice elems spare => uptoBulkAll elems + uptoBulkAll spare + 1
  | .agg parts => uptoBulkAll parts + 1
  | .iface _ d => uptoBulk d + 1
  | .map entries => uptoBulkEntries entries + 1
  | .held _ => 1
def uptoBulkAll {H : Type} : List (DataW H) → Nat
  | [] => 0
  | d :: r => uptoBulk d + uptoBulkAll r
def uptoBulkEntries {H : Type} : List (Lit × DataW H) → Nat
  | [] => 0
  | x :: r => uptoBulkEntry x + uptoBulkEntries r
def uptoBulkEntry {H : Type} : Lit × DataW H → Nat
  | (.string bytes, d) => bytes.length + uptoBulk d + 1
  | (_, d) => uptoBulk d + 1
 end
def uptoSmall : (H : Type) → List (DataW H) → Bool := fun _ ds => decide (uptoBulkAll ds ≤ 1048576)
def OpenSpec.upto (s : _root_.Go.ChangeSpec) : _root_.Go.OpenSpec := { _root_.Go.OpenSpec.ofChange s with cond := some uptoSmall }

/-- 'scriniumlaw10.ChainNeeds', WHERE WHAT IT READS IS OF BULK AT MOST 1048576: true; the input reads as it did. -/
def chainNeedsUptoRow : OpenClaim := { program := "ytidjkcfjocppmaadoor", sum := "107225846185f091711e25410265aad2ee34239605e044e8ba49fbb3c2dff932", func := "scrinium/scriniumlaw10.ChainNeeds", spec := "chainNeeds", unfollowed := true, recurses := true, named := ["scrinium/api.ErrRange", "scrinium/api.ErrState", "scrinium/api.ErrFull", "scrinium/api.ErrForm", "scrinium/api.ErrCorrupt"], apart := false, laid := [("scrinium/api.ErrForm", laid_scrinium_api_ErrForm), ("scrinium/api.ErrRange", laid_scrinium_api_ErrRange), ("scrinium/api.ErrFull", laid_scrinium_api_ErrFull), ("scrinium/api.ErrCorrupt", laid_scrinium_api_ErrCorrupt), ("scrinium/api.ErrState", laid_scrinium_api_ErrState)], narrowed := true }
def ChainNeedsUptoSaid : Prop := chainNeedsUptoRow.holds Tryd.pinned (OpenSpec.upto chainNeedsSpec)

/-- 'scriniumlaw10.ChainErases', WHERE WHAT IT READS IS OF BULK AT MOST 1048576: true; the input reads as it did. -/
def chainErasesUptoRow : OpenClaim := { program := "ytidjkcfjocppmaadoor", sum := "107225846185f091711e25410265aad2ee34239605e044e8ba49fbb3c2dff932", func := "scrinium/scriniumlaw10.ChainErases", spec := "chainErases", unfollowed := true, recurses := true, named := ["scrinium/api.ErrRange", "scrinium/api.ErrState", "scrinium/api.ErrFull", "scrinium/api.ErrForm", "scrinium/api.ErrCorrupt"], apart := false, laid := [("scrinium/api.ErrForm", laid_scrinium_api_ErrForm), ("scrinium/api.ErrRange", laid_scrinium_api_ErrRange), ("scrinium/api.ErrFull", laid_scrinium_api_ErrFull), ("scrinium/api.ErrCorrupt", laid_scrinium_api_ErrCorrupt), ("scrinium/api.ErrState", laid_scrinium_api_ErrState)], narrowed := true }
def ChainErasesUptoSaid : Prop := chainErasesUptoRow.holds Tryd.pinned (OpenSpec.upto chainErasesSpec)

/-- 'scriniumlaw10.ChainBack', WHERE WHAT IT READS IS OF BULK AT MOST 1048576: true; the input reads as it did. -/
def chainBackUptoRow : OpenClaim := { program := "ytidjkcfjocppmaadoor", sum := "107225846185f091711e25410265aad2ee34239605e044e8ba49fbb3c2dff932", func := "scrinium/scriniumlaw10.ChainBack", spec := "chainBack", inPlace := ["internal/reflectlite.TypeOf"], unfollowed := true, recurses := true, named := ["scrinium/api.ErrRange", "scrinium/api.ErrState", "scrinium/api.ErrFull", "scrinium/api.ErrForm", "scrinium/api.ErrNone", "scrinium/api.ErrCorrupt", "scrinium/api.ErrFuel", "scrinium/api.ErrLong", "scrinium/api.ErrTwice"], apart := false, laid := [("scrinium/api.ErrForm", laid_scrinium_api_ErrForm), ("scrinium/api.ErrRange", laid_scrinium_api_ErrRange), ("scrinium/api.ErrFull", laid_scrinium_api_ErrFull), ("scrinium/api.ErrNone", laid_scrinium_api_ErrNone), ("scrinium/api.ErrCorrupt", laid_scrinium_api_ErrCorrupt), ("scrinium/api.ErrFuel", laid_scrinium_api_ErrFuel), ("scrinium/api.ErrState", laid_scrinium_api_ErrState), ("scrinium/api.ErrLong", laid_scrinium_api_ErrLong), ("scrinium/api.ErrTwice", laid_scrinium_api_ErrTwice)], narrowed := true }
def ChainBackUptoSaid : Prop := chainBackUptoRow.holds Tryd.pinned (OpenSpec.upto chainBackSpec)

/-- 'scriniumlaw10.ChainRefuses', WHERE WHAT IT READS IS OF BULK AT MOST 1048576: true; the input reads as it did. -/
def chainRefusesUptoRow : OpenClaim := { program := "ytidjkcfjocppmaadoor", sum := "107225846185f091711e25410265aad2ee34239605e044e8ba49fbb3c2dff932", func := "scrinium/scriniumlaw10.ChainRefuses", spec := "chainRefuses", inPlace := ["internal/reflectlite.TypeOf"], unfollowed := true, recurses := true, named := ["scrinium/api.ErrRange", "scrinium/api.ErrState", "scrinium/api.ErrCorrupt", "scrinium/api.ErrFull", "scrinium/api.ErrForm", "scrinium/api.ErrNone", "scrinium/api.ErrFuel", "scrinium/api.ErrLong", "scrinium/api.ErrTwice"], apart := false, laid := [("scrinium/api.ErrForm", laid_scrinium_api_ErrForm), ("scrinium/api.ErrRange", laid_scrinium_api_ErrRange), ("scrinium/api.ErrFull", laid_scrinium_api_ErrFull), ("scrinium/api.ErrNone", laid_scrinium_api_ErrNone), ("scrinium/api.ErrCorrupt", laid_scrinium_api_ErrCorrupt), ("scrinium/api.ErrFuel", laid_scrinium_api_ErrFuel), ("scrinium/api.ErrState", laid_scrinium_api_ErrState), ("scrinium/api.ErrLong", laid_scrinium_api_ErrLong), ("scrinium/api.ErrTwice", laid_scrinium_api_ErrTwice)], narrowed := true }
def ChainRefusesUptoSaid : Prop := chainRefusesUptoRow.holds Tryd.pinned (OpenSpec.upto chainRefusesSpec)

/-- 'scriniumlaw10.ChainWrites', WHERE WHAT IT READS IS OF BULK AT MOST 1048576: true; the input reads as it did. -/
def chainWritesUptoRow : OpenClaim := { program := "ytidjkcfjocppmaadoor", sum := "107225846185f091711e25410265aad2ee34239605e044e8ba49fbb3c2dff932", func := "scrinium/scriniumlaw10.ChainWrites", spec := "chainWrites", inPlace := ["internal/reflectlite.TypeOf"], unfollowed := true, recurses := true, named := ["scrinium/api.ErrRange", "scrinium/api.ErrState", "scrinium/api.ErrFull", "scrinium/api.ErrForm", "scrinium/api.ErrNone", "scrinium/api.ErrCorrupt", "scrinium/api.ErrFuel", "scrinium/api.ErrLong", "scrinium/api.ErrTwice"], apart := false, laid := [("scrinium/api.ErrForm", laid_scrinium_api_ErrForm), ("scrinium/api.ErrRange", laid_scrinium_api_ErrRange), ("scrinium/api.ErrFull", laid_scrinium_api_ErrFull), ("scrinium/api.ErrNone", laid_scrinium_api_ErrNone), ("scrinium/api.ErrCorrupt", laid_scrinium_api_ErrCorrupt), ("scrinium/api.ErrFuel", laid_scrinium_api_ErrFuel), ("scrinium/api.ErrState", laid_scrinium_api_ErrState), ("scrinium/api.ErrLong", laid_scrinium_api_ErrLong), ("scrinium/api.ErrTwice", laid_scrinium_api_ErrTwice)], narrowed := true }
def ChainWritesUptoSaid : Prop := chainWritesUptoRow.holds Tryd.pinned (OpenSpec.upto chainWritesSpec)

/-- 'scriniumlaw10.ChainCorrupt', WHERE WHAT IT READS IS OF BULK AT MOST 1048576: true; the input reads as it did. -/
def chainCorruptUptoRow : OpenClaim := { program := "ytidjkcfjocppmaadoor", sum := "107225846185f091711e25410265aad2ee34239605e044e8ba49fbb3c2dff932", func := "scrinium/scriniumlaw10.ChainCorrupt", spec := "chainCorrupt", inPlace := ["internal/reflectlite.TypeOf", "internal/reflectlite.ValueOf", "(internal/reflectlite.Value).Type", "(internal/reflectlite.Value).IsNil", "(internal/reflectlite.Value).Elem", "(internal/reflectlite.Value).Set"], unfollowed := true, recurses := true, named := ["scrinium/api.ErrRange", "scrinium/api.ErrState", "scrinium/api.ErrFull", "scrinium/api.ErrForm", "scrinium/api.ErrCorrupt", "scrinium/api.ErrNone", "scrinium/api.ErrFuel", "scrinium/api.ErrLong", "scrinium/api.ErrTwice", "errors.errorType"], apart := false, laid := [("errors.errorType", laid_errors_errorType), ("scrinium/api.ErrForm", laid_scrinium_api_ErrForm), ("scrinium/api.ErrRange", laid_scrinium_api_ErrRange), ("scrinium/api.ErrFull", laid_scrinium_api_ErrFull), ("scrinium/api.ErrNone", laid_scrinium_api_ErrNone), ("scrinium/api.ErrCorrupt", laid_scrinium_api_ErrCorrupt), ("scrinium/api.ErrFuel", laid_scrinium_api_ErrFuel), ("scrinium/api.ErrState", laid_scrinium_api_ErrState), ("scrinium/api.ErrLong", laid_scrinium_api_ErrLong), ("scrinium/api.ErrTwice", laid_scrinium_api_ErrTwice)], narrowed := true }
def ChainCorruptUptoSaid : Prop := chainCorruptUptoRow.holds Tryd.pinned (OpenSpec.upto chainCorruptSpec)

end Rows
end Go.Proofs.YtidjkcfjocppmaaDoor
