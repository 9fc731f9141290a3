/-
  DERIVED. GIVEN WITH THE SEED: THE CARDS: each row of YtmgfneijcfjlfaaGreatDoorRows.lean that lists a variable, with what it lists TIED to the program's text (the seventh form; the later family's looks); each row that meets fmt, with fmt's text TOLD by the authors' own Lean function (tested against real Go, not proved from fmt's source: count such statements apart). THE CARD IS WHAT COUNTS. Prove the row's statement (the work); the ties are given (YtmgfneijcfjlfaaGreatDoorTie.lean); close each card by the builder's one call (the guide's Derived/Test/ToyasCard.lean, 'card_holds'). Laid BY PROGRAM, IN A SANDBOX (cutbox-door.mjs). By AI agents, Wed Nov 11 2026. No macro, syntax, notation, axiom, sorry.
-/
import Derived.Test.YtmgfneijcfjlfaaGreatDoorRows
import GoSem.ClaimSeven
namespace Go.Proofs.YtmgfneijcfjlfaaGreatDoor
namespace Rows

/-- THE TIED CARD OF 'scriniumlaw11.LookupGets'. -/
def lookupGetsCard : Claim7 := { stood := { row := lookupGetsRow, standIns := [], harness := (true, "5645cd0b26ebde263c8c96789d62d0e8649b953080103aa2019ce9a274933b1a"), looks := true }, kinds := [], alts := [], laidByText := true, laidKinds := [.sentinel, .sentinel, .sentinel, .sentinel, .sentinel, .sentinel, .sentinel, .sentinel, .sentinel], laidTests := true, laidLooks := .later }
def LookupGetsCardSaid : Prop := Claim7.holds Tryz.pinned (.plain (OpenSpec.ofChange lookupGetsSpec)) lookupGetsCard

/-- THE TIED CARD OF 'scriniumlaw11.LookupPaths'. -/
def lookupPathsCard : Claim7 := { stood := { row := lookupPathsRow, standIns := [], harness := (true, "5645cd0b26ebde263c8c96789d62d0e8649b953080103aa2019ce9a274933b1a"), looks := true }, kinds := [], alts := [], laidByText := true, laidKinds := [.sentinel, .sentinel, .sentinel, .sentinel, .sentinel, .sentinel, .sentinel, .sentinel, .sentinel], laidTests := true, laidLooks := .later }
def LookupPathsCardSaid : Prop := Claim7.holds Tryz.pinned (.plain (OpenSpec.ofChange lookupPathsSpec)) lookupPathsCard

/-- THE TIED CARD OF 'scriniumlaw11.LookupWalks'. -/
def lookupWalksCard : Claim7 := { stood := { row := lookupWalksRow, standIns := [], harness := (true, "5645cd0b26ebde263c8c96789d62d0e8649b953080103aa2019ce9a274933b1a"), looks := true }, kinds := [], alts := [], laidByText := true, laidKinds := [.sentinel, .sentinel, .sentinel, .sentinel, .sentinel], laidTests := true, laidLooks := .later }
def LookupWalksCardSaid : Prop := Claim7.holds Tryz.pinned (.plain (OpenSpec.ofChange lookupWalksSpec)) lookupWalksCard

/-- THE TIED CARD OF 'scriniumlaw11.LookupRefuses'. -/
def lookupRefusesCard : Claim7 := { stood := { row := lookupRefusesRow, standIns := [], harness := (true, "5645cd0b26ebde263c8c96789d62d0e8649b953080103aa2019ce9a274933b1a"), looks := true }, kinds := [], alts := [], laidByText := true, laidKinds := [.sentinel, .sentinel, .sentinel, .sentinel, .sentinel, .sentinel, .sentinel, .sentinel, .sentinel], laidTests := true, laidLooks := .later }
def LookupRefusesCardSaid : Prop := Claim7.holds Tryz.pinned (.plain (OpenSpec.ofChange lookupRefusesSpec)) lookupRefusesCard

/-- THE TIED CARD OF 'scriniumlaw11.LookupLoads'. -/
def lookupLoadsCard : Claim7 := { stood := { row := lookupLoadsRow, standIns := [], harness := (true, "5645cd0b26ebde263c8c96789d62d0e8649b953080103aa2019ce9a274933b1a"), looks := true }, kinds := [], alts := [], laidByText := true, laidKinds := [.handle, .sentinel, .sentinel, .sentinel, .sentinel, .sentinel, .sentinel, .sentinel, .sentinel, .sentinel], laidTests := true, laidLooks := .later }
def LookupLoadsCardSaid : Prop := Claim7.holds Tryz.pinned (.plain (OpenSpec.ofChange lookupLoadsSpec)) lookupLoadsCard

/-- THE TIED CARD OF 'scriniumlaw11.LookupSpoilt'. -/
def lookupSpoiltCard : Claim7 := { stood := { row := lookupSpoiltRow, standIns := [], harness := (true, "5645cd0b26ebde263c8c96789d62d0e8649b953080103aa2019ce9a274933b1a"), looks := true }, kinds := [], alts := [], laidByText := true, laidKinds := [.sentinel, .sentinel, .sentinel, .sentinel, .sentinel, .sentinel, .sentinel, .sentinel, .sentinel], laidTests := true, laidLooks := .later }
def LookupSpoiltCardSaid : Prop := Claim7.holds Tryz.pinned (.plain (OpenSpec.ofChange lookupSpoiltSpec)) lookupSpoiltCard

/-- THE SECOND FORM's CARD OF 'scriniumlaw11.LookupGets'. -/
def lookupGetsUptoCard : Claim7 := { stood := { row := lookupGetsUptoRow, standIns := [], harness := (true, "5645cd0b26ebde263c8c96789d62d0e8649b953080103aa2019ce9a274933b1a"), looks := true }, kinds := [], alts := [], laidByText := true, laidKinds := [.sentinel, .sentinel, .sentinel, .sentinel, .sentinel, .sentinel, .sentinel, .sentinel, .sentinel], laidTests := true, laidLooks := .later }
def LookupGetsUptoCardSaid : Prop := Claim7.holds Tryz.pinned (.plain (OpenSpec.upto lookupGetsSpec)) lookupGetsUptoCard

/-- THE SECOND FORM's CARD OF 'scriniumlaw11.LookupPaths'. -/
def lookupPathsUptoCard : Claim7 := { stood := { row := lookupPathsUptoRow, standIns := [], harness := (true, "5645cd0b26ebde263c8c96789d62d0e8649b953080103aa2019ce9a274933b1a"), looks := true }, kinds := [], alts := [], laidByText := true, laidKinds := [.sentinel, .sentinel, .sentinel, .sentinel, .sentinel, .sentinel, .sentinel, .sentinel, .sentinel], laidTests := true, laidLooks := .later }
def LookupPathsUptoCardSaid : Prop := Claim7.holds Tryz.pinned (.plain (OpenSpec.upto lookupPathsSpec)) lookupPathsUptoCard

/-- THE SECOND FORM's CARD OF 'scriniumlaw11.LookupWalks'. -/
def lookupWalksUptoCard : Claim7 := { stood := { row := lookupWalksUptoRow, standIns := [], harness := (true, "5645cd0b26ebde263c8c96789d62d0e8649b953080103aa2019ce9a274933b1a"), looks := true }, kinds := [], alts := [], laidByText := true, laidKinds := [.sentinel, .sentinel, .sentinel, .sentinel, .sentinel], laidTests := true, laidLooks := .later }
def LookupWalksUptoCardSaid : Prop := Claim7.holds Tryz.pinned (.plain (OpenSpec.upto lookupWalksSpec)) lookupWalksUptoCard

/-- THE SECOND FORM's CARD OF 'scriniumlaw11.LookupRefuses'. -/
def lookupRefusesUptoCard : Claim7 := { stood := { row := lookupRefusesUptoRow, standIns := [], harness := (true, "5645cd0b26ebde263c8c96789d62d0e8649b953080103aa2019ce9a274933b1a"), looks := true }, kinds := [], alts := [], laidByText := true, laidKinds := [.sentinel, .sentinel, .sentinel, .sentinel, .sentinel, .sentinel, .sentinel, .sentinel, .sentinel], laidTests := true, laidLooks := .later }
def LookupRefusesUptoCardSaid : Prop := Claim7.holds Tryz.pinned (.plain (OpenSpec.upto lookupRefusesSpec)) lookupRefusesUptoCard

/-- THE SECOND FORM's CARD OF 'scriniumlaw11.LookupLoads'. -/
def lookupLoadsUptoCard : Claim7 := { stood := { row := lookupLoadsUptoRow, standIns := [], harness := (true, "5645cd0b26ebde263c8c96789d62d0e8649b953080103aa2019ce9a274933b1a"), looks := true }, kinds := [], alts := [], laidByText := true, laidKinds := [.handle, .sentinel, .sentinel, .sentinel, .sentinel, .sentinel, .sentinel, .sentinel, .sentinel, .sentinel], laidTests := true, laidLooks := .later }
def LookupLoadsUptoCardSaid : Prop := Claim7.holds Tryz.pinned (.plain (OpenSpec.upto lookupLoadsSpec)) lookupLoadsUptoCard

/-- THE SECOND FORM's CARD OF 'scriniumlaw11.LookupSpoilt'. -/
def lookupSpoiltUptoCard : Claim7 := { stood := { row := lookupSpoiltUptoRow, standIns := [], harness := (true, "5645cd0b26ebde263c8c96789d62d0e8649b953080103aa2019ce9a274933b1a"), looks := true }, kinds := [], alts := [], laidByText := true, laidKinds := [.sentinel, .sentinel, .sentinel, .sentinel, .sentinel, .sentinel, .sentinel, .sentinel, .sentinel], laidTests := true, laidLooks := .later }
def LookupSpoiltUptoCardSaid : Prop := Claim7.holds Tryz.pinned (.plain (OpenSpec.upto lookupSpoiltSpec)) lookupSpoiltUptoCard
end Rows
end Go.Proofs.YtmgfneijcfjlfaaGreatDoor
