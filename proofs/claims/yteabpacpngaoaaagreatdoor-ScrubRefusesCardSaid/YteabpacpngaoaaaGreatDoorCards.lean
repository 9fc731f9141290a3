/-
  DERIVED. GIVEN WITH THE SEED: THE CARDS: each row of YteabpacpngaoaaaGreatDoorRows.lean that lists a variable, with what it lists TIED to the program's text (the seventh form; the later family's looks); each row that meets fmt, with fmt's text TOLD by the authors' own Lean function (tested against real Go, not proved from fmt's source: count such statements apart). THE CARD IS WHAT COUNTS. Prove the row's statement (the work); the ties are given (YteabpacpngaoaaaGreatDoorTie.lean); close each card by the builder's one call (the guide's Derived/Test/ToyasCard.lean, 'card_holds'). Laid BY PROGRAM, IN A SANDBOX (cutbox-door.mjs). By AI agents, Wed Nov 11 2026. No macro, syntax, notation, axiom, sorry.
-/
import Derived.Test.YteabpacpngaoaaaGreatDoorRows
import GoSem.ClaimSeven
namespace Go.Proofs.YteabpacpngaoaaaGreatDoor
namespace Rows

/-- THE TIED CARD OF 'scriniumlaw19.BoundSafe'. -/
def boundSafeCard : Claim7 := { stood := { row := boundSafeRow, standIns := [], harness := (true, "4d3c406a8e46d3cffa067dfa8e0cc94340493d92fe273fa3d85cb3bd515af4c5"), looks := true }, kinds := [], alts := [], laidByText := true, laidKinds := [.sentinel, .sentinel, .sentinel, .sentinel, .sentinel, .sentinel, .sentinel, .sentinel, .sentinel], laidTests := true, laidLooks := .later }
def BoundSafeCardSaid : Prop := Claim7.holds Tryz.pinned (.plain (OpenSpec.ofChange boundSafeSpec)) boundSafeCard

/-- THE TIED CARD OF 'scriniumlaw18.ScrubFinds'. -/
def scrubFindsCard : Claim7 := { stood := { row := scrubFindsRow, standIns := [], harness := (true, "4d3c406a8e46d3cffa067dfa8e0cc94340493d92fe273fa3d85cb3bd515af4c5"), looks := true }, kinds := [], alts := [], laidByText := true, laidKinds := [.sentinel, .sentinel, .sentinel, .sentinel, .sentinel, .sentinel, .sentinel, .sentinel, .sentinel], laidTests := true, laidLooks := .later }
def ScrubFindsCardSaid : Prop := Claim7.holds Tryz.pinned (.plain (OpenSpec.ofChange scrubFindsSpec)) scrubFindsCard

/-- THE TIED CARD OF 'scriniumlaw18.ScrubSound'. -/
def scrubSoundCard : Claim7 := { stood := { row := scrubSoundRow, standIns := [], harness := (true, "4d3c406a8e46d3cffa067dfa8e0cc94340493d92fe273fa3d85cb3bd515af4c5"), looks := true }, kinds := [], alts := [], laidByText := true, laidKinds := [.sentinel, .sentinel, .sentinel, .sentinel, .sentinel, .sentinel, .sentinel, .sentinel, .sentinel], laidTests := true, laidLooks := .later }
def ScrubSoundCardSaid : Prop := Claim7.holds Tryz.pinned (.plain (OpenSpec.ofChange scrubSoundSpec)) scrubSoundCard

/-- THE TIED CARD OF 'scriniumlaw18.ScrubRefuses'. -/
def scrubRefusesCard : Claim7 := { stood := { row := scrubRefusesRow, standIns := [], harness := (true, "4d3c406a8e46d3cffa067dfa8e0cc94340493d92fe273fa3d85cb3bd515af4c5"), looks := true }, kinds := [], alts := [], laidByText := true, laidKinds := [.sentinel, .sentinel, .sentinel, .sentinel, .sentinel, .sentinel, .sentinel, .sentinel, .sentinel], laidTests := true, laidLooks := .later }
def ScrubRefusesCardSaid : Prop := Claim7.holds Tryz.pinned (.plain (OpenSpec.ofChange scrubRefusesSpec)) scrubRefusesCard

/-- THE TIED CARD OF 'scriniumlaw18.ScrubReads'. -/
def scrubReadsCard : Claim7 := { stood := { row := scrubReadsRow, standIns := [], harness := (true, "4d3c406a8e46d3cffa067dfa8e0cc94340493d92fe273fa3d85cb3bd515af4c5"), looks := true }, kinds := [], alts := [], laidByText := true, laidKinds := [.sentinel, .sentinel, .sentinel, .sentinel, .sentinel, .sentinel, .sentinel, .sentinel, .sentinel], laidTests := true, laidLooks := .later }
def ScrubReadsCardSaid : Prop := Claim7.holds Tryz.pinned (.plain (OpenSpec.ofChange scrubReadsSpec)) scrubReadsCard

/-- THE TIED CARD OF 'scriniumlaw18.ScrubHeals'. -/
def scrubHealsCard : Claim7 := { stood := { row := scrubHealsRow, standIns := [], harness := (true, "4d3c406a8e46d3cffa067dfa8e0cc94340493d92fe273fa3d85cb3bd515af4c5"), looks := true }, kinds := [], alts := [], laidByText := true, laidKinds := [.sentinel, .sentinel, .sentinel, .sentinel, .sentinel, .sentinel, .sentinel, .sentinel, .sentinel], laidTests := true, laidLooks := .later }
def ScrubHealsCardSaid : Prop := Claim7.holds Tryz.pinned (.plain (OpenSpec.ofChange scrubHealsSpec)) scrubHealsCard

/-- THE SECOND FORM's CARD OF 'scriniumlaw19.BoundSafe'. -/
def boundSafeUptoCard : Claim7 := { stood := { row := boundSafeUptoRow, standIns := [], harness := (true, "4d3c406a8e46d3cffa067dfa8e0cc94340493d92fe273fa3d85cb3bd515af4c5"), looks := true }, kinds := [], alts := [], laidByText := true, laidKinds := [.sentinel, .sentinel, .sentinel, .sentinel, .sentinel, .sentinel, .sentinel, .sentinel, .sentinel], laidTests := true, laidLooks := .later }
def BoundSafeUptoCardSaid : Prop := Claim7.holds Tryz.pinned (.plain (OpenSpec.upto boundSafeSpec)) boundSafeUptoCard

/-- THE SECOND FORM's CARD OF 'scriniumlaw18.ScrubFinds'. -/
def scrubFindsUptoCard : Claim7 := { stood := { row := scrubFindsUptoRow, standIns := [], harness := (true, "4d3c406a8e46d3cffa067dfa8e0cc94340493d92fe273fa3d85cb3bd515af4c5"), looks := true }, kinds := [], alts := [], laidByText := true, laidKinds := [.sentinel, .sentinel, .sentinel, .sentinel, .sentinel, .sentinel, .sentinel, .sentinel, .sentinel], laidTests := true, laidLooks := .later }
def ScrubFindsUptoCardSaid : Prop := Claim7.holds Tryz.pinned (.plain (OpenSpec.upto scrubFindsSpec)) scrubFindsUptoCard

/-- THE SECOND FORM's CARD OF 'scriniumlaw18.ScrubSound'. -/
def scrubSoundUptoCard : Claim7 := { stood := { row := scrubSoundUptoRow, standIns := [], harness := (true, "4d3c406a8e46d3cffa067dfa8e0cc94340493d92fe273fa3d85cb3bd515af4c5"), looks := true }, kinds := [], alts := [], laidByText := true, laidKinds := [.sentinel, .sentinel, .sentinel, .sentinel, .sentinel, .sentinel, .sentinel, .sentinel, .sentinel], laidTests := true, laidLooks := .later }
def ScrubSoundUptoCardSaid : Prop := Claim7.holds Tryz.pinned (.plain (OpenSpec.upto scrubSoundSpec)) scrubSoundUptoCard

/-- THE SECOND FORM's CARD OF 'scriniumlaw18.ScrubRefuses'. -/
def scrubRefusesUptoCard : Claim7 := { stood := { row := scrubRefusesUptoRow, standIns := [], harness := (true, "4d3c406a8e46d3cffa067dfa8e0cc94340493d92fe273fa3d85cb3bd515af4c5"), looks := true }, kinds := [], alts := [], laidByText := true, laidKinds := [.sentinel, .sentinel, .sentinel, .sentinel, .sentinel, .sentinel, .sentinel, .sentinel, .sentinel], laidTests := true, laidLooks := .later }
def ScrubRefusesUptoCardSaid : Prop := Claim7.holds Tryz.pinned (.plain (OpenSpec.upto scrubRefusesSpec)) scrubRefusesUptoCard

/-- THE SECOND FORM's CARD OF 'scriniumlaw18.ScrubReads'. -/
def scrubReadsUptoCard : Claim7 := { stood := { row := scrubReadsUptoRow, standIns := [], harness := (true, "4d3c406a8e46d3cffa067dfa8e0cc94340493d92fe273fa3d85cb3bd515af4c5"), looks := true }, kinds := [], alts := [], laidByText := true, laidKinds := [.sentinel, .sentinel, .sentinel, .sentinel, .sentinel, .sentinel, .sentinel, .sentinel, .sentinel], laidTests := true, laidLooks := .later }
def ScrubReadsUptoCardSaid : Prop := Claim7.holds Tryz.pinned (.plain (OpenSpec.upto scrubReadsSpec)) scrubReadsUptoCard

/-- THE SECOND FORM's CARD OF 'scriniumlaw18.ScrubHeals'. -/
def scrubHealsUptoCard : Claim7 := { stood := { row := scrubHealsUptoRow, standIns := [], harness := (true, "4d3c406a8e46d3cffa067dfa8e0cc94340493d92fe273fa3d85cb3bd515af4c5"), looks := true }, kinds := [], alts := [], laidByText := true, laidKinds := [.sentinel, .sentinel, .sentinel, .sentinel, .sentinel, .sentinel, .sentinel, .sentinel, .sentinel], laidTests := true, laidLooks := .later }
def ScrubHealsUptoCardSaid : Prop := Claim7.holds Tryz.pinned (.plain (OpenSpec.upto scrubHealsSpec)) scrubHealsUptoCard
end Rows
end Go.Proofs.YteabpacpngaoaaaGreatDoor
