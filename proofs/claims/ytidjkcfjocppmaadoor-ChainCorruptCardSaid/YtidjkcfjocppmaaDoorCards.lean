/-
  DERIVED. GIVEN WITH THE SEED: THE CARDS: each row of YtidjkcfjocppmaaDoorRows.lean that lists a variable, with what it lists TIED to the program's text (the seventh form; the later family's looks); each row that meets fmt, with fmt's text TOLD by the authors' own Lean function (tested against real Go, not proved from fmt's source: count such statements apart). THE CARD IS WHAT COUNTS. Prove the row's statement (the work); the ties are given (YtidjkcfjocppmaaDoorTie.lean); close each card by the builder's one call (the guide's Derived/Test/ToyasCard.lean, 'card_holds'). Laid BY PROGRAM, IN A SANDBOX (cutbox-door.mjs). By AI agents, Wed Nov 11 2026. No macro, syntax, notation, axiom, sorry.
-/
import Derived.Test.YtidjkcfjocppmaaDoorRows
import GoSem.ClaimSeven
namespace Go.Proofs.YtidjkcfjocppmaaDoor
namespace Rows

/-- THE TIED CARD OF 'scriniumlaw10.ChainNeeds'. -/
def chainNeedsCard : Claim7 := { stood := { row := chainNeedsRow, standIns := [], harness := (true, "e9a9ffb7bee86a75bc86580c50e75dc5528134d3ce6b3d4760bc50010e66f472"), looks := true }, kinds := [], alts := [], laidByText := true, laidKinds := [.sentinel, .sentinel, .sentinel, .sentinel, .sentinel], laidTests := true, laidLooks := .later }
def ChainNeedsCardSaid : Prop := Claim7.holds Tryd.pinned (.plain (OpenSpec.ofChange chainNeedsSpec)) chainNeedsCard

/-- THE TIED CARD OF 'scriniumlaw10.ChainErases'. -/
def chainErasesCard : Claim7 := { stood := { row := chainErasesRow, standIns := [], harness := (true, "e9a9ffb7bee86a75bc86580c50e75dc5528134d3ce6b3d4760bc50010e66f472"), looks := true }, kinds := [], alts := [], laidByText := true, laidKinds := [.sentinel, .sentinel, .sentinel, .sentinel, .sentinel], laidTests := true, laidLooks := .later }
def ChainErasesCardSaid : Prop := Claim7.holds Tryd.pinned (.plain (OpenSpec.ofChange chainErasesSpec)) chainErasesCard

/-- THE TIED CARD OF 'scriniumlaw10.ChainBack'. -/
def chainBackCard : Claim7 := { stood := { row := chainBackRow, standIns := [], harness := (true, "e9a9ffb7bee86a75bc86580c50e75dc5528134d3ce6b3d4760bc50010e66f472"), looks := true }, kinds := [], alts := [], laidByText := true, laidKinds := [.sentinel, .sentinel, .sentinel, .sentinel, .sentinel, .sentinel, .sentinel, .sentinel, .sentinel], laidTests := true, laidLooks := .later }
def ChainBackCardSaid : Prop := Claim7.holds Tryd.pinned (.plain (OpenSpec.ofChange chainBackSpec)) chainBackCard

/-- THE TIED CARD OF 'scriniumlaw10.ChainRefuses'. -/
def chainRefusesCard : Claim7 := { stood := { row := chainRefusesRow, standIns := [], harness := (true, "e9a9ffb7bee86a75bc86580c50e75dc5528134d3ce6b3d4760bc50010e66f472"), looks := true }, kinds := [], alts := [], laidByText := true, laidKinds := [.sentinel, .sentinel, .sentinel, .sentinel, .sentinel, .sentinel, .sentinel, .sentinel, .sentinel], laidTests := true, laidLooks := .later }
def ChainRefusesCardSaid : Prop := Claim7.holds Tryd.pinned (.plain (OpenSpec.ofChange chainRefusesSpec)) chainRefusesCard

/-- THE TIED CARD OF 'scriniumlaw10.ChainWrites'. -/
def chainWritesCard : Claim7 := { stood := { row := chainWritesRow, standIns := [], harness := (true, "e9a9ffb7bee86a75bc86580c50e75dc5528134d3ce6b3d4760bc50010e66f472"), looks := true }, kinds := [], alts := [], laidByText := true, laidKinds := [.sentinel, .sentinel, .sentinel, .sentinel, .sentinel, .sentinel, .sentinel, .sentinel, .sentinel], laidTests := true, laidLooks := .later }
def ChainWritesCardSaid : Prop := Claim7.holds Tryd.pinned (.plain (OpenSpec.ofChange chainWritesSpec)) chainWritesCard

/-- THE TIED CARD OF 'scriniumlaw10.ChainCorrupt'. -/
def chainCorruptCard : Claim7 := { stood := { row := chainCorruptRow, standIns := [], harness := (true, "e9a9ffb7bee86a75bc86580c50e75dc5528134d3ce6b3d4760bc50010e66f472"), looks := true }, kinds := [], alts := [], laidByText := true, laidKinds := [.handle, .sentinel, .sentinel, .sentinel, .sentinel, .sentinel, .sentinel, .sentinel, .sentinel, .sentinel], laidTests := true, laidLooks := .later }
def ChainCorruptCardSaid : Prop := Claim7.holds Tryd.pinned (.plain (OpenSpec.ofChange chainCorruptSpec)) chainCorruptCard

/-- THE SECOND FORM's CARD OF 'scriniumlaw10.ChainNeeds'. -/
def chainNeedsUptoCard : Claim7 := { stood := { row := chainNeedsUptoRow, standIns := [], harness := (true, "e9a9ffb7bee86a75bc86580c50e75dc5528134d3ce6b3d4760bc50010e66f472"), looks := true }, kinds := [], alts := [], laidByText := true, laidKinds := [.sentinel, .sentinel, .sentinel, .sentinel, .sentinel], laidTests := true, laidLooks := .later }
def ChainNeedsUptoCardSaid : Prop := Claim7.holds Tryd.pinned (.plain (OpenSpec.upto chainNeedsSpec)) chainNeedsUptoCard

/-- THE SECOND FORM's CARD OF 'scriniumlaw10.ChainErases'. -/
def chainErasesUptoCard : Claim7 := { stood := { row := chainErasesUptoRow, standIns := [], harness := (true, "e9a9ffb7bee86a75bc86580c50e75dc5528134d3ce6b3d4760bc50010e66f472"), looks := true }, kinds := [], alts := [], laidByText := true, laidKinds := [.sentinel, .sentinel, .sentinel, .sentinel, .sentinel], laidTests := true, laidLooks := .later }
def ChainErasesUptoCardSaid : Prop := Claim7.holds Tryd.pinned (.plain (OpenSpec.upto chainErasesSpec)) chainErasesUptoCard

/-- THE SECOND FORM's CARD OF 'scriniumlaw10.ChainBack'. -/
def chainBackUptoCard : Claim7 := { stood := { row := chainBackUptoRow, standIns := [], harness := (true, "e9a9ffb7bee86a75bc86580c50e75dc5528134d3ce6b3d4760bc50010e66f472"), looks := true }, kinds := [], alts := [], laidByText := true, laidKinds := [.sentinel, .sentinel, .sentinel, .sentinel, .sentinel, .sentinel, .sentinel, .sentinel, .sentinel], laidTests := true, laidLooks := .later }
def ChainBackUptoCardSaid : Prop := Claim7.holds Tryd.pinned (.plain (OpenSpec.upto chainBackSpec)) chainBackUptoCard

/-- THE SECOND FORM's CARD OF 'scriniumlaw10.ChainRefuses'. -/
def chainRefusesUptoCard : Claim7 := { stood := { row := chainRefusesUptoRow, standIns := [], harness := (true, "e9a9ffb7bee86a75bc86580c50e75dc5528134d3ce6b3d4760bc50010e66f472"), looks := true }, kinds := [], alts := [], laidByText := true, laidKinds := [.sentinel, .sentinel, .sentinel, .sentinel, .sentinel, .sentinel, .sentinel, .sentinel, .sentinel], laidTests := true, laidLooks := .later }
def ChainRefusesUptoCardSaid : Prop := Claim7.holds Tryd.pinned (.plain (OpenSpec.upto chainRefusesSpec)) chainRefusesUptoCard

/-- THE SECOND FORM's CARD OF 'scriniumlaw10.ChainWrites'. -/
def chainWritesUptoCard : Claim7 := { stood := { row := chainWritesUptoRow, standIns := [], harness := (true, "e9a9ffb7bee86a75bc86580c50e75dc5528134d3ce6b3d4760bc50010e66f472"), looks := true }, kinds := [], alts := [], laidByText := true, laidKinds := [.sentinel, .sentinel, .sentinel, .sentinel, .sentinel, .sentinel, .sentinel, .sentinel, .sentinel], laidTests := true, laidLooks := .later }
def ChainWritesUptoCardSaid : Prop := Claim7.holds Tryd.pinned (.plain (OpenSpec.upto chainWritesSpec)) chainWritesUptoCard

/-- THE SECOND FORM's CARD OF 'scriniumlaw10.ChainCorrupt'. -/
def chainCorruptUptoCard : Claim7 := { stood := { row := chainCorruptUptoRow, standIns := [], harness := (true, "e9a9ffb7bee86a75bc86580c50e75dc5528134d3ce6b3d4760bc50010e66f472"), looks := true }, kinds := [], alts := [], laidByText := true, laidKinds := [.handle, .sentinel, .sentinel, .sentinel, .sentinel, .sentinel, .sentinel, .sentinel, .sentinel, .sentinel], laidTests := true, laidLooks := .later }
def ChainCorruptUptoCardSaid : Prop := Claim7.holds Tryd.pinned (.plain (OpenSpec.upto chainCorruptSpec)) chainCorruptUptoCard
end Rows
end Go.Proofs.YtidjkcfjocppmaaDoor
