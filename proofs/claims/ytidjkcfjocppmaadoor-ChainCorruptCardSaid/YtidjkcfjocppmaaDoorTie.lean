/-
  DERIVED. GIVEN WITH THE SEED: THE PROGRAM's TIES (one call each: nine closed facts by the kernel) AND EACH ROW's TIE, after the 31st guide's Derived/Test/Toyas{Tie, Card}.lean. No idea stands in it: it is a product of the set-up. Laid BY PROGRAM, IN A SANDBOX (cutbox-door.mjs). By AI agents, Wed Nov 11 2026. No macro, syntax, notation, axiom, sorry.
-/
import Derived.Test.YtidjkcfjocppmaaDoorRows
import Derived.LaidByTextLater
import Derived.SevenTiedAt
import Derived.LaidSub
import Derived.LaidOnce
namespace Go.Proofs.YtidjkcfjocppmaaDoor
open Go
set_option maxRecDepth 100000
theorem seatTie1 : Tryd.prog.laidByTextLater [("errors.errorType", Rows.laid_errors_errorType), ("scrinium/api.ErrForm", Rows.laid_scrinium_api_ErrForm), ("scrinium/api.ErrRange", Rows.laid_scrinium_api_ErrRange), ("scrinium/api.ErrFull", Rows.laid_scrinium_api_ErrFull), ("scrinium/api.ErrNone", Rows.laid_scrinium_api_ErrNone), ("scrinium/api.ErrCorrupt", Rows.laid_scrinium_api_ErrCorrupt), ("scrinium/api.ErrFuel", Rows.laid_scrinium_api_ErrFuel), ("scrinium/api.ErrState", Rows.laid_scrinium_api_ErrState), ("scrinium/api.ErrLong", Rows.laid_scrinium_api_ErrLong), ("scrinium/api.ErrTwice", Rows.laid_scrinium_api_ErrTwice)] [.handle, .sentinel, .sentinel, .sentinel, .sentinel, .sentinel, .sentinel, .sentinel, .sentinel, .sentinel] true :=
  Program.laidByTextLater_by_one 187 8 2 (by kernel_rfl) (by kernel_rfl) (by kernel_rfl) (by kernel_rfl) (by kernel_rfl) (by kernel_rfl) (fun _ _ => by kernel_rfl)
theorem noOwnUnsafe : Tryd.pinned.checked.prog.headLifts.contains "ownunsafe" = false := by kernel_rfl
theorem tie : Tryd.prog.laidByTextLater [("scrinium/api.ErrForm", Rows.laid_scrinium_api_ErrForm), ("scrinium/api.ErrRange", Rows.laid_scrinium_api_ErrRange), ("scrinium/api.ErrFull", Rows.laid_scrinium_api_ErrFull), ("scrinium/api.ErrCorrupt", Rows.laid_scrinium_api_ErrCorrupt), ("scrinium/api.ErrState", Rows.laid_scrinium_api_ErrState)] [.sentinel, .sentinel, .sentinel, .sentinel, .sentinel] true :=
  Program.laidByTextLater.sub seatTie1 ["scrinium/api.ErrForm", "scrinium/api.ErrRange", "scrinium/api.ErrFull", "scrinium/api.ErrCorrupt", "scrinium/api.ErrState"] (by kernel_rfl) (by kernel_rfl)
theorem chainNeeds_row_tie : Rows.chainNeedsRow.laidByTextAt .later Tryd.pinned [.sentinel, .sentinel, .sentinel, .sentinel, .sentinel] true :=
  OpenClaim.laidByTextAt_later rfl rfl tie noOwnUnsafe
theorem chainErases_row_tie : Rows.chainErasesRow.laidByTextAt .later Tryd.pinned [.sentinel, .sentinel, .sentinel, .sentinel, .sentinel] true :=
  OpenClaim.laidByTextAt_later rfl rfl tie noOwnUnsafe
theorem tie2 : Tryd.prog.laidByTextLater [("scrinium/api.ErrForm", Rows.laid_scrinium_api_ErrForm), ("scrinium/api.ErrRange", Rows.laid_scrinium_api_ErrRange), ("scrinium/api.ErrFull", Rows.laid_scrinium_api_ErrFull), ("scrinium/api.ErrNone", Rows.laid_scrinium_api_ErrNone), ("scrinium/api.ErrCorrupt", Rows.laid_scrinium_api_ErrCorrupt), ("scrinium/api.ErrFuel", Rows.laid_scrinium_api_ErrFuel), ("scrinium/api.ErrState", Rows.laid_scrinium_api_ErrState), ("scrinium/api.ErrLong", Rows.laid_scrinium_api_ErrLong), ("scrinium/api.ErrTwice", Rows.laid_scrinium_api_ErrTwice)] [.sentinel, .sentinel, .sentinel, .sentinel, .sentinel, .sentinel, .sentinel, .sentinel, .sentinel] true :=
  Program.laidByTextLater.sub seatTie1 ["scrinium/api.ErrForm", "scrinium/api.ErrRange", "scrinium/api.ErrFull", "scrinium/api.ErrNone", "scrinium/api.ErrCorrupt", "scrinium/api.ErrFuel", "scrinium/api.ErrState", "scrinium/api.ErrLong", "scrinium/api.ErrTwice"] (by kernel_rfl) (by kernel_rfl)
theorem chainBack_row_tie : Rows.chainBackRow.laidByTextAt .later Tryd.pinned [.sentinel, .sentinel, .sentinel, .sentinel, .sentinel, .sentinel, .sentinel, .sentinel, .sentinel] true :=
  OpenClaim.laidByTextAt_later rfl rfl tie2 noOwnUnsafe
theorem chainRefuses_row_tie : Rows.chainRefusesRow.laidByTextAt .later Tryd.pinned [.sentinel, .sentinel, .sentinel, .sentinel, .sentinel, .sentinel, .sentinel, .sentinel, .sentinel] true :=
  OpenClaim.laidByTextAt_later rfl rfl tie2 noOwnUnsafe
theorem chainWrites_row_tie : Rows.chainWritesRow.laidByTextAt .later Tryd.pinned [.sentinel, .sentinel, .sentinel, .sentinel, .sentinel, .sentinel, .sentinel, .sentinel, .sentinel] true :=
  OpenClaim.laidByTextAt_later rfl rfl tie2 noOwnUnsafe
theorem tie3 : Tryd.prog.laidByTextLater [("errors.errorType", Rows.laid_errors_errorType), ("scrinium/api.ErrForm", Rows.laid_scrinium_api_ErrForm), ("scrinium/api.ErrRange", Rows.laid_scrinium_api_ErrRange), ("scrinium/api.ErrFull", Rows.laid_scrinium_api_ErrFull), ("scrinium/api.ErrNone", Rows.laid_scrinium_api_ErrNone), ("scrinium/api.ErrCorrupt", Rows.laid_scrinium_api_ErrCorrupt), ("scrinium/api.ErrFuel", Rows.laid_scrinium_api_ErrFuel), ("scrinium/api.ErrState", Rows.laid_scrinium_api_ErrState), ("scrinium/api.ErrLong", Rows.laid_scrinium_api_ErrLong), ("scrinium/api.ErrTwice", Rows.laid_scrinium_api_ErrTwice)] [.handle, .sentinel, .sentinel, .sentinel, .sentinel, .sentinel, .sentinel, .sentinel, .sentinel, .sentinel] true :=
  Program.laidByTextLater.sub seatTie1 ["errors.errorType", "scrinium/api.ErrForm", "scrinium/api.ErrRange", "scrinium/api.ErrFull", "scrinium/api.ErrNone", "scrinium/api.ErrCorrupt", "scrinium/api.ErrFuel", "scrinium/api.ErrState", "scrinium/api.ErrLong", "scrinium/api.ErrTwice"] (by kernel_rfl) (by kernel_rfl)
theorem chainCorrupt_row_tie : Rows.chainCorruptRow.laidByTextAt .later Tryd.pinned [.handle, .sentinel, .sentinel, .sentinel, .sentinel, .sentinel, .sentinel, .sentinel, .sentinel, .sentinel] true :=
  OpenClaim.laidByTextAt_later rfl rfl tie3 noOwnUnsafe
theorem chainNeedsUpto_row_tie : Rows.chainNeedsUptoRow.laidByTextAt .later Tryd.pinned [.sentinel, .sentinel, .sentinel, .sentinel, .sentinel] true :=
  OpenClaim.laidByTextAt_later rfl rfl tie noOwnUnsafe
theorem chainErasesUpto_row_tie : Rows.chainErasesUptoRow.laidByTextAt .later Tryd.pinned [.sentinel, .sentinel, .sentinel, .sentinel, .sentinel] true :=
  OpenClaim.laidByTextAt_later rfl rfl tie noOwnUnsafe
theorem chainBackUpto_row_tie : Rows.chainBackUptoRow.laidByTextAt .later Tryd.pinned [.sentinel, .sentinel, .sentinel, .sentinel, .sentinel, .sentinel, .sentinel, .sentinel, .sentinel] true :=
  OpenClaim.laidByTextAt_later rfl rfl tie2 noOwnUnsafe
theorem chainRefusesUpto_row_tie : Rows.chainRefusesUptoRow.laidByTextAt .later Tryd.pinned [.sentinel, .sentinel, .sentinel, .sentinel, .sentinel, .sentinel, .sentinel, .sentinel, .sentinel] true :=
  OpenClaim.laidByTextAt_later rfl rfl tie2 noOwnUnsafe
theorem chainWritesUpto_row_tie : Rows.chainWritesUptoRow.laidByTextAt .later Tryd.pinned [.sentinel, .sentinel, .sentinel, .sentinel, .sentinel, .sentinel, .sentinel, .sentinel, .sentinel] true :=
  OpenClaim.laidByTextAt_later rfl rfl tie2 noOwnUnsafe
theorem chainCorruptUpto_row_tie : Rows.chainCorruptUptoRow.laidByTextAt .later Tryd.pinned [.handle, .sentinel, .sentinel, .sentinel, .sentinel, .sentinel, .sentinel, .sentinel, .sentinel, .sentinel] true :=
  OpenClaim.laidByTextAt_later rfl rfl tie3 noOwnUnsafe
end Go.Proofs.YtidjkcfjocppmaaDoor
