/-
  DERIVED. GIVEN WITH THE SEED: THE PROGRAM's TIES (one call each: nine closed facts by the kernel) AND EACH ROW's TIE, after the 31st guide's Derived/Test/Toyas{Tie, Card}.lean. No idea stands in it: it is a product of the set-up. Laid BY PROGRAM, IN A SANDBOX (cutbox-door.mjs). By AI agents, Wed Nov 11 2026. No macro, syntax, notation, axiom, sorry.
-/
import Derived.Test.YtefaghnlmmgpcaaGreatDoorRows
import Derived.LaidByTextLater
import Derived.SevenTiedAt
import Derived.LaidSub
import Derived.LaidOnce
namespace Go.Proofs.YtefaghnlmmgpcaaGreatDoor
open Go
set_option maxRecDepth 100000
theorem seatTie1 : Tryz.prog.laidByTextLater [("sextet/api.ErrEnd", Rows.laid_sextet_api_ErrEnd), ("sextet/api.ErrSum", Rows.laid_sextet_api_ErrSum), ("sextet/api.ErrShape", Rows.laid_sextet_api_ErrShape), ("sextet/api.ErrMany", Rows.laid_sextet_api_ErrMany), ("sextet/api.ErrRange", Rows.laid_sextet_api_ErrRange), ("sextet/api.ErrKind", Rows.laid_sextet_api_ErrKind), ("sextet/api.ErrNone", Rows.laid_sextet_api_ErrNone), ("sextet/api.ErrThere", Rows.laid_sextet_api_ErrThere), ("sextet/api.ErrFull", Rows.laid_sextet_api_ErrFull), ("sextet/api.ErrCrash", Rows.laid_sextet_api_ErrCrash), ("sextet/api.ErrState", Rows.laid_sextet_api_ErrState), ("sextet/api.ErrConflict", Rows.laid_sextet_api_ErrConflict), ("sextet/api.ErrWaits", Rows.laid_sextet_api_ErrWaits), ("sextet/api.ErrLimit", Rows.laid_sextet_api_ErrLimit), ("sextet/api.ErrFenced", Rows.laid_sextet_api_ErrFenced), ("sextet/api.ErrWord", Rows.laid_sextet_api_ErrWord), ("sextet/api.ErrNumber", Rows.laid_sextet_api_ErrNumber)] [.sentinel, .sentinel, .sentinel, .sentinel, .sentinel, .sentinel, .sentinel, .sentinel, .sentinel, .sentinel, .sentinel, .sentinel, .sentinel, .sentinel, .sentinel, .sentinel, .sentinel] true :=
  Program.laidByTextLater_by_one 332 8 2 (by kernel_rfl) (by kernel_rfl) (by kernel_rfl) (by kernel_rfl) (by kernel_rfl) (by kernel_rfl) (fun _ _ => by kernel_rfl)
theorem noOwnUnsafe : Tryz.pinned.checked.prog.headLifts.contains "ownunsafe" = false := by kernel_rfl
theorem tie : Tryz.prog.laidByTextLater [("sextet/api.ErrEnd", Rows.laid_sextet_api_ErrEnd), ("sextet/api.ErrShape", Rows.laid_sextet_api_ErrShape), ("sextet/api.ErrMany", Rows.laid_sextet_api_ErrMany), ("sextet/api.ErrRange", Rows.laid_sextet_api_ErrRange), ("sextet/api.ErrKind", Rows.laid_sextet_api_ErrKind), ("sextet/api.ErrNone", Rows.laid_sextet_api_ErrNone), ("sextet/api.ErrThere", Rows.laid_sextet_api_ErrThere), ("sextet/api.ErrFull", Rows.laid_sextet_api_ErrFull), ("sextet/api.ErrCrash", Rows.laid_sextet_api_ErrCrash), ("sextet/api.ErrState", Rows.laid_sextet_api_ErrState)] [.sentinel, .sentinel, .sentinel, .sentinel, .sentinel, .sentinel, .sentinel, .sentinel, .sentinel, .sentinel] true :=
  Program.laidByTextLater.sub seatTie1 ["sextet/api.ErrEnd", "sextet/api.ErrShape", "sextet/api.ErrMany", "sextet/api.ErrRange", "sextet/api.ErrKind", "sextet/api.ErrNone", "sextet/api.ErrThere", "sextet/api.ErrFull", "sextet/api.ErrCrash", "sextet/api.ErrState"] (by kernel_rfl) (by kernel_rfl)
theorem segReads_row_tie : Rows.segReadsRow.laidByTextAt .later Tryz.pinned [.sentinel, .sentinel, .sentinel, .sentinel, .sentinel, .sentinel, .sentinel, .sentinel, .sentinel, .sentinel] true :=
  OpenClaim.laidByTextAt_later rfl rfl tie noOwnUnsafe
theorem segAcks_row_tie : Rows.segAcksRow.laidByTextAt .later Tryz.pinned [.sentinel, .sentinel, .sentinel, .sentinel, .sentinel, .sentinel, .sentinel, .sentinel, .sentinel, .sentinel] true :=
  OpenClaim.laidByTextAt_later rfl rfl tie noOwnUnsafe
theorem segEpochs_row_tie : Rows.segEpochsRow.laidByTextAt .later Tryz.pinned [.sentinel, .sentinel, .sentinel, .sentinel, .sentinel, .sentinel, .sentinel, .sentinel, .sentinel, .sentinel] true :=
  OpenClaim.laidByTextAt_later rfl rfl tie noOwnUnsafe
theorem tie2 : Tryz.prog.laidByTextLater [("sextet/api.ErrEnd", Rows.laid_sextet_api_ErrEnd), ("sextet/api.ErrSum", Rows.laid_sextet_api_ErrSum), ("sextet/api.ErrShape", Rows.laid_sextet_api_ErrShape), ("sextet/api.ErrMany", Rows.laid_sextet_api_ErrMany), ("sextet/api.ErrRange", Rows.laid_sextet_api_ErrRange), ("sextet/api.ErrKind", Rows.laid_sextet_api_ErrKind), ("sextet/api.ErrNone", Rows.laid_sextet_api_ErrNone), ("sextet/api.ErrThere", Rows.laid_sextet_api_ErrThere), ("sextet/api.ErrFull", Rows.laid_sextet_api_ErrFull), ("sextet/api.ErrCrash", Rows.laid_sextet_api_ErrCrash), ("sextet/api.ErrState", Rows.laid_sextet_api_ErrState), ("sextet/api.ErrConflict", Rows.laid_sextet_api_ErrConflict), ("sextet/api.ErrWaits", Rows.laid_sextet_api_ErrWaits), ("sextet/api.ErrLimit", Rows.laid_sextet_api_ErrLimit), ("sextet/api.ErrFenced", Rows.laid_sextet_api_ErrFenced), ("sextet/api.ErrWord", Rows.laid_sextet_api_ErrWord), ("sextet/api.ErrNumber", Rows.laid_sextet_api_ErrNumber)] [.sentinel, .sentinel, .sentinel, .sentinel, .sentinel, .sentinel, .sentinel, .sentinel, .sentinel, .sentinel, .sentinel, .sentinel, .sentinel, .sentinel, .sentinel, .sentinel, .sentinel] true :=
  Program.laidByTextLater.sub seatTie1 ["sextet/api.ErrEnd", "sextet/api.ErrSum", "sextet/api.ErrShape", "sextet/api.ErrMany", "sextet/api.ErrRange", "sextet/api.ErrKind", "sextet/api.ErrNone", "sextet/api.ErrThere", "sextet/api.ErrFull", "sextet/api.ErrCrash", "sextet/api.ErrState", "sextet/api.ErrConflict", "sextet/api.ErrWaits", "sextet/api.ErrLimit", "sextet/api.ErrFenced", "sextet/api.ErrWord", "sextet/api.ErrNumber"] (by kernel_rfl) (by kernel_rfl)
theorem segFull_row_tie : Rows.segFullRow.laidByTextAt .later Tryz.pinned [.sentinel, .sentinel, .sentinel, .sentinel, .sentinel, .sentinel, .sentinel, .sentinel, .sentinel, .sentinel, .sentinel, .sentinel, .sentinel, .sentinel, .sentinel, .sentinel, .sentinel] true :=
  OpenClaim.laidByTextAt_later rfl rfl tie2 noOwnUnsafe
theorem volEpochs_row_tie : Rows.volEpochsRow.laidByTextAt .later Tryz.pinned [.sentinel, .sentinel, .sentinel, .sentinel, .sentinel, .sentinel, .sentinel, .sentinel, .sentinel, .sentinel, .sentinel, .sentinel, .sentinel, .sentinel, .sentinel, .sentinel, .sentinel] true :=
  OpenClaim.laidByTextAt_later rfl rfl tie2 noOwnUnsafe
theorem segReadsUpto_row_tie : Rows.segReadsUptoRow.laidByTextAt .later Tryz.pinned [.sentinel, .sentinel, .sentinel, .sentinel, .sentinel, .sentinel, .sentinel, .sentinel, .sentinel, .sentinel] true :=
  OpenClaim.laidByTextAt_later rfl rfl tie noOwnUnsafe
theorem segFullUpto_row_tie : Rows.segFullUptoRow.laidByTextAt .later Tryz.pinned [.sentinel, .sentinel, .sentinel, .sentinel, .sentinel, .sentinel, .sentinel, .sentinel, .sentinel, .sentinel, .sentinel, .sentinel, .sentinel, .sentinel, .sentinel, .sentinel, .sentinel] true :=
  OpenClaim.laidByTextAt_later rfl rfl tie2 noOwnUnsafe
theorem segAcksUpto_row_tie : Rows.segAcksUptoRow.laidByTextAt .later Tryz.pinned [.sentinel, .sentinel, .sentinel, .sentinel, .sentinel, .sentinel, .sentinel, .sentinel, .sentinel, .sentinel] true :=
  OpenClaim.laidByTextAt_later rfl rfl tie noOwnUnsafe
theorem segEpochsUpto_row_tie : Rows.segEpochsUptoRow.laidByTextAt .later Tryz.pinned [.sentinel, .sentinel, .sentinel, .sentinel, .sentinel, .sentinel, .sentinel, .sentinel, .sentinel, .sentinel] true :=
  OpenClaim.laidByTextAt_later rfl rfl tie noOwnUnsafe
theorem volEpochsUpto_row_tie : Rows.volEpochsUptoRow.laidByTextAt .later Tryz.pinned [.sentinel, .sentinel, .sentinel, .sentinel, .sentinel, .sentinel, .sentinel, .sentinel, .sentinel, .sentinel, .sentinel, .sentinel, .sentinel, .sentinel, .sentinel, .sentinel, .sentinel] true :=
  OpenClaim.laidByTextAt_later rfl rfl tie2 noOwnUnsafe
end Go.Proofs.YtefaghnlmmgpcaaGreatDoor
