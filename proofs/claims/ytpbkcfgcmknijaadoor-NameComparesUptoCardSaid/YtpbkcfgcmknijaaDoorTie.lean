/-
  DERIVED. GIVEN WITH THE SEED: THE PROGRAM's TIES (one call each: nine closed facts by the kernel) AND EACH ROW's TIE, after the 31st guide's Derived/Test/Toyas{Tie, Card}.lean. No idea stands in it: it is a product of the set-up. Laid BY PROGRAM, IN A SANDBOX (cutbox-door.mjs). By AI agents, Wed Nov 11 2026. No macro, syntax, notation, axiom, sorry.
-/
import Derived.Test.YtpbkcfgcmknijaaDoorRows
import Derived.LaidByTextLater
import Derived.SevenTiedAt
import Derived.LaidSub
import Derived.LaidOnce
namespace Go.Proofs.YtpbkcfgcmknijaaDoor
open Go
set_option maxRecDepth 100000
theorem seatTie1 : Tryd.prog.laidByTextLater [("errors.errorType", Rows.laid_errors_errorType), ("vestry/name.reserved", Rows.laid_vestry_name_reserved)] [.handle, .widerDeep] true :=
  Program.laidByTextLater_by_one 21 8 4 (by kernel_rfl) (by kernel_rfl) (by kernel_rfl) (by kernel_rfl) (by kernel_rfl) (by kernel_rfl) (fun _ _ => by kernel_rfl)
theorem noOwnUnsafe : Tryd.pinned.checked.prog.headLifts.contains "ownunsafe" = false := by kernel_rfl
theorem tie : Tryd.prog.laidByTextLater [("errors.errorType", Rows.laid_errors_errorType), ("vestry/name.reserved", Rows.laid_vestry_name_reserved)] [.handle, .widerDeep] true :=
  Program.laidByTextLater.sub seatTie1 ["errors.errorType", "vestry/name.reserved"] (by kernel_rfl) (by kernel_rfl)
theorem nameMatchesReference_row_tie : Rows.nameMatchesReferenceRow.laidByTextAt .later Tryd.pinned [.handle, .widerDeep] true :=
  OpenClaim.laidByTextAt_later rfl rfl tie noOwnUnsafe
theorem nameParses_row_tie : Rows.nameParsesRow.laidByTextAt .later Tryd.pinned [.handle, .widerDeep] true :=
  OpenClaim.laidByTextAt_later rfl rfl tie noOwnUnsafe
theorem nameObjects_row_tie : Rows.nameObjectsRow.laidByTextAt .later Tryd.pinned [.handle, .widerDeep] true :=
  OpenClaim.laidByTextAt_later rfl rfl tie noOwnUnsafe
theorem nameAllowed_row_tie : Rows.nameAllowedRow.laidByTextAt .later Tryd.pinned [.handle, .widerDeep] true :=
  OpenClaim.laidByTextAt_later rfl rfl tie noOwnUnsafe
theorem nameCompares_row_tie : Rows.nameComparesRow.laidByTextAt .later Tryd.pinned [.handle, .widerDeep] true :=
  OpenClaim.laidByTextAt_later rfl rfl tie noOwnUnsafe
theorem nameMatchesReferenceUpto_row_tie : Rows.nameMatchesReferenceUptoRow.laidByTextAt .later Tryd.pinned [.handle, .widerDeep] true :=
  OpenClaim.laidByTextAt_later rfl rfl tie noOwnUnsafe
theorem nameParsesUpto_row_tie : Rows.nameParsesUptoRow.laidByTextAt .later Tryd.pinned [.handle, .widerDeep] true :=
  OpenClaim.laidByTextAt_later rfl rfl tie noOwnUnsafe
theorem nameObjectsUpto_row_tie : Rows.nameObjectsUptoRow.laidByTextAt .later Tryd.pinned [.handle, .widerDeep] true :=
  OpenClaim.laidByTextAt_later rfl rfl tie noOwnUnsafe
theorem nameAllowedUpto_row_tie : Rows.nameAllowedUptoRow.laidByTextAt .later Tryd.pinned [.handle, .widerDeep] true :=
  OpenClaim.laidByTextAt_later rfl rfl tie noOwnUnsafe
theorem nameComparesUpto_row_tie : Rows.nameComparesUptoRow.laidByTextAt .later Tryd.pinned [.handle, .widerDeep] true :=
  OpenClaim.laidByTextAt_later rfl rfl tie noOwnUnsafe
end Go.Proofs.YtpbkcfgcmknijaaDoor
