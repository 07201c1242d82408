/-
  DERIVED. GIVEN WITH THE SEED: THE PROGRAM's TIES (one call each: nine closed facts by the kernel) AND EACH ROW's TIE, after the 31st guide's Derived/Test/Toyas{Tie, Card}.lean. No idea stands in it: it is a product of the set-up. Laid BY PROGRAM, IN A SANDBOX (cutbox-door.mjs). By AI agents, Wed Nov 11 2026. No macro, syntax, notation, axiom, sorry.
-/
import Derived.Test.YtlbbhgmpiednfaaGreatDoorRows
import Derived.LaidByTextLater
import Derived.SevenTiedAt
import Derived.LaidSub
import Derived.LaidOnce
namespace Go.Proofs.YtlbbhgmpiednfaaGreatDoor
open Go
set_option maxRecDepth 100000
theorem seatTie1 : Tryz.prog.laidByTextLater [("errors.errorType", Rows.laid_errors_errorType), ("vestry/name.reserved", Rows.laid_vestry_name_reserved)] [.handle, .widerDeep] true :=
  Program.laidByTextLater_by_one 21 8 4 (by kernel_rfl) (by kernel_rfl) (by kernel_rfl) (by kernel_rfl) (by kernel_rfl) (by kernel_rfl) (fun _ _ => by kernel_rfl)
theorem noOwnUnsafe : Tryz.pinned.checked.prog.headLifts.contains "ownunsafe" = false := by kernel_rfl
theorem tie : Tryz.prog.laidByTextLater [("errors.errorType", Rows.laid_errors_errorType), ("vestry/name.reserved", Rows.laid_vestry_name_reserved)] [.handle, .widerDeep] true :=
  Program.laidByTextLater.sub seatTie1 ["errors.errorType", "vestry/name.reserved"] (by kernel_rfl) (by kernel_rfl)
theorem tupleSorts_row_tie : Rows.tupleSortsRow.laidByTextAt .later Tryz.pinned [.handle, .widerDeep] true :=
  OpenClaim.laidByTextAt_later rfl rfl tie noOwnUnsafe
theorem tupleApart_row_tie : Rows.tupleApartRow.laidByTextAt .later Tryz.pinned [.handle, .widerDeep] true :=
  OpenClaim.laidByTextAt_later rfl rfl tie noOwnUnsafe
theorem tupleMatchesReference_row_tie : Rows.tupleMatchesReferenceRow.laidByTextAt .later Tryz.pinned [.handle, .widerDeep] true :=
  OpenClaim.laidByTextAt_later rfl rfl tie noOwnUnsafe
theorem tupleParses_row_tie : Rows.tupleParsesRow.laidByTextAt .later Tryz.pinned [.handle, .widerDeep] true :=
  OpenClaim.laidByTextAt_later rfl rfl tie noOwnUnsafe
theorem tupleReads_row_tie : Rows.tupleReadsRow.laidByTextAt .later Tryz.pinned [.handle, .widerDeep] true :=
  OpenClaim.laidByTextAt_later rfl rfl tie noOwnUnsafe
theorem tupleSortsUpto_row_tie : Rows.tupleSortsUptoRow.laidByTextAt .later Tryz.pinned [.handle, .widerDeep] true :=
  OpenClaim.laidByTextAt_later rfl rfl tie noOwnUnsafe
theorem tupleApartUpto_row_tie : Rows.tupleApartUptoRow.laidByTextAt .later Tryz.pinned [.handle, .widerDeep] true :=
  OpenClaim.laidByTextAt_later rfl rfl tie noOwnUnsafe
theorem tupleMatchesReferenceUpto_row_tie : Rows.tupleMatchesReferenceUptoRow.laidByTextAt .later Tryz.pinned [.handle, .widerDeep] true :=
  OpenClaim.laidByTextAt_later rfl rfl tie noOwnUnsafe
theorem tupleParsesUpto_row_tie : Rows.tupleParsesUptoRow.laidByTextAt .later Tryz.pinned [.handle, .widerDeep] true :=
  OpenClaim.laidByTextAt_later rfl rfl tie noOwnUnsafe
theorem tupleReadsUpto_row_tie : Rows.tupleReadsUptoRow.laidByTextAt .later Tryz.pinned [.handle, .widerDeep] true :=
  OpenClaim.laidByTextAt_later rfl rfl tie noOwnUnsafe
end Go.Proofs.YtlbbhgmpiednfaaGreatDoor
