/-
  DERIVED. GIVEN WITH THE SEED: THE PROGRAM's TIES (one call each: nine closed facts by the kernel) AND EACH ROW's TIE, after the 31st guide's Derived/Test/Toyas{Tie, Card}.lean. No idea stands in it: it is a product of the set-up. Laid BY PROGRAM, IN A SANDBOX (cutbox-door.mjs). By AI agents, Wed Nov 11 2026. No macro, syntax, notation, axiom, sorry.
-/
import Derived.Test.YtfhhiajfciblbaaGreatDoorRows
import Derived.LaidByTextLater
import Derived.SevenTiedAt
import Derived.LaidSub
import Derived.LaidOnce
namespace Go.Proofs.YtfhhiajfciblbaaGreatDoor
open Go
set_option maxRecDepth 100000
theorem seatTie1 : Tryz.prog.laidByTextLater [("culprit/culpritref02.constants", Rows.laid_culprit_culpritref02_constants), ("culprit/hash.constants", Rows.laid_culprit_hash_constants), ("culprit/code.operations", Rows.laid_culprit_code_operations)] [.data, .data, .data] true :=
  Program.laidByTextLater_by_one 53 8 65 (by kernel_rfl) (by kernel_rfl) (by kernel_rfl) (by kernel_rfl) (by kernel_rfl) (by kernel_rfl) (fun _ _ => by kernel_rfl)
theorem noOwnUnsafe : Tryz.pinned.checked.prog.headLifts.contains "ownunsafe" = false := by kernel_rfl
theorem tie : Tryz.prog.laidByTextLater [("culprit/code.operations", Rows.laid_culprit_code_operations)] [.data] true :=
  Program.laidByTextLater.sub seatTie1 ["culprit/code.operations"] (by kernel_rfl) (by kernel_rfl)
theorem machineStarts_row_tie : Rows.machineStartsRow.laidByTextAt .later Tryz.pinned [.data] true :=
  OpenClaim.laidByTextAt_later rfl rfl tie noOwnUnsafe
theorem machineSteps_row_tie : Rows.machineStepsRow.laidByTextAt .later Tryz.pinned [.data] true :=
  OpenClaim.laidByTextAt_later rfl rfl tie noOwnUnsafe
theorem machineAccesses_row_tie : Rows.machineAccessesRow.laidByTextAt .later Tryz.pinned [.data] true :=
  OpenClaim.laidByTextAt_later rfl rfl tie noOwnUnsafe
theorem tie2 : Tryz.prog.laidByTextLater [("culprit/culpritref02.constants", Rows.laid_culprit_culpritref02_constants), ("culprit/hash.constants", Rows.laid_culprit_hash_constants), ("culprit/code.operations", Rows.laid_culprit_code_operations)] [.data, .data, .data] true :=
  Program.laidByTextLater.sub seatTie1 ["culprit/culpritref02.constants", "culprit/hash.constants", "culprit/code.operations"] (by kernel_rfl) (by kernel_rfl)
theorem machineEncodes_row_tie : Rows.machineEncodesRow.laidByTextAt .later Tryz.pinned [.data, .data, .data] true :=
  OpenClaim.laidByTextAt_later rfl rfl tie2 noOwnUnsafe
theorem machineStartsUpto_row_tie : Rows.machineStartsUptoRow.laidByTextAt .later Tryz.pinned [.data] true :=
  OpenClaim.laidByTextAt_later rfl rfl tie noOwnUnsafe
theorem machineStepsUpto_row_tie : Rows.machineStepsUptoRow.laidByTextAt .later Tryz.pinned [.data] true :=
  OpenClaim.laidByTextAt_later rfl rfl tie noOwnUnsafe
theorem machineAccessesUpto_row_tie : Rows.machineAccessesUptoRow.laidByTextAt .later Tryz.pinned [.data] true :=
  OpenClaim.laidByTextAt_later rfl rfl tie noOwnUnsafe
theorem machineEncodesUpto_row_tie : Rows.machineEncodesUptoRow.laidByTextAt .later Tryz.pinned [.data, .data, .data] true :=
  OpenClaim.laidByTextAt_later rfl rfl tie2 noOwnUnsafe
end Go.Proofs.YtfhhiajfciblbaaGreatDoor
