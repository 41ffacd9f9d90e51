/-
  DERIVED. GIVEN WITH THE SEED: THE PROGRAM's TIES (one call each: nine closed facts by the kernel) AND EACH ROW's TIE, after the 31st guide's Derived/Test/Toyas{Tie, Card}.lean. No idea stands in it: it is a product of the set-up. Laid BY PROGRAM, IN A SANDBOX (cutbox-door.mjs). By AI agents, Wed Nov 11 2026. No macro, syntax, notation, axiom, sorry.
-/
import Derived.Test.YtgghcmbaidihjaaGreatDoorRows
import Derived.LaidByTextLater
import Derived.SevenTiedAt
import Derived.LaidSub
import Derived.LaidOnce
namespace Go.Proofs.YtgghcmbaidihjaaGreatDoor
open Go
set_option maxRecDepth 100000
theorem seatTie1 : Tryz.prog.laidByTextLater [("culprit/culpritref02.constants", Rows.laid_culprit_culpritref02_constants), ("math/bits.deBruijn32tab", Rows.laid_math_bits_deBruijn32tab), ("math/bits.deBruijn64tab", Rows.laid_math_bits_deBruijn64tab), ("culprit/hash.constants", Rows.laid_culprit_hash_constants), ("internal/strconv.uint64pow10", Rows.laid_internal_strconv_uint64pow10), ("culprit/code.operations", Rows.laid_culprit_code_operations)] [.data, .data, .data, .data, .data, .data] true :=
  Program.laidByTextLater_by_one 68 8 65 (by kernel_rfl) (by kernel_rfl) (by kernel_rfl) (by kernel_rfl) (by kernel_rfl) (by kernel_rfl) (fun _ _ => by kernel_rfl)
theorem seatTie2 : Tryz.prog.laidByTextLater [("math/bits.deBruijn32tab", Rows.laid_math_bits_deBruijn32tab), ("math/bits.deBruijn64tab", Rows.laid_math_bits_deBruijn64tab), ("culprit/hash.constants", Rows.laid_culprit_hash_constants), ("internal/strconv.uint64pow10", Rows.laid_internal_strconv_uint64pow10), ("culprit/code.operations", Rows.laid_culprit_code_operations)] [.data, .data, .data, .data, .data] true :=
  Program.laidByTextLater_by_one 68 8 65 (by kernel_rfl) (by kernel_rfl) (by kernel_rfl) (by kernel_rfl) (by kernel_rfl) (by kernel_rfl) (fun _ _ => by kernel_rfl)
theorem noOwnUnsafe : Tryz.pinned.checked.prog.headLifts.contains "ownunsafe" = false := by kernel_rfl
theorem tie : Tryz.prog.laidByTextLater [("culprit/culpritref02.constants", Rows.laid_culprit_culpritref02_constants), ("math/bits.deBruijn32tab", Rows.laid_math_bits_deBruijn32tab), ("math/bits.deBruijn64tab", Rows.laid_math_bits_deBruijn64tab), ("culprit/hash.constants", Rows.laid_culprit_hash_constants), ("internal/strconv.uint64pow10", Rows.laid_internal_strconv_uint64pow10), ("culprit/code.operations", Rows.laid_culprit_code_operations)] [.data, .data, .data, .data, .data, .data] true :=
  Program.laidByTextLater.sub seatTie1 ["culprit/culpritref02.constants", "math/bits.deBruijn32tab", "math/bits.deBruijn64tab", "culprit/hash.constants", "internal/strconv.uint64pow10", "culprit/code.operations"] (by kernel_rfl) (by kernel_rfl)
theorem disputeJudges_row_tie : Rows.disputeJudgesRow.laidByTextAt .later Tryz.pinned [.data, .data, .data, .data, .data, .data] true :=
  OpenClaim.laidByTextAt_later rfl rfl tie noOwnUnsafe
theorem disputeSettles_row_tie : Rows.disputeSettlesRow.laidByTextAt .later Tryz.pinned [.data, .data, .data, .data, .data, .data] true :=
  OpenClaim.laidByTextAt_later rfl rfl tie noOwnUnsafe
theorem disputeSettled_row_tie : Rows.disputeSettledRow.laidByTextAt .later Tryz.pinned [.data, .data, .data, .data, .data, .data] true :=
  OpenClaim.laidByTextAt_later rfl rfl tie noOwnUnsafe
theorem disputeRoot_row_tie : Rows.disputeRootRow.laidByTextAt .later Tryz.pinned [.data, .data, .data, .data, .data, .data] true :=
  OpenClaim.laidByTextAt_later rfl rfl tie noOwnUnsafe
theorem tie2 : Tryz.prog.laidByTextLater [("math/bits.deBruijn32tab", Rows.laid_math_bits_deBruijn32tab), ("math/bits.deBruijn64tab", Rows.laid_math_bits_deBruijn64tab), ("culprit/hash.constants", Rows.laid_culprit_hash_constants), ("internal/strconv.uint64pow10", Rows.laid_internal_strconv_uint64pow10), ("culprit/code.operations", Rows.laid_culprit_code_operations)] [.data, .data, .data, .data, .data] true :=
  Program.laidByTextLater.sub seatTie2 ["math/bits.deBruijn32tab", "math/bits.deBruijn64tab", "culprit/hash.constants", "internal/strconv.uint64pow10", "culprit/code.operations"] (by kernel_rfl) (by kernel_rfl)
theorem disputeHonest_row_tie : Rows.disputeHonestRow.laidByTextAt .later Tryz.pinned [.data, .data, .data, .data, .data] true :=
  OpenClaim.laidByTextAt_later rfl rfl tie2 noOwnUnsafe
theorem disputeJudgesUpto_row_tie : Rows.disputeJudgesUptoRow.laidByTextAt .later Tryz.pinned [.data, .data, .data, .data, .data, .data] true :=
  OpenClaim.laidByTextAt_later rfl rfl tie noOwnUnsafe
theorem disputeHonestUpto_row_tie : Rows.disputeHonestUptoRow.laidByTextAt .later Tryz.pinned [.data, .data, .data, .data, .data] true :=
  OpenClaim.laidByTextAt_later rfl rfl tie2 noOwnUnsafe
theorem disputeSettlesUpto_row_tie : Rows.disputeSettlesUptoRow.laidByTextAt .later Tryz.pinned [.data, .data, .data, .data, .data, .data] true :=
  OpenClaim.laidByTextAt_later rfl rfl tie noOwnUnsafe
theorem disputeSettledUpto_row_tie : Rows.disputeSettledUptoRow.laidByTextAt .later Tryz.pinned [.data, .data, .data, .data, .data, .data] true :=
  OpenClaim.laidByTextAt_later rfl rfl tie noOwnUnsafe
theorem disputeRootUpto_row_tie : Rows.disputeRootUptoRow.laidByTextAt .later Tryz.pinned [.data, .data, .data, .data, .data, .data] true :=
  OpenClaim.laidByTextAt_later rfl rfl tie noOwnUnsafe
end Go.Proofs.YtgghcmbaidihjaaGreatDoor
