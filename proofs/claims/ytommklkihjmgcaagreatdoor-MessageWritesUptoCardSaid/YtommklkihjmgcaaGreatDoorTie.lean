/-
  DERIVED. GIVEN WITH THE SEED: THE PROGRAM's TIES (one call each: nine closed facts by the kernel) AND EACH ROW's TIE, after the 31st guide's Derived/Test/Toyas{Tie, Card}.lean. No idea stands in it: it is a product of the set-up. Laid BY PROGRAM, IN A SANDBOX (cutbox-door.mjs). By AI agents, Wed Nov 11 2026. No macro, syntax, notation, axiom, sorry.
-/
import Derived.Test.YtommklkihjmgcaaGreatDoorRows
import Derived.LaidByTextLater
import Derived.SevenTiedAt
import Derived.LaidSub
import Derived.LaidOnce
namespace Go.Proofs.YtommklkihjmgcaaGreatDoor
open Go
set_option maxRecDepth 100000
theorem seatTie1 : Tryz.prog.laidByTextLater [("math/bits.deBruijn32tab", Rows.laid_math_bits_deBruijn32tab), ("math/bits.deBruijn64tab", Rows.laid_math_bits_deBruijn64tab), ("internal/strconv.uint64pow10", Rows.laid_internal_strconv_uint64pow10), ("errors.errorType", Rows.laid_errors_errorType), ("groat/message.fields", Rows.laid_groat_message_fields), ("groat/message.types", Rows.laid_groat_message_types), ("groat/message.dialects", Rows.laid_groat_message_dialects)] [.data, .data, .data, .handle, .widerDeep, .widerDeep, .wider] true :=
  Program.laidByTextLater_by_one 67 8 65 (by kernel_rfl) (by kernel_rfl) (by kernel_rfl) (by kernel_rfl) (by kernel_rfl) (by kernel_rfl) (fun _ _ => by kernel_rfl)
theorem noOwnUnsafe : Tryz.pinned.checked.prog.headLifts.contains "ownunsafe" = false := by kernel_rfl
theorem tie : Tryz.prog.laidByTextLater [("math/bits.deBruijn32tab", Rows.laid_math_bits_deBruijn32tab), ("math/bits.deBruijn64tab", Rows.laid_math_bits_deBruijn64tab), ("internal/strconv.uint64pow10", Rows.laid_internal_strconv_uint64pow10), ("errors.errorType", Rows.laid_errors_errorType), ("groat/message.fields", Rows.laid_groat_message_fields), ("groat/message.types", Rows.laid_groat_message_types), ("groat/message.dialects", Rows.laid_groat_message_dialects)] [.data, .data, .data, .handle, .widerDeep, .widerDeep, .wider] true :=
  Program.laidByTextLater.sub seatTie1 ["math/bits.deBruijn32tab", "math/bits.deBruijn64tab", "internal/strconv.uint64pow10", "errors.errorType", "groat/message.fields", "groat/message.types", "groat/message.dialects"] (by kernel_rfl) (by kernel_rfl)
theorem messageOthers_row_tie : Rows.messageOthersRow.laidByTextAt .later Tryz.pinned [.data, .data, .data, .handle, .widerDeep, .widerDeep, .wider] true :=
  OpenClaim.laidByTextAt_later rfl rfl tie noOwnUnsafe
theorem messageTurns_row_tie : Rows.messageTurnsRow.laidByTextAt .later Tryz.pinned [.data, .data, .data, .handle, .widerDeep, .widerDeep, .wider] true :=
  OpenClaim.laidByTextAt_later rfl rfl tie noOwnUnsafe
theorem messageShort_row_tie : Rows.messageShortRow.laidByTextAt .later Tryz.pinned [.data, .data, .data, .handle, .widerDeep, .widerDeep, .wider] true :=
  OpenClaim.laidByTextAt_later rfl rfl tie noOwnUnsafe
theorem messageUnlike_row_tie : Rows.messageUnlikeRow.laidByTextAt .later Tryz.pinned [.data, .data, .data, .handle, .widerDeep, .widerDeep, .wider] true :=
  OpenClaim.laidByTextAt_later rfl rfl tie noOwnUnsafe
theorem messageApart_row_tie : Rows.messageApartRow.laidByTextAt .later Tryz.pinned [.data, .data, .data, .handle, .widerDeep, .widerDeep, .wider] true :=
  OpenClaim.laidByTextAt_later rfl rfl tie noOwnUnsafe
theorem messageWrites_row_tie : Rows.messageWritesRow.laidByTextAt .later Tryz.pinned [.data, .data, .data, .handle, .widerDeep, .widerDeep, .wider] true :=
  OpenClaim.laidByTextAt_later rfl rfl tie noOwnUnsafe
theorem messageReads_row_tie : Rows.messageReadsRow.laidByTextAt .later Tryz.pinned [.data, .data, .data, .handle, .widerDeep, .widerDeep, .wider] true :=
  OpenClaim.laidByTextAt_later rfl rfl tie noOwnUnsafe
theorem messageBack_row_tie : Rows.messageBackRow.laidByTextAt .later Tryz.pinned [.data, .data, .data, .handle, .widerDeep, .widerDeep, .wider] true :=
  OpenClaim.laidByTextAt_later rfl rfl tie noOwnUnsafe
theorem messageMaps_row_tie : Rows.messageMapsRow.laidByTextAt .later Tryz.pinned [.data, .data, .data, .handle, .widerDeep, .widerDeep, .wider] true :=
  OpenClaim.laidByTextAt_later rfl rfl tie noOwnUnsafe
theorem messageForms_row_tie : Rows.messageFormsRow.laidByTextAt .later Tryz.pinned [.data, .data, .data, .handle, .widerDeep, .widerDeep, .wider] true :=
  OpenClaim.laidByTextAt_later rfl rfl tie noOwnUnsafe
theorem messageOthersUpto_row_tie : Rows.messageOthersUptoRow.laidByTextAt .later Tryz.pinned [.data, .data, .data, .handle, .widerDeep, .widerDeep, .wider] true :=
  OpenClaim.laidByTextAt_later rfl rfl tie noOwnUnsafe
theorem messageTurnsUpto_row_tie : Rows.messageTurnsUptoRow.laidByTextAt .later Tryz.pinned [.data, .data, .data, .handle, .widerDeep, .widerDeep, .wider] true :=
  OpenClaim.laidByTextAt_later rfl rfl tie noOwnUnsafe
theorem messageShortUpto_row_tie : Rows.messageShortUptoRow.laidByTextAt .later Tryz.pinned [.data, .data, .data, .handle, .widerDeep, .widerDeep, .wider] true :=
  OpenClaim.laidByTextAt_later rfl rfl tie noOwnUnsafe
theorem messageUnlikeUpto_row_tie : Rows.messageUnlikeUptoRow.laidByTextAt .later Tryz.pinned [.data, .data, .data, .handle, .widerDeep, .widerDeep, .wider] true :=
  OpenClaim.laidByTextAt_later rfl rfl tie noOwnUnsafe
theorem messageApartUpto_row_tie : Rows.messageApartUptoRow.laidByTextAt .later Tryz.pinned [.data, .data, .data, .handle, .widerDeep, .widerDeep, .wider] true :=
  OpenClaim.laidByTextAt_later rfl rfl tie noOwnUnsafe
theorem messageWritesUpto_row_tie : Rows.messageWritesUptoRow.laidByTextAt .later Tryz.pinned [.data, .data, .data, .handle, .widerDeep, .widerDeep, .wider] true :=
  OpenClaim.laidByTextAt_later rfl rfl tie noOwnUnsafe
theorem messageReadsUpto_row_tie : Rows.messageReadsUptoRow.laidByTextAt .later Tryz.pinned [.data, .data, .data, .handle, .widerDeep, .widerDeep, .wider] true :=
  OpenClaim.laidByTextAt_later rfl rfl tie noOwnUnsafe
theorem messageBackUpto_row_tie : Rows.messageBackUptoRow.laidByTextAt .later Tryz.pinned [.data, .data, .data, .handle, .widerDeep, .widerDeep, .wider] true :=
  OpenClaim.laidByTextAt_later rfl rfl tie noOwnUnsafe
theorem messageMapsUpto_row_tie : Rows.messageMapsUptoRow.laidByTextAt .later Tryz.pinned [.data, .data, .data, .handle, .widerDeep, .widerDeep, .wider] true :=
  OpenClaim.laidByTextAt_later rfl rfl tie noOwnUnsafe
theorem messageFormsUpto_row_tie : Rows.messageFormsUptoRow.laidByTextAt .later Tryz.pinned [.data, .data, .data, .handle, .widerDeep, .widerDeep, .wider] true :=
  OpenClaim.laidByTextAt_later rfl rfl tie noOwnUnsafe
end Go.Proofs.YtommklkihjmgcaaGreatDoor
