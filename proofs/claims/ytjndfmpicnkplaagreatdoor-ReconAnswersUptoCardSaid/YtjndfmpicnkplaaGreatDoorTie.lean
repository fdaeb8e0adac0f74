/-
  DERIVED. GIVEN WITH THE SEED: THE PROGRAM's TIES (one call each: nine closed facts by the kernel) AND EACH ROW's TIE, after the 31st guide's Derived/Test/Toyas{Tie, Card}.lean. No idea stands in it: it is a product of the set-up. Laid BY PROGRAM, IN A SANDBOX (cutbox-door.mjs). By AI agents, Wed Nov 11 2026. No macro, syntax, notation, axiom, sorry.
-/
import Derived.Test.YtjndfmpicnkplaaGreatDoorRows
import Derived.LaidByTextLater
import Derived.SevenTiedAt
import Derived.LaidSub
import Derived.LaidOnce
namespace Go.Proofs.YtjndfmpicnkplaaGreatDoor
open Go
set_option maxRecDepth 100000
theorem seatTie1 : Tryz.prog.laidByTextLater [("errors.errorType", Rows.laid_errors_errorType), ("groat/message.fields", Rows.laid_groat_message_fields), ("groat/message.types", Rows.laid_groat_message_types), ("groat/message.dialects", Rows.laid_groat_message_dialects)] [.handle, .widerDeep, .widerDeep, .wider] true :=
  Program.laidByTextLater_by_one 52 8 52 (by kernel_rfl) (by kernel_rfl) (by kernel_rfl) (by kernel_rfl) (by kernel_rfl) (by kernel_rfl) (fun _ _ => by kernel_rfl)
theorem noOwnUnsafe : Tryz.pinned.checked.prog.headLifts.contains "ownunsafe" = false := by kernel_rfl
theorem tie : Tryz.prog.laidByTextLater [("errors.errorType", Rows.laid_errors_errorType), ("groat/message.fields", Rows.laid_groat_message_fields), ("groat/message.types", Rows.laid_groat_message_types), ("groat/message.dialects", Rows.laid_groat_message_dialects)] [.handle, .widerDeep, .widerDeep, .wider] true :=
  Program.laidByTextLater.sub seatTie1 ["errors.errorType", "groat/message.fields", "groat/message.types", "groat/message.dialects"] (by kernel_rfl) (by kernel_rfl)
theorem reconAsks_row_tie : Rows.reconAsksRow.laidByTextAt .later Tryz.pinned [.handle, .widerDeep, .widerDeep, .wider] true :=
  OpenClaim.laidByTextAt_later rfl rfl tie noOwnUnsafe
theorem reconAnswers_row_tie : Rows.reconAnswersRow.laidByTextAt .later Tryz.pinned [.handle, .widerDeep, .widerDeep, .wider] true :=
  OpenClaim.laidByTextAt_later rfl rfl tie noOwnUnsafe
theorem reconAsksUpto_row_tie : Rows.reconAsksUptoRow.laidByTextAt .later Tryz.pinned [.handle, .widerDeep, .widerDeep, .wider] true :=
  OpenClaim.laidByTextAt_later rfl rfl tie noOwnUnsafe
theorem reconAnswersUpto_row_tie : Rows.reconAnswersUptoRow.laidByTextAt .later Tryz.pinned [.handle, .widerDeep, .widerDeep, .wider] true :=
  OpenClaim.laidByTextAt_later rfl rfl tie noOwnUnsafe
end Go.Proofs.YtjndfmpicnkplaaGreatDoor
