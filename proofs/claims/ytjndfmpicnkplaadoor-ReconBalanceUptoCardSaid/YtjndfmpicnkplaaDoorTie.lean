/-
  DERIVED. GIVEN WITH THE SEED: THE PROGRAM's TIES (one call each: nine closed facts by the kernel) AND EACH ROW's TIE, after the 31st guide's Derived/Test/Toyas{Tie, Card}.lean. No idea stands in it: it is a product of the set-up. Laid BY PROGRAM, IN A SANDBOX (cutbox-door.mjs). By AI agents, Wed Nov 11 2026. No macro, syntax, notation, axiom, sorry.
-/
import Derived.Test.YtjndfmpicnkplaaDoorRows
import Derived.LaidByTextLater
import Derived.SevenTiedAt
import Derived.LaidSub
import Derived.LaidOnce
namespace Go.Proofs.YtjndfmpicnkplaaDoor
open Go
set_option maxRecDepth 100000
theorem seatTie1 : Tryd.prog.laidByTextLater [("errors.errorType", Rows.laid_errors_errorType), ("groat/message.fields", Rows.laid_groat_message_fields), ("groat/message.types", Rows.laid_groat_message_types), ("groat/message.dialects", Rows.laid_groat_message_dialects)] [.handle, .widerDeep, .widerDeep, .wider] true :=
  Program.laidByTextLater_by_one 52 8 52 (by kernel_rfl) (by kernel_rfl) (by kernel_rfl) (by kernel_rfl) (by kernel_rfl) (by kernel_rfl) (fun _ _ => by kernel_rfl)
theorem noOwnUnsafe : Tryd.pinned.checked.prog.headLifts.contains "ownunsafe" = false := by kernel_rfl
theorem tie : Tryd.prog.laidByTextLater [("errors.errorType", Rows.laid_errors_errorType), ("groat/message.fields", Rows.laid_groat_message_fields), ("groat/message.types", Rows.laid_groat_message_types), ("groat/message.dialects", Rows.laid_groat_message_dialects)] [.handle, .widerDeep, .widerDeep, .wider] true :=
  Program.laidByTextLater.sub seatTie1 ["errors.errorType", "groat/message.fields", "groat/message.types", "groat/message.dialects"] (by kernel_rfl) (by kernel_rfl)
theorem reconBalance_row_tie : Rows.reconBalanceRow.laidByTextAt .later Tryd.pinned [.handle, .widerDeep, .widerDeep, .wider] true :=
  OpenClaim.laidByTextAt_later rfl rfl tie noOwnUnsafe
theorem reconEcho_row_tie : Rows.reconEchoRow.laidByTextAt .later Tryd.pinned [.handle, .widerDeep, .widerDeep, .wider] true :=
  OpenClaim.laidByTextAt_later rfl rfl tie noOwnUnsafe
theorem reconBalanceUpto_row_tie : Rows.reconBalanceUptoRow.laidByTextAt .later Tryd.pinned [.handle, .widerDeep, .widerDeep, .wider] true :=
  OpenClaim.laidByTextAt_later rfl rfl tie noOwnUnsafe
theorem reconEchoUpto_row_tie : Rows.reconEchoUptoRow.laidByTextAt .later Tryd.pinned [.handle, .widerDeep, .widerDeep, .wider] true :=
  OpenClaim.laidByTextAt_later rfl rfl tie noOwnUnsafe
end Go.Proofs.YtjndfmpicnkplaaDoor
