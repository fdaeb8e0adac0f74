/-
  DERIVED. GIVEN WITH THE SEED: THE CARDS: each row of YtjndfmpicnkplaaDoorRows.lean that lists a variable, with what it lists TIED to the program's text (the seventh form; the later family's looks); each row that meets fmt, with fmt's text TOLD by the authors' own Lean function (tested against real Go, not proved from fmt's source: count such statements apart). THE CARD IS WHAT COUNTS. Prove the row's statement (the work); the ties are given (YtjndfmpicnkplaaDoorTie.lean); close each card by the builder's one call (the guide's Derived/Test/ToyasCard.lean, 'card_holds'). Laid BY PROGRAM, IN A SANDBOX (cutbox-door.mjs). By AI agents, Wed Nov 11 2026. No macro, syntax, notation, axiom, sorry.
-/
import Derived.Test.YtjndfmpicnkplaaDoorRows
import GoSem.ClaimSeven
namespace Go.Proofs.YtjndfmpicnkplaaDoor
namespace Rows

/-- THE TIED CARD OF 'groatlaw20.ReconBalance'. -/
def reconBalanceCard : Claim7 := { stood := { row := reconBalanceRow, standIns := [], harness := (true, "440e01b5eb3cda4aad4b19b328f0887eb5ec5edc48bebf288069f3efec29a55f"), looks := true }, kinds := [], alts := [], laidByText := true, laidKinds := [.handle, .widerDeep, .widerDeep, .wider], laidTests := true, laidLooks := .later }
def ReconBalanceCardSaid : Prop := Claim7.holds Tryd.pinned (.plain (OpenSpec.ofChange reconBalanceSpec)) reconBalanceCard

/-- THE TIED CARD OF 'groatlaw20.ReconEcho'. -/
def reconEchoCard : Claim7 := { stood := { row := reconEchoRow, standIns := [], harness := (true, "440e01b5eb3cda4aad4b19b328f0887eb5ec5edc48bebf288069f3efec29a55f"), looks := true }, kinds := [], alts := [], laidByText := true, laidKinds := [.handle, .widerDeep, .widerDeep, .wider], laidTests := true, laidLooks := .later }
def ReconEchoCardSaid : Prop := Claim7.holds Tryd.pinned (.plain (OpenSpec.ofChange reconEchoSpec)) reconEchoCard

/-- THE SECOND FORM's CARD OF 'groatlaw20.ReconBalance'. -/
def reconBalanceUptoCard : Claim7 := { stood := { row := reconBalanceUptoRow, standIns := [], harness := (true, "440e01b5eb3cda4aad4b19b328f0887eb5ec5edc48bebf288069f3efec29a55f"), looks := true }, kinds := [], alts := [], laidByText := true, laidKinds := [.handle, .widerDeep, .widerDeep, .wider], laidTests := true, laidLooks := .later }
def ReconBalanceUptoCardSaid : Prop := Claim7.holds Tryd.pinned (.plain (OpenSpec.upto reconBalanceSpec)) reconBalanceUptoCard

/-- THE SECOND FORM's CARD OF 'groatlaw20.ReconEcho'. -/
def reconEchoUptoCard : Claim7 := { stood := { row := reconEchoUptoRow, standIns := [], harness := (true, "440e01b5eb3cda4aad4b19b328f0887eb5ec5edc48bebf288069f3efec29a55f"), looks := true }, kinds := [], alts := [], laidByText := true, laidKinds := [.handle, .widerDeep, .widerDeep, .wider], laidTests := true, laidLooks := .later }
def ReconEchoUptoCardSaid : Prop := Claim7.holds Tryd.pinned (.plain (OpenSpec.upto reconEchoSpec)) reconEchoUptoCard
end Rows
end Go.Proofs.YtjndfmpicnkplaaDoor
