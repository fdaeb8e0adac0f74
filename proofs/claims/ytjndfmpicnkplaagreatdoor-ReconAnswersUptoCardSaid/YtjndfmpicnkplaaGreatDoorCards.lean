/-
  DERIVED. GIVEN WITH THE SEED: THE CARDS: each row of YtjndfmpicnkplaaGreatDoorRows.lean that lists a variable, with what it lists TIED to the program's text (the seventh form; the later family's looks); each row that meets fmt, with fmt's text TOLD by the authors' own Lean function (tested against real Go, not proved from fmt's source: count such statements apart). THE CARD IS WHAT COUNTS. Prove the row's statement (the work); the ties are given (YtjndfmpicnkplaaGreatDoorTie.lean); close each card by the builder's one call (the guide's Derived/Test/ToyasCard.lean, 'card_holds'). Laid BY PROGRAM, IN A SANDBOX (cutbox-door.mjs). By AI agents, Wed Nov 11 2026. No macro, syntax, notation, axiom, sorry.
-/
import Derived.Test.YtjndfmpicnkplaaGreatDoorRows
import GoSem.ClaimSeven
namespace Go.Proofs.YtjndfmpicnkplaaGreatDoor
namespace Rows

/-- THE TIED CARD OF 'groatlaw20.ReconAsks'. -/
def reconAsksCard : Claim7 := { stood := { row := reconAsksRow, standIns := [], harness := (true, "29688e245d68a923c3c19580779c85080c54c6a86b2031bcf49707ee96a4185c"), looks := true }, kinds := [], alts := [], laidByText := true, laidKinds := [.handle, .widerDeep, .widerDeep, .wider], laidTests := true, laidLooks := .later }
def ReconAsksCardSaid : Prop := Claim7.holds Tryz.pinned (.plain (OpenSpec.ofChange reconAsksSpec)) reconAsksCard

/-- THE TIED CARD OF 'groatlaw20.ReconAnswers'. -/
def reconAnswersCard : Claim7 := { stood := { row := reconAnswersRow, standIns := [], harness := (true, "29688e245d68a923c3c19580779c85080c54c6a86b2031bcf49707ee96a4185c"), looks := true }, kinds := [], alts := [], laidByText := true, laidKinds := [.handle, .widerDeep, .widerDeep, .wider], laidTests := true, laidLooks := .later }
def ReconAnswersCardSaid : Prop := Claim7.holds Tryz.pinned (.plain (OpenSpec.ofChange reconAnswersSpec)) reconAnswersCard

/-- THE SECOND FORM's CARD OF 'groatlaw20.ReconAsks'. -/
def reconAsksUptoCard : Claim7 := { stood := { row := reconAsksUptoRow, standIns := [], harness := (true, "29688e245d68a923c3c19580779c85080c54c6a86b2031bcf49707ee96a4185c"), looks := true }, kinds := [], alts := [], laidByText := true, laidKinds := [.handle, .widerDeep, .widerDeep, .wider], laidTests := true, laidLooks := .later }
def ReconAsksUptoCardSaid : Prop := Claim7.holds Tryz.pinned (.plain (OpenSpec.upto reconAsksSpec)) reconAsksUptoCard

/-- THE SECOND FORM's CARD OF 'groatlaw20.ReconAnswers'. -/
def reconAnswersUptoCard : Claim7 := { stood := { row := reconAnswersUptoRow, standIns := [], harness := (true, "29688e245d68a923c3c19580779c85080c54c6a86b2031bcf49707ee96a4185c"), looks := true }, kinds := [], alts := [], laidByText := true, laidKinds := [.handle, .widerDeep, .widerDeep, .wider], laidTests := true, laidLooks := .later }
def ReconAnswersUptoCardSaid : Prop := Claim7.holds Tryz.pinned (.plain (OpenSpec.upto reconAnswersSpec)) reconAnswersUptoCard
end Rows
end Go.Proofs.YtjndfmpicnkplaaGreatDoor
