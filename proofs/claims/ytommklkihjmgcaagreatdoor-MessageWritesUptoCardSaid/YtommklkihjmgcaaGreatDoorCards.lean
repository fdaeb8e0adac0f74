/-
  DERIVED. GIVEN WITH THE SEED: THE CARDS: each row of YtommklkihjmgcaaGreatDoorRows.lean that lists a variable, with what it lists TIED to the program's text (the seventh form; the later family's looks); each row that meets fmt, with fmt's text TOLD by the authors' own Lean function (tested against real Go, not proved from fmt's source: count such statements apart). THE CARD IS WHAT COUNTS. Prove the row's statement (the work); the ties are given (YtommklkihjmgcaaGreatDoorTie.lean); close each card by the builder's one call (the guide's Derived/Test/ToyasCard.lean, 'card_holds'). Laid BY PROGRAM, IN A SANDBOX (cutbox-door.mjs). By AI agents, Wed Nov 11 2026. No macro, syntax, notation, axiom, sorry.
-/
import Derived.Test.YtommklkihjmgcaaGreatDoorRows
import GoSem.ClaimSeven
namespace Go.Proofs.YtommklkihjmgcaaGreatDoor
namespace Rows

/-- THE TIED CARD OF 'groatlaw05.MessageOthers'. -/
def messageOthersCard : Claim7 := { stood := { row := messageOthersRow, standIns := [], harness := (true, "ad4d42c3e6869045e724e6f336ae5e00754a5e5452e9c17d2189ec9b2b0fc9aa"), looks := true }, kinds := [], alts := [], laidByText := true, laidKinds := [.data, .data, .data, .handle, .widerDeep, .widerDeep, .wider], laidTests := true, laidLooks := .later }
def MessageOthersCardSaid : Prop := Claim7.holds Tryz.pinned (.plain (OpenSpec.ofChange messageOthersSpec)) messageOthersCard

/-- THE TIED CARD OF 'groatlaw05.MessageTurns'. -/
def messageTurnsCard : Claim7 := { stood := { row := messageTurnsRow, standIns := [], harness := (true, "ad4d42c3e6869045e724e6f336ae5e00754a5e5452e9c17d2189ec9b2b0fc9aa"), looks := true }, kinds := [], alts := [], laidByText := true, laidKinds := [.data, .data, .data, .handle, .widerDeep, .widerDeep, .wider], laidTests := true, laidLooks := .later }
def MessageTurnsCardSaid : Prop := Claim7.holds Tryz.pinned (.plain (OpenSpec.ofChange messageTurnsSpec)) messageTurnsCard

/-- THE TIED CARD OF 'groatlaw05.MessageShort'. -/
def messageShortCard : Claim7 := { stood := { row := messageShortRow, standIns := [], harness := (true, "ad4d42c3e6869045e724e6f336ae5e00754a5e5452e9c17d2189ec9b2b0fc9aa"), looks := true }, kinds := [], alts := [], laidByText := true, laidKinds := [.data, .data, .data, .handle, .widerDeep, .widerDeep, .wider], laidTests := true, laidLooks := .later }
def MessageShortCardSaid : Prop := Claim7.holds Tryz.pinned (.plain (OpenSpec.ofChange messageShortSpec)) messageShortCard

/-- THE TIED CARD OF 'groatlaw05.MessageUnlike'. -/
def messageUnlikeCard : Claim7 := { stood := { row := messageUnlikeRow, standIns := [], harness := (true, "ad4d42c3e6869045e724e6f336ae5e00754a5e5452e9c17d2189ec9b2b0fc9aa"), looks := true }, kinds := [], alts := [], laidByText := true, laidKinds := [.data, .data, .data, .handle, .widerDeep, .widerDeep, .wider], laidTests := true, laidLooks := .later }
def MessageUnlikeCardSaid : Prop := Claim7.holds Tryz.pinned (.plain (OpenSpec.ofChange messageUnlikeSpec)) messageUnlikeCard

/-- THE TIED CARD OF 'groatlaw05.MessageApart'. -/
def messageApartCard : Claim7 := { stood := { row := messageApartRow, standIns := [], harness := (true, "ad4d42c3e6869045e724e6f336ae5e00754a5e5452e9c17d2189ec9b2b0fc9aa"), looks := true }, kinds := [], alts := [], laidByText := true, laidKinds := [.data, .data, .data, .handle, .widerDeep, .widerDeep, .wider], laidTests := true, laidLooks := .later }
def MessageApartCardSaid : Prop := Claim7.holds Tryz.pinned (.plain (OpenSpec.ofChange messageApartSpec)) messageApartCard

/-- THE TIED CARD OF 'groatlaw05.MessageWrites'. -/
def messageWritesCard : Claim7 := { stood := { row := messageWritesRow, standIns := [], harness := (true, "ad4d42c3e6869045e724e6f336ae5e00754a5e5452e9c17d2189ec9b2b0fc9aa"), looks := true }, kinds := [], alts := [], laidByText := true, laidKinds := [.data, .data, .data, .handle, .widerDeep, .widerDeep, .wider], laidTests := true, laidLooks := .later }
def MessageWritesCardSaid : Prop := Claim7.holds Tryz.pinned (.plain (OpenSpec.ofChange messageWritesSpec)) messageWritesCard

/-- THE TIED CARD OF 'groatlaw05.MessageReads'. -/
def messageReadsCard : Claim7 := { stood := { row := messageReadsRow, standIns := [], harness := (true, "ad4d42c3e6869045e724e6f336ae5e00754a5e5452e9c17d2189ec9b2b0fc9aa"), looks := true }, kinds := [], alts := [], laidByText := true, laidKinds := [.data, .data, .data, .handle, .widerDeep, .widerDeep, .wider], laidTests := true, laidLooks := .later }
def MessageReadsCardSaid : Prop := Claim7.holds Tryz.pinned (.plain (OpenSpec.ofChange messageReadsSpec)) messageReadsCard

/-- THE TIED CARD OF 'groatlaw05.MessageBack'. -/
def messageBackCard : Claim7 := { stood := { row := messageBackRow, standIns := [], harness := (true, "ad4d42c3e6869045e724e6f336ae5e00754a5e5452e9c17d2189ec9b2b0fc9aa"), looks := true }, kinds := [], alts := [], laidByText := true, laidKinds := [.data, .data, .data, .handle, .widerDeep, .widerDeep, .wider], laidTests := true, laidLooks := .later }
def MessageBackCardSaid : Prop := Claim7.holds Tryz.pinned (.plain (OpenSpec.ofChange messageBackSpec)) messageBackCard

/-- THE TIED CARD OF 'groatlaw05.MessageMaps'. -/
def messageMapsCard : Claim7 := { stood := { row := messageMapsRow, standIns := [], harness := (true, "ad4d42c3e6869045e724e6f336ae5e00754a5e5452e9c17d2189ec9b2b0fc9aa"), looks := true }, kinds := [], alts := [], laidByText := true, laidKinds := [.data, .data, .data, .handle, .widerDeep, .widerDeep, .wider], laidTests := true, laidLooks := .later }
def MessageMapsCardSaid : Prop := Claim7.holds Tryz.pinned (.plain (OpenSpec.ofChange messageMapsSpec)) messageMapsCard

/-- THE TIED CARD OF 'groatlaw05.MessageForms'. -/
def messageFormsCard : Claim7 := { stood := { row := messageFormsRow, standIns := [], harness := (true, "ad4d42c3e6869045e724e6f336ae5e00754a5e5452e9c17d2189ec9b2b0fc9aa"), looks := true }, kinds := [], alts := [], laidByText := true, laidKinds := [.data, .data, .data, .handle, .widerDeep, .widerDeep, .wider], laidTests := true, laidLooks := .later }
def MessageFormsCardSaid : Prop := Claim7.holds Tryz.pinned (.plain (OpenSpec.ofChange messageFormsSpec)) messageFormsCard

/-- THE SECOND FORM's CARD OF 'groatlaw05.MessageOthers'. -/
def messageOthersUptoCard : Claim7 := { stood := { row := messageOthersUptoRow, standIns := [], harness := (true, "ad4d42c3e6869045e724e6f336ae5e00754a5e5452e9c17d2189ec9b2b0fc9aa"), looks := true }, kinds := [], alts := [], laidByText := true, laidKinds := [.data, .data, .data, .handle, .widerDeep, .widerDeep, .wider], laidTests := true, laidLooks := .later }
def MessageOthersUptoCardSaid : Prop := Claim7.holds Tryz.pinned (.plain (OpenSpec.upto messageOthersSpec)) messageOthersUptoCard

/-- THE SECOND FORM's CARD OF 'groatlaw05.MessageTurns'. -/
def messageTurnsUptoCard : Claim7 := { stood := { row := messageTurnsUptoRow, standIns := [], harness := (true, "ad4d42c3e6869045e724e6f336ae5e00754a5e5452e9c17d2189ec9b2b0fc9aa"), looks := true }, kinds := [], alts := [], laidByText := true, laidKinds := [.data, .data, .data, .handle, .widerDeep, .widerDeep, .wider], laidTests := true, laidLooks := .later }
def MessageTurnsUptoCardSaid : Prop := Claim7.holds Tryz.pinned (.plain (OpenSpec.upto messageTurnsSpec)) messageTurnsUptoCard

/-- THE SECOND FORM's CARD OF 'groatlaw05.MessageShort'. -/
def messageShortUptoCard : Claim7 := { stood := { row := messageShortUptoRow, standIns := [], harness := (true, "ad4d42c3e6869045e724e6f336ae5e00754a5e5452e9c17d2189ec9b2b0fc9aa"), looks := true }, kinds := [], alts := [], laidByText := true, laidKinds := [.data, .data, .data, .handle, .widerDeep, .widerDeep, .wider], laidTests := true, laidLooks := .later }
def MessageShortUptoCardSaid : Prop := Claim7.holds Tryz.pinned (.plain (OpenSpec.upto messageShortSpec)) messageShortUptoCard

/-- THE SECOND FORM's CARD OF 'groatlaw05.MessageUnlike'. -/
def messageUnlikeUptoCard : Claim7 := { stood := { row := messageUnlikeUptoRow, standIns := [], harness := (true, "ad4d42c3e6869045e724e6f336ae5e00754a5e5452e9c17d2189ec9b2b0fc9aa"), looks := true }, kinds := [], alts := [], laidByText := true, laidKinds := [.data, .data, .data, .handle, .widerDeep, .widerDeep, .wider], laidTests := true, laidLooks := .later }
def MessageUnlikeUptoCardSaid : Prop := Claim7.holds Tryz.pinned (.plain (OpenSpec.upto messageUnlikeSpec)) messageUnlikeUptoCard

/-- THE SECOND FORM's CARD OF 'groatlaw05.MessageApart'. -/
def messageApartUptoCard : Claim7 := { stood := { row := messageApartUptoRow, standIns := [], harness := (true, "ad4d42c3e6869045e724e6f336ae5e00754a5e5452e9c17d2189ec9b2b0fc9aa"), looks := true }, kinds := [], alts := [], laidByText := true, laidKinds := [.data, .data, .data, .handle, .widerDeep, .widerDeep, .wider], laidTests := true, laidLooks := .later }
def MessageApartUptoCardSaid : Prop := Claim7.holds Tryz.pinned (.plain (OpenSpec.upto messageApartSpec)) messageApartUptoCard

/-- THE SECOND FORM's CARD OF 'groatlaw05.MessageWrites'. -/
def messageWritesUptoCard : Claim7 := { stood := { row := messageWritesUptoRow, standIns := [], harness := (true, "ad4d42c3e6869045e724e6f336ae5e00754a5e5452e9c17d2189ec9b2b0fc9aa"), looks := true }, kinds := [], alts := [], laidByText := true, laidKinds := [.data, .data, .data, .handle, .widerDeep, .widerDeep, .wider], laidTests := true, laidLooks := .later }
def MessageWritesUptoCardSaid : Prop := Claim7.holds Tryz.pinned (.plain (OpenSpec.upto messageWritesSpec)) messageWritesUptoCard

/-- THE SECOND FORM's CARD OF 'groatlaw05.MessageReads'. -/
def messageReadsUptoCard : Claim7 := { stood := { row := messageReadsUptoRow, standIns := [], harness := (true, "ad4d42c3e6869045e724e6f336ae5e00754a5e5452e9c17d2189ec9b2b0fc9aa"), looks := true }, kinds := [], alts := [], laidByText := true, laidKinds := [.data, .data, .data, .handle, .widerDeep, .widerDeep, .wider], laidTests := true, laidLooks := .later }
def MessageReadsUptoCardSaid : Prop := Claim7.holds Tryz.pinned (.plain (OpenSpec.upto messageReadsSpec)) messageReadsUptoCard

/-- THE SECOND FORM's CARD OF 'groatlaw05.MessageBack'. -/
def messageBackUptoCard : Claim7 := { stood := { row := messageBackUptoRow, standIns := [], harness := (true, "ad4d42c3e6869045e724e6f336ae5e00754a5e5452e9c17d2189ec9b2b0fc9aa"), looks := true }, kinds := [], alts := [], laidByText := true, laidKinds := [.data, .data, .data, .handle, .widerDeep, .widerDeep, .wider], laidTests := true, laidLooks := .later }
def MessageBackUptoCardSaid : Prop := Claim7.holds Tryz.pinned (.plain (OpenSpec.upto messageBackSpec)) messageBackUptoCard

/-- THE SECOND FORM's CARD OF 'groatlaw05.MessageMaps'. -/
def messageMapsUptoCard : Claim7 := { stood := { row := messageMapsUptoRow, standIns := [], harness := (true, "ad4d42c3e6869045e724e6f336ae5e00754a5e5452e9c17d2189ec9b2b0fc9aa"), looks := true }, kinds := [], alts := [], laidByText := true, laidKinds := [.data, .data, .data, .handle, .widerDeep, .widerDeep, .wider], laidTests := true, laidLooks := .later }
def MessageMapsUptoCardSaid : Prop := Claim7.holds Tryz.pinned (.plain (OpenSpec.upto messageMapsSpec)) messageMapsUptoCard

/-- THE SECOND FORM's CARD OF 'groatlaw05.MessageForms'. -/
def messageFormsUptoCard : Claim7 := { stood := { row := messageFormsUptoRow, standIns := [], harness := (true, "ad4d42c3e6869045e724e6f336ae5e00754a5e5452e9c17d2189ec9b2b0fc9aa"), looks := true }, kinds := [], alts := [], laidByText := true, laidKinds := [.data, .data, .data, .handle, .widerDeep, .widerDeep, .wider], laidTests := true, laidLooks := .later }
def MessageFormsUptoCardSaid : Prop := Claim7.holds Tryz.pinned (.plain (OpenSpec.upto messageFormsSpec)) messageFormsUptoCard
end Rows
end Go.Proofs.YtommklkihjmgcaaGreatDoor
