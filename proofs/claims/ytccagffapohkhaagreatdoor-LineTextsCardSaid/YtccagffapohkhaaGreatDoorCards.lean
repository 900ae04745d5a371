/-
  DERIVED. GIVEN WITH THE SEED: THE CARDS: each row of YtccagffapohkhaaGreatDoorRows.lean that lists a variable, with what it lists TIED to the program's text (the seventh form; the later family's looks); each row that meets fmt, with fmt's text TOLD by the authors' own Lean function (tested against real Go, not proved from fmt's source: count such statements apart). THE CARD IS WHAT COUNTS. Prove the row's statement (the work); the ties are given (YtccagffapohkhaaGreatDoorTie.lean); close each card by the builder's one call (the guide's Derived/Test/ToyasCard.lean, 'card_holds'). Laid BY PROGRAM, IN A SANDBOX (cutbox-door.mjs). By AI agents, Wed Nov 11 2026. No macro, syntax, notation, axiom, sorry.
-/
import Derived.Test.YtccagffapohkhaaGreatDoorRows
import GoSem.ClaimSeven
namespace Go.Proofs.YtccagffapohkhaaGreatDoor
namespace Rows

/-- THE TIED CARD OF 'hollowtreelaw24.LineCommands'. -/
def lineCommandsCard : Claim7 := { stood := { row := lineCommandsRow, standIns := [], harness := (true, "2708bb1771ecb00a8b57caca8a1acabb72054810cf91821954e65ffdfc65d0b0"), looks := true }, kinds := [], alts := [], laidByText := true, laidKinds := [.data, .data, .data, .data, .sentinel, .sentinel, .pinned], laidTests := true, laidLooks := .later }
def LineCommandsCardSaid : Prop := Claim7.holds Tryz.pinned (.plain (OpenSpec.ofChange lineCommandsSpec)) lineCommandsCard

/-- THE TIED CARD OF 'hollowtreelaw24.LineAnswers'. -/
def lineAnswersCard : Claim7 := { stood := { row := lineAnswersRow, standIns := [], harness := (true, "2708bb1771ecb00a8b57caca8a1acabb72054810cf91821954e65ffdfc65d0b0"), looks := true }, kinds := [], alts := [], laidByText := true, laidKinds := [.data, .data, .data, .data, .sentinel, .sentinel, .pinned], laidTests := true, laidLooks := .later }
def LineAnswersCardSaid : Prop := Claim7.holds Tryz.pinned (.plain (OpenSpec.ofChange lineAnswersSpec)) lineAnswersCard

/-- THE TIED CARD OF 'hollowtreelaw24.LineWords'. -/
def lineWordsCard : Claim7 := { stood := { row := lineWordsRow, standIns := [], harness := (true, "2708bb1771ecb00a8b57caca8a1acabb72054810cf91821954e65ffdfc65d0b0"), looks := true }, kinds := [], alts := [], laidByText := true, laidKinds := [.data, .data, .data, .data, .sentinel, .sentinel, .pinned], laidTests := true, laidLooks := .later }
def LineWordsCardSaid : Prop := Claim7.holds Tryz.pinned (.plain (OpenSpec.ofChange lineWordsSpec)) lineWordsCard

/-- THE TIED CARD OF 'hollowtreelaw24.LineThere'. -/
def lineThereCard : Claim7 := { stood := { row := lineThereRow, standIns := [], harness := (true, "2708bb1771ecb00a8b57caca8a1acabb72054810cf91821954e65ffdfc65d0b0"), looks := true }, kinds := [], alts := [], laidByText := true, laidKinds := [.data, .data, .data, .data, .sentinel, .sentinel, .pinned], laidTests := true, laidLooks := .later }
def LineThereCardSaid : Prop := Claim7.holds Tryz.pinned (.plain (OpenSpec.ofChange lineThereSpec)) lineThereCard

/-- THE TIED CARD OF 'hollowtreelaw24.LineTexts'. -/
def lineTextsCard : Claim7 := { stood := { row := lineTextsRow, standIns := [], harness := (true, "2708bb1771ecb00a8b57caca8a1acabb72054810cf91821954e65ffdfc65d0b0"), looks := true }, kinds := [], alts := [], laidByText := true, laidKinds := [.data, .data, .data, .data, .sentinel, .sentinel, .pinned], laidTests := true, laidLooks := .later }
def LineTextsCardSaid : Prop := Claim7.holds Tryz.pinned (.plain (OpenSpec.ofChange lineTextsSpec)) lineTextsCard

/-- THE TIED CARD OF 'hollowtreelaw24.LineReplies'. -/
def lineRepliesCard : Claim7 := { stood := { row := lineRepliesRow, standIns := [], harness := (true, "2708bb1771ecb00a8b57caca8a1acabb72054810cf91821954e65ffdfc65d0b0"), looks := true }, kinds := [], alts := [], laidByText := true, laidKinds := [.data, .data, .data, .data, .sentinel, .sentinel, .pinned], laidTests := true, laidLooks := .later }
def LineRepliesCardSaid : Prop := Claim7.holds Tryz.pinned (.plain (OpenSpec.ofChange lineRepliesSpec)) lineRepliesCard

/-- THE TIED CARD OF 'hollowtreelaw24.LinePrints'. -/
def linePrintsCard : Claim7 := { stood := { row := linePrintsRow, standIns := [], harness := (true, "2708bb1771ecb00a8b57caca8a1acabb72054810cf91821954e65ffdfc65d0b0"), looks := true }, kinds := [], alts := [], laidByText := true, laidKinds := [.data, .data, .data, .data, .sentinel, .sentinel, .pinned], laidTests := true, laidLooks := .later }
def LinePrintsCardSaid : Prop := Claim7.holds Tryz.pinned (.plain (OpenSpec.ofChange linePrintsSpec)) linePrintsCard

/-- THE TIED CARD OF 'hollowtreelaw24.LineBack'. -/
def lineBackCard : Claim7 := { stood := { row := lineBackRow, standIns := [], harness := (true, "2708bb1771ecb00a8b57caca8a1acabb72054810cf91821954e65ffdfc65d0b0"), looks := true }, kinds := [], alts := [], laidByText := true, laidKinds := [.data, .data, .data, .data, .sentinel, .sentinel, .pinned], laidTests := true, laidLooks := .later }
def LineBackCardSaid : Prop := Claim7.holds Tryz.pinned (.plain (OpenSpec.ofChange lineBackSpec)) lineBackCard

/-- THE SECOND FORM's CARD OF 'hollowtreelaw24.LineCommands'. -/
def lineCommandsUptoCard : Claim7 := { stood := { row := lineCommandsUptoRow, standIns := [], harness := (true, "2708bb1771ecb00a8b57caca8a1acabb72054810cf91821954e65ffdfc65d0b0"), looks := true }, kinds := [], alts := [], laidByText := true, laidKinds := [.data, .data, .data, .data, .sentinel, .sentinel, .pinned], laidTests := true, laidLooks := .later }
def LineCommandsUptoCardSaid : Prop := Claim7.holds Tryz.pinned (.plain (OpenSpec.upto lineCommandsSpec)) lineCommandsUptoCard

/-- THE SECOND FORM's CARD OF 'hollowtreelaw24.LineAnswers'. -/
def lineAnswersUptoCard : Claim7 := { stood := { row := lineAnswersUptoRow, standIns := [], harness := (true, "2708bb1771ecb00a8b57caca8a1acabb72054810cf91821954e65ffdfc65d0b0"), looks := true }, kinds := [], alts := [], laidByText := true, laidKinds := [.data, .data, .data, .data, .sentinel, .sentinel, .pinned], laidTests := true, laidLooks := .later }
def LineAnswersUptoCardSaid : Prop := Claim7.holds Tryz.pinned (.plain (OpenSpec.upto lineAnswersSpec)) lineAnswersUptoCard

/-- THE SECOND FORM's CARD OF 'hollowtreelaw24.LineWords'. -/
def lineWordsUptoCard : Claim7 := { stood := { row := lineWordsUptoRow, standIns := [], harness := (true, "2708bb1771ecb00a8b57caca8a1acabb72054810cf91821954e65ffdfc65d0b0"), looks := true }, kinds := [], alts := [], laidByText := true, laidKinds := [.data, .data, .data, .data, .sentinel, .sentinel, .pinned], laidTests := true, laidLooks := .later }
def LineWordsUptoCardSaid : Prop := Claim7.holds Tryz.pinned (.plain (OpenSpec.upto lineWordsSpec)) lineWordsUptoCard

/-- THE SECOND FORM's CARD OF 'hollowtreelaw24.LineThere'. -/
def lineThereUptoCard : Claim7 := { stood := { row := lineThereUptoRow, standIns := [], harness := (true, "2708bb1771ecb00a8b57caca8a1acabb72054810cf91821954e65ffdfc65d0b0"), looks := true }, kinds := [], alts := [], laidByText := true, laidKinds := [.data, .data, .data, .data, .sentinel, .sentinel, .pinned], laidTests := true, laidLooks := .later }
def LineThereUptoCardSaid : Prop := Claim7.holds Tryz.pinned (.plain (OpenSpec.upto lineThereSpec)) lineThereUptoCard

/-- THE SECOND FORM's CARD OF 'hollowtreelaw24.LineTexts'. -/
def lineTextsUptoCard : Claim7 := { stood := { row := lineTextsUptoRow, standIns := [], harness := (true, "2708bb1771ecb00a8b57caca8a1acabb72054810cf91821954e65ffdfc65d0b0"), looks := true }, kinds := [], alts := [], laidByText := true, laidKinds := [.data, .data, .data, .data, .sentinel, .sentinel, .pinned], laidTests := true, laidLooks := .later }
def LineTextsUptoCardSaid : Prop := Claim7.holds Tryz.pinned (.plain (OpenSpec.upto lineTextsSpec)) lineTextsUptoCard

/-- THE SECOND FORM's CARD OF 'hollowtreelaw24.LineReplies'. -/
def lineRepliesUptoCard : Claim7 := { stood := { row := lineRepliesUptoRow, standIns := [], harness := (true, "2708bb1771ecb00a8b57caca8a1acabb72054810cf91821954e65ffdfc65d0b0"), looks := true }, kinds := [], alts := [], laidByText := true, laidKinds := [.data, .data, .data, .data, .sentinel, .sentinel, .pinned], laidTests := true, laidLooks := .later }
def LineRepliesUptoCardSaid : Prop := Claim7.holds Tryz.pinned (.plain (OpenSpec.upto lineRepliesSpec)) lineRepliesUptoCard

/-- THE SECOND FORM's CARD OF 'hollowtreelaw24.LinePrints'. -/
def linePrintsUptoCard : Claim7 := { stood := { row := linePrintsUptoRow, standIns := [], harness := (true, "2708bb1771ecb00a8b57caca8a1acabb72054810cf91821954e65ffdfc65d0b0"), looks := true }, kinds := [], alts := [], laidByText := true, laidKinds := [.data, .data, .data, .data, .sentinel, .sentinel, .pinned], laidTests := true, laidLooks := .later }
def LinePrintsUptoCardSaid : Prop := Claim7.holds Tryz.pinned (.plain (OpenSpec.upto linePrintsSpec)) linePrintsUptoCard

/-- THE SECOND FORM's CARD OF 'hollowtreelaw24.LineBack'. -/
def lineBackUptoCard : Claim7 := { stood := { row := lineBackUptoRow, standIns := [], harness := (true, "2708bb1771ecb00a8b57caca8a1acabb72054810cf91821954e65ffdfc65d0b0"), looks := true }, kinds := [], alts := [], laidByText := true, laidKinds := [.data, .data, .data, .data, .sentinel, .sentinel, .pinned], laidTests := true, laidLooks := .later }
def LineBackUptoCardSaid : Prop := Claim7.holds Tryz.pinned (.plain (OpenSpec.upto lineBackSpec)) lineBackUptoCard
end Rows
end Go.Proofs.YtccagffapohkhaaGreatDoor
