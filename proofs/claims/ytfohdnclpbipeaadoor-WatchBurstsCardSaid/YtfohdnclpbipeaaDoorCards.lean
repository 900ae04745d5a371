/-
  DERIVED. GIVEN WITH THE SEED: THE CARDS: each row of YtfohdnclpbipeaaDoorRows.lean that lists a variable, with what it lists TIED to the program's text (the seventh form; the later family's looks); each row that meets fmt, with fmt's text TOLD by the authors' own Lean function (tested against real Go, not proved from fmt's source: count such statements apart). THE CARD IS WHAT COUNTS. Prove the row's statement (the work); the ties are given (YtfohdnclpbipeaaDoorTie.lean); close each card by the builder's one call (the guide's Derived/Test/ToyasCard.lean, 'card_holds'). Laid BY PROGRAM, IN A SANDBOX (cutbox-door.mjs). By AI agents, Wed Nov 11 2026. No macro, syntax, notation, axiom, sorry.
-/
import Derived.Test.YtfohdnclpbipeaaDoorRows
import GoSem.ClaimSeven
namespace Go.Proofs.YtfohdnclpbipeaaDoor
namespace Rows

/-- THE TIED CARD OF 'hollowtreelaw30.WatchShapes'. -/
def watchShapesCard : Claim7 := { stood := { row := watchShapesRow, standIns := [], harness := (true, "2afe9df6d4414d8a40e8f64551207934361020000994bd12620e32d245b88cf1"), looks := false }, kinds := [], alts := [], laidByText := true, laidKinds := [.data, .data, .data], laidTests := true, laidLooks := .later }
def WatchShapesCardSaid : Prop := Claim7.holds Tryd.pinned (.plain (OpenSpec.ofChange watchShapesSpec)) watchShapesCard

/-- THE TIED CARD OF 'hollowtreelaw30.WatchRuns'. -/
def watchRunsCard : Claim7 := { stood := { row := watchRunsRow, standIns := [], harness := (true, "2afe9df6d4414d8a40e8f64551207934361020000994bd12620e32d245b88cf1"), looks := false }, kinds := [], alts := [], laidByText := true, laidKinds := [.data, .data, .data], laidTests := true, laidLooks := .later }
def WatchRunsCardSaid : Prop := Claim7.holds Tryd.pinned (.plain (OpenSpec.ofChange watchRunsSpec)) watchRunsCard

/-- THE TIED CARD OF 'hollowtreelaw30.WatchSums'. -/
def watchSumsCard : Claim7 := { stood := { row := watchSumsRow, standIns := [], harness := (true, "2afe9df6d4414d8a40e8f64551207934361020000994bd12620e32d245b88cf1"), looks := false }, kinds := [], alts := [], laidByText := true, laidKinds := [.data, .data, .data], laidTests := true, laidLooks := .later }
def WatchSumsCardSaid : Prop := Claim7.holds Tryd.pinned (.plain (OpenSpec.ofChange watchSumsSpec)) watchSumsCard

/-- THE TIED CARD OF 'hollowtreelaw30.WatchTakes'. -/
def watchTakesCard : Claim7 := { stood := { row := watchTakesRow, standIns := [], harness := (true, "2afe9df6d4414d8a40e8f64551207934361020000994bd12620e32d245b88cf1"), looks := false }, kinds := [], alts := [], laidByText := true, laidKinds := [.data, .data, .data], laidTests := true, laidLooks := .later }
def WatchTakesCardSaid : Prop := Claim7.holds Tryd.pinned (.plain (OpenSpec.ofChange watchTakesSpec)) watchTakesCard

/-- THE TIED CARD OF 'hollowtreelaw30.WatchSeals'. -/
def watchSealsCard : Claim7 := { stood := { row := watchSealsRow, standIns := [], harness := (true, "2afe9df6d4414d8a40e8f64551207934361020000994bd12620e32d245b88cf1"), looks := false }, kinds := [], alts := [], laidByText := true, laidKinds := [.data, .data, .data], laidTests := true, laidLooks := .later }
def WatchSealsCardSaid : Prop := Claim7.holds Tryd.pinned (.plain (OpenSpec.ofChange watchSealsSpec)) watchSealsCard

/-- THE TIED CARD OF 'hollowtreelaw30.WatchCovers'. -/
def watchCoversCard : Claim7 := { stood := { row := watchCoversRow, standIns := [], harness := (true, "2afe9df6d4414d8a40e8f64551207934361020000994bd12620e32d245b88cf1"), looks := false }, kinds := [], alts := [], laidByText := true, laidKinds := [.data, .data, .data], laidTests := true, laidLooks := .later }
def WatchCoversCardSaid : Prop := Claim7.holds Tryd.pinned (.plain (OpenSpec.ofChange watchCoversSpec)) watchCoversCard

/-- THE TIED CARD OF 'hollowtreelaw30.WatchBursts'. -/
def watchBurstsCard : Claim7 := { stood := { row := watchBurstsRow, standIns := [], harness := (true, "2afe9df6d4414d8a40e8f64551207934361020000994bd12620e32d245b88cf1"), looks := false }, kinds := [], alts := [], laidByText := true, laidKinds := [.data, .data, .data], laidTests := true, laidLooks := .later }
def WatchBurstsCardSaid : Prop := Claim7.holds Tryd.pinned (.plain (OpenSpec.ofChange watchBurstsSpec)) watchBurstsCard

/-- THE TIED CARD OF 'hollowtreelaw30.WatchTells'. -/
def watchTellsCard : Claim7 := { stood := { row := watchTellsRow, standIns := [], harness := (true, "2afe9df6d4414d8a40e8f64551207934361020000994bd12620e32d245b88cf1"), looks := false }, kinds := [], alts := [], laidByText := true, laidKinds := [.data, .data, .data], laidTests := true, laidLooks := .later }
def WatchTellsCardSaid : Prop := Claim7.holds Tryd.pinned (.plain (OpenSpec.ofChange watchTellsSpec)) watchTellsCard

/-- THE SECOND FORM's CARD OF 'hollowtreelaw30.WatchShapes'. -/
def watchShapesUptoCard : Claim7 := { stood := { row := watchShapesUptoRow, standIns := [], harness := (true, "2afe9df6d4414d8a40e8f64551207934361020000994bd12620e32d245b88cf1"), looks := false }, kinds := [], alts := [], laidByText := true, laidKinds := [.data, .data, .data], laidTests := true, laidLooks := .later }
def WatchShapesUptoCardSaid : Prop := Claim7.holds Tryd.pinned (.plain (OpenSpec.upto watchShapesSpec)) watchShapesUptoCard

/-- THE SECOND FORM's CARD OF 'hollowtreelaw30.WatchRuns'. -/
def watchRunsUptoCard : Claim7 := { stood := { row := watchRunsUptoRow, standIns := [], harness := (true, "2afe9df6d4414d8a40e8f64551207934361020000994bd12620e32d245b88cf1"), looks := false }, kinds := [], alts := [], laidByText := true, laidKinds := [.data, .data, .data], laidTests := true, laidLooks := .later }
def WatchRunsUptoCardSaid : Prop := Claim7.holds Tryd.pinned (.plain (OpenSpec.upto watchRunsSpec)) watchRunsUptoCard

/-- THE SECOND FORM's CARD OF 'hollowtreelaw30.WatchSums'. -/
def watchSumsUptoCard : Claim7 := { stood := { row := watchSumsUptoRow, standIns := [], harness := (true, "2afe9df6d4414d8a40e8f64551207934361020000994bd12620e32d245b88cf1"), looks := false }, kinds := [], alts := [], laidByText := true, laidKinds := [.data, .data, .data], laidTests := true, laidLooks := .later }
def WatchSumsUptoCardSaid : Prop := Claim7.holds Tryd.pinned (.plain (OpenSpec.upto watchSumsSpec)) watchSumsUptoCard

/-- THE SECOND FORM's CARD OF 'hollowtreelaw30.WatchTakes'. -/
def watchTakesUptoCard : Claim7 := { stood := { row := watchTakesUptoRow, standIns := [], harness := (true, "2afe9df6d4414d8a40e8f64551207934361020000994bd12620e32d245b88cf1"), looks := false }, kinds := [], alts := [], laidByText := true, laidKinds := [.data, .data, .data], laidTests := true, laidLooks := .later }
def WatchTakesUptoCardSaid : Prop := Claim7.holds Tryd.pinned (.plain (OpenSpec.upto watchTakesSpec)) watchTakesUptoCard

/-- THE SECOND FORM's CARD OF 'hollowtreelaw30.WatchSeals'. -/
def watchSealsUptoCard : Claim7 := { stood := { row := watchSealsUptoRow, standIns := [], harness := (true, "2afe9df6d4414d8a40e8f64551207934361020000994bd12620e32d245b88cf1"), looks := false }, kinds := [], alts := [], laidByText := true, laidKinds := [.data, .data, .data], laidTests := true, laidLooks := .later }
def WatchSealsUptoCardSaid : Prop := Claim7.holds Tryd.pinned (.plain (OpenSpec.upto watchSealsSpec)) watchSealsUptoCard

/-- THE SECOND FORM's CARD OF 'hollowtreelaw30.WatchCovers'. -/
def watchCoversUptoCard : Claim7 := { stood := { row := watchCoversUptoRow, standIns := [], harness := (true, "2afe9df6d4414d8a40e8f64551207934361020000994bd12620e32d245b88cf1"), looks := false }, kinds := [], alts := [], laidByText := true, laidKinds := [.data, .data, .data], laidTests := true, laidLooks := .later }
def WatchCoversUptoCardSaid : Prop := Claim7.holds Tryd.pinned (.plain (OpenSpec.upto watchCoversSpec)) watchCoversUptoCard

/-- THE SECOND FORM's CARD OF 'hollowtreelaw30.WatchBursts'. -/
def watchBurstsUptoCard : Claim7 := { stood := { row := watchBurstsUptoRow, standIns := [], harness := (true, "2afe9df6d4414d8a40e8f64551207934361020000994bd12620e32d245b88cf1"), looks := false }, kinds := [], alts := [], laidByText := true, laidKinds := [.data, .data, .data], laidTests := true, laidLooks := .later }
def WatchBurstsUptoCardSaid : Prop := Claim7.holds Tryd.pinned (.plain (OpenSpec.upto watchBurstsSpec)) watchBurstsUptoCard

/-- THE SECOND FORM's CARD OF 'hollowtreelaw30.WatchTells'. -/
def watchTellsUptoCard : Claim7 := { stood := { row := watchTellsUptoRow, standIns := [], harness := (true, "2afe9df6d4414d8a40e8f64551207934361020000994bd12620e32d245b88cf1"), looks := false }, kinds := [], alts := [], laidByText := true, laidKinds := [.data, .data, .data], laidTests := true, laidLooks := .later }
def WatchTellsUptoCardSaid : Prop := Claim7.holds Tryd.pinned (.plain (OpenSpec.upto watchTellsSpec)) watchTellsUptoCard
end Rows
end Go.Proofs.YtfohdnclpbipeaaDoor
