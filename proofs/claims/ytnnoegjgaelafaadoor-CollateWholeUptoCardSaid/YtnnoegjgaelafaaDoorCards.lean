/-
  DERIVED. GIVEN WITH THE SEED: THE CARDS: each row of YtnnoegjgaelafaaDoorRows.lean that lists a variable, with what it lists TIED to the program's text (the seventh form; the later family's looks); each row that meets fmt, with fmt's text TOLD by the authors' own Lean function (tested against real Go, not proved from fmt's source: count such statements apart). THE CARD IS WHAT COUNTS. Prove the row's statement (the work); the ties are given (YtnnoegjgaelafaaDoorTie.lean); close each card by the builder's one call (the guide's Derived/Test/ToyasCard.lean, 'card_holds'). Laid BY PROGRAM, IN A SANDBOX (cutbox-door.mjs). By AI agents, Wed Nov 11 2026. No macro, syntax, notation, axiom, sorry.
-/
import Derived.Test.YtnnoegjgaelafaaDoorRows
import GoSem.ClaimSeven
namespace Go.Proofs.YtnnoegjgaelafaaDoor
namespace Rows

/-- THE TIED CARD OF 'milllaw5.CollateNews'. -/
def collateNewsCard : Claim7 := { stood := { row := collateNewsRow, standIns := [], harness := (true, "a558d5865c964875cd48d09d06898ccc2d83d36a6e8aca7c43f8aa226a8b359f"), looks := false }, kinds := [], alts := [], laidByText := true, laidKinds := [.data, .data, .data, .pinned], laidTests := true, laidLooks := .later }
def CollateNewsCardSaid : Prop := Claim7.holds Tryd.pinned (.plain (OpenSpec.ofChange collateNewsSpec)) collateNewsCard

/-- THE TIED CARD OF 'milllaw5.CollateBlind'. -/
def collateBlindCard : Claim7 := { stood := { row := collateBlindRow, standIns := [], harness := (true, "a558d5865c964875cd48d09d06898ccc2d83d36a6e8aca7c43f8aa226a8b359f"), looks := false }, kinds := [], alts := [], laidByText := true, laidKinds := [.data, .data, .data, .pinned], laidTests := true, laidLooks := .later }
def CollateBlindCardSaid : Prop := Claim7.holds Tryd.pinned (.plain (OpenSpec.ofChange collateBlindSpec)) collateBlindCard

/-- THE TIED CARD OF 'milllaw5.CollateSpans'. -/
def collateSpansCard : Claim7 := { stood := { row := collateSpansRow, standIns := [], harness := (true, "a558d5865c964875cd48d09d06898ccc2d83d36a6e8aca7c43f8aa226a8b359f"), looks := false }, kinds := [], alts := [], laidByText := true, laidKinds := [.data, .data, .data, .pinned], laidTests := true, laidLooks := .later }
def CollateSpansCardSaid : Prop := Claim7.holds Tryd.pinned (.plain (OpenSpec.ofChange collateSpansSpec)) collateSpansCard

/-- THE TIED CARD OF 'milllaw5.CollateTotal'. -/
def collateTotalCard : Claim7 := { stood := { row := collateTotalRow, standIns := [], harness := (true, "a558d5865c964875cd48d09d06898ccc2d83d36a6e8aca7c43f8aa226a8b359f"), looks := false }, kinds := [], alts := [], laidByText := true, laidKinds := [.data, .data, .data, .pinned], laidTests := true, laidLooks := .later }
def CollateTotalCardSaid : Prop := Claim7.holds Tryd.pinned (.plain (OpenSpec.ofChange collateTotalSpec)) collateTotalCard

/-- THE TIED CARD OF 'milllaw5.CollateWhole'. -/
def collateWholeCard : Claim7 := { stood := { row := collateWholeRow, standIns := [], harness := (true, "a558d5865c964875cd48d09d06898ccc2d83d36a6e8aca7c43f8aa226a8b359f"), looks := false }, kinds := [], alts := [], laidByText := true, laidKinds := [.data, .data, .data, .pinned], laidTests := true, laidLooks := .later }
def CollateWholeCardSaid : Prop := Claim7.holds Tryd.pinned (.plain (OpenSpec.ofChange collateWholeSpec)) collateWholeCard

/-- THE TIED CARD OF 'milllaw5.CollateTurned'. -/
def collateTurnedCard : Claim7 := { stood := { row := collateTurnedRow, standIns := [], harness := (true, "a558d5865c964875cd48d09d06898ccc2d83d36a6e8aca7c43f8aa226a8b359f"), looks := false }, kinds := [], alts := [], laidByText := true, laidKinds := [.data, .data, .data, .pinned], laidTests := true, laidLooks := .later }
def CollateTurnedCardSaid : Prop := Claim7.holds Tryd.pinned (.plain (OpenSpec.ofChange collateTurnedSpec)) collateTurnedCard

/-- THE TIED CARD OF 'milllaw5.CollateTransform'. -/
def collateTransformCard : Claim7 := { stood := { row := collateTransformRow, standIns := [], harness := (true, "a558d5865c964875cd48d09d06898ccc2d83d36a6e8aca7c43f8aa226a8b359f"), looks := false }, kinds := [], alts := [], laidByText := true, laidKinds := [.data, .data, .data, .pinned], laidTests := true, laidLooks := .later }
def CollateTransformCardSaid : Prop := Claim7.holds Tryd.pinned (.plain (OpenSpec.ofChange collateTransformSpec)) collateTransformCard

/-- THE TIED CARD OF 'milllaw5.CollateSettles'. -/
def collateSettlesCard : Claim7 := { stood := { row := collateSettlesRow, standIns := [], harness := (true, "a558d5865c964875cd48d09d06898ccc2d83d36a6e8aca7c43f8aa226a8b359f"), looks := false }, kinds := [], alts := [], laidByText := true, laidKinds := [.data, .data, .data, .pinned], laidTests := true, laidLooks := .later }
def CollateSettlesCardSaid : Prop := Claim7.holds Tryd.pinned (.plain (OpenSpec.ofChange collateSettlesSpec)) collateSettlesCard

/-- THE TIED CARD OF 'milllaw5.CollateNil'. -/
def collateNilCard : Claim7 := { stood := { row := collateNilRow, standIns := [], harness := (true, "a558d5865c964875cd48d09d06898ccc2d83d36a6e8aca7c43f8aa226a8b359f"), looks := false }, kinds := [], alts := [], laidByText := true, laidKinds := [.data, .data, .data, .pinned], laidTests := true, laidLooks := .later }
def CollateNilCardSaid : Prop := Claim7.holds Tryd.pinned (.plain (OpenSpec.ofChange collateNilSpec)) collateNilCard

/-- THE SECOND FORM's CARD OF 'milllaw5.CollateNews'. -/
def collateNewsUptoCard : Claim7 := { stood := { row := collateNewsUptoRow, standIns := [], harness := (true, "a558d5865c964875cd48d09d06898ccc2d83d36a6e8aca7c43f8aa226a8b359f"), looks := false }, kinds := [], alts := [], laidByText := true, laidKinds := [.data, .data, .data, .pinned], laidTests := true, laidLooks := .later }
def CollateNewsUptoCardSaid : Prop := Claim7.holds Tryd.pinned (.plain (OpenSpec.upto collateNewsSpec)) collateNewsUptoCard

/-- THE SECOND FORM's CARD OF 'milllaw5.CollateBlind'. -/
def collateBlindUptoCard : Claim7 := { stood := { row := collateBlindUptoRow, standIns := [], harness := (true, "a558d5865c964875cd48d09d06898ccc2d83d36a6e8aca7c43f8aa226a8b359f"), looks := false }, kinds := [], alts := [], laidByText := true, laidKinds := [.data, .data, .data, .pinned], laidTests := true, laidLooks := .later }
def CollateBlindUptoCardSaid : Prop := Claim7.holds Tryd.pinned (.plain (OpenSpec.upto collateBlindSpec)) collateBlindUptoCard

/-- THE SECOND FORM's CARD OF 'milllaw5.CollateSpans'. -/
def collateSpansUptoCard : Claim7 := { stood := { row := collateSpansUptoRow, standIns := [], harness := (true, "a558d5865c964875cd48d09d06898ccc2d83d36a6e8aca7c43f8aa226a8b359f"), looks := false }, kinds := [], alts := [], laidByText := true, laidKinds := [.data, .data, .data, .pinned], laidTests := true, laidLooks := .later }
def CollateSpansUptoCardSaid : Prop := Claim7.holds Tryd.pinned (.plain (OpenSpec.upto collateSpansSpec)) collateSpansUptoCard

/-- THE SECOND FORM's CARD OF 'milllaw5.CollateTotal'. -/
def collateTotalUptoCard : Claim7 := { stood := { row := collateTotalUptoRow, standIns := [], harness := (true, "a558d5865c964875cd48d09d06898ccc2d83d36a6e8aca7c43f8aa226a8b359f"), looks := false }, kinds := [], alts := [], laidByText := true, laidKinds := [.data, .data, .data, .pinned], laidTests := true, laidLooks := .later }
def CollateTotalUptoCardSaid : Prop := Claim7.holds Tryd.pinned (.plain (OpenSpec.upto collateTotalSpec)) collateTotalUptoCard

/-- THE SECOND FORM's CARD OF 'milllaw5.CollateWhole'. -/
def collateWholeUptoCard : Claim7 := { stood := { row := collateWholeUptoRow, standIns := [], harness := (true, "a558d5865c964875cd48d09d06898ccc2d83d36a6e8aca7c43f8aa226a8b359f"), looks := false }, kinds := [], alts := [], laidByText := true, laidKinds := [.data, .data, .data, .pinned], laidTests := true, laidLooks := .later }
def CollateWholeUptoCardSaid : Prop := Claim7.holds Tryd.pinned (.plain (OpenSpec.upto collateWholeSpec)) collateWholeUptoCard

/-- THE SECOND FORM's CARD OF 'milllaw5.CollateTurned'. -/
def collateTurnedUptoCard : Claim7 := { stood := { row := collateTurnedUptoRow, standIns := [], harness := (true, "a558d5865c964875cd48d09d06898ccc2d83d36a6e8aca7c43f8aa226a8b359f"), looks := false }, kinds := [], alts := [], laidByText := true, laidKinds := [.data, .data, .data, .pinned], laidTests := true, laidLooks := .later }
def CollateTurnedUptoCardSaid : Prop := Claim7.holds Tryd.pinned (.plain (OpenSpec.upto collateTurnedSpec)) collateTurnedUptoCard

/-- THE SECOND FORM's CARD OF 'milllaw5.CollateTransform'. -/
def collateTransformUptoCard : Claim7 := { stood := { row := collateTransformUptoRow, standIns := [], harness := (true, "a558d5865c964875cd48d09d06898ccc2d83d36a6e8aca7c43f8aa226a8b359f"), looks := false }, kinds := [], alts := [], laidByText := true, laidKinds := [.data, .data, .data, .pinned], laidTests := true, laidLooks := .later }
def CollateTransformUptoCardSaid : Prop := Claim7.holds Tryd.pinned (.plain (OpenSpec.upto collateTransformSpec)) collateTransformUptoCard

/-- THE SECOND FORM's CARD OF 'milllaw5.CollateSettles'. -/
def collateSettlesUptoCard : Claim7 := { stood := { row := collateSettlesUptoRow, standIns := [], harness := (true, "a558d5865c964875cd48d09d06898ccc2d83d36a6e8aca7c43f8aa226a8b359f"), looks := false }, kinds := [], alts := [], laidByText := true, laidKinds := [.data, .data, .data, .pinned], laidTests := true, laidLooks := .later }
def CollateSettlesUptoCardSaid : Prop := Claim7.holds Tryd.pinned (.plain (OpenSpec.upto collateSettlesSpec)) collateSettlesUptoCard

/-- THE SECOND FORM's CARD OF 'milllaw5.CollateNil'. -/
def collateNilUptoCard : Claim7 := { stood := { row := collateNilUptoRow, standIns := [], harness := (true, "a558d5865c964875cd48d09d06898ccc2d83d36a6e8aca7c43f8aa226a8b359f"), looks := false }, kinds := [], alts := [], laidByText := true, laidKinds := [.data, .data, .data, .pinned], laidTests := true, laidLooks := .later }
def CollateNilUptoCardSaid : Prop := Claim7.holds Tryd.pinned (.plain (OpenSpec.upto collateNilSpec)) collateNilUptoCard
end Rows
end Go.Proofs.YtnnoegjgaelafaaDoor
