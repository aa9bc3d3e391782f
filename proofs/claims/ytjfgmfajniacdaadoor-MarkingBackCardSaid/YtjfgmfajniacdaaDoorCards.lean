/-
  DERIVED. GIVEN WITH THE SEED: THE CARDS: each row of YtjfgmfajniacdaaDoorRows.lean that lists a variable, with what it lists TIED to the program's text (the seventh form; the later family's looks); each row that meets fmt, with fmt's text TOLD by the authors' own Lean function (tested against real Go, not proved from fmt's source: count such statements apart). THE CARD IS WHAT COUNTS. Prove the row's statement (the work); the ties are given (YtjfgmfajniacdaaDoorTie.lean); close each card by the builder's one call (the guide's Derived/Test/ToyasCard.lean, 'card_holds'). Laid BY PROGRAM, IN A SANDBOX (cutbox-door.mjs). By AI agents, Wed Nov 11 2026. No macro, syntax, notation, axiom, sorry.
-/
import Derived.Test.YtjfgmfajniacdaaDoorRows
import GoSem.ClaimSeven
namespace Go.Proofs.YtjfgmfajniacdaaDoor
namespace Rows

/-- THE TIED CARD OF 'petrinetlaw04.MarkingTexts'. -/
def markingTextsCard : Claim7 := { stood := { row := markingTextsRow, standIns := [], harness := (true, "892ec7bce7887b878f9b1ec1d9d3647b52464363b9b24305655963ac06498919"), looks := true }, kinds := [], alts := [], laidByText := true, laidKinds := [.data, .data, .data, .sentinel, .sentinel], laidTests := true, laidLooks := .later }
def MarkingTextsCardSaid : Prop := Claim7.holds Tryd.pinned (.plain (OpenSpec.ofChange markingTextsSpec)) markingTextsCard

/-- THE TIED CARD OF 'petrinetlaw04.MarkingBack'. -/
def markingBackCard : Claim7 := { stood := { row := markingBackRow, standIns := [], harness := (true, "892ec7bce7887b878f9b1ec1d9d3647b52464363b9b24305655963ac06498919"), looks := true }, kinds := [], alts := [], laidByText := true, laidKinds := [.data, .data, .data, .sentinel, .sentinel], laidTests := true, laidLooks := .later }
def MarkingBackCardSaid : Prop := Claim7.holds Tryd.pinned (.plain (OpenSpec.ofChange markingBackSpec)) markingBackCard

/-- THE TIED CARD OF 'petrinetlaw04.MarkingValid'. -/
def markingValidCard : Claim7 := { stood := { row := markingValidRow, standIns := [], harness := (true, "892ec7bce7887b878f9b1ec1d9d3647b52464363b9b24305655963ac06498919"), looks := true }, kinds := [], alts := [], laidByText := true, laidKinds := [.data, .data, .data, .sentinel, .sentinel], laidTests := true, laidLooks := .later }
def MarkingValidCardSaid : Prop := Claim7.holds Tryd.pinned (.plain (OpenSpec.ofChange markingValidSpec)) markingValidCard

/-- THE TIED CARD OF 'petrinetlaw04.MarkingBounds'. -/
def markingBoundsCard : Claim7 := { stood := { row := markingBoundsRow, standIns := [], harness := (true, "892ec7bce7887b878f9b1ec1d9d3647b52464363b9b24305655963ac06498919"), looks := true }, kinds := [], alts := [], laidByText := true, laidKinds := [.data, .data, .data, .sentinel, .sentinel], laidTests := true, laidLooks := .later }
def MarkingBoundsCardSaid : Prop := Claim7.holds Tryd.pinned (.plain (OpenSpec.ofChange markingBoundsSpec)) markingBoundsCard

/-- THE TIED CARD OF 'petrinetlaw04.MarkingLattice'. -/
def markingLatticeCard : Claim7 := { stood := { row := markingLatticeRow, standIns := [], harness := (true, "892ec7bce7887b878f9b1ec1d9d3647b52464363b9b24305655963ac06498919"), looks := true }, kinds := [], alts := [], laidByText := true, laidKinds := [.data, .data, .data, .sentinel, .sentinel], laidTests := true, laidLooks := .later }
def MarkingLatticeCardSaid : Prop := Claim7.holds Tryd.pinned (.plain (OpenSpec.ofChange markingLatticeSpec)) markingLatticeCard

/-- THE TIED CARD OF 'petrinetlaw04.MarkingOrders'. -/
def markingOrdersCard : Claim7 := { stood := { row := markingOrdersRow, standIns := [], harness := (true, "892ec7bce7887b878f9b1ec1d9d3647b52464363b9b24305655963ac06498919"), looks := true }, kinds := [], alts := [], laidByText := true, laidKinds := [.data, .data, .data, .sentinel, .sentinel], laidTests := true, laidLooks := .later }
def MarkingOrdersCardSaid : Prop := Claim7.holds Tryd.pinned (.plain (OpenSpec.ofChange markingOrdersSpec)) markingOrdersCard

/-- THE TIED CARD OF 'petrinetlaw04.MarkingTotal'. -/
def markingTotalCard : Claim7 := { stood := { row := markingTotalRow, standIns := [], harness := (true, "892ec7bce7887b878f9b1ec1d9d3647b52464363b9b24305655963ac06498919"), looks := true }, kinds := [], alts := [], laidByText := true, laidKinds := [.data, .data, .data, .sentinel, .sentinel], laidTests := true, laidLooks := .later }
def MarkingTotalCardSaid : Prop := Claim7.holds Tryd.pinned (.plain (OpenSpec.ofChange markingTotalSpec)) markingTotalCard

/-- THE SECOND FORM's CARD OF 'petrinetlaw04.MarkingTexts'. -/
def markingTextsUptoCard : Claim7 := { stood := { row := markingTextsUptoRow, standIns := [], harness := (true, "892ec7bce7887b878f9b1ec1d9d3647b52464363b9b24305655963ac06498919"), looks := true }, kinds := [], alts := [], laidByText := true, laidKinds := [.data, .data, .data, .sentinel, .sentinel], laidTests := true, laidLooks := .later }
def MarkingTextsUptoCardSaid : Prop := Claim7.holds Tryd.pinned (.plain (OpenSpec.upto markingTextsSpec)) markingTextsUptoCard

/-- THE SECOND FORM's CARD OF 'petrinetlaw04.MarkingBack'. -/
def markingBackUptoCard : Claim7 := { stood := { row := markingBackUptoRow, standIns := [], harness := (true, "892ec7bce7887b878f9b1ec1d9d3647b52464363b9b24305655963ac06498919"), looks := true }, kinds := [], alts := [], laidByText := true, laidKinds := [.data, .data, .data, .sentinel, .sentinel], laidTests := true, laidLooks := .later }
def MarkingBackUptoCardSaid : Prop := Claim7.holds Tryd.pinned (.plain (OpenSpec.upto markingBackSpec)) markingBackUptoCard

/-- THE SECOND FORM's CARD OF 'petrinetlaw04.MarkingValid'. -/
def markingValidUptoCard : Claim7 := { stood := { row := markingValidUptoRow, standIns := [], harness := (true, "892ec7bce7887b878f9b1ec1d9d3647b52464363b9b24305655963ac06498919"), looks := true }, kinds := [], alts := [], laidByText := true, laidKinds := [.data, .data, .data, .sentinel, .sentinel], laidTests := true, laidLooks := .later }
def MarkingValidUptoCardSaid : Prop := Claim7.holds Tryd.pinned (.plain (OpenSpec.upto markingValidSpec)) markingValidUptoCard

/-- THE SECOND FORM's CARD OF 'petrinetlaw04.MarkingBounds'. -/
def markingBoundsUptoCard : Claim7 := { stood := { row := markingBoundsUptoRow, standIns := [], harness := (true, "892ec7bce7887b878f9b1ec1d9d3647b52464363b9b24305655963ac06498919"), looks := true }, kinds := [], alts := [], laidByText := true, laidKinds := [.data, .data, .data, .sentinel, .sentinel], laidTests := true, laidLooks := .later }
def MarkingBoundsUptoCardSaid : Prop := Claim7.holds Tryd.pinned (.plain (OpenSpec.upto markingBoundsSpec)) markingBoundsUptoCard

/-- THE SECOND FORM's CARD OF 'petrinetlaw04.MarkingLattice'. -/
def markingLatticeUptoCard : Claim7 := { stood := { row := markingLatticeUptoRow, standIns := [], harness := (true, "892ec7bce7887b878f9b1ec1d9d3647b52464363b9b24305655963ac06498919"), looks := true }, kinds := [], alts := [], laidByText := true, laidKinds := [.data, .data, .data, .sentinel, .sentinel], laidTests := true, laidLooks := .later }
def MarkingLatticeUptoCardSaid : Prop := Claim7.holds Tryd.pinned (.plain (OpenSpec.upto markingLatticeSpec)) markingLatticeUptoCard

/-- THE SECOND FORM's CARD OF 'petrinetlaw04.MarkingOrders'. -/
def markingOrdersUptoCard : Claim7 := { stood := { row := markingOrdersUptoRow, standIns := [], harness := (true, "892ec7bce7887b878f9b1ec1d9d3647b52464363b9b24305655963ac06498919"), looks := true }, kinds := [], alts := [], laidByText := true, laidKinds := [.data, .data, .data, .sentinel, .sentinel], laidTests := true, laidLooks := .later }
def MarkingOrdersUptoCardSaid : Prop := Claim7.holds Tryd.pinned (.plain (OpenSpec.upto markingOrdersSpec)) markingOrdersUptoCard

/-- THE SECOND FORM's CARD OF 'petrinetlaw04.MarkingTotal'. -/
def markingTotalUptoCard : Claim7 := { stood := { row := markingTotalUptoRow, standIns := [], harness := (true, "892ec7bce7887b878f9b1ec1d9d3647b52464363b9b24305655963ac06498919"), looks := true }, kinds := [], alts := [], laidByText := true, laidKinds := [.data, .data, .data, .sentinel, .sentinel], laidTests := true, laidLooks := .later }
def MarkingTotalUptoCardSaid : Prop := Claim7.holds Tryd.pinned (.plain (OpenSpec.upto markingTotalSpec)) markingTotalUptoCard
end Rows
end Go.Proofs.YtjfgmfajniacdaaDoor
