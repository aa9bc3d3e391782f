/-
  DERIVED. GIVEN WITH THE SEED: THE CARDS: each row of YtoobmfofkeaibaaDoorRows.lean that lists a variable, with what it lists TIED to the program's text (the seventh form; the later family's looks); each row that meets fmt, with fmt's text TOLD by the authors' own Lean function (tested against real Go, not proved from fmt's source: count such statements apart). THE CARD IS WHAT COUNTS. Prove the row's statement (the work); the ties are given (YtoobmfofkeaibaaDoorTie.lean); close each card by the builder's one call (the guide's Derived/Test/ToyasCard.lean, 'card_holds'). Laid BY PROGRAM, IN A SANDBOX (cutbox-door.mjs). By AI agents, Wed Nov 11 2026. No macro, syntax, notation, axiom, sorry.
-/
import Derived.Test.YtoobmfofkeaibaaDoorRows
import GoSem.ClaimSeven
namespace Go.Proofs.YtoobmfofkeaibaaDoor
namespace Rows

/-- THE TIED CARD OF 'petrinetlaw05.OmegaOrders'. -/
def omegaOrdersCard : Claim7 := { stood := { row := omegaOrdersRow, standIns := [], harness := (true, "ba2306d6480da663a36c02353722e9e56250107417d498ab33ca581732046eeb"), looks := true }, kinds := [], alts := [], laidByText := true, laidKinds := [.data, .data, .data], laidTests := true, laidLooks := .later }
def OmegaOrdersCardSaid : Prop := Claim7.holds Tryd.pinned (.plain (OpenSpec.ofChange omegaOrdersSpec)) omegaOrdersCard

/-- THE TIED CARD OF 'petrinetlaw05.OmegaAccelerates'. -/
def omegaAcceleratesCard : Claim7 := { stood := { row := omegaAcceleratesRow, standIns := [], harness := (true, "ba2306d6480da663a36c02353722e9e56250107417d498ab33ca581732046eeb"), looks := true }, kinds := [], alts := [], laidByText := true, laidKinds := [.data, .data, .data], laidTests := true, laidLooks := .later }
def OmegaAcceleratesCardSaid : Prop := Claim7.holds Tryd.pinned (.plain (OpenSpec.ofChange omegaAcceleratesSpec)) omegaAcceleratesCard

/-- THE TIED CARD OF 'petrinetlaw05.OmegaValids'. -/
def omegaValidsCard : Claim7 := { stood := { row := omegaValidsRow, standIns := [], harness := (true, "ba2306d6480da663a36c02353722e9e56250107417d498ab33ca581732046eeb"), looks := true }, kinds := [], alts := [], laidByText := true, laidKinds := [.data, .data, .data], laidTests := true, laidLooks := .later }
def OmegaValidsCardSaid : Prop := Claim7.holds Tryd.pinned (.plain (OpenSpec.ofChange omegaValidsSpec)) omegaValidsCard

/-- THE TIED CARD OF 'petrinetlaw05.OmegaMaximals'. -/
def omegaMaximalsCard : Claim7 := { stood := { row := omegaMaximalsRow, standIns := [], harness := (true, "ba2306d6480da663a36c02353722e9e56250107417d498ab33ca581732046eeb"), looks := true }, kinds := [], alts := [], laidByText := true, laidKinds := [.data, .data, .data], laidTests := true, laidLooks := .later }
def OmegaMaximalsCardSaid : Prop := Claim7.holds Tryd.pinned (.plain (OpenSpec.ofChange omegaMaximalsSpec)) omegaMaximalsCard

/-- THE TIED CARD OF 'petrinetlaw05.OmegaDominates'. -/
def omegaDominatesCard : Claim7 := { stood := { row := omegaDominatesRow, standIns := [], harness := (true, "ba2306d6480da663a36c02353722e9e56250107417d498ab33ca581732046eeb"), looks := true }, kinds := [], alts := [], laidByText := true, laidKinds := [.data, .data, .data], laidTests := true, laidLooks := .later }
def OmegaDominatesCardSaid : Prop := Claim7.holds Tryd.pinned (.plain (OpenSpec.ofChange omegaDominatesSpec)) omegaDominatesCard

/-- THE TIED CARD OF 'petrinetlaw05.OmegaParses'. -/
def omegaParsesCard : Claim7 := { stood := { row := omegaParsesRow, standIns := [], harness := (true, "ba2306d6480da663a36c02353722e9e56250107417d498ab33ca581732046eeb"), looks := true }, kinds := [], alts := [], laidByText := true, laidKinds := [.data, .data, .data, .sentinel, .sentinel], laidTests := true, laidLooks := .later }
def OmegaParsesCardSaid : Prop := Claim7.holds Tryd.pinned (.plain (OpenSpec.ofChange omegaParsesSpec)) omegaParsesCard

/-- THE SECOND FORM's CARD OF 'petrinetlaw05.OmegaOrders'. -/
def omegaOrdersUptoCard : Claim7 := { stood := { row := omegaOrdersUptoRow, standIns := [], harness := (true, "ba2306d6480da663a36c02353722e9e56250107417d498ab33ca581732046eeb"), looks := true }, kinds := [], alts := [], laidByText := true, laidKinds := [.data, .data, .data], laidTests := true, laidLooks := .later }
def OmegaOrdersUptoCardSaid : Prop := Claim7.holds Tryd.pinned (.plain (OpenSpec.upto omegaOrdersSpec)) omegaOrdersUptoCard

/-- THE SECOND FORM's CARD OF 'petrinetlaw05.OmegaAccelerates'. -/
def omegaAcceleratesUptoCard : Claim7 := { stood := { row := omegaAcceleratesUptoRow, standIns := [], harness := (true, "ba2306d6480da663a36c02353722e9e56250107417d498ab33ca581732046eeb"), looks := true }, kinds := [], alts := [], laidByText := true, laidKinds := [.data, .data, .data], laidTests := true, laidLooks := .later }
def OmegaAcceleratesUptoCardSaid : Prop := Claim7.holds Tryd.pinned (.plain (OpenSpec.upto omegaAcceleratesSpec)) omegaAcceleratesUptoCard

/-- THE SECOND FORM's CARD OF 'petrinetlaw05.OmegaValids'. -/
def omegaValidsUptoCard : Claim7 := { stood := { row := omegaValidsUptoRow, standIns := [], harness := (true, "ba2306d6480da663a36c02353722e9e56250107417d498ab33ca581732046eeb"), looks := true }, kinds := [], alts := [], laidByText := true, laidKinds := [.data, .data, .data], laidTests := true, laidLooks := .later }
def OmegaValidsUptoCardSaid : Prop := Claim7.holds Tryd.pinned (.plain (OpenSpec.upto omegaValidsSpec)) omegaValidsUptoCard

/-- THE SECOND FORM's CARD OF 'petrinetlaw05.OmegaMaximals'. -/
def omegaMaximalsUptoCard : Claim7 := { stood := { row := omegaMaximalsUptoRow, standIns := [], harness := (true, "ba2306d6480da663a36c02353722e9e56250107417d498ab33ca581732046eeb"), looks := true }, kinds := [], alts := [], laidByText := true, laidKinds := [.data, .data, .data], laidTests := true, laidLooks := .later }
def OmegaMaximalsUptoCardSaid : Prop := Claim7.holds Tryd.pinned (.plain (OpenSpec.upto omegaMaximalsSpec)) omegaMaximalsUptoCard

/-- THE SECOND FORM's CARD OF 'petrinetlaw05.OmegaDominates'. -/
def omegaDominatesUptoCard : Claim7 := { stood := { row := omegaDominatesUptoRow, standIns := [], harness := (true, "ba2306d6480da663a36c02353722e9e56250107417d498ab33ca581732046eeb"), looks := true }, kinds := [], alts := [], laidByText := true, laidKinds := [.data, .data, .data], laidTests := true, laidLooks := .later }
def OmegaDominatesUptoCardSaid : Prop := Claim7.holds Tryd.pinned (.plain (OpenSpec.upto omegaDominatesSpec)) omegaDominatesUptoCard

/-- THE SECOND FORM's CARD OF 'petrinetlaw05.OmegaParses'. -/
def omegaParsesUptoCard : Claim7 := { stood := { row := omegaParsesUptoRow, standIns := [], harness := (true, "ba2306d6480da663a36c02353722e9e56250107417d498ab33ca581732046eeb"), looks := true }, kinds := [], alts := [], laidByText := true, laidKinds := [.data, .data, .data, .sentinel, .sentinel], laidTests := true, laidLooks := .later }
def OmegaParsesUptoCardSaid : Prop := Claim7.holds Tryd.pinned (.plain (OpenSpec.upto omegaParsesSpec)) omegaParsesUptoCard
end Rows
end Go.Proofs.YtoobmfofkeaibaaDoor
