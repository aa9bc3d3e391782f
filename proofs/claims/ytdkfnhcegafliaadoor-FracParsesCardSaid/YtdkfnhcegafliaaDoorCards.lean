/-
  DERIVED. GIVEN WITH THE SEED: THE CARDS: each row of YtdkfnhcegafliaaDoorRows.lean that lists a variable, with what it lists TIED to the program's text (the seventh form; the later family's looks); each row that meets fmt, with fmt's text TOLD by the authors' own Lean function (tested against real Go, not proved from fmt's source: count such statements apart). THE CARD IS WHAT COUNTS. Prove the row's statement (the work); the ties are given (YtdkfnhcegafliaaDoorTie.lean); close each card by the builder's one call (the guide's Derived/Test/ToyasCard.lean, 'card_holds'). Laid BY PROGRAM, IN A SANDBOX (cutbox-door.mjs). By AI agents, Wed Nov 11 2026. No macro, syntax, notation, axiom, sorry.
-/
import Derived.Test.YtdkfnhcegafliaaDoorRows
import GoSem.ClaimSeven
namespace Go.Proofs.YtdkfnhcegafliaaDoor
namespace Rows

/-- THE TIED CARD OF 'petrinetlaw02.FracParses'. -/
def fracParsesCard : Claim7 := { stood := { row := fracParsesRow, standIns := [], harness := (true, "a5e757b9ded5d5398c77fbd1e25be46c03e57e491c74df40c85e737fb902ae21"), looks := true }, kinds := [], alts := [], laidByText := true, laidKinds := [.data, .data, .data, .sentinel, .sentinel], laidTests := true, laidLooks := .later }
def FracParsesCardSaid : Prop := Claim7.holds Tryd.pinned (.plain (OpenSpec.ofChange fracParsesSpec)) fracParsesCard

/-- THE SECOND FORM's CARD OF 'petrinetlaw02.FracParses'. -/
def fracParsesUptoCard : Claim7 := { stood := { row := fracParsesUptoRow, standIns := [], harness := (true, "a5e757b9ded5d5398c77fbd1e25be46c03e57e491c74df40c85e737fb902ae21"), looks := true }, kinds := [], alts := [], laidByText := true, laidKinds := [.data, .data, .data, .sentinel, .sentinel], laidTests := true, laidLooks := .later }
def FracParsesUptoCardSaid : Prop := Claim7.holds Tryd.pinned (.plain (OpenSpec.upto fracParsesSpec)) fracParsesUptoCard
end Rows
end Go.Proofs.YtdkfnhcegafliaaDoor
