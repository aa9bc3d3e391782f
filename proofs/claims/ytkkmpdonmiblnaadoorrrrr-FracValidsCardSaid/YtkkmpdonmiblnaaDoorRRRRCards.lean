/-
  DERIVED. GIVEN WITH THE SEED: THE CARDS: each row of YtkkmpdonmiblnaaDoorRRRRRows.lean that lists a variable, with what it lists TIED to the program's text (the seventh form; the later family's looks); each row that meets fmt, with fmt's text TOLD by the authors' own Lean function (tested against real Go, not proved from fmt's source: count such statements apart). THE CARD IS WHAT COUNTS. Prove the row's statement (the work); the ties are given (YtkkmpdonmiblnaaDoorRRRRTie.lean); close each card by the builder's one call (the guide's Derived/Test/ToyasCard.lean, 'card_holds'). Laid BY PROGRAM, IN A SANDBOX (cutbox-door.mjs). By AI agents, Wed Nov 11 2026. No macro, syntax, notation, axiom, sorry.
-/
import Derived.Test.YtkkmpdonmiblnaaDoorRRRRRows
import GoSem.ClaimSeven
namespace Go.Proofs.YtkkmpdonmiblnaaDoorRRRR
namespace Rows

/-- THE TIED CARD OF 'petrinetlaw02.FracMakes'. -/
def fracMakesCard : Claim7 := { stood := { row := fracMakesRow, standIns := [], harness := (true, "55fdf2a657873fde4aa3c4aa1ae066d1551e6869d211f7bd162300d39635cf83"), looks := false }, kinds := [], alts := [], laidByText := true, laidKinds := [.data, .data, .data], laidTests := true, laidLooks := .later }
def FracMakesCardSaid : Prop := Claim7.holds Tryd.pinned (.plain (OpenSpec.ofChange fracMakesSpec)) fracMakesCard

/-- THE TIED CARD OF 'petrinetlaw02.FracValids'. -/
def fracValidsCard : Claim7 := { stood := { row := fracValidsRow, standIns := [], harness := (true, "55fdf2a657873fde4aa3c4aa1ae066d1551e6869d211f7bd162300d39635cf83"), looks := false }, kinds := [], alts := [], laidByText := true, laidKinds := [.data, .data, .data], laidTests := true, laidLooks := .later }
def FracValidsCardSaid : Prop := Claim7.holds Tryd.pinned (.plain (OpenSpec.ofChange fracValidsSpec)) fracValidsCard

/-- THE TIED CARD OF 'petrinetlaw02.FracOrders'. -/
def fracOrdersCard : Claim7 := { stood := { row := fracOrdersRow, standIns := [], harness := (true, "55fdf2a657873fde4aa3c4aa1ae066d1551e6869d211f7bd162300d39635cf83"), looks := false }, kinds := [], alts := [], laidByText := true, laidKinds := [.data, .data, .data], laidTests := true, laidLooks := .later }
def FracOrdersCardSaid : Prop := Claim7.holds Tryd.pinned (.plain (OpenSpec.ofChange fracOrdersSpec)) fracOrdersCard

/-- THE SECOND FORM's CARD OF 'petrinetlaw02.FracMakes'. -/
def fracMakesUptoCard : Claim7 := { stood := { row := fracMakesUptoRow, standIns := [], harness := (true, "55fdf2a657873fde4aa3c4aa1ae066d1551e6869d211f7bd162300d39635cf83"), looks := false }, kinds := [], alts := [], laidByText := true, laidKinds := [.data, .data, .data], laidTests := true, laidLooks := .later }
def FracMakesUptoCardSaid : Prop := Claim7.holds Tryd.pinned (.plain (OpenSpec.upto fracMakesSpec)) fracMakesUptoCard

/-- THE SECOND FORM's CARD OF 'petrinetlaw02.FracValids'. -/
def fracValidsUptoCard : Claim7 := { stood := { row := fracValidsUptoRow, standIns := [], harness := (true, "55fdf2a657873fde4aa3c4aa1ae066d1551e6869d211f7bd162300d39635cf83"), looks := false }, kinds := [], alts := [], laidByText := true, laidKinds := [.data, .data, .data], laidTests := true, laidLooks := .later }
def FracValidsUptoCardSaid : Prop := Claim7.holds Tryd.pinned (.plain (OpenSpec.upto fracValidsSpec)) fracValidsUptoCard

/-- THE SECOND FORM's CARD OF 'petrinetlaw02.FracOrders'. -/
def fracOrdersUptoCard : Claim7 := { stood := { row := fracOrdersUptoRow, standIns := [], harness := (true, "55fdf2a657873fde4aa3c4aa1ae066d1551e6869d211f7bd162300d39635cf83"), looks := false }, kinds := [], alts := [], laidByText := true, laidKinds := [.data, .data, .data], laidTests := true, laidLooks := .later }
def FracOrdersUptoCardSaid : Prop := Claim7.holds Tryd.pinned (.plain (OpenSpec.upto fracOrdersSpec)) fracOrdersUptoCard
end Rows
end Go.Proofs.YtkkmpdonmiblnaaDoorRRRR
