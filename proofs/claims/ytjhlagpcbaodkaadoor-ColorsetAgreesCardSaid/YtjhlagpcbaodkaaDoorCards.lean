/-
  DERIVED. GIVEN WITH THE SEED: THE CARDS: each row of YtjhlagpcbaodkaaDoorRows.lean that lists a variable, with what it lists TIED to the program's text (the seventh form; the later family's looks); each row that meets fmt, with fmt's text TOLD by the authors' own Lean function (tested against real Go, not proved from fmt's source: count such statements apart). THE CARD IS WHAT COUNTS. Prove the row's statement (the work); the ties are given (YtjhlagpcbaodkaaDoorTie.lean); close each card by the builder's one call (the guide's Derived/Test/ToyasCard.lean, 'card_holds'). Laid BY PROGRAM, IN A SANDBOX (cutbox-door.mjs). By AI agents, Wed Nov 11 2026. No macro, syntax, notation, axiom, sorry.
-/
import Derived.Test.YtjhlagpcbaodkaaDoorRows
import GoSem.ClaimSeven
namespace Go.Proofs.YtjhlagpcbaodkaaDoor
namespace Rows

/-- THE TIED CARD OF 'petrinetlaw39.ColorsetNames'. -/
def colorsetNamesCard : Claim7 := { stood := { row := colorsetNamesRow, standIns := [], harness := (true, "829fd95c0fa37adca1e70caf579568ab71bba6423daabfe5f826dfea03174b56"), looks := true }, kinds := [], alts := [], laidByText := true, laidKinds := [.data, .data, .data], laidTests := true, laidLooks := .later }
def ColorsetNamesCardSaid : Prop := Claim7.holds Tryd.pinned (.plain (OpenSpec.ofChange colorsetNamesSpec)) colorsetNamesCard

/-- THE TIED CARD OF 'petrinetlaw39.ColorsetChecks'. -/
def colorsetChecksCard : Claim7 := { stood := { row := colorsetChecksRow, standIns := [], harness := (true, "829fd95c0fa37adca1e70caf579568ab71bba6423daabfe5f826dfea03174b56"), looks := true }, kinds := [], alts := [], laidByText := true, laidKinds := [.data, .data, .data], laidTests := true, laidLooks := .later }
def ColorsetChecksCardSaid : Prop := Claim7.holds Tryd.pinned (.plain (OpenSpec.ofChange colorsetChecksSpec)) colorsetChecksCard

/-- THE TIED CARD OF 'petrinetlaw39.ColorsetFinds'. -/
def colorsetFindsCard : Claim7 := { stood := { row := colorsetFindsRow, standIns := [], harness := (true, "829fd95c0fa37adca1e70caf579568ab71bba6423daabfe5f826dfea03174b56"), looks := true }, kinds := [], alts := [], laidByText := true, laidKinds := [.data, .data, .data], laidTests := true, laidLooks := .later }
def ColorsetFindsCardSaid : Prop := Claim7.holds Tryd.pinned (.plain (OpenSpec.ofChange colorsetFindsSpec)) colorsetFindsCard

/-- THE TIED CARD OF 'petrinetlaw39.ColorsetAgrees'. -/
def colorsetAgreesCard : Claim7 := { stood := { row := colorsetAgreesRow, standIns := [], harness := (true, "829fd95c0fa37adca1e70caf579568ab71bba6423daabfe5f826dfea03174b56"), looks := true }, kinds := [], alts := [], laidByText := true, laidKinds := [.data, .data, .data], laidTests := true, laidLooks := .later }
def ColorsetAgreesCardSaid : Prop := Claim7.holds Tryd.pinned (.plain (OpenSpec.ofChange colorsetAgreesSpec)) colorsetAgreesCard

/-- THE TIED CARD OF 'petrinetlaw39.ColorsetSums'. -/
def colorsetSumsCard : Claim7 := { stood := { row := colorsetSumsRow, standIns := [], harness := (true, "829fd95c0fa37adca1e70caf579568ab71bba6423daabfe5f826dfea03174b56"), looks := true }, kinds := [], alts := [], laidByText := true, laidKinds := [.data, .data, .data], laidTests := true, laidLooks := .later }
def ColorsetSumsCardSaid : Prop := Claim7.holds Tryd.pinned (.plain (OpenSpec.ofChange colorsetSumsSpec)) colorsetSumsCard

/-- THE TIED CARD OF 'petrinetlaw39.ColorsetTexts'. -/
def colorsetTextsCard : Claim7 := { stood := { row := colorsetTextsRow, standIns := [], harness := (true, "829fd95c0fa37adca1e70caf579568ab71bba6423daabfe5f826dfea03174b56"), looks := true }, kinds := [], alts := [], laidByText := true, laidKinds := [.data, .data, .data, .sentinel, .sentinel], laidTests := true, laidLooks := .later }
def ColorsetTextsCardSaid : Prop := Claim7.holds Tryd.pinned (.plain (OpenSpec.ofChange colorsetTextsSpec)) colorsetTextsCard

/-- THE TIED CARD OF 'petrinetlaw39.ColorsetParses'. -/
def colorsetParsesCard : Claim7 := { stood := { row := colorsetParsesRow, standIns := [], harness := (true, "829fd95c0fa37adca1e70caf579568ab71bba6423daabfe5f826dfea03174b56"), looks := true }, kinds := [], alts := [], laidByText := true, laidKinds := [.data, .data, .data, .sentinel, .sentinel], laidTests := true, laidLooks := .later }
def ColorsetParsesCardSaid : Prop := Claim7.holds Tryd.pinned (.plain (OpenSpec.ofChange colorsetParsesSpec)) colorsetParsesCard

/-- THE SECOND FORM's CARD OF 'petrinetlaw39.ColorsetNames'. -/
def colorsetNamesUptoCard : Claim7 := { stood := { row := colorsetNamesUptoRow, standIns := [], harness := (true, "829fd95c0fa37adca1e70caf579568ab71bba6423daabfe5f826dfea03174b56"), looks := true }, kinds := [], alts := [], laidByText := true, laidKinds := [.data, .data, .data], laidTests := true, laidLooks := .later }
def ColorsetNamesUptoCardSaid : Prop := Claim7.holds Tryd.pinned (.plain (OpenSpec.upto colorsetNamesSpec)) colorsetNamesUptoCard

/-- THE SECOND FORM's CARD OF 'petrinetlaw39.ColorsetChecks'. -/
def colorsetChecksUptoCard : Claim7 := { stood := { row := colorsetChecksUptoRow, standIns := [], harness := (true, "829fd95c0fa37adca1e70caf579568ab71bba6423daabfe5f826dfea03174b56"), looks := true }, kinds := [], alts := [], laidByText := true, laidKinds := [.data, .data, .data], laidTests := true, laidLooks := .later }
def ColorsetChecksUptoCardSaid : Prop := Claim7.holds Tryd.pinned (.plain (OpenSpec.upto colorsetChecksSpec)) colorsetChecksUptoCard

/-- THE SECOND FORM's CARD OF 'petrinetlaw39.ColorsetFinds'. -/
def colorsetFindsUptoCard : Claim7 := { stood := { row := colorsetFindsUptoRow, standIns := [], harness := (true, "829fd95c0fa37adca1e70caf579568ab71bba6423daabfe5f826dfea03174b56"), looks := true }, kinds := [], alts := [], laidByText := true, laidKinds := [.data, .data, .data], laidTests := true, laidLooks := .later }
def ColorsetFindsUptoCardSaid : Prop := Claim7.holds Tryd.pinned (.plain (OpenSpec.upto colorsetFindsSpec)) colorsetFindsUptoCard

/-- THE SECOND FORM's CARD OF 'petrinetlaw39.ColorsetAgrees'. -/
def colorsetAgreesUptoCard : Claim7 := { stood := { row := colorsetAgreesUptoRow, standIns := [], harness := (true, "829fd95c0fa37adca1e70caf579568ab71bba6423daabfe5f826dfea03174b56"), looks := true }, kinds := [], alts := [], laidByText := true, laidKinds := [.data, .data, .data], laidTests := true, laidLooks := .later }
def ColorsetAgreesUptoCardSaid : Prop := Claim7.holds Tryd.pinned (.plain (OpenSpec.upto colorsetAgreesSpec)) colorsetAgreesUptoCard

/-- THE SECOND FORM's CARD OF 'petrinetlaw39.ColorsetSums'. -/
def colorsetSumsUptoCard : Claim7 := { stood := { row := colorsetSumsUptoRow, standIns := [], harness := (true, "829fd95c0fa37adca1e70caf579568ab71bba6423daabfe5f826dfea03174b56"), looks := true }, kinds := [], alts := [], laidByText := true, laidKinds := [.data, .data, .data], laidTests := true, laidLooks := .later }
def ColorsetSumsUptoCardSaid : Prop := Claim7.holds Tryd.pinned (.plain (OpenSpec.upto colorsetSumsSpec)) colorsetSumsUptoCard

/-- THE SECOND FORM's CARD OF 'petrinetlaw39.ColorsetTexts'. -/
def colorsetTextsUptoCard : Claim7 := { stood := { row := colorsetTextsUptoRow, standIns := [], harness := (true, "829fd95c0fa37adca1e70caf579568ab71bba6423daabfe5f826dfea03174b56"), looks := true }, kinds := [], alts := [], laidByText := true, laidKinds := [.data, .data, .data, .sentinel, .sentinel], laidTests := true, laidLooks := .later }
def ColorsetTextsUptoCardSaid : Prop := Claim7.holds Tryd.pinned (.plain (OpenSpec.upto colorsetTextsSpec)) colorsetTextsUptoCard

/-- THE SECOND FORM's CARD OF 'petrinetlaw39.ColorsetParses'. -/
def colorsetParsesUptoCard : Claim7 := { stood := { row := colorsetParsesUptoRow, standIns := [], harness := (true, "829fd95c0fa37adca1e70caf579568ab71bba6423daabfe5f826dfea03174b56"), looks := true }, kinds := [], alts := [], laidByText := true, laidKinds := [.data, .data, .data, .sentinel, .sentinel], laidTests := true, laidLooks := .later }
def ColorsetParsesUptoCardSaid : Prop := Claim7.holds Tryd.pinned (.plain (OpenSpec.upto colorsetParsesSpec)) colorsetParsesUptoCard
end Rows
end Go.Proofs.YtjhlagpcbaodkaaDoor
