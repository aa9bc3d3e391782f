/-
  DERIVED. GIVEN WITH THE SEED: THE CARDS: each row of YtcnliampiibpbaaDoorRows.lean that lists a variable, with what it lists TIED to the program's text (the seventh form; the later family's looks); each row that meets fmt, with fmt's text TOLD by the authors' own Lean function (tested against real Go, not proved from fmt's source: count such statements apart). THE CARD IS WHAT COUNTS. Prove the row's statement (the work); the ties are given (YtcnliampiibpbaaDoorTie.lean); close each card by the builder's one call (the guide's Derived/Test/ToyasCard.lean, 'card_holds'). Laid BY PROGRAM, IN A SANDBOX (cutbox-door.mjs). By AI agents, Wed Nov 11 2026. No macro, syntax, notation, axiom, sorry.
-/
import Derived.Test.YtcnliampiibpbaaDoorRows
import GoSem.ClaimSeven
namespace Go.Proofs.YtcnliampiibpbaaDoor
namespace Rows

/-- THE TIED CARD OF 'petrinetlaw45.SystemTexts'. -/
def systemTextsCard : Claim7 := { stood := { row := systemTextsRow, standIns := [], harness := (true, "c3b7c0a5a823aef72772d6f94c629e7bb7b7a1ccd593cc0ffa9814b8e66768e7"), looks := true }, kinds := [], alts := [], laidByText := true, laidKinds := [.data, .data, .data, .sentinel, .sentinel], laidTests := true, laidLooks := .later }
def SystemTextsCardSaid : Prop := Claim7.holds Tryd.pinned (.plain (OpenSpec.ofChange systemTextsSpec)) systemTextsCard

/-- THE TIED CARD OF 'petrinetlaw45.SystemBack'. -/
def systemBackCard : Claim7 := { stood := { row := systemBackRow, standIns := [], harness := (true, "c3b7c0a5a823aef72772d6f94c629e7bb7b7a1ccd593cc0ffa9814b8e66768e7"), looks := true }, kinds := [], alts := [], laidByText := true, laidKinds := [.data, .data, .data, .sentinel, .sentinel], laidTests := true, laidLooks := .later }
def SystemBackCardSaid : Prop := Claim7.holds Tryd.pinned (.plain (OpenSpec.ofChange systemBackSpec)) systemBackCard

/-- THE SECOND FORM's CARD OF 'petrinetlaw45.SystemTexts'. -/
def systemTextsUptoCard : Claim7 := { stood := { row := systemTextsUptoRow, standIns := [], harness := (true, "c3b7c0a5a823aef72772d6f94c629e7bb7b7a1ccd593cc0ffa9814b8e66768e7"), looks := true }, kinds := [], alts := [], laidByText := true, laidKinds := [.data, .data, .data, .sentinel, .sentinel], laidTests := true, laidLooks := .later }
def SystemTextsUptoCardSaid : Prop := Claim7.holds Tryd.pinned (.plain (OpenSpec.upto systemTextsSpec)) systemTextsUptoCard

/-- THE SECOND FORM's CARD OF 'petrinetlaw45.SystemBack'. -/
def systemBackUptoCard : Claim7 := { stood := { row := systemBackUptoRow, standIns := [], harness := (true, "c3b7c0a5a823aef72772d6f94c629e7bb7b7a1ccd593cc0ffa9814b8e66768e7"), looks := true }, kinds := [], alts := [], laidByText := true, laidKinds := [.data, .data, .data, .sentinel, .sentinel], laidTests := true, laidLooks := .later }
def SystemBackUptoCardSaid : Prop := Claim7.holds Tryd.pinned (.plain (OpenSpec.upto systemBackSpec)) systemBackUptoCard
end Rows
end Go.Proofs.YtcnliampiibpbaaDoor
