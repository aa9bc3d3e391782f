/-
  No cell of these rows narrows 'for every input' (looked for: loops, veiled, ifaces, maps, wideKeys, modest, calm, conditions, laid).
  DERIVED. THE GIVEN ROWS OF THIS SEAT. 5 by the template 'for every input the law returns true; each argument reads behind the call as it read before'; 0 by the template 'total and deterministic' (their statements: YtcnliampiibpbaaTotals.lean).
  GIVEN WITH THE SEED: the statements are not yours to turn. If you find one false, say at which input.
  Laid BY PROGRAM, IN A SANDBOX (cutbox-rows.mjs): the forced cells as the released guide's own fill.sh prints them over the translation c1bb9e4d0c2a1180… (all of the seat's roots in one cut). By AI agents, Wed Nov 11 2026. No macro, syntax, notation, axiom, sorry.
-/
import Derived.Test.YtcnliampiibpbaaChecked
import GoSem.Claim
import GoSem.ClaimJoined
import GoSem.ClaimMapViews
import Derived.JoinedTies
import Derived.KernelRfl
namespace Go.Proofs.Ytcnliampiibpbaa
/- THE CELL 'sum', in the pinned program and in every row, IS THE sha256 OF THE DUMP (.gsa) THAT YtcnliampiibpbaaProg.lean LOADS. Nothing in Lean hashes anything: it is a label: what it is worth is what the hold of that sum in a sandbox is worth. -/
noncomputable def Try.pinned : Pinned := { name := "ytcnliampiibpbaa", sum := "c1bb9e4d0c2a118065c9ac84f06a56297a4f95a0b3c12e3847c9ba4085b0387d", checked := Try.checked }
namespace Rows
def none {H : Type} : Left H := { results := [], args := [] }

/-- 'petrinetlaw45.SystemChecks': WHATEVER THE INPUT: true; the input reads as it did. -/
def systemChecksSpec : ChangeSpec := { name := "systemChecks", fn := fun _ => fun
  | [d] => { results := [.lit (.bool true)], args := [d] }
  | _ => none }
def systemChecksRow : OpenClaim := { program := "ytcnliampiibpbaa", sum := "c1bb9e4d0c2a118065c9ac84f06a56297a4f95a0b3c12e3847c9ba4085b0387d", func := "petrinet/petrinetlaw45.SystemChecks", spec := "systemChecks", unfollowed := true, recurses := true, apart := false }
def SystemChecksSaid : Prop := systemChecksRow.holds Try.pinned (OpenSpec.ofChange systemChecksSpec)

/-- ITS FALSE NEIGHBOUR: 'it returns false'. Refute it at one input. -/
def systemChecksWrong : ChangeSpec := { name := "systemChecks", fn := fun _ => fun
  | [d] => { results := [.lit (.bool false)], args := [d] }
  | _ => none }
def SystemChecksWrongFalsely : Prop := systemChecksRow.holds Try.pinned (OpenSpec.ofChange systemChecksWrong)

/-- 'petrinetlaw45.SystemNexts': WHATEVER THE INPUT: true; the input reads as it did. -/
def systemNextsSpec : ChangeSpec := { name := "systemNexts", fn := fun _ => fun
  | [d1, d2, d3] => { results := [.lit (.bool true)], args := [d1, d2, d3] }
  | _ => none }
def systemNextsRow : OpenClaim := { program := "ytcnliampiibpbaa", sum := "c1bb9e4d0c2a118065c9ac84f06a56297a4f95a0b3c12e3847c9ba4085b0387d", func := "petrinet/petrinetlaw45.SystemNexts", spec := "systemNexts", unfollowed := true, recurses := true, apart := false }
def SystemNextsSaid : Prop := systemNextsRow.holds Try.pinned (OpenSpec.ofChange systemNextsSpec)

/-- ITS FALSE NEIGHBOUR: 'it returns false'. Refute it at one input. -/
def systemNextsWrong : ChangeSpec := { name := "systemNexts", fn := fun _ => fun
  | [d1, d2, d3] => { results := [.lit (.bool false)], args := [d1, d2, d3] }
  | _ => none }
def SystemNextsWrongFalsely : Prop := systemNextsRow.holds Try.pinned (OpenSpec.ofChange systemNextsWrong)

/-- 'petrinetlaw45.SystemIso': WHATEVER THE INPUT: true; the input reads as it did. -/
def systemIsoSpec : ChangeSpec := { name := "systemIso", fn := fun _ => fun
  | [d1, d2] => { results := [.lit (.bool true)], args := [d1, d2] }
  | _ => none }
def systemIsoRow : OpenClaim := { program := "ytcnliampiibpbaa", sum := "c1bb9e4d0c2a118065c9ac84f06a56297a4f95a0b3c12e3847c9ba4085b0387d", func := "petrinet/petrinetlaw45.SystemIso", spec := "systemIso", unfollowed := true, recurses := true, apart := false }
def SystemIsoSaid : Prop := systemIsoRow.holds Try.pinned (OpenSpec.ofChange systemIsoSpec)

/-- ITS FALSE NEIGHBOUR: 'it returns false'. Refute it at one input. -/
def systemIsoWrong : ChangeSpec := { name := "systemIso", fn := fun _ => fun
  | [d1, d2] => { results := [.lit (.bool false)], args := [d1, d2] }
  | _ => none }
def SystemIsoWrongFalsely : Prop := systemIsoRow.holds Try.pinned (OpenSpec.ofChange systemIsoWrong)

/-- 'petrinetlaw45.SystemTraces': WHATEVER THE INPUT: true; the input reads as it did. -/
def systemTracesSpec : ChangeSpec := { name := "systemTraces", fn := fun _ => fun
  | [d1, d2] => { results := [.lit (.bool true)], args := [d1, d2] }
  | _ => none }
def systemTracesRow : OpenClaim := { program := "ytcnliampiibpbaa", sum := "c1bb9e4d0c2a118065c9ac84f06a56297a4f95a0b3c12e3847c9ba4085b0387d", func := "petrinet/petrinetlaw45.SystemTraces", spec := "systemTraces", unfollowed := true, recurses := true, apart := false }
def SystemTracesSaid : Prop := systemTracesRow.holds Try.pinned (OpenSpec.ofChange systemTracesSpec)

/-- ITS FALSE NEIGHBOUR: 'it returns false'. Refute it at one input. -/
def systemTracesWrong : ChangeSpec := { name := "systemTraces", fn := fun _ => fun
  | [d1, d2] => { results := [.lit (.bool false)], args := [d1, d2] }
  | _ => none }
def SystemTracesWrongFalsely : Prop := systemTracesRow.holds Try.pinned (OpenSpec.ofChange systemTracesWrong)

/-- 'petrinetlaw45.SystemImages': WHATEVER THE INPUT: true; the input reads as it did. -/
def systemImagesSpec : ChangeSpec := { name := "systemImages", fn := fun _ => fun
  | [d1, d2] => { results := [.lit (.bool true)], args := [d1, d2] }
  | _ => none }
def systemImagesRow : OpenClaim := { program := "ytcnliampiibpbaa", sum := "c1bb9e4d0c2a118065c9ac84f06a56297a4f95a0b3c12e3847c9ba4085b0387d", func := "petrinet/petrinetlaw45.SystemImages", spec := "systemImages", unfollowed := true, recurses := true, apart := false }
def SystemImagesSaid : Prop := systemImagesRow.holds Try.pinned (OpenSpec.ofChange systemImagesSpec)

/-- ITS FALSE NEIGHBOUR: 'it returns false'. Refute it at one input. -/
def systemImagesWrong : ChangeSpec := { name := "systemImages", fn := fun _ => fun
  | [d1, d2] => { results := [.lit (.bool false)], args := [d1, d2] }
  | _ => none }
def SystemImagesWrongFalsely : Prop := systemImagesRow.holds Try.pinned (OpenSpec.ofChange systemImagesWrong)

/- THE SECOND FORM. 'bulk': how many values and letters a reading holds, each counted each time it is reached (what is shared counts as often as it is met; a slice's spare places count too). A statement '..UptoSaid' is the law's where the arguments, and the package variables that the reading takes, are together of bulk at most 1048576: NARROWER than '..Said'. Prove '..Said' where nothing that the law and all that it calls make is longer than what came in: it says more and counts as full. Else prove '..UptoSaid'. A law counts once. -/
mutual
def uptoBulk {H : Type} : DataW H → Nat
  | .lit (.string bytes) => bytes.length + 1
  | .lit _ => 1
  | .nil => 1
  | .ptr d => uptoBulk d + 1
  | .slice elems spare => uptoBulkAll elems + uptoBulkAll spare + 1
  | .agg parts => uptoBulkAll parts + 1
  | .iface _ d => uptoBulk d + 1
  | .map entries => uptoBulkEntries entries + 1
  | .held _ => 1
def uptoBulkAll {H : Type} : List (DataW H) → Nat
  | [] => 0
  | d :: r => uptoBulk d + uptoBulkAll r
def uptoBulkEntries {H : Type} : List (Lit × DataW H) → Nat
  | [] => 0
  | x :: r => uptoBulkEntry x + uptoBulkEntries r
def uptoBulkEntry {H : Type} : Lit × DataW H → Nat
  | (.string bytes, d) => bytes.length + uptoBulk d + 1
  | (_, d) => uptoBulk d + 1
 end
def uptoSmall : (H : Type) → List (DataW H) → Bool := fun _ ds => decide (uptoBulkAll ds ≤ 1048576)
def OpenSpec.upto (s : _root_.Go.ChangeSpec) : _root_.Go.OpenSpec := { _root_.Go.OpenSpec.ofChange s with cond := some uptoSmall }

/-- 'petrinetlaw45.SystemChecks', WHERE WHAT IT READS IS OF BULK AT MOST 1048576: true; the input reads as it did. -/
def systemChecksUptoRow : OpenClaim := { program := "ytcnliampiibpbaa", sum := "c1bb9e4d0c2a118065c9ac84f06a56297a4f95a0b3c12e3847c9ba4085b0387d", func := "petrinet/petrinetlaw45.SystemChecks", spec := "systemChecks", unfollowed := true, recurses := true, apart := false, narrowed := true }
def SystemChecksUptoSaid : Prop := systemChecksUptoRow.holds Try.pinned (OpenSpec.upto systemChecksSpec)

/-- 'petrinetlaw45.SystemNexts', WHERE WHAT IT READS IS OF BULK AT MOST 1048576: true; the input reads as it did. -/
def systemNextsUptoRow : OpenClaim := { program := "ytcnliampiibpbaa", sum := "c1bb9e4d0c2a118065c9ac84f06a56297a4f95a0b3c12e3847c9ba4085b0387d", func := "petrinet/petrinetlaw45.SystemNexts", spec := "systemNexts", unfollowed := true, recurses := true, apart := false, narrowed := true }
def SystemNextsUptoSaid : Prop := systemNextsUptoRow.holds Try.pinned (OpenSpec.upto systemNextsSpec)

/-- 'petrinetlaw45.SystemIso', WHERE WHAT IT READS IS OF BULK AT MOST 1048576: true; the input reads as it did. -/
def systemIsoUptoRow : OpenClaim := { program := "ytcnliampiibpbaa", sum := "c1bb9e4d0c2a118065c9ac84f06a56297a4f95a0b3c12e3847c9ba4085b0387d", func := "petrinet/petrinetlaw45.SystemIso", spec := "systemIso", unfollowed := true, recurses := true, apart := false, narrowed := true }
def SystemIsoUptoSaid : Prop := systemIsoUptoRow.holds Try.pinned (OpenSpec.upto systemIsoSpec)

/-- 'petrinetlaw45.SystemTraces', WHERE WHAT IT READS IS OF BULK AT MOST 1048576: true; the input reads as it did. -/
def systemTracesUptoRow : OpenClaim := { program := "ytcnliampiibpbaa", sum := "c1bb9e4d0c2a118065c9ac84f06a56297a4f95a0b3c12e3847c9ba4085b0387d", func := "petrinet/petrinetlaw45.SystemTraces", spec := "systemTraces", unfollowed := true, recurses := true, apart := false, narrowed := true }
def SystemTracesUptoSaid : Prop := systemTracesUptoRow.holds Try.pinned (OpenSpec.upto systemTracesSpec)

/-- 'petrinetlaw45.SystemImages', WHERE WHAT IT READS IS OF BULK AT MOST 1048576: true; the input reads as it did. -/
def systemImagesUptoRow : OpenClaim := { program := "ytcnliampiibpbaa", sum := "c1bb9e4d0c2a118065c9ac84f06a56297a4f95a0b3c12e3847c9ba4085b0387d", func := "petrinet/petrinetlaw45.SystemImages", spec := "systemImages", unfollowed := true, recurses := true, apart := false, narrowed := true }
def SystemImagesUptoSaid : Prop := systemImagesUptoRow.holds Try.pinned (OpenSpec.upto systemImagesSpec)

end Rows
end Go.Proofs.Ytcnliampiibpbaa
