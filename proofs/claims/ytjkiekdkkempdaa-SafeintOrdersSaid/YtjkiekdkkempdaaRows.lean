/-
  No cell of these rows narrows 'for every input' (looked for: loops, veiled, ifaces, maps, wideKeys, modest, calm, conditions, laid).
  DERIVED. THE GIVEN ROWS OF THIS SEAT. 7 by the template 'for every input the law returns true; each argument reads behind the call as it read before'; 0 by the template 'total and deterministic' (their statements: YtjkiekdkkempdaaTotals.lean).
  GIVEN WITH THE SEED: the statements are not yours to turn. If you find one false, say at which input.
  Laid BY PROGRAM, IN A SANDBOX (cutbox-rows.mjs): the forced cells as the released guide's own fill.sh prints them over the translation 1c9f8a3b60e395bf… (all of the seat's roots in one cut). By AI agents, Wed Nov 11 2026. No macro, syntax, notation, axiom, sorry.
-/
import Derived.Test.YtjkiekdkkempdaaChecked
import GoSem.Claim
import GoSem.ClaimJoined
import GoSem.ClaimMapViews
import Derived.JoinedTies
import Derived.KernelRfl
namespace Go.Proofs.Ytjkiekdkkempdaa
/- THE CELL 'sum', in the pinned program and in every row, IS THE sha256 OF THE DUMP (.gsa) THAT YtjkiekdkkempdaaProg.lean LOADS. Nothing in Lean hashes anything: it is a label: what it is worth is what the hold of that sum in a sandbox is worth. -/
noncomputable def Try.pinned : Pinned := { name := "ytjkiekdkkempdaa", sum := "1c9f8a3b60e395bf77c8b16c8c1ef1702a6811ebabc8567ccb178b8b61a13ca4", checked := Try.checked }
namespace Rows
def none {H : Type} : Left H := { results := [], args := [] }

/-- 'petrinetlaw01.SafeintCommon': WHATEVER THE INPUT: true; the input reads as it did. -/
def safeintCommonSpec : ChangeSpec := { name := "safeintCommon", fn := fun _ => fun
  | [d1, d2] => { results := [.lit (.bool true)], args := [d1, d2] }
  | _ => none }
def safeintCommonRow : OpenClaim := { program := "ytjkiekdkkempdaa", sum := "1c9f8a3b60e395bf77c8b16c8c1ef1702a6811ebabc8567ccb178b8b61a13ca4", func := "petrinet/petrinetlaw01.SafeintCommon", spec := "safeintCommon", apart := false }
def SafeintCommonSaid : Prop := safeintCommonRow.holds Try.pinned (OpenSpec.ofChange safeintCommonSpec)

/-- ITS FALSE NEIGHBOUR: 'it returns false'. Refute it at one input. -/
def safeintCommonWrong : ChangeSpec := { name := "safeintCommon", fn := fun _ => fun
  | [d1, d2] => { results := [.lit (.bool false)], args := [d1, d2] }
  | _ => none }
def SafeintCommonWrongFalsely : Prop := safeintCommonRow.holds Try.pinned (OpenSpec.ofChange safeintCommonWrong)

/-- 'petrinetlaw01.SafeintCrosses': WHATEVER THE INPUT: true; the input reads as it did. -/
def safeintCrossesSpec : ChangeSpec := { name := "safeintCrosses", fn := fun _ => fun
  | [d] => { results := [.lit (.bool true)], args := [d] }
  | _ => none }
def safeintCrossesRow : OpenClaim := { program := "ytjkiekdkkempdaa", sum := "1c9f8a3b60e395bf77c8b16c8c1ef1702a6811ebabc8567ccb178b8b61a13ca4", func := "petrinet/petrinetlaw01.SafeintCrosses", spec := "safeintCrosses", apart := false }
def SafeintCrossesSaid : Prop := safeintCrossesRow.holds Try.pinned (OpenSpec.ofChange safeintCrossesSpec)

/-- ITS FALSE NEIGHBOUR: 'it returns false'. Refute it at one input. -/
def safeintCrossesWrong : ChangeSpec := { name := "safeintCrosses", fn := fun _ => fun
  | [d] => { results := [.lit (.bool false)], args := [d] }
  | _ => none }
def SafeintCrossesWrongFalsely : Prop := safeintCrossesRow.holds Try.pinned (OpenSpec.ofChange safeintCrossesWrong)

/-- 'petrinetlaw01.SafeintOrders': WHATEVER THE INPUT: true; the input reads as it did. -/
def safeintOrdersSpec : ChangeSpec := { name := "safeintOrders", fn := fun _ => fun
  | [d] => { results := [.lit (.bool true)], args := [d] }
  | _ => none }
def safeintOrdersRow : OpenClaim := { program := "ytjkiekdkkempdaa", sum := "1c9f8a3b60e395bf77c8b16c8c1ef1702a6811ebabc8567ccb178b8b61a13ca4", func := "petrinet/petrinetlaw01.SafeintOrders", spec := "safeintOrders", apart := false }
def SafeintOrdersSaid : Prop := safeintOrdersRow.holds Try.pinned (OpenSpec.ofChange safeintOrdersSpec)

/-- ITS FALSE NEIGHBOUR: 'it returns false'. Refute it at one input. -/
def safeintOrdersWrong : ChangeSpec := { name := "safeintOrders", fn := fun _ => fun
  | [d] => { results := [.lit (.bool false)], args := [d] }
  | _ => none }
def SafeintOrdersWrongFalsely : Prop := safeintOrdersRow.holds Try.pinned (OpenSpec.ofChange safeintOrdersWrong)

/-- 'petrinetlaw01.SafeintFactors': WHATEVER THE INPUT: true; the input reads as it did. -/
def safeintFactorsSpec : ChangeSpec := { name := "safeintFactors", fn := fun _ => fun
  | [d1, d2] => { results := [.lit (.bool true)], args := [d1, d2] }
  | _ => none }
def safeintFactorsRow : OpenClaim := { program := "ytjkiekdkkempdaa", sum := "1c9f8a3b60e395bf77c8b16c8c1ef1702a6811ebabc8567ccb178b8b61a13ca4", func := "petrinet/petrinetlaw01.SafeintFactors", spec := "safeintFactors", apart := false }
def SafeintFactorsSaid : Prop := safeintFactorsRow.holds Try.pinned (OpenSpec.ofChange safeintFactorsSpec)

/-- ITS FALSE NEIGHBOUR: 'it returns false'. Refute it at one input. -/
def safeintFactorsWrong : ChangeSpec := { name := "safeintFactors", fn := fun _ => fun
  | [d1, d2] => { results := [.lit (.bool false)], args := [d1, d2] }
  | _ => none }
def SafeintFactorsWrongFalsely : Prop := safeintFactorsRow.holds Try.pinned (OpenSpec.ofChange safeintFactorsWrong)

/-- 'petrinetlaw01.SafeintDivides': WHATEVER THE INPUT: true; the input reads as it did. -/
def safeintDividesSpec : ChangeSpec := { name := "safeintDivides", fn := fun _ => fun
  | [d1, d2] => { results := [.lit (.bool true)], args := [d1, d2] }
  | _ => none }
def safeintDividesRow : OpenClaim := { program := "ytjkiekdkkempdaa", sum := "1c9f8a3b60e395bf77c8b16c8c1ef1702a6811ebabc8567ccb178b8b61a13ca4", func := "petrinet/petrinetlaw01.SafeintDivides", spec := "safeintDivides", apart := false }
def SafeintDividesSaid : Prop := safeintDividesRow.holds Try.pinned (OpenSpec.ofChange safeintDividesSpec)

/-- ITS FALSE NEIGHBOUR: 'it returns false'. Refute it at one input. -/
def safeintDividesWrong : ChangeSpec := { name := "safeintDivides", fn := fun _ => fun
  | [d1, d2] => { results := [.lit (.bool false)], args := [d1, d2] }
  | _ => none }
def SafeintDividesWrongFalsely : Prop := safeintDividesRow.holds Try.pinned (OpenSpec.ofChange safeintDividesWrong)

/-- 'petrinetlaw01.SafeintRemainders': WHATEVER THE INPUT: true; the input reads as it did. -/
def safeintRemaindersSpec : ChangeSpec := { name := "safeintRemainders", fn := fun _ => fun
  | [d1, d2] => { results := [.lit (.bool true)], args := [d1, d2] }
  | _ => none }
def safeintRemaindersRow : OpenClaim := { program := "ytjkiekdkkempdaa", sum := "1c9f8a3b60e395bf77c8b16c8c1ef1702a6811ebabc8567ccb178b8b61a13ca4", func := "petrinet/petrinetlaw01.SafeintRemainders", spec := "safeintRemainders", apart := false }
def SafeintRemaindersSaid : Prop := safeintRemaindersRow.holds Try.pinned (OpenSpec.ofChange safeintRemaindersSpec)

/-- ITS FALSE NEIGHBOUR: 'it returns false'. Refute it at one input. -/
def safeintRemaindersWrong : ChangeSpec := { name := "safeintRemainders", fn := fun _ => fun
  | [d1, d2] => { results := [.lit (.bool false)], args := [d1, d2] }
  | _ => none }
def SafeintRemaindersWrongFalsely : Prop := safeintRemaindersRow.holds Try.pinned (OpenSpec.ofChange safeintRemaindersWrong)

/-- 'petrinetlaw01.SafeintSums': WHATEVER THE INPUT: true; the input reads as it did. -/
def safeintSumsSpec : ChangeSpec := { name := "safeintSums", fn := fun _ => fun
  | [d1, d2] => { results := [.lit (.bool true)], args := [d1, d2] }
  | _ => none }
def safeintSumsRow : OpenClaim := { program := "ytjkiekdkkempdaa", sum := "1c9f8a3b60e395bf77c8b16c8c1ef1702a6811ebabc8567ccb178b8b61a13ca4", func := "petrinet/petrinetlaw01.SafeintSums", spec := "safeintSums", apart := false }
def SafeintSumsSaid : Prop := safeintSumsRow.holds Try.pinned (OpenSpec.ofChange safeintSumsSpec)

/-- ITS FALSE NEIGHBOUR: 'it returns false'. Refute it at one input. -/
def safeintSumsWrong : ChangeSpec := { name := "safeintSums", fn := fun _ => fun
  | [d1, d2] => { results := [.lit (.bool false)], args := [d1, d2] }
  | _ => none }
def SafeintSumsWrongFalsely : Prop := safeintSumsRow.holds Try.pinned (OpenSpec.ofChange safeintSumsWrong)

/- THE SECOND FORM. 'bulk': how many values and letters a reading holds, each counted each time it is reached (what is shared counts as often as it is met; a slice's spare places count too). A statement '..UptoSaid' is the law's where the arguments, and the package variables that the reading takes, are together of bulk at most 1048576: NARROWER than '..Said'. Prove '..Said' where nothing that the law and all that it calls make is longer than what came in: it says more and counts as full. Else prove '..UptoSaid'. A law counts once. -/
mutual
def uptoBulk {H : Type} : DataW H → Nat
  | .lit (.string bytes) => bytes.length + 1
  | .lit _ => 1
  | .nil => 1
  | .ptr d => uptoBulk d + 1
  | .slice elems spare => uptoBulkAll elems + uptoBulkAll spare + 1
  | .agg parts => uptoBulkAll parts + 1
  | .iface _ d => uptoBulk d + 1
  | .map entries => uptoBulkEntries entries + 1
  | .held _ => 1
def uptoBulkAll {H : Type} : List (DataW H) → Nat
  | [] => 0
  | d :: r => uptoBulk d + uptoBulkAll r
def uptoBulkEntries {H : Type} : List (Lit × DataW H) → Nat
  | [] => 0
  | x :: r => uptoBulkEntry x + uptoBulkEntries r
def uptoBulkEntry {H : Type} : Lit × DataW H → Nat
  | (.string bytes, d) => bytes.length + uptoBulk d + 1
  | (_, d) => uptoBulk d + 1
 end
def uptoSmall : (H : Type) → List (DataW H) → Bool := fun _ ds => decide (uptoBulkAll ds ≤ 1048576)
def OpenSpec.upto (s : _root_.Go.ChangeSpec) : _root_.Go.OpenSpec := { _root_.Go.OpenSpec.ofChange s with cond := some uptoSmall }

/-- 'petrinetlaw01.SafeintCommon', WHERE WHAT IT READS IS OF BULK AT MOST 1048576: true; the input reads as it did. -/
def safeintCommonUptoRow : OpenClaim := { program := "ytjkiekdkkempdaa", sum := "1c9f8a3b60e395bf77c8b16c8c1ef1702a6811ebabc8567ccb178b8b61a13ca4", func := "petrinet/petrinetlaw01.SafeintCommon", spec := "safeintCommon", apart := false, narrowed := true }
def SafeintCommonUptoSaid : Prop := safeintCommonUptoRow.holds Try.pinned (OpenSpec.upto safeintCommonSpec)

/-- 'petrinetlaw01.SafeintCrosses', WHERE WHAT IT READS IS OF BULK AT MOST 1048576: true; the input reads as it did. -/
def safeintCrossesUptoRow : OpenClaim := { program := "ytjkiekdkkempdaa", sum := "1c9f8a3b60e395bf77c8b16c8c1ef1702a6811ebabc8567ccb178b8b61a13ca4", func := "petrinet/petrinetlaw01.SafeintCrosses", spec := "safeintCrosses", apart := false, narrowed := true }
def SafeintCrossesUptoSaid : Prop := safeintCrossesUptoRow.holds Try.pinned (OpenSpec.upto safeintCrossesSpec)

/-- 'petrinetlaw01.SafeintOrders', WHERE WHAT IT READS IS OF BULK AT MOST 1048576: true; the input reads as it did. -/
def safeintOrdersUptoRow : OpenClaim := { program := "ytjkiekdkkempdaa", sum := "1c9f8a3b60e395bf77c8b16c8c1ef1702a6811ebabc8567ccb178b8b61a13ca4", func := "petrinet/petrinetlaw01.SafeintOrders", spec := "safeintOrders", apart := false, narrowed := true }
def SafeintOrdersUptoSaid : Prop := safeintOrdersUptoRow.holds Try.pinned (OpenSpec.upto safeintOrdersSpec)

/-- 'petrinetlaw01.SafeintFactors', WHERE WHAT IT READS IS OF BULK AT MOST 1048576: true; the input reads as it did. -/
def safeintFactorsUptoRow : OpenClaim := { program := "ytjkiekdkkempdaa", sum := "1c9f8a3b60e395bf77c8b16c8c1ef1702a6811ebabc8567ccb178b8b61a13ca4", func := "petrinet/petrinetlaw01.SafeintFactors", spec := "safeintFactors", apart := false, narrowed := true }
def SafeintFactorsUptoSaid : Prop := safeintFactorsUptoRow.holds Try.pinned (OpenSpec.upto safeintFactorsSpec)

/-- 'petrinetlaw01.SafeintDivides', WHERE WHAT IT READS IS OF BULK AT MOST 1048576: true; the input reads as it did. -/
def safeintDividesUptoRow : OpenClaim := { program := "ytjkiekdkkempdaa", sum := "1c9f8a3b60e395bf77c8b16c8c1ef1702a6811ebabc8567ccb178b8b61a13ca4", func := "petrinet/petrinetlaw01.SafeintDivides", spec := "safeintDivides", apart := false, narrowed := true }
def SafeintDividesUptoSaid : Prop := safeintDividesUptoRow.holds Try.pinned (OpenSpec.upto safeintDividesSpec)

/-- 'petrinetlaw01.SafeintRemainders', WHERE WHAT IT READS IS OF BULK AT MOST 1048576: true; the input reads as it did. -/
def safeintRemaindersUptoRow : OpenClaim := { program := "ytjkiekdkkempdaa", sum := "1c9f8a3b60e395bf77c8b16c8c1ef1702a6811ebabc8567ccb178b8b61a13ca4", func := "petrinet/petrinetlaw01.SafeintRemainders", spec := "safeintRemainders", apart := false, narrowed := true }
def SafeintRemaindersUptoSaid : Prop := safeintRemaindersUptoRow.holds Try.pinned (OpenSpec.upto safeintRemaindersSpec)

/-- 'petrinetlaw01.SafeintSums', WHERE WHAT IT READS IS OF BULK AT MOST 1048576: true; the input reads as it did. -/
def safeintSumsUptoRow : OpenClaim := { program := "ytjkiekdkkempdaa", sum := "1c9f8a3b60e395bf77c8b16c8c1ef1702a6811ebabc8567ccb178b8b61a13ca4", func := "petrinet/petrinetlaw01.SafeintSums", spec := "safeintSums", apart := false, narrowed := true }
def SafeintSumsUptoSaid : Prop := safeintSumsUptoRow.holds Try.pinned (OpenSpec.upto safeintSumsSpec)

end Rows
end Go.Proofs.Ytjkiekdkkempdaa
