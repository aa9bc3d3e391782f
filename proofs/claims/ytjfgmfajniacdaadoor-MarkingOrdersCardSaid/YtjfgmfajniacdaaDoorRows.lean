/-
  NARROWER THAN 'FOR EVERY INPUT', by the rows' own cells (each row's printed sentence says how): MarkingTexts: laid · MarkingBack: laid · MarkingValid: laid · MarkingBounds: laid · MarkingLattice: laid · MarkingOrders: laid · MarkingTotal: laid.
  DERIVED. THE GIVEN ROWS OF THIS SEAT. 7 by the template 'for every input the law returns true; each argument reads behind the call as it read before'; 0 by the template 'total and deterministic' (their statements: YtjfgmfajniacdaaDoorTotals.lean).
  GIVEN WITH THE SEED: the statements are not yours to turn. If you find one false, say at which input.
  Laid BY PROGRAM, IN A SANDBOX (cutbox-rows.mjs): the forced cells as the released guide's own fill.sh prints them over the translation ec8a2124a5303c9c… (all of the seat's roots in one cut). By AI agents, Wed Nov 11 2026. No macro, syntax, notation, axiom, sorry.
-/
import Derived.Test.YtjfgmfajniacdaaDoorChecked
import GoSem.Claim
import GoSem.ClaimJoined
import GoSem.ClaimMapViews
import Derived.JoinedTies
import Derived.KernelRfl
namespace Go.Proofs.YtjfgmfajniacdaaDoor
/- THE CELL 'sum', in the pinned program and in every row, IS THE sha256 OF THE DUMP (.gsa) THAT YtjfgmfajniacdaaDoorProg.lean LOADS. Nothing in Lean hashes anything: it is a label: what it is worth is what the hold of that sum in a sandbox is worth. -/
noncomputable def Tryd.pinned : Pinned := { name := "ytjfgmfajniacdaadoor", sum := "ec8a2124a5303c9ca4b8c089a17af2ed83cdf86796ccc5df3da325581535a315", checked := Tryd.checked }
namespace Rows
def none {H : Type} : Left H := { results := [], args := [] }

/- WHAT THE LISTED PACKAGE-LEVEL VARIABLES READ AS WHEN THE CALL BEGINS. Each datum BY PROGRAM (the guide's laid-datum.mjs) off the statement by which the dump's own 'gosem.cut.vars' lays the variable. In a bare row this is a premise. The card (YtjfgmfajniacdaaDoorCards.lean) ties it to the program's text. -/
def laid_math_bits_deBruijn32tab {H : Type} : DataW H := .agg [.lit (.int .u8 0), .lit (.int .u8 1), .lit (.int .u8 28), .lit (.int .u8 2), .lit (.int .u8 29), .lit (.int .u8 14), .lit (.int .u8 24), .lit (.int .u8 3), .lit (.int .u8 30), .lit (.int .u8 22), .lit (.int .u8 20), .lit (.int .u8 15), .lit (.int .u8 25), .lit (.int .u8 17), .lit (.int .u8 4), .lit (.int .u8 8), .lit (.int .u8 31), .lit (.int .u8 27), .lit (.int .u8 13), .lit (.int .u8 23), .lit (.int .u8 21), .lit (.int .u8 19), .lit (.int .u8 16), .lit (.int .u8 7), .lit (.int .u8 26), .lit (.int .u8 12), .lit (.int .u8 18), .lit (.int .u8 6), .lit (.int .u8 11), .lit (.int .u8 5), .lit (.int .u8 10), .lit (.int .u8 9)]
def laid_math_bits_deBruijn64tab {H : Type} : DataW H := .agg [.lit (.int .u8 0), .lit (.int .u8 1), .lit (.int .u8 56), .lit (.int .u8 2), .lit (.int .u8 57), .lit (.int .u8 49), .lit (.int .u8 28), .lit (.int .u8 3), .lit (.int .u8 61), .lit (.int .u8 58), .lit (.int .u8 42), .lit (.int .u8 50), .lit (.int .u8 38), .lit (.int .u8 29), .lit (.int .u8 17), .lit (.int .u8 4), .lit (.int .u8 62), .lit (.int .u8 47), .lit (.int .u8 59), .lit (.int .u8 36), .lit (.int .u8 45), .lit (.int .u8 43), .lit (.int .u8 51), .lit (.int .u8 22), .lit (.int .u8 53), .lit (.int .u8 39), .lit (.int .u8 33), .lit (.int .u8 30), .lit (.int .u8 24), .lit (.int .u8 18), .lit (.int .u8 12), .lit (.int .u8 5), .lit (.int .u8 63), .lit (.int .u8 55), .lit (.int .u8 48), .lit (.int .u8 27), .lit (.int .u8 60), .lit (.int .u8 41), .lit (.int .u8 37), .lit (.int .u8 16), .lit (.int .u8 46), .lit (.int .u8 35), .lit (.int .u8 44), .lit (.int .u8 21), .lit (.int .u8 52), .lit (.int .u8 32), .lit (.int .u8 23), .lit (.int .u8 11), .lit (.int .u8 54), .lit (.int .u8 26), .lit (.int .u8 40), .lit (.int .u8 15), .lit (.int .u8 34), .lit (.int .u8 20), .lit (.int .u8 31), .lit (.int .u8 10), .lit (.int .u8 25), .lit (.int .u8 14), .lit (.int .u8 19), .lit (.int .u8 9), .lit (.int .u8 13), .lit (.int .u8 8), .lit (.int .u8 7), .lit (.int .u8 6)]
def laid_internal_strconv_uint64pow10 {H : Type} : DataW H := .agg [.lit (.int .u64 1), .lit (.int .u64 10), .lit (.int .u64 100), .lit (.int .u64 1000), .lit (.int .u64 10000), .lit (.int .u64 100000), .lit (.int .u64 1000000), .lit (.int .u64 10000000), .lit (.int .u64 100000000), .lit (.int .u64 1000000000), .lit (.int .u64 10000000000), .lit (.int .u64 100000000000), .lit (.int .u64 1000000000000), .lit (.int .u64 10000000000000), .lit (.int .u64 100000000000000), .lit (.int .u64 1000000000000000), .lit (.int .u64 10000000000000000), .lit (.int .u64 100000000000000000), .lit (.int .u64 1000000000000000000), .lit (.int .u64 10000000000000000000)]
def laid_strconv_ErrRange {H : Type} : DataW H := .iface "*errors.errorString" (.ptr (.agg [.lit (.string [118, 97, 108, 117, 101, 32, 111, 117, 116, 32, 111, 102, 32, 114, 97, 110, 103, 101])]))
def laid_strconv_ErrSyntax {H : Type} : DataW H := .iface "*errors.errorString" (.ptr (.agg [.lit (.string [105, 110, 118, 97, 108, 105, 100, 32, 115, 121, 110, 116, 97, 120])]))

/-- 'petrinetlaw04.MarkingTexts': WHATEVER THE INPUT: true; the input reads as it did. -/
def markingTextsSpec : ChangeSpec := { name := "markingTexts", fn := fun _ => fun
  | [d1, d2] => { results := [.lit (.bool true)], args := [d1, d2] }
  | _ => none }
def markingTextsRow : OpenClaim := { program := "ytjfgmfajniacdaadoor", sum := "ec8a2124a5303c9ca4b8c089a17af2ed83cdf86796ccc5df3da325581535a315", func := "petrinet/petrinetlaw04.MarkingTexts", spec := "markingTexts", named := ["strconv.ErrSyntax", "strconv.ErrRange", "internal/strconv.uint64pow10", "math/bits.deBruijn32tab", "math/bits.deBruijn64tab"], apart := false, laid := [("math/bits.deBruijn32tab", laid_math_bits_deBruijn32tab), ("math/bits.deBruijn64tab", laid_math_bits_deBruijn64tab), ("internal/strconv.uint64pow10", laid_internal_strconv_uint64pow10), ("strconv.ErrRange", laid_strconv_ErrRange), ("strconv.ErrSyntax", laid_strconv_ErrSyntax)] }
def MarkingTextsSaid : Prop := markingTextsRow.holds Tryd.pinned (OpenSpec.ofChange markingTextsSpec)

/-- ITS FALSE NEIGHBOUR: 'it returns false'. Refute it at one input. -/
def markingTextsWrong : ChangeSpec := { name := "markingTexts", fn := fun _ => fun
  | [d1, d2] => { results := [.lit (.bool false)], args := [d1, d2] }
  | _ => none }
def MarkingTextsWrongFalsely : Prop := markingTextsRow.holds Tryd.pinned (OpenSpec.ofChange markingTextsWrong)

/-- 'petrinetlaw04.MarkingBack': WHATEVER THE INPUT: true; the input reads as it did. -/
def markingBackSpec : ChangeSpec := { name := "markingBack", fn := fun _ => fun
  | [d1, d2] => { results := [.lit (.bool true)], args := [d1, d2] }
  | _ => none }
def markingBackRow : OpenClaim := { program := "ytjfgmfajniacdaadoor", sum := "ec8a2124a5303c9ca4b8c089a17af2ed83cdf86796ccc5df3da325581535a315", func := "petrinet/petrinetlaw04.MarkingBack", spec := "markingBack", named := ["strconv.ErrSyntax", "strconv.ErrRange", "internal/strconv.uint64pow10", "math/bits.deBruijn32tab", "math/bits.deBruijn64tab"], apart := false, laid := [("math/bits.deBruijn32tab", laid_math_bits_deBruijn32tab), ("math/bits.deBruijn64tab", laid_math_bits_deBruijn64tab), ("internal/strconv.uint64pow10", laid_internal_strconv_uint64pow10), ("strconv.ErrRange", laid_strconv_ErrRange), ("strconv.ErrSyntax", laid_strconv_ErrSyntax)] }
def MarkingBackSaid : Prop := markingBackRow.holds Tryd.pinned (OpenSpec.ofChange markingBackSpec)

/-- ITS FALSE NEIGHBOUR: 'it returns false'. Refute it at one input. -/
def markingBackWrong : ChangeSpec := { name := "markingBack", fn := fun _ => fun
  | [d1, d2] => { results := [.lit (.bool false)], args := [d1, d2] }
  | _ => none }
def MarkingBackWrongFalsely : Prop := markingBackRow.holds Tryd.pinned (OpenSpec.ofChange markingBackWrong)

/-- 'petrinetlaw04.MarkingValid': WHATEVER THE INPUT: true; the input reads as it did. -/
def markingValidSpec : ChangeSpec := { name := "markingValid", fn := fun _ => fun
  | [d1, d2, d3] => { results := [.lit (.bool true)], args := [d1, d2, d3] }
  | _ => none }
def markingValidRow : OpenClaim := { program := "ytjfgmfajniacdaadoor", sum := "ec8a2124a5303c9ca4b8c089a17af2ed83cdf86796ccc5df3da325581535a315", func := "petrinet/petrinetlaw04.MarkingValid", spec := "markingValid", named := ["strconv.ErrSyntax", "strconv.ErrRange", "internal/strconv.uint64pow10", "math/bits.deBruijn32tab", "math/bits.deBruijn64tab"], apart := false, laid := [("math/bits.deBruijn32tab", laid_math_bits_deBruijn32tab), ("math/bits.deBruijn64tab", laid_math_bits_deBruijn64tab), ("internal/strconv.uint64pow10", laid_internal_strconv_uint64pow10), ("strconv.ErrRange", laid_strconv_ErrRange), ("strconv.ErrSyntax", laid_strconv_ErrSyntax)] }
def MarkingValidSaid : Prop := markingValidRow.holds Tryd.pinned (OpenSpec.ofChange markingValidSpec)

/-- ITS FALSE NEIGHBOUR: 'it returns false'. Refute it at one input. -/
def markingValidWrong : ChangeSpec := { name := "markingValid", fn := fun _ => fun
  | [d1, d2, d3] => { results := [.lit (.bool false)], args := [d1, d2, d3] }
  | _ => none }
def MarkingValidWrongFalsely : Prop := markingValidRow.holds Tryd.pinned (OpenSpec.ofChange markingValidWrong)

/-- 'petrinetlaw04.MarkingBounds': WHATEVER THE INPUT: true; the input reads as it did. -/
def markingBoundsSpec : ChangeSpec := { name := "markingBounds", fn := fun _ => fun
  | [d1, d2] => { results := [.lit (.bool true)], args := [d1, d2] }
  | _ => none }
def markingBoundsRow : OpenClaim := { program := "ytjfgmfajniacdaadoor", sum := "ec8a2124a5303c9ca4b8c089a17af2ed83cdf86796ccc5df3da325581535a315", func := "petrinet/petrinetlaw04.MarkingBounds", spec := "markingBounds", named := ["strconv.ErrSyntax", "strconv.ErrRange", "internal/strconv.uint64pow10", "math/bits.deBruijn32tab", "math/bits.deBruijn64tab"], apart := false, laid := [("math/bits.deBruijn32tab", laid_math_bits_deBruijn32tab), ("math/bits.deBruijn64tab", laid_math_bits_deBruijn64tab), ("internal/strconv.uint64pow10", laid_internal_strconv_uint64pow10), ("strconv.ErrRange", laid_strconv_ErrRange), ("strconv.ErrSyntax", laid_strconv_ErrSyntax)] }
def MarkingBoundsSaid : Prop := markingBoundsRow.holds Tryd.pinned (OpenSpec.ofChange markingBoundsSpec)

/-- ITS FALSE NEIGHBOUR: 'it returns false'. Refute it at one input. -/
def markingBoundsWrong : ChangeSpec := { name := "markingBounds", fn := fun _ => fun
  | [d1, d2] => { results := [.lit (.bool false)], args := [d1, d2] }
  | _ => none }
def MarkingBoundsWrongFalsely : Prop := markingBoundsRow.holds Tryd.pinned (OpenSpec.ofChange markingBoundsWrong)

/-- 'petrinetlaw04.MarkingLattice': WHATEVER THE INPUT: true; the input reads as it did. -/
def markingLatticeSpec : ChangeSpec := { name := "markingLattice", fn := fun _ => fun
  | [d1, d2, d3] => { results := [.lit (.bool true)], args := [d1, d2, d3] }
  | _ => none }
def markingLatticeRow : OpenClaim := { program := "ytjfgmfajniacdaadoor", sum := "ec8a2124a5303c9ca4b8c089a17af2ed83cdf86796ccc5df3da325581535a315", func := "petrinet/petrinetlaw04.MarkingLattice", spec := "markingLattice", named := ["strconv.ErrSyntax", "strconv.ErrRange", "internal/strconv.uint64pow10", "math/bits.deBruijn32tab", "math/bits.deBruijn64tab"], apart := false, laid := [("math/bits.deBruijn32tab", laid_math_bits_deBruijn32tab), ("math/bits.deBruijn64tab", laid_math_bits_deBruijn64tab), ("internal/strconv.uint64pow10", laid_internal_strconv_uint64pow10), ("strconv.ErrRange", laid_strconv_ErrRange), ("strconv.ErrSyntax", laid_strconv_ErrSyntax)] }
def MarkingLatticeSaid : Prop := markingLatticeRow.holds Tryd.pinned (OpenSpec.ofChange markingLatticeSpec)

/-- ITS FALSE NEIGHBOUR: 'it returns false'. Refute it at one input. -/
def markingLatticeWrong : ChangeSpec := { name := "markingLattice", fn := fun _ => fun
  | [d1, d2, d3] => { results := [.lit (.bool false)], args := [d1, d2, d3] }
  | _ => none }
def MarkingLatticeWrongFalsely : Prop := markingLatticeRow.holds Tryd.pinned (OpenSpec.ofChange markingLatticeWrong)

/-- 'petrinetlaw04.MarkingOrders': WHATEVER THE INPUT: true; the input reads as it did. -/
def markingOrdersSpec : ChangeSpec := { name := "markingOrders", fn := fun _ => fun
  | [d1, d2] => { results := [.lit (.bool true)], args := [d1, d2] }
  | _ => none }
def markingOrdersRow : OpenClaim := { program := "ytjfgmfajniacdaadoor", sum := "ec8a2124a5303c9ca4b8c089a17af2ed83cdf86796ccc5df3da325581535a315", func := "petrinet/petrinetlaw04.MarkingOrders", spec := "markingOrders", named := ["strconv.ErrSyntax", "strconv.ErrRange", "internal/strconv.uint64pow10", "math/bits.deBruijn32tab", "math/bits.deBruijn64tab"], apart := false, laid := [("math/bits.deBruijn32tab", laid_math_bits_deBruijn32tab), ("math/bits.deBruijn64tab", laid_math_bits_deBruijn64tab), ("internal/strconv.uint64pow10", laid_internal_strconv_uint64pow10), ("strconv.ErrRange", laid_strconv_ErrRange), ("strconv.ErrSyntax", laid_strconv_ErrSyntax)] }
def MarkingOrdersSaid : Prop := markingOrdersRow.holds Tryd.pinned (OpenSpec.ofChange markingOrdersSpec)

/-- ITS FALSE NEIGHBOUR: 'it returns false'. Refute it at one input. -/
def markingOrdersWrong : ChangeSpec := { name := "markingOrders", fn := fun _ => fun
  | [d1, d2] => { results := [.lit (.bool false)], args := [d1, d2] }
  | _ => none }
def MarkingOrdersWrongFalsely : Prop := markingOrdersRow.holds Tryd.pinned (OpenSpec.ofChange markingOrdersWrong)

/-- 'petrinetlaw04.MarkingTotal': WHATEVER THE INPUT: true; the input reads as it did. -/
def markingTotalSpec : ChangeSpec := { name := "markingTotal", fn := fun _ => fun
  | [d1, d2, d3] => { results := [.lit (.bool true)], args := [d1, d2, d3] }
  | _ => none }
def markingTotalRow : OpenClaim := { program := "ytjfgmfajniacdaadoor", sum := "ec8a2124a5303c9ca4b8c089a17af2ed83cdf86796ccc5df3da325581535a315", func := "petrinet/petrinetlaw04.MarkingTotal", spec := "markingTotal", named := ["strconv.ErrSyntax", "strconv.ErrRange", "internal/strconv.uint64pow10", "math/bits.deBruijn32tab", "math/bits.deBruijn64tab"], apart := false, laid := [("math/bits.deBruijn32tab", laid_math_bits_deBruijn32tab), ("math/bits.deBruijn64tab", laid_math_bits_deBruijn64tab), ("internal/strconv.uint64pow10", laid_internal_strconv_uint64pow10), ("strconv.ErrRange", laid_strconv_ErrRange), ("strconv.ErrSyntax", laid_strconv_ErrSyntax)] }
def MarkingTotalSaid : Prop := markingTotalRow.holds Tryd.pinned (OpenSpec.ofChange markingTotalSpec)

/-- ITS FALSE NEIGHBOUR: 'it returns false'. Refute it at one input. -/
def markingTotalWrong : ChangeSpec := { name := "markingTotal", fn := fun _ => fun
  | [d1, d2, d3] => { results := [.lit (.bool false)], args := [d1, d2, d3] }
  | _ => none }
def MarkingTotalWrongFalsely : Prop := markingTotalRow.holds Tryd.pinned (OpenSpec.ofChange markingTotalWrong)

/- THE SECOND FORM. 'bulk': how many values and letters a reading holds, each counted each time it is reached (what is shared counts as often as it is met; a slice's spare places count too). A statement '..UptoSaid' is the law's where the arguments, and the package variables that the reading takes, are together of bulk at most 1048576: NARROWER than '..Said'. Prove '..Said' where nothing that the law and all that it calls make is longer than what came in: it says more and counts as full. Else prove '..UptoSaid'. A law counts once. -/
mutual
def uptoBulk {H : Type} : DataW H → Nat
  | .lit (.string bytes) => bytes.length + 1
  | .lit _ => 1
  | .nil => 1
  | .ptr d => uptoBulk d + 1
  | .slice elems spare => uptoBulkAll elems + uptoBulkAll spare + 1
  | .agg parts => uptoBulkAll parts + 1
  | .iface _ d => uptoBulk d + 1
  | .map entries => uptoBulkEntries entries + 1
  | .held _ => 1
def uptoBulkAll {H : Type} : List (DataW H) → Nat
  | [] => 0
  | d :: r => uptoBulk d + uptoBulkAll r
def uptoBulkEntries {H : Type} : List (Lit × DataW H) → Nat
  | [] => 0
  | x :: r => uptoBulkEntry x + uptoBulkEntries r
def uptoBulkEntry {H : Type} : Lit × DataW H → Nat
  | (.string bytes, d) => bytes.length + uptoBulk d + 1
  | (_, d) => uptoBulk d + 1
 end
def uptoSmall : (H : Type) → List (DataW H) → Bool := fun _ ds => decide (uptoBulkAll ds ≤ 1048576)
def OpenSpec.upto (s : _root_.Go.ChangeSpec) : _root_.Go.OpenSpec := { _root_.Go.OpenSpec.ofChange s with cond := some uptoSmall }

/-- 'petrinetlaw04.MarkingTexts', WHERE WHAT IT READS IS OF BULK AT MOST 1048576: true; the input reads as it did. -/
def markingTextsUptoRow : OpenClaim := { program := "ytjfgmfajniacdaadoor", sum := "ec8a2124a5303c9ca4b8c089a17af2ed83cdf86796ccc5df3da325581535a315", func := "petrinet/petrinetlaw04.MarkingTexts", spec := "markingTexts", named := ["strconv.ErrSyntax", "strconv.ErrRange", "internal/strconv.uint64pow10", "math/bits.deBruijn32tab", "math/bits.deBruijn64tab"], apart := false, laid := [("math/bits.deBruijn32tab", laid_math_bits_deBruijn32tab), ("math/bits.deBruijn64tab", laid_math_bits_deBruijn64tab), ("internal/strconv.uint64pow10", laid_internal_strconv_uint64pow10), ("strconv.ErrRange", laid_strconv_ErrRange), ("strconv.ErrSyntax", laid_strconv_ErrSyntax)], narrowed := true }
def MarkingTextsUptoSaid : Prop := markingTextsUptoRow.holds Tryd.pinned (OpenSpec.upto markingTextsSpec)

/-- 'petrinetlaw04.MarkingBack', WHERE WHAT IT READS IS OF BULK AT MOST 1048576: true; the input reads as it did. -/
def markingBackUptoRow : OpenClaim := { program := "ytjfgmfajniacdaadoor", sum := "ec8a2124a5303c9ca4b8c089a17af2ed83cdf86796ccc5df3da325581535a315", func := "petrinet/petrinetlaw04.MarkingBack", spec := "markingBack", named := ["strconv.ErrSyntax", "strconv.ErrRange", "internal/strconv.uint64pow10", "math/bits.deBruijn32tab", "math/bits.deBruijn64tab"], apart := false, laid := [("math/bits.deBruijn32tab", laid_math_bits_deBruijn32tab), ("math/bits.deBruijn64tab", laid_math_bits_deBruijn64tab), ("internal/strconv.uint64pow10", laid_internal_strconv_uint64pow10), ("strconv.ErrRange", laid_strconv_ErrRange), ("strconv.ErrSyntax", laid_strconv_ErrSyntax)], narrowed := true }
def MarkingBackUptoSaid : Prop := markingBackUptoRow.holds Tryd.pinned (OpenSpec.upto markingBackSpec)

/-- 'petrinetlaw04.MarkingValid', WHERE WHAT IT READS IS OF BULK AT MOST 1048576: true; the input reads as it did. -/
def markingValidUptoRow : OpenClaim := { program := "ytjfgmfajniacdaadoor", sum := "ec8a2124a5303c9ca4b8c089a17af2ed83cdf86796ccc5df3da325581535a315", func := "petrinet/petrinetlaw04.MarkingValid", spec := "markingValid", named := ["strconv.ErrSyntax", "strconv.ErrRange", "internal/strconv.uint64pow10", "math/bits.deBruijn32tab", "math/bits.deBruijn64tab"], apart := false, laid := [("math/bits.deBruijn32tab", laid_math_bits_deBruijn32tab), ("math/bits.deBruijn64tab", laid_math_bits_deBruijn64tab), ("internal/strconv.uint64pow10", laid_internal_strconv_uint64pow10), ("strconv.ErrRange", laid_strconv_ErrRange), ("strconv.ErrSyntax", laid_strconv_ErrSyntax)], narrowed := true }
def MarkingValidUptoSaid : Prop := markingValidUptoRow.holds Tryd.pinned (OpenSpec.upto markingValidSpec)

/-- 'petrinetlaw04.MarkingBounds', WHERE WHAT IT READS IS OF BULK AT MOST 1048576: true; the input reads as it did. -/
def markingBoundsUptoRow : OpenClaim := { program := "ytjfgmfajniacdaadoor", sum := "ec8a2124a5303c9ca4b8c089a17af2ed83cdf86796ccc5df3da325581535a315", func := "petrinet/petrinetlaw04.MarkingBounds", spec := "markingBounds", named := ["strconv.ErrSyntax", "strconv.ErrRange", "internal/strconv.uint64pow10", "math/bits.deBruijn32tab", "math/bits.deBruijn64tab"], apart := false, laid := [("math/bits.deBruijn32tab", laid_math_bits_deBruijn32tab), ("math/bits.deBruijn64tab", laid_math_bits_deBruijn64tab), ("internal/strconv.uint64pow10", laid_internal_strconv_uint64pow10), ("strconv.ErrRange", laid_strconv_ErrRange), ("strconv.ErrSyntax", laid_strconv_ErrSyntax)], narrowed := true }
def MarkingBoundsUptoSaid : Prop := markingBoundsUptoRow.holds Tryd.pinned (OpenSpec.upto markingBoundsSpec)

/-- 'petrinetlaw04.MarkingLattice', WHERE WHAT IT READS IS OF BULK AT MOST 1048576: true; the input reads as it did. -/
def markingLatticeUptoRow : OpenClaim := { program := "ytjfgmfajniacdaadoor", sum := "ec8a2124a5303c9ca4b8c089a17af2ed83cdf86796ccc5df3da325581535a315", func := "petrinet/petrinetlaw04.MarkingLattice", spec := "markingLattice", named := ["strconv.ErrSyntax", "strconv.ErrRange", "internal/strconv.uint64pow10", "math/bits.deBruijn32tab", "math/bits.deBruijn64tab"], apart := false, laid := [("math/bits.deBruijn32tab", laid_math_bits_deBruijn32tab), ("math/bits.deBruijn64tab", laid_math_bits_deBruijn64tab), ("internal/strconv.uint64pow10", laid_internal_strconv_uint64pow10), ("strconv.ErrRange", laid_strconv_ErrRange), ("strconv.ErrSyntax", laid_strconv_ErrSyntax)], narrowed := true }
def MarkingLatticeUptoSaid : Prop := markingLatticeUptoRow.holds Tryd.pinned (OpenSpec.upto markingLatticeSpec)

/-- 'petrinetlaw04.MarkingOrders', WHERE WHAT IT READS IS OF BULK AT MOST 1048576: true; the input reads as it did. -/
def markingOrdersUptoRow : OpenClaim := { program := "ytjfgmfajniacdaadoor", sum := "ec8a2124a5303c9ca4b8c089a17af2ed83cdf86796ccc5df3da325581535a315", func := "petrinet/petrinetlaw04.MarkingOrders", spec := "markingOrders", named := ["strconv.ErrSyntax", "strconv.ErrRange", "internal/strconv.uint64pow10", "math/bits.deBruijn32tab", "math/bits.deBruijn64tab"], apart := false, laid := [("math/bits.deBruijn32tab", laid_math_bits_deBruijn32tab), ("math/bits.deBruijn64tab", laid_math_bits_deBruijn64tab), ("internal/strconv.uint64pow10", laid_internal_strconv_uint64pow10), ("strconv.ErrRange", laid_strconv_ErrRange), ("strconv.ErrSyntax", laid_strconv_ErrSyntax)], narrowed := true }
def MarkingOrdersUptoSaid : Prop := markingOrdersUptoRow.holds Tryd.pinned (OpenSpec.upto markingOrdersSpec)

/-- 'petrinetlaw04.MarkingTotal', WHERE WHAT IT READS IS OF BULK AT MOST 1048576: true; the input reads as it did. -/
def markingTotalUptoRow : OpenClaim := { program := "ytjfgmfajniacdaadoor", sum := "ec8a2124a5303c9ca4b8c089a17af2ed83cdf86796ccc5df3da325581535a315", func := "petrinet/petrinetlaw04.MarkingTotal", spec := "markingTotal", named := ["strconv.ErrSyntax", "strconv.ErrRange", "internal/strconv.uint64pow10", "math/bits.deBruijn32tab", "math/bits.deBruijn64tab"], apart := false, laid := [("math/bits.deBruijn32tab", laid_math_bits_deBruijn32tab), ("math/bits.deBruijn64tab", laid_math_bits_deBruijn64tab), ("internal/strconv.uint64pow10", laid_internal_strconv_uint64pow10), ("strconv.ErrRange", laid_strconv_ErrRange), ("strconv.ErrSyntax", laid_strconv_ErrSyntax)], narrowed := true }
def MarkingTotalUptoSaid : Prop := markingTotalUptoRow.holds Tryd.pinned (OpenSpec.upto markingTotalSpec)

end Rows
end Go.Proofs.YtjfgmfajniacdaaDoor
