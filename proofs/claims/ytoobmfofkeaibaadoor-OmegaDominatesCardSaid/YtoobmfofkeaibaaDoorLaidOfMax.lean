/- From what a row's cell 'laid' says of the listed package-level variables to what the walks ask: 'LaidW'. -/
import Derived.Test.YtoobmfofkeaibaaDoorRows
import Derived.Test.YtoobmfofkeaibaaDoorPMaxx1
import Derived.ProofKit
import Derived.OpenShut
import Derived.LaidMore
import Derived.Lay
import Derived.Lib.LaidTab
import Derived.Stop.LaidErr
import Derived.MakeChecks
namespace Go.Proofs.YtoobmfofkeaibaaDoor.LaidOfMax
open Go.ChangeShapes Go.WideShapes Go.RowKit Go.Proofs.YtoobmfofkeaibaaDoor.PMax
set_option linter.unusedVariables false
theorem low_of {P : Program} {W : World} {n : String} {g : Nat} {d : DataW Unit} {r : List (String × DataW Unit)} (hg : P.globalNamed n = some g) (h : laidMet P ((n, d) :: r) W) : g < W.heap.size := by
  obtain ⟨ps, ⟨g', t, cs, fuel, p, q, hg', _, hv, _, _, _⟩, _⟩ := h
  obtain rfl := Option.some.inj (hg.symm.trans hg')
  unfold World.var? at hv
  rw [hg, Option.bind_some] at hv
  rcases Nat.lt_or_ge g W.heap.size with h' | h'
  · exact h'
  · simp [Array.getElem?_eq_none h'] at hv
theorem laidW_of {W : World} (h : laidMetH Tryd.prog Rows.omegaOrdersRow.laid W) : LaidW W := by
  rw [MakeChecks.laidMetH_plain _ _ _ (by kernel_rfl)] at h
  have h0 : laidMet Tryd.prog (("math/bits.deBruijn32tab", Rows.laid_math_bits_deBruijn32tab) :: [("math/bits.deBruijn64tab", Rows.laid_math_bits_deBruijn64tab), ("internal/strconv.uint64pow10", Rows.laid_internal_strconv_uint64pow10)]) W := h
  have h1 := laidMet.tail h0
  have h2 := laidMet.tail h1
  have low := low_of (g := 0) (by kernel_rfl) h2
  have tab : Lib.TabIs Tryd.prog W "internal/strconv.uint64pow10" .u64 Lib.pow10Tab := Lib.tabIs_of_head (g := 0) (t := 70) (e := 57) (n := 20) (rest := []) (by kernel_rfl) (by kernel_rfl) Tryd.underlying70 Tryd.underlying57 (by kernel_rfl) (by kernel_rfl) h2
  exact ⟨low, tab⟩
end Go.Proofs.YtoobmfofkeaibaaDoor.LaidOfMax
