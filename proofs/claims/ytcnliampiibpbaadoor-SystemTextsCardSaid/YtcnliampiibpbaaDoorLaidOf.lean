/- From what a row's cell 'laid' says of the listed package-level variables to what the walks ask: 'LaidW'. -/
import Derived.Test.YtcnliampiibpbaaDoorRows
import Derived.Test.YtcnliampiibpbaaDoorPAllx3
import Derived.ProofKit
import Derived.OpenShut
import Derived.LaidMore
import Derived.Lay
import Derived.Lib.LaidTab
import Derived.Stop.LaidErr
import Derived.MakeChecks
namespace Go.Proofs.YtcnliampiibpbaaDoor.LaidOf
open Go.ChangeShapes Go.WideShapes Go.RowKit Go.Proofs.YtcnliampiibpbaaDoor.PAll
set_option linter.unusedVariables false
theorem star : "*" ++ "errors.errorString" = "*errors.errorString" := by decide
theorem row (u : TypeId) (h : Tryd.prog.typeName? 3 u = some "*errors.errorString") : u = 105 :=
  typeName_ptr_named (nm := "errors.errorString") (by rw [star]; kernel_rfl) (by kernel_rfl) (by decide) u (by rw [star]; exact h)
theorem low_of {P : Program} {W : World} {n : String} {g : Nat} {d : DataW Unit} {r : List (String × DataW Unit)} (hg : P.globalNamed n = some g) (h : laidMet P ((n, d) :: r) W) : g < W.heap.size := by
  obtain ⟨ps, ⟨g', t, cs, fuel, p, q, hg', _, hv, _, _, _⟩, _⟩ := h
  obtain rfl := Option.some.inj (hg.symm.trans hg')
  unfold World.var? at hv
  rw [hg, Option.bind_some] at hv
  rcases Nat.lt_or_ge g W.heap.size with h' | h'
  · exact h'
  · simp [Array.getElem?_eq_none h'] at hv
theorem laidE_of {W : World} (h : laidMetH Tryd.prog Rows.systemTextsRow.laid W) : LaidE W := by
  rw [MakeChecks.laidMetH_plain _ _ _ (by kernel_rfl)] at h
  have h0 : laidMet Tryd.prog (("math/bits.deBruijn32tab", Rows.laid_math_bits_deBruijn32tab) :: [("math/bits.deBruijn64tab", Rows.laid_math_bits_deBruijn64tab), ("internal/strconv.uint64pow10", Rows.laid_internal_strconv_uint64pow10), ("strconv.ErrRange", Rows.laid_strconv_ErrRange), ("strconv.ErrSyntax", Rows.laid_strconv_ErrSyntax)]) W := h
  have h1 := laidMet.tail h0
  have h2 := laidMet.tail h1
  have h3 := laidMet.tail h2
  have h4 := laidMet.tail h3
  have low := low_of (g := 0) (by kernel_rfl) h2
  have tab : Lib.TabIs Tryd.prog W "internal/strconv.uint64pow10" .u64 Lib.pow10Tab := Lib.tabIs_of_head (g := 0) (t := 82) (e := 73) (n := 20) (rest := [("strconv.ErrRange", Rows.laid_strconv_ErrRange), ("strconv.ErrSyntax", Rows.laid_strconv_ErrSyntax)]) (by kernel_rfl) (by kernel_rfl) Tryd.underlying82 Tryd.underlying73 (by kernel_rfl) (by kernel_rfl) h2
  have low_syn := low_of (g := 1) (by kernel_rfl) h4
  obtain ⟨a_syn, _, v_syn, -, -, -⟩ := laid_sentinel (g := 1) (ti := 69) (te := 107) (ts := 9) h4 (by kernel_rfl) (by kernel_rfl) Tryd.underlying69 row Tryd.underlying105 Tryd.underlying107 rfl rfl Tryd.underlying9 (by kernel_rfl) (by kernel_rfl)
  have low_rng := low_of (g := 2) (by kernel_rfl) h3
  obtain ⟨a_rng, _, v_rng, -, -, -⟩ := laid_sentinel (g := 2) (ti := 69) (te := 107) (ts := 9) h3 (by kernel_rfl) (by kernel_rfl) Tryd.underlying69 row Tryd.underlying105 Tryd.underlying107 rfl rfl Tryd.underlying9 (by kernel_rfl) (by kernel_rfl)
  exact ⟨⟨low, tab⟩, low_syn, low_rng, ⟨_, _, v_syn⟩, ⟨_, _, v_rng⟩⟩
end Go.Proofs.YtcnliampiibpbaaDoor.LaidOf
