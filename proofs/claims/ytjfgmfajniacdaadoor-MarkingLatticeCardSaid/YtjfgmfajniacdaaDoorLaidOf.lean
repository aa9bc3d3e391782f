/- From what a row's cell 'laid' says of the listed package-level variables to what the walks ask: 'LaidW'. -/
import Derived.Test.YtjfgmfajniacdaaDoorRows
import Derived.Test.YtjfgmfajniacdaaDoorPAllx1
import Derived.ProofKit
import Derived.OpenShut
import Derived.LaidMore
import Derived.Lay
import Derived.Lib.LaidTab
import Derived.Stop.LaidErr
import Derived.MakeChecks
namespace Go.Proofs.YtjfgmfajniacdaaDoor.LaidOf
open Go.ChangeShapes Go.WideShapes Go.RowKit Go.Proofs.YtjfgmfajniacdaaDoor.PAll
set_option linter.unusedVariables false
theorem star : "*" ++ "errors.errorString" = "*errors.errorString" := by decide
theorem row (u : TypeId) (h : Tryd.prog.typeName? 3 u = some "*errors.errorString") : u = 68 :=
  typeName_ptr_named (nm := "errors.errorString") (by rw [star]; kernel_rfl) (by kernel_rfl) (by decide) u (by rw [star]; exact h)
theorem low_of {P : Program} {W : World} {n : String} {g : Nat} {d : DataW Unit} {r : List (String × DataW Unit)} (hg : P.globalNamed n = some g) (h : laidMet P ((n, d) :: r) W) : g < W.heap.size := by
  obtain ⟨ps, ⟨g', t, cs, fuel, p, q, hg', _, hv, _, _, _⟩, _⟩ := h
  obtain rfl := Option.some.inj (hg.symm.trans hg')
  unfold World.var? at hv
  rw [hg, Option.bind_some] at hv
  rcases Nat.lt_or_ge g W.heap.size with h' | h'
  · exact h'
  · simp [Array.getElem?_eq_none h'] at hv
theorem laid_of {W : World} (h : laidMetH Tryd.prog Rows.markingTextsRow.laid W) : LaidW W := by
  rw [MakeChecks.laidMetH_plain _ _ _ (by kernel_rfl)] at h
  have h0 : laidMet Tryd.prog (("math/bits.deBruijn32tab", Rows.laid_math_bits_deBruijn32tab) :: [("math/bits.deBruijn64tab", Rows.laid_math_bits_deBruijn64tab), ("internal/strconv.uint64pow10", Rows.laid_internal_strconv_uint64pow10), ("strconv.ErrRange", Rows.laid_strconv_ErrRange), ("strconv.ErrSyntax", Rows.laid_strconv_ErrSyntax)]) W := h
  have h1 := laidMet.tail h0
  have h2 := laidMet.tail h1
  have h3 := laidMet.tail h2
  have h4 := laidMet.tail h3
  have low := low_of (g := 4) (by kernel_rfl) h1
  have tab : Lib.TabIs Tryd.prog W "internal/strconv.uint64pow10" .u64 Lib.pow10Tab := Lib.tabIs_of_head (g := 2) (t := 78) (e := 56) (n := 20) (rest := [("strconv.ErrRange", Rows.laid_strconv_ErrRange), ("strconv.ErrSyntax", Rows.laid_strconv_ErrSyntax)]) (by kernel_rfl) (by kernel_rfl) Tryd.underlying78 Tryd.underlying56 (by kernel_rfl) (by kernel_rfl) h2
  obtain ⟨a_syn, _, v_syn, -, -, -⟩ := laid_sentinel (g := 0) (ti := 40) (te := 70) (ts := 9) h4 (by kernel_rfl) (by kernel_rfl) Tryd.underlying40 row Tryd.underlying68 Tryd.underlying70 rfl rfl Tryd.underlying9 (by kernel_rfl) (by kernel_rfl)
  obtain ⟨a_rng, _, v_rng, -, -, -⟩ := laid_sentinel (g := 1) (ti := 40) (te := 70) (ts := 9) h3 (by kernel_rfl) (by kernel_rfl) Tryd.underlying40 row Tryd.underlying68 Tryd.underlying70 rfl rfl Tryd.underlying9 (by kernel_rfl) (by kernel_rfl)
  exact ⟨by omega, tab, ⟨_, _, v_syn⟩, ⟨_, _, v_rng⟩⟩
end Go.Proofs.YtjfgmfajniacdaaDoor.LaidOf
