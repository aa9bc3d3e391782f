/- Plain laws over the printed functions: what each comes to. No condition but the ones written. -/
import Derived.Test.YtjhlagpcbaodkaaDoorSumC
import Derived.Test.YtjhlagpcbaodkaaDoorPSumlColorsetSums
namespace Go.Proofs.YtjhlagpcbaodkaaDoor.PlainS
open Go Go.RowKit Go.Proofs.YtjhlagpcbaodkaaDoor.PSum Go.Proofs.YtjhlagpcbaodkaaDoorW.PrintWords Go.Proofs.YtjhlagpcbaodkaaDoorW.PrintLast Go.Proofs.YtjhlagpcbaodkaaDoorW.PrintMore
set_option linter.unusedVariables false
/-! ### the law of the sums -/
theorem ColorsetSums_pure (a : List Int) (ya : a.length * 8 ≤ 140737488351232) (_ : ∀ z ∈ a, (Lit.int .i64 z).wf = true) (b : List Int) (yb : b.length * 8 ≤ 140737488351232) (_ : ∀ z ∈ b, (Lit.int .i64 z).wf = true) (c : Int) (_ : (Lit.int .i64 c).wf = true) : ∃ k, petrinetlaw39_ColorsetSums.f k a b c = some true := ⟨4 * a.length + 4 * b.length + 1000, by
  have h1 := addV_len a b
  have h2 := subV_len a b
  have h3 := scaleV_len a c
  unfold petrinetlaw39_ColorsetSums.f
  rw [padd_is a b (by omega) (by omega) _ (by omega), radd_is a b (by omega) (by omega) _ (by omega), Option.bind_some, Option.bind_some, same_is _ _ (by omega) _ (by omega), Option.bind_some, decide_eq_true rfl, if_pos rfl,
    pleq_is a b (by omega) (by omega) _ (by omega), rleq_is a b (by omega) (by omega) _ (by omega), Option.bind_some, Option.bind_some, if_pos (by simp),
    psub_is a b (by omega) (by omega) _ (by omega), rsub_is a b (by omega) (by omega) _ (by omega), Option.bind_some, Option.bind_some, same_is _ _ (by omega) _ (by omega), Option.bind_some, decide_eq_true rfl, if_pos rfl,
    pscale_is a c (by omega) _ (by omega), rscale_is a c (by omega) _ (by omega), Option.bind_some, Option.bind_some, same_is _ _ (by omega) _ (by omega), Option.bind_some, decide_eq_true rfl, if_pos rfl, ex_is _ (by omega)]; rfl⟩
end Go.Proofs.YtjhlagpcbaodkaaDoor.PlainS
