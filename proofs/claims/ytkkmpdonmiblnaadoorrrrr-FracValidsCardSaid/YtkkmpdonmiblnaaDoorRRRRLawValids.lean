/- Plain laws over the printed functions: what each comes to. No condition but the ones written. -/
import Derived.Test.YtkkmpdonmiblnaaDoorRRRRPlainB
import Derived.Test.YtkkmpdonmiblnaaDoorRRRRPAlllFracValids
namespace Go.Proofs.YtkkmpdonmiblnaaDoorRRRR.Plain
open Go Go.RowKit Go.Proofs.YtkkmpdonmiblnaaDoorRRRR.PAll Go.Proofs.YtkkmpdonmiblnaaDoorRRRRW.PrintWords Go.Proofs.YtkkmpdonmiblnaaDoorRRRRW.PrintLast Go.Proofs.YtkkmpdonmiblnaaDoorRRRRW.PrintMore
set_option linter.unusedVariables false
/-! ### the law of Valid, Text, Floor -/
theorem FracValids_pure (a : Int) (wa : (Lit.int .i64 a).wf = true) (b : Int) (wb : (Lit.int .i64 b).wf = true) : ∃ k, petrinetlaw02_FracValids.f k a b = some true := ⟨20000000000000000000, by
  have ha := i64_of wa
  have hb := i64_of wb
  have h2 := abs_lt hb
  unfold petrinetlaw02_FracValids.f
  rw [pfloor_is a b ha hb _ (by omega), rfloor_is a b ha hb _ (by omega), Option.bind_some, Option.bind_some, pvalid_is a b ha hb _ (by omega), rvalid_is a b ha hb _ (by omega), Option.bind_some, Option.bind_some, if_pos (by simp), ptext_is a b ha hb _ (by omega), rtext_is a b ha hb _ (by omega), Option.bind_some, Option.bind_some, if_pos rfl, if_pos rfl, if_pos rfl, ex02 _ (by omega)]; rfl⟩
end Go.Proofs.YtkkmpdonmiblnaaDoorRRRR.Plain
