/- The statement SafeintSums about numbers: it holds of any two int64. No condition. -/
import Derived.Test.YtjkiekdkkempdaaPlain
namespace Go.Proofs.Ytjkiekdkkempdaa.Pure
open Go.RowKit Go.Proofs.Ytjkiekdkkempdaa.PAll Go.Proofs.YtjkiekdkkempdaaW.PrintWords Go.Proofs.YtjkiekdkkempdaaW.PrintLast
theorem SafeintSums : petrinetlaw01_SafeintSums.Pure := by
  intro a b ha hb
  exact ⟨62, Plain.sums_law a b (Plain.i64_of ha) (Plain.i64_of hb)⟩
end Go.Proofs.Ytjkiekdkkempdaa.Pure
