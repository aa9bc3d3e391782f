/- The statement SafeintFactors about numbers: it holds of any two int64. No condition. -/
import Derived.Test.YtjkiekdkkempdaaPlain
namespace Go.Proofs.Ytjkiekdkkempdaa.Pure
open Go.RowKit Go.Proofs.Ytjkiekdkkempdaa.PAll Go.Proofs.YtjkiekdkkempdaaW.PrintWords Go.Proofs.YtjkiekdkkempdaaW.PrintLast
theorem SafeintFactors : petrinetlaw01_SafeintFactors.Pure := by
  intro a b ha hb
  exact ⟨b.natAbs + 100, Plain.factors_law a b (Plain.i64_of ha) (Plain.i64_of hb)⟩
end Go.Proofs.Ytjkiekdkkempdaa.Pure
