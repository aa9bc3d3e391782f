/- The statement SafeintDivides about numbers: it holds of any two int64. No condition. -/
import Derived.Test.YtjkiekdkkempdaaPlain
namespace Go.Proofs.Ytjkiekdkkempdaa.Pure
open Go.RowKit Go.Proofs.Ytjkiekdkkempdaa.PAll Go.Proofs.YtjkiekdkkempdaaW.PrintWords Go.Proofs.YtjkiekdkkempdaaW.PrintLast
theorem SafeintDivides : petrinetlaw01_SafeintDivides.Pure := by
  intro a b ha hb
  exact ⟨61, Plain.divides_law a b (Plain.i64_of ha) (Plain.i64_of hb)⟩
end Go.Proofs.Ytjkiekdkkempdaa.Pure
