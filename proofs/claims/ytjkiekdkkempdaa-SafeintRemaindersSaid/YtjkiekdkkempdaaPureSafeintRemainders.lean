/- The statement SafeintRemainders about numbers: it holds of any two int64. No condition. -/
import Derived.Test.YtjkiekdkkempdaaPlain
namespace Go.Proofs.Ytjkiekdkkempdaa.Pure
open Go.RowKit Go.Proofs.Ytjkiekdkkempdaa.PAll Go.Proofs.YtjkiekdkkempdaaW.PrintWords Go.Proofs.YtjkiekdkkempdaaW.PrintLast
theorem SafeintRemainders : petrinetlaw01_SafeintRemainders.Pure := by
  intro a b ha hb
  exact ⟨60, Plain.remainders_law a b (Plain.i64_of ha) (Plain.i64_of hb)⟩
end Go.Proofs.Ytjkiekdkkempdaa.Pure
