/- Plain laws over the printed functions: what each comes to. No condition but the ones written. -/
import Derived.Test.YtcnliampiibpbaaPlainD
import Derived.Test.YtcnliampiibpbaaPAlllSystemChecks
namespace Go.Proofs.Ytcnliampiibpbaa.Plain
open Go Go.RowKit Go.Proofs.Ytcnliampiibpbaa.PAll Go.Proofs.YtcnliampiibpbaaW.PrintWords Go.Proofs.YtcnliampiibpbaaW.PrintLast Go.Proofs.YtcnliampiibpbaaW.PrintMore
set_option linter.unusedVariables false
theorem SystemChecks_pure (a : Int) (_ : (Lit.int .i64 a).wf = true) (l : List ByteArray) (_ : l.length ≤ maxLen) (_ : ∀ z ∈ l, z.size ≤ maxLen) (l2 : List S44) (_ : l2.length ≤ maxLen) (_ : ∀ z ∈ l2, (Lit.int .i64 z.f0).wf = true ∧ (Lit.int .i64 z.f1).wf = true ∧ (Lit.int .i64 z.f2).wf = true) : ∃ k, petrinetlaw45_SystemChecks.f k a l l2 = some true := by
  refine Ev.rounds (g := fun k => petrinetlaw45_SystemChecks.f k a l l2) ?_
  obtain ⟨b, h1, h2⟩ := few_ev a l l2
  unfold petrinetlaw45_SystemChecks.f
  refine Ev.bind h1 ?_
  by_cases c : b = true
  · obtain ⟨_, _, h3, _⟩ := h2 c
    have hl : l2.length ≤ 1000000 := by omega
    obtain ⟨r, h4, h5, _⟩ := reachable_both a l l2 hl
    simp only [if_pos c]
    refine Ev.bind (scheck_ev a l l2 hl) (Ev.bind (rcheck_ev a l l2 hl) ?_)
    simp only [beq_self_eq_true, Bool.and_self, if_true]
    refine Ev.bind (sdet_ev a l l2 hl) (Ev.bind (rdet_ev a l l2 hl) ?_)
    simp only [beq_self_eq_true, if_true]
    refine Ev.bind h4 (Ev.bind h5 ?_)
    simp only [beq_self_eq_true, if_true]
    exact Ev.bind alive_ev (Ev.now _)
  · simp only [if_neg c]
    exact Ev.bind alive_ev (Ev.now _)
end Go.Proofs.Ytcnliampiibpbaa.Plain
