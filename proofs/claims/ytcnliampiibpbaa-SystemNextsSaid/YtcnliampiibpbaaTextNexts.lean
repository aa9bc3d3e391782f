/- Plain laws over the printed functions: what each comes to. No condition but the ones written. -/
import Derived.Test.YtcnliampiibpbaaPlainC
import Derived.Test.YtcnliampiibpbaaPAlllSystemNexts
namespace Go.Proofs.Ytcnliampiibpbaa.Plain
open Go Go.RowKit Go.Proofs.Ytcnliampiibpbaa.PAll Go.Proofs.YtcnliampiibpbaaW.PrintWords Go.Proofs.YtcnliampiibpbaaW.PrintLast Go.Proofs.YtcnliampiibpbaaW.PrintMore
set_option linter.unusedVariables false
abbrev WI (x : Int) : Prop := (Lit.int .i64 x).wf = true
abbrev WE (z : S44) : Prop := WI z.f0 ∧ WI z.f1 ∧ WI z.f2
theorem SystemNexts_pure (a : Int) (_ : WI a) (l : List ByteArray) (_ : l.length ≤ maxLen) (_ : ∀ z ∈ l, z.size ≤ maxLen) (l2 : List S44) (_ : l2.length ≤ maxLen) (_ : ∀ z ∈ l2, WE z) (s : Int) (_ : WI s) (e : Int) (_ : WI e) : ∃ k, petrinetlaw45_SystemNexts.f k a l l2 s e = some true := by
  refine Ev.rounds (g := fun k => petrinetlaw45_SystemNexts.f k a l l2 s e) ?_
  obtain ⟨b, h1, h2⟩ := few_ev a l l2
  unfold petrinetlaw45_SystemNexts.f
  refine Ev.bind h1 ?_
  by_cases c : b = true
  · obtain ⟨_, _, h3, _⟩ := h2 c
    simp only [if_pos c]
    refine Ev.bind (sNext_ev s e a l l2 (by omega)) (Ev.bind (rNext_ev s e a l l2 (by omega)) ?_)
    simp only [if_pos]
    exact Ev.bind alive_ev (Ev.now _)
  · simp only [if_neg c]
    exact Ev.bind alive_ev (Ev.now _)
end Go.Proofs.Ytcnliampiibpbaa.Plain
