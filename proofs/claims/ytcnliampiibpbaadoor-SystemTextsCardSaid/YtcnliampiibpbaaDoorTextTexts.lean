/- Plain laws over the printed functions: what each comes to. No condition but the ones written. -/
import Derived.Test.YtcnliampiibpbaaDoorPlainR
import Derived.Test.YtcnliampiibpbaaDoorPAlllSystemTexts
namespace Go.Proofs.YtcnliampiibpbaaDoor.Plain
open Go Go.RowKit Go.Proofs.YtcnliampiibpbaaDoor.PAll Go.Proofs.YtcnliampiibpbaaDoorW.PrintWords Go.Proofs.YtcnliampiibpbaaDoorW.PrintLast Go.Proofs.YtcnliampiibpbaaDoorW.PrintMore
set_option linter.unusedVariables false
abbrev WI (x : Int) : Prop := (Lit.int .i64 x).wf = true
abbrev WE (z : S46) : Prop := WI z.f0 ∧ WI z.f1 ∧ WI z.f2

theorem SystemTexts_pure (a : Int) (_ : WI a) (l : List ByteArray) (_ : l.length ≤ maxLen) (_ : ∀ z ∈ l, z.size ≤ maxLen) (l2 : List S46) (_ : l2.length ≤ maxLen) (_ : ∀ z ∈ l2, WE z) (t : ByteArray) (_ : t.size ≤ 140737488351232) : ∃ k, petrinetlaw45_SystemTexts.f k a l l2 t = some true := by
  refine Ev.rounds (g := fun k => petrinetlaw45_SystemTexts.f k a l l2 t) ?_
  have quit : ∀ j : Nat → Option Bool, (∀ k, j (k + 1) = (petrinetlaw45_alive.f k).bind fun t => some t) → Ev j true := fun j hj => Ev.step (f := fun k => (petrinetlaw45_alive.f k).bind fun t => some t) hj (Ev.bind alive_ev (Ev.now _))
  obtain ⟨b, h1, h2⟩ := few_ev a l l2
  unfold petrinetlaw45_SystemTexts.f
  refine Ev.bind h1 ?_
  by_cases c : b = true
  · obtain ⟨_, _, h3, _⟩ := h2 c
    simp only [if_pos c]
    by_cases d : (t.size : Int) > 2000
    · rw [decide_eq_true d]
      exact quit _ (fun k => by rw [petrinetlaw45_SystemTexts.j0, if_pos rfl])
    · rw [decide_eq_false d]
      refine Ev.step (f := fun k => (system_Text.f k a l l2).bind fun bt329 => ((petrinetref45_Text.f k a l l2).bind fun bt333 => (if bt329.1.toList = bt333.1.toList then (petrinetlaw45_SystemTexts.j1 k t (!(bt329.2.1 == bt333.2.1) || (!(bt329.2.2 == bt333.2.2)))) else (petrinetlaw45_SystemTexts.j1 k t true)))) (fun k => by rw [petrinetlaw45_SystemTexts.j0, if_neg (by simp)]) ?_
      refine Ev.bind (stext_ev (a, l, l2) (by simp only; omega)) (Ev.bind (rtext_ev (a, l, l2) (by simp only; omega)) ?_)
      simp only [if_true, beq_self_eq_true, Bool.not_true, Bool.or_self]
      refine Ev.step (f := fun k => (system_Parse.f k t).bind fun bt337 => ((petrinetref45_Parse.f k t).bind fun bt348 => ((petrinetref45_Same.f k bt337.1 bt337.2.1 bt337.2.2.1 bt348.1 bt348.2.1 bt348.2.2.1).bind fun t359 => (if t359 = true then (if (bt337.2.2.2.1 == bt348.2.2.2.1 && (bt337.2.2.2.2 == bt348.2.2.2.2)) = true then ((petrinetlaw45_alive.f k).bind fun t360 => (some t360)) else (some false)) else (some false))))) (fun k => by rw [petrinetlaw45_SystemTexts.j1, if_neg (by simp)]) ?_
      obtain ⟨h5, h6⟩ := parS_len t
      refine Ev.bind (sparse_ev t) (Ev.bind (rparse_ev t) (Ev.bind (samesys_ev _ _ _ h5 h6) ?_))
      simp only [if_true, beq_self_eq_true, Bool.and_self]
      exact Ev.bind alive_ev (Ev.now _)
  · simp only [if_neg c]
    exact quit _ (fun k => by rw [petrinetlaw45_SystemTexts.j0, if_pos rfl])
end Go.Proofs.YtcnliampiibpbaaDoor.Plain
