/- Plain laws over the printed functions: what each comes to. No condition but the ones written. -/
import Derived.Test.YtcnliampiibpbaaDoorPlainD
import Derived.Test.YtcnliampiibpbaaDoorPAlllSystemBack
namespace Go.Proofs.YtcnliampiibpbaaDoor.Plain
open Go Go.RowKit Go.Proofs.YtcnliampiibpbaaDoor.PAll Go.Proofs.YtcnliampiibpbaaDoorW.PrintWords Go.Proofs.YtcnliampiibpbaaDoorW.PrintLast Go.Proofs.YtcnliampiibpbaaDoorW.PrintMore
set_option linter.unusedVariables false
abbrev WI (x : Int) : Prop := (Lit.int .i64 x).wf = true
abbrev WE (z : S46) : Prop := WI z.f0 ∧ WI z.f1 ∧ WI z.f2

theorem SystemBack_pure (a : Int) (_ : WI a) (l : List ByteArray) (_ : l.length ≤ maxLen) (_ : ∀ z ∈ l, z.size ≤ maxLen) (l2 : List S46) (_ : l2.length ≤ maxLen) (_ : ∀ z ∈ l2, WE z) (t : ByteArray) (_ : t.size ≤ 140737488351232) : ∃ k, petrinetlaw45_SystemBack.f k a l l2 t = some true := by
  refine Ev.rounds (g := fun k => petrinetlaw45_SystemBack.f k a l l2 t) ?_
  have quit : ∀ j : Nat → Option Bool, (∀ k, j (k + 1) = (petrinetlaw45_alive.f k).bind fun t => some t) → Ev j true := fun j hj => Ev.step (f := fun k => (petrinetlaw45_alive.f k).bind fun t => some t) hj (Ev.bind alive_ev (Ev.now _))
  have second : Ev (fun k => petrinetlaw45_SystemBack.j1 k t) true := by
    refine Ev.step (f := fun k => (system_Parse.f k t).bind fun bt380 => (if (bt380.2.2.2.1 == 0 && (bt380.2.2.2.2 == 0)) = true then ((system_Text.f k bt380.1 bt380.2.1 bt380.2.2.1).bind fun bt391 => (if (!(bt391.2.1 == 0) || (!(bt391.2.2 == 0))) = true then (some false) else (if bt391.1.toList = t.toList then ((petrinetlaw45_alive.f k).bind fun t395 => (some t395)) else (some false)))) else ((petrinetlaw45_alive.f k).bind fun t396 => (some t396)))) (fun k => by rw [petrinetlaw45_SystemBack.j1]) ?_
    refine Ev.bind (sparse_ev t) ?_
    by_cases c : ((parS t).2.2.2.1 == 0 && ((parS t).2.2.2.2 == 0)) = true
    · simp only [if_pos c]
      have c1 : (parS t).2.2.2.1 = 0 := beq_iff_eq.mp (Bool.and_eq_true_iff.mp c).1
      obtain ⟨h1, h2⟩ := parS_ok t c1
      obtain ⟨_, h3⟩ := parS_len t
      have h4 := stext_ev ((parS t).1, (parS t).2.1, (parS t).2.2.1) h3
      unfold txS at h4
      rw [if_pos h1, h2] at h4
      refine Ev.bind h4 ?_
      simp only [beq_self_eq_true, Bool.not_true, Bool.or_self, Bool.false_eq_true, if_false]
      rw [show mk (dl t) = t from mk_self t]
      simp only [if_true]
      exact Ev.bind alive_ev (Ev.now _)
    · simp only [if_neg c]
      exact Ev.bind alive_ev (Ev.now _)
  obtain ⟨b, h1, h2⟩ := few_ev a l l2
  unfold petrinetlaw45_SystemBack.f
  refine Ev.bind h1 ?_
  by_cases c : b = true
  · obtain ⟨_, hev, h3, _⟩ := h2 c
    simp only [if_pos c]
    by_cases d : (t.size : Int) > 2000
    · rw [decide_eq_true d]
      exact quit _ (fun k => by rw [petrinetlaw45_SystemBack.j0, if_pos rfl])
    · rw [decide_eq_false d]
      refine Ev.step (f := fun k => (system_Text.f k a l l2).bind fun bt364 => (if (bt364.2.1 == 0 && (bt364.2.2 == 0)) = true then ((system_Parse.f k bt364.1).bind fun bt368 => (if (!(bt368.2.2.2.1 == 0) || (!(bt368.2.2.2.2 == 0))) = true then (some false) else ((petrinetref45_Same.f k bt368.1 bt368.2.1 bt368.2.2.1 a l l2).bind fun t379 => (if t379 = true then (petrinetlaw45_SystemBack.j1 k t) else (some false))))) else (petrinetlaw45_SystemBack.j1 k t))) (fun k => by rw [petrinetlaw45_SystemBack.j0, if_neg (by simp)]) ?_
      refine Ev.bind (stext_ev (a, l, l2) (by simp only; omega)) ?_
      by_cases e : (ckS a l l2).1 = 0
      · have ht : txS (a, l, l2) = (mk (sysT (a, l, l2)), 0, 0) := by unfold txS; rw [if_pos e]
        rw [ht]
        simp only [beq_self_eq_true, Bool.and_self, if_true]
        have hp := sparse_ev (mk (sysT (a, l, l2)))
        rw [parS_print a l l2 e (by omega)] at hp
        refine Ev.bind hp ?_
        simp only [beq_self_eq_true, Bool.not_true, Bool.or_self, Bool.false_eq_true, if_false]
        refine Ev.bind (samesys_ev a l l2 (by omega) (by omega)) ?_
        simp only [if_true]
        exact second
      · have ht : txS (a, l, l2) = (⟨#[]⟩, (ckS a l l2).1, (ckS a l l2).2) := by unfold txS; rw [if_neg e]
        rw [ht]
        have e2 : ((ckS a l l2).1 == 0) = false := beq_eq_false_iff_ne.mpr e
        simp only [e2, Bool.false_and, Bool.false_eq_true, if_false]
        exact second
  · simp only [if_neg c]
    exact quit _ (fun k => by rw [petrinetlaw45_SystemBack.j0, if_pos rfl])
end Go.Proofs.YtcnliampiibpbaaDoor.Plain
