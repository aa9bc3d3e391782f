/- Plain laws over the printed functions: what each comes to. No condition but the ones written. -/
import Derived.Test.YtcnliampiibpbaaPlainF
import Derived.Test.YtcnliampiibpbaaPAllx9
import Derived.Test.YtcnliampiibpbaaPAlllSystemIso
namespace Go.Proofs.Ytcnliampiibpbaa.Plain
open Go Go.RowKit Go.Proofs.Ytcnliampiibpbaa.PAll Go.Proofs.YtcnliampiibpbaaW.PrintWords Go.Proofs.YtcnliampiibpbaaW.PrintLast Go.Proofs.YtcnliampiibpbaaW.PrintMore
set_option linter.unusedVariables false
theorem same_l (a : List Int) (hl : a.length ≤ 1000000) (n : Nat) : ∀ i : Nat, a.length - i = n → i ≤ a.length → Ev (fun k => petrinetref04_Same.l0 k a a (i : Int)) true := by
  induction n with
  | zero =>
    intro i hn hi
    exact Ev.step (f := fun _ => some true) (fun k => by rw [petrinetref04_Same.l0, if_neg (by omega)]) (Ev.now _)
  | succ n ih =>
    intro i hn hi
    exact Ev.step (f := fun k => petrinetref04_Same.l0 k a a ((i + 1 : Nat) : Int)) (fun k => by rw [petrinetref04_Same.l0, if_pos (by omega), if_pos (by omega), if_pos (by omega), if_pos rfl, wrap_succ i (by omega)]) (ih (i + 1) (by omega) (by omega))
theorem same_ev (a : List Int) (hl : a.length ≤ 1000000) : Ev (fun k => petrinetref04_Same.f k a a) true := by
  unfold petrinetref04_Same.f
  simp only [if_true]
  exact same_l a hl _ 0 rfl (by omega)
theorem SystemIso_pure (a : Int) (_ : (Lit.int .i64 a).wf = true) (l : List ByteArray) (_ : l.length ≤ maxLen) (_ : ∀ z ∈ l, z.size ≤ maxLen) (l2 : List S44) (_ : l2.length ≤ maxLen) (_ : ∀ z ∈ l2, (Lit.int .i64 z.f0).wf = true ∧ (Lit.int .i64 z.f1).wf = true ∧ (Lit.int .i64 z.f2).wf = true)
    (b : Int) (_ : (Lit.int .i64 b).wf = true) (m : List ByteArray) (_ : m.length ≤ maxLen) (_ : ∀ z ∈ m, z.size ≤ maxLen) (m2 : List S44) (_ : m2.length ≤ maxLen) (_ : ∀ z ∈ m2, (Lit.int .i64 z.f0).wf = true ∧ (Lit.int .i64 z.f1).wf = true ∧ (Lit.int .i64 z.f2).wf = true) : ∃ k, petrinetlaw45_SystemIso.f k a l l2 b m m2 = some true := by
  refine Ev.rounds (g := fun k => petrinetlaw45_SystemIso.f k a l l2 b m m2) ?_
  have no : Ev (fun k => petrinetlaw45_SystemIso.j0 k true a l l2 b m m2) true := Ev.step (f := fun k => (petrinetlaw45_alive.f k).bind fun t => some t) (fun k => by rw [petrinetlaw45_SystemIso.j0, if_pos rfl]) (Ev.bind alive_ev (Ev.now _))
  obtain ⟨x, h1, h2⟩ := few_ev a l l2
  obtain ⟨y, h3, h4⟩ := few_ev b m m2
  unfold petrinetlaw45_SystemIso.f
  refine Ev.bind h1 ?_
  by_cases c : x = true
  · simp only [if_pos c]
    refine Ev.bind h3 ?_
    by_cases d : y = true
    · subst d
      obtain ⟨_, _, q1, _⟩ := h2 c
      obtain ⟨_, _, q2, _⟩ := h4 rfl
      obtain ⟨R, r1, r2, r3⟩ := iso_both a l l2 b m m2 (by omega) (by omega)
      have hlen : R.1.length ≤ 1000000 := by
        rcases r3 with ⟨s, ⟨_, h, _, _, e⟩ | ⟨e, _⟩⟩ | ⟨_, e⟩
        · have := (va_of s.va.1).hi
          rw [e]; unfold imgOf; rw [List.length_map, List.length_range]; omega
        · rw [e]; simp
        · rw [e]; simp
      refine Ev.step (f := fun k => (system_Iso.f k a l l2 b m m2).bind fun bt361 => ((petrinetref45_Iso.f k a l l2 b m m2).bind fun bt365 => (if (bt361.2 == bt365.2) = true then ((petrinetref04_Same.f k bt361.1 bt365.1).bind fun t369 => (if t369 = true then ((petrinetlaw45_alive.f k).bind fun t370 => (some t370)) else (some false))) else (some false)))) (fun k => by rw [petrinetlaw45_SystemIso.j0]; simp) ?_
      refine Ev.bind r1 (Ev.bind r2 ?_)
      simp only [beq_self_eq_true, if_true]
      refine Ev.bind (same_ev R.1 hlen) ?_
      simp only [if_true]
      exact Ev.bind alive_ev (Ev.now _)
    · have : y = false := Bool.eq_false_iff.mpr d
      subst this
      exact no
  · simp only [if_neg c]
    exact no
end Go.Proofs.Ytcnliampiibpbaa.Plain
