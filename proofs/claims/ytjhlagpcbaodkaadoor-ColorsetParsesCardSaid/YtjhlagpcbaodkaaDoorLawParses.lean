/- Plain laws over the printed functions: what each comes to. No condition but the ones written. -/
import Derived.Test.YtjhlagpcbaodkaaDoorPlainG
import Derived.Test.YtjhlagpcbaodkaaDoorPlainS
import Derived.Test.YtjhlagpcbaodkaaDoorPAlllColorsetParses
namespace Go.Proofs.YtjhlagpcbaodkaaDoor.Plain
open Go Go.RowKit Go.Proofs.YtjhlagpcbaodkaaDoor.PAll Go.Proofs.YtjhlagpcbaodkaaDoorW.PrintWords Go.Proofs.YtjhlagpcbaodkaaDoorW.PrintLast Go.Proofs.YtjhlagpcbaodkaaDoorW.PrintMore
set_option linter.unusedVariables false
/-! ### the laws -/
theorem pspec_len {c : ByteArray} {l : List ByteArray} {s : List UInt8} {R : List Int × Int} (h : PSpec c l s R) : R.1.length ≤ l.length := by
  rcases h with ⟨_, rfl⟩ | ⟨_, a, ha, _, rfl⟩ | ⟨_, _, rfl⟩
  · simp
  · rw [((okA_iff l a).mp ha).1]; omega
  · simp
theorem ColorsetParses_pure (c : ByteArray) (_ : c.size ≤ maxLen) (l : List ByteArray) (_ : l.length ≤ maxLen) (_ : ∀ z ∈ l, z.size ≤ maxLen) (s : ByteArray) (_ : s.size ≤ maxLen) : ∃ k, petrinetlaw39_ColorsetParses.f k c l s = some true := ⟨6000000, by
  have hsz := size_data s
  unfold petrinetlaw39_ColorsetParses.f
  simp only [petrinetlaw39_ColorsetParses.j0]
  rw [large_is, Option.bind_some]
  by_cases h : l.length > 40
  · rw [decide_eq_true h, if_pos rfl, if_pos trivial, ex_is _ (by omega)]; rfl
  · rw [decide_eq_false h, if_neg (by simp)]
    by_cases g : (s.size : Int) > 2000
    · rw [decide_eq_true g, if_pos rfl, ex_is _ (by omega)]; rfl
    · rw [decide_eq_false g, if_neg (by simp), ex_is _ (by omega)]
      obtain ⟨R, h1, h2⟩ := pparse_spec c l s.data.toList (by omega) 5999999 (by omega)
      obtain ⟨R', h3, h4⟩ := rparse_spec c l (by omega) s.data.toList (by omega) 5999999 (by omega)
      rw [mk_self] at h1 h3
      have e := pspec_unique (by omega) h2 h4
      subst e
      have hL := pspec_len h2
      rw [h1, h3, Option.bind_some, Option.bind_some, same_is _ _ (by omega) _ (by omega), Option.bind_some, decide_eq_true rfl, if_pos rfl, if_pos rfl]; rfl⟩
end Go.Proofs.YtjhlagpcbaodkaaDoor.Plain
