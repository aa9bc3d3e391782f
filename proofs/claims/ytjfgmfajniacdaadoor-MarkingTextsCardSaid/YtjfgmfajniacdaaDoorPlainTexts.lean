/- Plain laws over the printed functions: what each comes to. No condition but the ones written. -/
import Derived.Test.YtjfgmfajniacdaaDoorPlainF
import Derived.Test.YtjfgmfajniacdaaDoorPAllx3
namespace Go.Proofs.YtjfgmfajniacdaaDoor.Plain
open Go Go.RowKit Go.Proofs.YtjfgmfajniacdaaDoor.PAll Go.Proofs.YtjfgmfajniacdaaDoorW.PrintWords Go.Proofs.YtjfgmfajniacdaaDoorW.PrintLast Go.Proofs.YtjfgmfajniacdaaDoorW.PrintMore
set_option linter.unusedVariables false
/-! ### the law MarkingTexts -/
theorem texts_law (k : Nat) (hk : 1000300 ≤ k) (l : List Int) (s : ByteArray) (hl : AllI l) : petrinetlaw04_MarkingTexts.f (k + 1) l s = some true := by
  have hA := alive_is k (by omega)
  unfold petrinetlaw04_MarkingTexts.f
  by_cases h : (l.length : Int) > 60
  · rw [if_pos h]; simp only [petrinetlaw04_MarkingTexts.j0]; rw [if_pos trivial, hA]; rfl
  · rw [if_neg h]
    by_cases g : (s.size : Int) > 400
    · rw [decide_eq_true g]; simp only [petrinetlaw04_MarkingTexts.j0]; rw [if_pos trivial, hA]; rfl
    · rw [decide_eq_false g]; simp only [petrinetlaw04_MarkingTexts.j0]
      rw [if_neg (by simp), mparse_is s (by omega) k (by omega), Option.bind_some, refParse_is s (by omega) k (by omega), Option.bind_some, text_is l (by omega) hl k (by omega), Option.bind_some, rtext_is l (by omega) hl k (by omega), Option.bind_some, if_pos rfl, ← parse_both]
      have := parseM_len s.data.toList
      rw [same_is _ _ (by omega) k (by omega), Option.bind_some, if_pos (by simp), if_pos rfl, hA]; rfl
theorem MarkingTexts_pure : petrinetlaw04_MarkingTexts.Pure := fun l s _ _ hl _ => ⟨1000300 + 1, texts_law 1000300 (Nat.le_refl _) l s (allI_of hl)⟩
end Go.Proofs.YtjfgmfajniacdaaDoor.Plain
