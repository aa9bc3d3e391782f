/- Plain laws over the printed functions: what each comes to. No condition but the ones written. -/
import Derived.Test.YtjfgmfajniacdaaDoorPlainF
import Derived.Test.YtjfgmfajniacdaaDoorPAllx6
namespace Go.Proofs.YtjfgmfajniacdaaDoor.Plain
open Go Go.RowKit Go.Proofs.YtjfgmfajniacdaaDoor.PAll Go.Proofs.YtjfgmfajniacdaaDoorW.PrintWords Go.Proofs.YtjfgmfajniacdaaDoorW.PrintLast Go.Proofs.YtjfgmfajniacdaaDoorW.PrintMore
set_option linter.unusedVariables false
/-! ### the law MarkingBounds -/
theorem bounds_law (k : Nat) (hk : 3000 ≤ k) (a b : List Int) : petrinetlaw04_MarkingBounds.f (k + 1) a b = some true := by
  have hA := alive_is k (by omega)
  unfold petrinetlaw04_MarkingBounds.f
  by_cases h : (a.length : Int) > 60
  · rw [if_pos h]; simp only [petrinetlaw04_MarkingBounds.j0]; rw [if_pos trivial, hA]; rfl
  · rw [if_neg h]
    by_cases g : (b.length : Int) > 60
    · rw [decide_eq_true g]; simp only [petrinetlaw04_MarkingBounds.j0]; rw [if_pos trivial, hA]; rfl
    · rw [decide_eq_false g]; simp only [petrinetlaw04_MarkingBounds.j0]
      have z1 := zipG_len mx a b
      have z2 := zipG_len mn a b
      rw [if_neg (by simp), leq_is a b (by omega) k (by omega), rleq_is a b (by omega) k (by omega), Max_is a b (by omega) k (by omega), rMax_is a b (by omega) k (by omega), Min_is a b (by omega) k (by omega), rMin_is a b (by omega) k (by omega)]
      simp only [Option.bind_some]
      rw [if_pos (by simp), same_is _ _ (by omega) k (by omega), Option.bind_some, if_pos (by simp), same_is _ _ (by omega) k (by omega), Option.bind_some, if_pos (by simp), hA]; rfl
theorem MarkingBounds_pure : petrinetlaw04_MarkingBounds.Pure := fun a b _ _ _ _ _ _ => ⟨3000 + 1, bounds_law 3000 (Nat.le_refl _) a b⟩
end Go.Proofs.YtjfgmfajniacdaaDoor.Plain
