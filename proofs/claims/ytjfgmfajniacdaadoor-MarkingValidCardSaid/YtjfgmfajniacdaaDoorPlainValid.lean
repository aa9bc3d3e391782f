/- Plain laws over the printed functions: what each comes to. No condition but the ones written. -/
import Derived.Test.YtjfgmfajniacdaaDoorPlainF
import Derived.Test.YtjfgmfajniacdaaDoorPlainU
import Derived.Test.YtjfgmfajniacdaaDoorPAllx5
namespace Go.Proofs.YtjfgmfajniacdaaDoor.Plain
open Go Go.RowKit Go.Proofs.YtjfgmfajniacdaaDoor.PAll Go.Proofs.YtjfgmfajniacdaaDoorW.PrintWords Go.Proofs.YtjfgmfajniacdaaDoorW.PrintLast Go.Proofs.YtjfgmfajniacdaaDoorW.PrintMore
set_option linter.unusedVariables false
/-! ### the law MarkingValid -/
theorem valid_law (k : Nat) (hk : 3000 ≤ k) (l : List Int) (a b : Int) (hl : AllI l) : petrinetlaw04_MarkingValid.f k l a b = some true := by
  have hA := alive_is k (by omega)
  unfold petrinetlaw04_MarkingValid.f
  by_cases h : (l.length : Int) > 60
  · rw [if_pos h, hA]; rfl
  · rw [if_neg h]
    obtain ⟨u, h1, h2, h3⟩ := unit_is a b
    rw [valid_is l a (by omega) k (by omega), rvalid_is l a (by omega) k (by omega), valid_is l _ (by omega) k (by omega), rvalid_is l _ (by omega) k (by omega), h1, h2]
    simp only [Option.bind_some]
    rw [if_pos (by simp), if_pos (by simp), same_is u u (by omega) k (by omega), Option.bind_some, if_pos (by simp), hA]; rfl
theorem MarkingValid_pure : petrinetlaw04_MarkingValid.Pure := fun l a b _ _ hl _ _ => ⟨3000, valid_law 3000 (Nat.le_refl _) l a b (allI_of hl)⟩
end Go.Proofs.YtjfgmfajniacdaaDoor.Plain
