/- Plain laws over the printed functions: what each comes to. No condition but the ones written. -/
import Derived.Test.YtjfgmfajniacdaaDoorPlainF
import Derived.Test.YtjfgmfajniacdaaDoorPlainT
import Derived.Test.YtjfgmfajniacdaaDoorPlainU
import Derived.Test.YtjfgmfajniacdaaDoorPAllx9
namespace Go.Proofs.YtjfgmfajniacdaaDoor.Plain
open Go Go.RowKit Go.Proofs.YtjfgmfajniacdaaDoor.PAll Go.Proofs.YtjfgmfajniacdaaDoorW.PrintWords Go.Proofs.YtjfgmfajniacdaaDoorW.PrintLast Go.Proofs.YtjfgmfajniacdaaDoorW.PrintMore
set_option linter.unusedVariables false
/-! ### the law MarkingOrders -/
theorem orders_law (k : Nat) (hk : 3000 ≤ k) (a b : List Int) : petrinetlaw04_MarkingOrders.f (k + 1) a b = some true := by
  have hA := alive_is k (by omega)
  unfold petrinetlaw04_MarkingOrders.f
  by_cases h : (a.length : Int) > 60
  · rw [if_pos h]; simp only [petrinetlaw04_MarkingOrders.j0]; rw [if_pos trivial, hA]; rfl
  · rw [if_neg h]
    by_cases g : (b.length : Int) > 60
    · rw [decide_eq_true g]; simp only [petrinetlaw04_MarkingOrders.j0]; rw [if_pos trivial, hA]; rfl
    · rw [decide_eq_false g]; simp only [petrinetlaw04_MarkingOrders.j0]
      rw [if_neg (by simp), total_is a (by omega) k (by omega), rtotal_is a (by omega) k (by omega), cmp_is a b (by omega) k (by omega), rcmp_is a b (by omega) k (by omega)]
      simp only [Option.bind_some]
      rw [if_pos trivial, if_pos trivial, hA]; rfl
theorem MarkingOrders_pure : petrinetlaw04_MarkingOrders.Pure := fun a b _ _ _ _ _ _ => ⟨3000 + 1, orders_law 3000 (Nat.le_refl _) a b⟩
end Go.Proofs.YtjfgmfajniacdaaDoor.Plain
