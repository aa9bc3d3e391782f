/- Plain laws over the printed functions: what each comes to. No condition but the ones written. -/
import Derived.Test.YtjfgmfajniacdaaDoorPlainF
import Derived.Test.YtjfgmfajniacdaaDoorPlainU
import Derived.Test.YtjfgmfajniacdaaDoorPAllx9
namespace Go.Proofs.YtjfgmfajniacdaaDoor.Plain
open Go Go.RowKit Go.Proofs.YtjfgmfajniacdaaDoor.PAll Go.Proofs.YtjfgmfajniacdaaDoorW.PrintWords Go.Proofs.YtjfgmfajniacdaaDoorW.PrintLast Go.Proofs.YtjfgmfajniacdaaDoorW.PrintMore
set_option linter.unusedVariables false
/-! ### the law MarkingTotal -/
theorem cmpL_leq : ∀ a b : List Int, leqL a b = true → cmpL a b ≤ 0
  | [], [], _ => by simp [cmpL]
  | [], y :: b, h => by simp [leqL] at h
  | x :: a, [], h => by simp [leqL] at h
  | x :: a, y :: b, h => by
    rw [leqL_cons] at h
    have := cmpL_leq a b h.2
    rw [cmpL]
    split
    · omega
    · split <;> omega
theorem tot_j2 (k : Nat) (hk : 3000 ≤ k) (a b c : List Int) (ha : a.length ≤ 30) (hb : b.length ≤ 30) : petrinetlaw04_MarkingTotal.j2 (k + 1) a b c (cmpL a b) false = some true := by
  have hA := alive_is k (by omega)
  simp only [petrinetlaw04_MarkingTotal.j2]
  rw [if_neg (by simp), cmp_is b c (by omega) k (by omega), cmp_is a c (by omega) k (by omega)]
  simp only [Option.bind_some, hA]
  by_cases h : cmpL a b > 0
  · rw [if_pos h]
  · rw [if_neg h]
    by_cases g : cmpL b c > 0
    · rw [if_pos g]
    · rw [if_neg g, if_pos (cmpL_trans a b c (by omega) (by omega))]
theorem tot_j1 (k : Nat) (hk : 3000 ≤ k) (a b c : List Int) (ha : a.length ≤ 30) (hb : b.length ≤ 30) : petrinetlaw04_MarkingTotal.j1 (k + 2) a b c (cmpL a b) false = some true := by
  show petrinetlaw04_MarkingTotal.j1 ((k + 1) + 1) _ _ _ _ _ = _
  have J := tot_j2 k hk a b c ha hb
  simp only [petrinetlaw04_MarkingTotal.j1]
  rw [if_neg (by simp), leq_is a b (by omega) _ (by omega), Option.bind_some]
  cases e : leqL a b with
  | false => rw [if_neg (by simp), J]
  | true => rw [if_pos rfl, decide_eq_false (by have := cmpL_leq a b e; omega), J]
theorem total_law (k : Nat) (hk : 3000 ≤ k) (a b c : List Int) : petrinetlaw04_MarkingTotal.f (k + 3) a b c = some true := by
  have hA := alive_is (k + 2) (by omega)
  have hT : petrinetlaw04_MarkingTotal.j0 (k + 3) a b c true = some true := by
    show petrinetlaw04_MarkingTotal.j0 ((k + 2) + 1) _ _ _ _ = _
    simp only [petrinetlaw04_MarkingTotal.j0]; rw [if_pos trivial, hA]; rfl
  unfold petrinetlaw04_MarkingTotal.f
  by_cases h : (a.length : Int) > 30
  · rw [if_pos h, hT]
  · rw [if_neg h]
    by_cases g : (b.length : Int) > 30
    · rw [if_pos g, hT]
    · rw [if_neg g]
      by_cases f : (c.length : Int) > 30
      · rw [decide_eq_true f, hT]
      · rw [decide_eq_false f]
        have J := tot_j1 k hk a b c (by omega) (by omega)
        show petrinetlaw04_MarkingTotal.j0 ((k + 2) + 1) _ _ _ _ = _
        simp only [petrinetlaw04_MarkingTotal.j0]
        rw [if_neg (by simp), cmp_is a b (by omega) _ (by omega), cmp_is b a (by omega) _ (by omega), cmp_is a a (by omega) _ (by omega), same_is a b (by omega) _ (by omega)]
        simp only [Option.bind_some]
        have r := cmpL_range a b
        rw [if_neg (by omega), if_neg (by omega), wrap_id _ (by omega), if_pos (cmpL_anti a b)]
        have z := cmpL_zero a b
        have z0 : cmpL a a = 0 := (cmpL_zero a a).mpr rfl
        rw [if_neg, z0]
        · exact J
        · intro e
          by_cases q : a = b
          · rw [decide_eq_true q, z.mpr q] at e; simp at e
          · rw [decide_eq_false q] at e
            have : cmpL a b ≠ 0 := fun w => q (z.mp w)
            simp [this] at e
theorem MarkingTotal_pure : petrinetlaw04_MarkingTotal.Pure := fun a b c _ _ _ _ _ _ _ _ _ => ⟨3000 + 3, total_law 3000 (Nat.le_refl _) a b c⟩
end Go.Proofs.YtjfgmfajniacdaaDoor.Plain
