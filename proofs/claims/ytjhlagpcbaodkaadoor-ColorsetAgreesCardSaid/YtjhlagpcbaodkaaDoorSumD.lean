/- Plain laws over the printed functions: what each comes to. No condition but the ones written. -/
import Derived.Test.YtjhlagpcbaodkaaDoorSumA
import Derived.Test.YtjhlagpcbaodkaaDoorPSumx7
import Derived.Test.YtjhlagpcbaodkaaDoorPSumx1
namespace Go.Proofs.YtjhlagpcbaodkaaDoor.PlainS
open Go Go.RowKit Go.Proofs.YtjhlagpcbaodkaaDoor.PSum Go.Proofs.YtjhlagpcbaodkaaDoorW.PrintWords Go.Proofs.YtjhlagpcbaodkaaDoorW.PrintLast Go.Proofs.YtjhlagpcbaodkaaDoorW.PrintMore
set_option linter.unusedVariables false
/-! ### colorset.Shift -/
theorem tmod_small {a n : Int} (h0 : 0 ≤ a) (h1 : a < n) : Int.tmod a n = a := Int.tmod_eq_of_lt h0 h1
theorem tmod_neg_small {a n : Int} (h0 : a < 0) (h1 : -n < a) : Int.tmod a n = a := by
  have := Int.tmod_eq_of_lt (a := -a) (b := n) (by omega) (by omega)
  rw [Int.neg_tmod] at this; omega
theorem tmod_one {a n : Int} (h0 : n ≤ a) (h1 : a < 2 * n) : Int.tmod a n = a - n := by
  have h2 := Int.mul_tdiv_add_tmod a n
  have h3 := Int.tmod_nonneg n (show 0 ≤ a by omega)
  have h4 := Int.tmod_lt_of_pos a (show 0 < n by omega)
  have h5 : Int.tdiv a n = 1 := by
    rw [Int.tdiv_eq_ediv_of_nonneg (by omega)]
    rw [show a = (a - n) + 1 * n by omega, Int.add_mul_ediv_right _ _ (by omega), Int.ediv_eq_zero_of_lt (by omega) (by omega)]; rfl
  rw [h5] at h2; omega
def shV (n i by_ : Int) : Int := if i < 0 ∨ i ≥ n then -1 else if Int.tmod by_ n < 0 then (if i + Int.tmod by_ n + n < n then i + Int.tmod by_ n + n else i + Int.tmod by_ n) else if i + Int.tmod by_ n < n then i + Int.tmod by_ n else i + Int.tmod by_ n - n
theorem shift_bounds (n b : Int) (hn : 0 < n) : -n < Int.tmod b n ∧ Int.tmod b n < n := by
  have h4 := Int.tmod_lt_of_pos b hn
  refine ⟨?_, h4⟩
  have h5 := Int.tmod_lt_of_pos (-b) hn
  rw [Int.neg_tmod] at h5; omega
theorem pshift_is (c : ByteArray) (l : List ByteArray) (hl : l.length ≤ 1000000) (i b : Int) : colorset_Shift.f c l i b = some (shV l.length i b) := by
  unfold colorset_Shift.f shV
  by_cases h1 : i < 0
  · rw [if_pos h1, if_pos (.inl h1)]
  · rw [if_neg h1]
    by_cases h2 : i ≥ (l.length : Int)
    · rw [if_pos h2, if_pos (.inr h2)]
    · rw [if_neg h2, if_neg (show ¬ (l.length : Int) = 0 by omega), if_neg (show ¬ (i < 0 ∨ i ≥ (l.length : Int)) by omega)]
      have hl' : (l.length : Int) ≤ 1000000 := by omega
      obtain ⟨q1, q2⟩ := shift_bounds (l.length : Int) b (by omega)
      generalize Int.tmod b (l.length : Int) = r at *
      generalize (l.length : Int) = n at *
      rw [wrap_id (i + r) (by omega)]
      congr 1
      by_cases c1 : r < 0
      · rw [if_pos c1]
        by_cases c2 : i + r < 0
        · rw [if_pos (by omega), tmod_neg_small c2 (by omega), wrap_id _ (by omega), tmod_small (by omega) (by omega)]
        · rw [if_neg (by omega), tmod_small (show 0 ≤ i + r by omega) (by omega), wrap_id _ (by omega), tmod_one (by omega) (by omega)]; omega
      · rw [if_neg c1]
        by_cases c2 : i + r < n
        · rw [if_pos c2, tmod_small (show 0 ≤ i + r by omega) c2, wrap_id _ (by omega), tmod_one (by omega) (by omega)]; omega
        · rw [if_neg c2, tmod_one (show n ≤ i + r by omega) (by omega), wrap_id _ (by omega), tmod_one (by omega) (by omega)]; omega
theorem large_is (c : ByteArray) (l : List ByteArray) : petrinetlaw39_large.f c l = some (decide (l.length > 40)) := by
  unfold petrinetlaw39_large.f
  congr 1; exact decide_eq_decide.mpr (by omega)
end Go.Proofs.YtjhlagpcbaodkaaDoor.PlainS
