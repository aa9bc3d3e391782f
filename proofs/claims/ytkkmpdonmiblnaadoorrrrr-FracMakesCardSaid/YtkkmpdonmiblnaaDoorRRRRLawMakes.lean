/- Plain laws over the printed functions: what each comes to. No condition but the ones written. -/
import Derived.Test.YtkkmpdonmiblnaaDoorRRRRPlainA
import Derived.Test.YtkkmpdonmiblnaaDoorRRRRPAlllFracMakes
namespace Go.Proofs.YtkkmpdonmiblnaaDoorRRRR.Plain
open Go Go.RowKit Go.Proofs.YtkkmpdonmiblnaaDoorRRRR.PAll Go.Proofs.YtkkmpdonmiblnaaDoorRRRRW.PrintWords Go.Proofs.YtkkmpdonmiblnaaDoorRRRRW.PrintLast Go.Proofs.YtkkmpdonmiblnaaDoorRRRRW.PrintMore
set_option linter.unusedVariables false
/-! ### the law of Make -/
theorem make_ok (a b : Int) (ha : I64 a) (hb : I64 b) (h : (makeV a b).2.2 = 0) : I64 (makeV a b).1 ∧ I64 (makeV a b).2.1 ∧ (makeV a b).2.1.natAbs ≤ 9223372036854775807 ∧ okF (makeV a b).1 (makeV a b).2.1 = true := by
  unfold makeV at h ⊢
  by_cases h0 : b = 0
  · rw [if_pos h0] at h; simp at h
  · rw [if_neg h0] at h ⊢
    have hg0 : 0 < Nat.gcd a.natAbs b.natAbs := Nat.gcd_pos_of_pos_right _ (by omega)
    have hc : Nat.gcd (a.natAbs / Nat.gcd a.natAbs b.natAbs) (b.natAbs / Nat.gcd a.natAbs b.natAbs) = 1 := Nat.coprime_div_gcd_div_gcd hg0
    have hy : 0 < b.natAbs / Nat.gcd a.natAbs b.natAbs := Nat.div_pos (Nat.gcd_le_right _ (by omega)) hg0
    generalize a.natAbs / Nat.gcd a.natAbs b.natAbs = x at *
    generalize b.natAbs / Nat.gcd a.natAbs b.natAbs = y at *
    unfold resV at h ⊢
    by_cases h1 : x > 9223372036854775807 ∨ y > 9223372036854775807
    · rw [if_pos h1] at h; simp at h
    · rw [if_neg h1]
      dsimp only
      have hx : (if (decide (a < 0) != decide (b < 0)) = true then -(x : Int) else (x : Int)).natAbs = x := by split <;> omega
      have hx2 : ¬ (if (decide (a < 0) != decide (b < 0)) = true then -(x : Int) else (x : Int)) = -9223372036854775808 := by split <;> omega
      refine ⟨?_, ?_, by omega, ?_⟩
      · unfold I64; split <;> omega
      · unfold I64; omega
      · unfold okF
        rw [hx, decide_eq_true (show (1 : Int) ≤ (y : Int) by omega), decide_eq_false hx2, Int.natAbs_natCast, decide_eq_true hc]; rfl
theorem FracMakes_pure (a : Int) (wa : (Lit.int .i64 a).wf = true) (b : Int) (wb : (Lit.int .i64 b).wf = true) : ∃ k, petrinetlaw02_FracMakes.f k a b = some true := ⟨20000000000000000000, by
  have ha := i64_of wa
  have hb := i64_of wb
  have h1 := abs_lt ha
  have h2 := abs_lt hb
  unfold petrinetlaw02_FracMakes.f
  rw [pmake_is a b ha hb _ (by omega), rmake_is a b ha hb _ (by omega), Option.bind_some, Option.bind_some, if_pos (by simp), if_pos rfl]
  by_cases h : (makeV a b).2.2 = 0
  · obtain ⟨p1, p2, p3, p4⟩ := make_ok a b ha hb h
    rw [if_pos h, pvalid_is _ _ p1 p2 _ (by omega), Option.bind_some, if_pos p4, ex02 _ (by omega)]; rfl
  · rw [if_neg h, ex02 _ (by omega)]; rfl⟩
end Go.Proofs.YtkkmpdonmiblnaaDoorRRRR.Plain
