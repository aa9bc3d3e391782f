/- Plain laws over the printed functions: what each comes to. No condition but the ones written. -/
import Derived.Test.YtkkmpdonmiblnaaDoorRRRRPlainA
import Derived.Test.YtkkmpdonmiblnaaDoorRRRRPAllx9
import Derived.Test.YtkkmpdonmiblnaaDoorRRRRPAllx8
import Derived.Test.YtkkmpdonmiblnaaDoorRRRRPAlllFracOrders
namespace Go.Proofs.YtkkmpdonmiblnaaDoorRRRR.Plain
open Go Go.RowKit Go.Proofs.YtkkmpdonmiblnaaDoorRRRR.PAll Go.Proofs.YtkkmpdonmiblnaaDoorRRRRW.PrintWords Go.Proofs.YtkkmpdonmiblnaaDoorRRRRW.PrintLast Go.Proofs.YtkkmpdonmiblnaaDoorRRRRW.PrintMore
set_option linter.unusedVariables false
/-! ### products, the order -/
theorem times_l (n : Nat) : ∀ (k i b out step : Nat), i + n = 64 → b < 2 ^ n → out + step * b < 340282366920938463463374607431768211456 → n < k →
    petrinetref02_times.l0 k (b : Int) (i : Int) (hiN out) (loN out) (hiN step) (loN step) = some (hiN (out + step * b), loN (out + step * b)) := by
  induction n with
  | zero =>
    intro k i b out step hi hb hT hk
    obtain ⟨k, rfl⟩ := fuel (show 0 < k by omega)
    obtain rfl : b = 0 := by simpa using hb
    simp only [petrinetref02_times.l0]
    rw [if_neg (by omega), Nat.mul_zero, Nat.add_zero]
  | succ n ih =>
    intro k i b out step hi hb hT hk
    obtain ⟨k, rfl⟩ := fuel (show 0 < k by omega)
    have hn : n + 1 ≤ 64 := by omega
    have h64 : 2 ^ (n + 1) ≤ 18446744073709551616 := by
      have := Nat.pow_le_pow_right (show 0 < 2 by omega) hn
      exact this
    have hb2 : b / 2 < 2 ^ n := by rw [Nat.pow_succ] at hb; omega
    have e1 : IntKind.u64.wrap (Int.tdiv (b : Int) 2) = ((b / 2 : Nat) : Int) := by rw [show (2 : Int) = ((2 : Nat) : Int) from rfl, tdiv_nat, uw]; omega
    have e2 : Int.tmod (b : Int) 2 = ((b % 2 : Nat) : Int) := by rw [show (2 : Int) = ((2 : Nat) : Int) from rfl, tmod_nat]
    have hmod := Nat.mod_lt b (show 0 < 2 by omega)
    have hT2 : step * b = 2 * (step * (b / 2)) + step * (b % 2) := by
      have := Nat.div_add_mod b 2
      conv => lhs; rw [← this]
      rw [Nat.mul_add, Nat.mul_left_comm]
    have h2T : 2 * step * (b / 2) = 2 * (step * (b / 2)) := Nat.mul_assoc ..
    have hpos : 0 < b / 2 → step ≤ step * (b / 2) := fun h => Nat.le_mul_of_pos_right _ h
    simp only [petrinetref02_times.l0]
    rw [if_pos (by omega), e1, e2, wrap_succ i (by omega)]
    by_cases c : b % 2 = 1
    · rw [c, Nat.mul_one] at hT2
      rw [if_pos (by omega), plus_is out step (by omega), Option.bind_some]
      dsimp only
      by_cases g : b / 2 > 0
      · have := hpos g
        rw [if_pos (by omega), plus_is step step (by omega), Option.bind_some, show step + step = 2 * step by omega]
        dsimp only
        rw [ih k (i + 1) (b / 2) (out + step) (2 * step) (by omega) hb2 (by omega) (by omega), show out + step + 2 * step * (b / 2) = out + step * b by omega]
      · obtain hz : b / 2 = 0 := by omega
        rw [hz, Nat.mul_zero] at hT2
        rw [if_neg (by omega), hz, ih k (i + 1) 0 (out + step) step (by omega) (by omega) (by omega) (by omega), show out + step + step * 0 = out + step * b by omega]
    · have c0 : b % 2 = 0 := by omega
      rw [c0, Nat.mul_zero] at hT2
      rw [if_neg (by omega)]
      by_cases g : b / 2 > 0
      · have := hpos g
        rw [if_pos (by omega), plus_is step step (by omega), Option.bind_some, show step + step = 2 * step by omega]
        dsimp only
        rw [ih k (i + 1) (b / 2) out (2 * step) (by omega) hb2 (by omega) (by omega), show out + 2 * step * (b / 2) = out + step * b by omega]
      · obtain hz : b / 2 = 0 := by omega
        rw [hz, Nat.mul_zero] at hT2
        rw [if_neg (by omega), hz, ih k (i + 1) 0 out step (by omega) (by omega) (by omega) (by omega), show out + step * 0 = out + step * b by omega]
theorem times_is (a b : Nat) (ha : a < 18446744073709551616) (hb : b < 18446744073709551616) (k : Nat) (hk : 64 < k) : petrinetref02_times.f k (a : Int) (b : Int) = some (hiN (a * b), loN (a * b)) := by
  have h1 : a * b ≤ 18446744073709551615 * 18446744073709551615 := Nat.mul_le_mul (by omega) (by omega)
  unfold petrinetref02_times.f
  obtain ⟨x1, x2⟩ := wide_small a ha
  have := times_l 64 k 0 b 0 a (by omega) hb (by omega) hk
  rw [x1, x2, Nat.zero_add] at this
  exact this
theorem eq_of_cross {x y u v : Nat} (hx : Nat.gcd x u = 1) (hy : Nat.gcd y v = 1) (h : x * v = y * u) (hu : 0 < u) : x = y ∧ u = v := by
  have h1 : u ∣ v := (Nat.Coprime.dvd_of_dvd_mul_left (Nat.Coprime.symm hx) ⟨y, by rw [h, Nat.mul_comm]⟩)
  have h2 : v ∣ u := (Nat.Coprime.dvd_of_dvd_mul_left (Nat.Coprime.symm hy) ⟨x, by rw [← h, Nat.mul_comm]⟩)
  have e : u = v := Nat.dvd_antisymm h1 h2
  subst e
  exact ⟨Nat.eq_of_mul_eq_mul_right hu h, rfl⟩
theorem okF2 {a b : Int} (h : okF a b = true) : 1 ≤ b ∧ a ≠ -9223372036854775808 ∧ Nat.gcd a.natAbs b.natAbs = 1 := by
  unfold okF at h
  rw [Bool.and_eq_true, Bool.and_eq_true, decide_eq_true_iff, decide_eq_true_iff, Bool.not_eq_true', decide_eq_false_iff_not] at h
  exact ⟨h.1, h.2.1, h.2.2⟩
def cmpF (a b c d : Int) : Int × Int := if okF a b = true then (if okF c d = true then (cmpI (a * d) (c * b), 0) else (0, 1)) else (0, 1)
theorem pcmp_is (a b c d : Int) (ha : I64 a) (hb : I64 b) (hc : I64 c) (hd : I64 d) (k : Nat) (hk : b.natAbs + d.natAbs + 400 < k) : frac_Cmp.f k a b c d = some (cmpF a b c d) := by
  unfold frac_Cmp.f cmpF
  rw [pvalid_is a b ha hb k (by omega), pvalid_is c d hc hd k (by omega), Option.bind_some, Option.bind_some]
  have hX : safeint_Cross.f a d c b = some (cmpI (a * d) (c * b)) := by
    unfold I64 at ha hb hc hd
    unfold safeint_Cross.f
    rw [if_pos ⟨⟨ha, hd⟩, hc, hb⟩]
  rw [hX]
  by_cases h1 : okF a b = true
  · rw [if_pos h1, if_pos h1]
    by_cases h2 : okF c d = true
    · rw [if_pos h2, if_pos h2]; rfl
    · rw [if_neg h2, if_neg h2]
  · rw [if_neg h1, if_neg h1]
theorem abs_mul (x y : Int) (hx : 0 ≤ x) (hy : 0 ≤ y) : ((x.natAbs * y.natAbs : Nat) : Int) = x * y := by
  rw [Int.natCast_mul, Int.natAbs_of_nonneg hx, Int.natAbs_of_nonneg hy]
theorem abs_mul_neg (x y : Int) (hx : x < 0) (hy : 0 ≤ y) : ((x.natAbs * y.natAbs : Nat) : Int) = -(x * y) := by
  rw [Int.natCast_mul, Int.natAbs_of_nonneg hy, Int.ofNat_natAbs_of_nonpos (by omega), Int.neg_mul]
theorem rcmp_is (a b c d : Int) (ha : I64 a) (hb : I64 b) (hc : I64 c) (hd : I64 d) (k : Nat) (hk : b.natAbs + d.natAbs + 400 < k) : petrinetref02_Cmp.f k a b c d = some (cmpF a b c d) := by
  obtain ⟨k, rfl⟩ := fuel (show 0 < k by omega)
  unfold petrinetref02_Cmp.f cmpF
  simp only [petrinetref02_Cmp.j0]
  rw [rvalid_is a b ha hb _ (by omega), Option.bind_some]
  by_cases h1 : okF a b = true
  · rw [if_pos h1, if_pos h1, rvalid_is c d hc hd _ (by omega), Option.bind_some]
    by_cases h2 : okF c d = true
    · rw [h2, if_neg (show ¬ ((!true) = true) by simp), if_pos rfl]
      obtain ⟨p1, p2, p3⟩ := okF2 h1
      obtain ⟨q1, q2, q3⟩ := okF2 h2
      by_cases he : (a == c && (b == d)) = true
      · rw [if_pos he]
        rw [Bool.and_eq_true, beq_iff_eq, beq_iff_eq] at he
        obtain ⟨rfl, rfl⟩ := he
        unfold cmpI; rw [if_neg (by omega), if_neg (by omega)]
      · rw [if_neg he]
        have hA := abs_lt ha
        have hB := abs_lt hb
        have hC := abs_lt hc
        have hD := abs_lt hd
        have hbw : IntKind.u64.wrap b = (b.natAbs : Int) := by rw [uw]; unfold I64 at hb; omega
        have hdw : IntKind.u64.wrap d = (d.natAbs : Int) := by rw [uw]; unfold I64 at hd; omega
        by_cases hs : (decide (a < 0) != decide (c < 0)) = true
        · rw [if_pos hs]
          by_cases g : a < 0
          · have g2 : 0 ≤ c := by
              rw [decide_eq_true g] at hs
              have := hs
              simp at this; omega
            have m1 : a * d < 0 := Int.mul_neg_of_neg_of_pos g (by omega)
            have m2 : 0 ≤ c * b := Int.mul_nonneg g2 (by omega)
            rw [if_pos g]; unfold cmpI; rw [if_pos (by omega)]
          · have g2 : c < 0 := by
              rw [decide_eq_false g] at hs
              simpa using hs
            have m1 : 0 ≤ a * d := Int.mul_nonneg (by omega) (by omega)
            have m2 : c * b < 0 := Int.mul_neg_of_neg_of_pos g2 (by omega)
            rw [if_neg g]; unfold cmpI; rw [if_neg (by omega), if_pos (by omega)]
        · rw [if_neg hs, rsize_is ha, Option.bind_some, hdw, times_is a.natAbs d.natAbs (by omega) (by omega) k (by omega), Option.bind_some, rsize_is hc, Option.bind_some, hbw, times_is c.natAbs b.natAbs (by omega) (by omega) k (by omega), Option.bind_some]
          dsimp only
          rw [less_is, Option.bind_some]
          by_cases g : a < 0
          · have g2 : c < 0 := by
              rw [decide_eq_true g] at hs
              simpa using hs
            have n1 := abs_mul_neg a d g (by omega)
            have n2 := abs_mul_neg c b g2 (by omega)
            have hne : a.natAbs * d.natAbs ≠ c.natAbs * b.natAbs := by
              intro e
              obtain ⟨e1, e2⟩ := eq_of_cross p3 q3 e (by omega)
              apply he
              rw [Bool.and_eq_true, beq_iff_eq, beq_iff_eq]
              omega
            generalize a.natAbs * d.natAbs = X at *
            generalize c.natAbs * b.natAbs = Y at *
            generalize a * d = P at *
            generalize c * b = Q at *
            rw [decide_eq_true g]
            unfold cmpI
            by_cases z : X < Y
            · rw [decide_eq_true z, if_neg (by simp), if_neg (by omega), if_pos (by omega)]
            · rw [decide_eq_false z, if_pos (by simp), if_pos (by omega)]
          · have g2 : ¬ c < 0 := by
              rw [decide_eq_false g] at hs
              simpa using hs
            have n1 := abs_mul a d (by omega) (by omega)
            have n2 := abs_mul c b (by omega) (by omega)
            have hne : a.natAbs * d.natAbs ≠ c.natAbs * b.natAbs := by
              intro e
              obtain ⟨e1, e2⟩ := eq_of_cross p3 q3 e (by omega)
              apply he
              rw [Bool.and_eq_true, beq_iff_eq, beq_iff_eq]
              omega
            generalize a.natAbs * d.natAbs = X at *
            generalize c.natAbs * b.natAbs = Y at *
            generalize a * d = P at *
            generalize c * b = Q at *
            rw [decide_eq_false g]
            unfold cmpI
            by_cases z : X < Y
            · rw [decide_eq_true z, if_pos (by simp), if_pos (by omega)]
            · rw [decide_eq_false z, if_neg (by simp), if_neg (by omega), if_pos (by omega)]
    · have h2' : okF c d = false := Bool.eq_false_iff.mpr h2
      rw [h2', if_pos (show (!false) = true from rfl), if_neg (by simp)]
  · rw [if_neg h1, if_neg h1, if_pos trivial]
theorem FracOrders_pure (a : Int) (wa : (Lit.int .i64 a).wf = true) (b : Int) (wb : (Lit.int .i64 b).wf = true) (c : Int) (wc : (Lit.int .i64 c).wf = true) (d : Int) (wd : (Lit.int .i64 d).wf = true) : ∃ k, petrinetlaw02_FracOrders.f k a b c d = some true := ⟨40000000000000000000, by
  have ha := i64_of wa
  have hb := i64_of wb
  have hc := i64_of wc
  have hd := i64_of wd
  have h2 := abs_lt hb
  have h3 := abs_lt hd
  unfold petrinetlaw02_FracOrders.f
  rw [pcmp_is a b c d ha hb hc hd _ (by omega), rcmp_is a b c d ha hb hc hd _ (by omega), Option.bind_some, Option.bind_some, if_pos rfl, if_pos rfl, ex02 _ (by omega)]; rfl⟩
end Go.Proofs.YtkkmpdonmiblnaaDoorRRRR.Plain
