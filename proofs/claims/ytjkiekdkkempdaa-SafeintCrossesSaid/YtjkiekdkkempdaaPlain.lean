/- The plain laws of chapter 1: what the printed functions of safeint and its reference come to. -/
import Derived.Test.YtjkiekdkkempdaaPAllx7
import Derived.OpenShut
namespace Go.Proofs.Ytjkiekdkkempdaa.Plain
open Go.RowKit Go.Proofs.Ytjkiekdkkempdaa.PAll Go.Proofs.YtjkiekdkkempdaaW.PrintWords Go.Proofs.YtjkiekdkkempdaaW.PrintLast

def I64 (a : Int) : Prop := -9223372036854775808 ≤ a ∧ a < 9223372036854775808
theorem i64_of {a : Int} (h : (Lit.int .i64 a).wf = true) : I64 a := by have := bounds_i64 h; unfold I64; omega
theorem signed_k (n : Int) (neg : Bool) (h0 : 0 ≤ n) (h1 : n < 18446744073709551616) (k : Nat) (hk : 2 ≤ k) :
    safeint_signed.f k n neg = some (if neg = true then (if n ≤ 9223372036854775808 then (-n, true) else (0, false)) else if n ≤ 9223372036854775807 then (n, true) else (0, false)) :=
  at_rounds (fun k => safeint_signed.mono n neg k) hk (safeint_signed.is n neg h0 h1)
theorem narrow_k (neg : Bool) (hi lo : Int) (h1 : 0 ≤ hi) (h2 : 0 ≤ lo) (h3 : lo < 18446744073709551616) (k : Nat) (hk : 1 ≤ k) :
    petrinetref01_Narrow.f k neg hi lo = some (if hi = 0 ∧ (lo ≤ 9223372036854775807 ∨ lo = 9223372036854775808 ∧ neg = true) then (if neg = true then -lo else lo, true) else (0, false)) := by
  obtain ⟨k, rfl⟩ : ∃ m, k = m + 1 := ⟨k - 1, by omega⟩
  unfold petrinetref01_Narrow.f
  by_cases c1 : hi > 0
  · rw [if_pos c1]; simp only [petrinetref01_Narrow.j0, if_true]; rw [if_neg (by omega)]
  · rw [if_neg c1]
    by_cases c2 : lo > 9223372036854775808
    · rw [if_pos c2]; simp only [petrinetref01_Narrow.j0, if_true]; rw [if_neg (by omega)]
    · rw [if_neg c2]
      by_cases c3 : lo = 9223372036854775808
      · rw [if_pos c3]; subst c3
        cases neg
        · rw [if_neg (by simp)]; rfl
        · rw [if_pos (by simp; omega)]; rfl
      · rw [if_neg c3]
        have c4 : hi = 0 ∧ (lo ≤ 9223372036854775807 ∨ lo = 9223372036854775808 ∧ neg = true) := ⟨by omega, .inl (by omega)⟩
        rw [if_pos c4]
        simp only [petrinetref01_Narrow.j0, Bool.false_eq_true, if_false]
        rw [if_neg c3]
        cases neg
        · simp only [Bool.false_eq_true, if_false]; unfold wrap64; rw [show (lo + 9223372036854775808) % 18446744073709551616 - 9223372036854775808 = lo by omega]
        · simp only [if_true]; unfold wrap64; rw [show (-((lo + 9223372036854775808) % 18446744073709551616 - 9223372036854775808) + 9223372036854775808) % 18446744073709551616 - 9223372036854775808 = -lo by omega]

/-! greatest common divisor and least common multiple -/
def gcdR (a b : Int) : Int × Bool := if (Nat.gcd a.natAbs b.natAbs : Int) ≤ 9223372036854775807 then ((Nat.gcd a.natAbs b.natAbs : Int), true) else (0, false)
def lcmR (a b : Int) : Int × Bool := if a = 0 ∨ b = 0 then (0, true) else if ((a.natAbs / Nat.gcd a.natAbs b.natAbs * b.natAbs : Nat) : Int) ≤ 9223372036854775807 then (((a.natAbs / Nat.gcd a.natAbs b.natAbs * b.natAbs : Nat) : Int), true) else (0, false)
theorem gcd_le (a b : Int) (ha : I64 a) (hb : I64 b) : (Nat.gcd a.natAbs b.natAbs : Int) < 18446744073709551616 := by
  unfold I64 at *
  by_cases h : a.natAbs = 0
  · rw [h, Nat.gcd_zero_left]; omega
  · have := Nat.gcd_le_left b.natAbs (show 0 < a.natAbs by omega); omega
theorem Gcd_is (a b : Int) (ha : I64 a) (hb : I64 b) (k : Nat) (hk : b.natAbs + 1 < k) : safeint_Gcd.f k a b = some (gcdR a b) := by
  have hl := gcd_le a b ha hb
  unfold safeint_Gcd.f
  rw [safeint_size.is a ha.1 ha.2, safeint_size.is b hb.1 hb.2]
  simp only [Option.bind_some]
  rw [safeint_common.is _ _ k (by omega)]
  simp only [Option.bind_some]
  rw [signed_k _ _ (by omega) hl k (by omega)]
  unfold gcdR
  simp
theorem refGcd_is (a b : Int) (ha : I64 a) (hb : I64 b) (k : Nat) (hk : b.natAbs + 1 < k) : petrinetref01_Gcd.f k a b = some (gcdR a b) := by
  have hl := gcd_le a b ha hb
  unfold petrinetref01_Gcd.f
  rw [petrinetref01_Abs.is a ha.1 ha.2, petrinetref01_Abs.is b hb.1 hb.2]
  simp only [Option.bind_some]
  rw [petrinetref01_gcd.is _ _ k (by omega)]
  simp only [Option.bind_some]
  rw [narrow_k _ _ _ (by omega) (by omega) hl k (by omega)]
  unfold gcdR
  simp only [Option.bind_some, Bool.false_eq_true, and_false, or_false, true_and, if_false]
theorem gcd_pos (a b : Int) (h : ¬ (a = 0 ∨ b = 0)) : 0 < Nat.gcd a.natAbs b.natAbs := Nat.gcd_pos_of_pos_left _ (by omega)
theorem quo_le (x g : Nat) : x / g ≤ x := Nat.div_le_self x g
theorem wrap_quo (x g : Nat) (hx : x < 18446744073709551616) : IntKind.u64.wrap (Int.tdiv (x : Int) (g : Int)) = ((x / g : Nat) : Int) := by
  have := quo_le x g
  rw [IntKind.wrap_u64, Int.tdiv_eq_ediv_of_nonneg (by omega), ← Int.natCast_ediv]; generalize x / g = q at *; omega
theorem Lcm_is (a b : Int) (ha : I64 a) (hb : I64 b) (k : Nat) (hk : b.natAbs + 3 < k) : safeint_Lcm.f k a b = some (lcmR a b) := by
  obtain ⟨k, rfl⟩ : ∃ m, k = m + 1 := ⟨k - 1, by omega⟩
  unfold safeint_Lcm.f lcmR
  by_cases c1 : a = 0
  · rw [if_pos c1, if_pos (.inl c1)]; simp [safeint_Lcm.j0]
  · rw [if_neg c1]
    by_cases c2 : b = 0
    · subst c2; simp [safeint_Lcm.j0]
    · rw [if_neg (by omega), beq_eq_false_iff_ne.mpr c2]
      have hg := gcd_pos a b (by omega)
      have hI := ha
      have hJ := hb
      unfold I64 at ha hb
      simp only [safeint_Lcm.j0, Bool.false_eq_true, if_false]
      rw [safeint_size.is a ha.1 ha.2, safeint_size.is b hb.1 hb.2]
      simp only [Option.bind_some]
      rw [safeint_common.is _ _ k (by omega)]
      simp only [Option.bind_some]
      rw [if_neg (by omega), wrap_quo _ _ (by omega)]
      have hq := quo_le a.natAbs (Nat.gcd a.natAbs b.natAbs)
      generalize a.natAbs / Nat.gcd a.natAbs b.natAbs = q at *
      unfold safeint_times.f
      rw [if_pos (by omega)]
      simp only [Option.bind_some]
      have hp : ((q * b.natAbs : Nat) : Int) = (q : Int) * b.natAbs := by simp
      rw [hp]
      have hn : 0 ≤ (q : Int) * b.natAbs := Int.mul_nonneg (by omega) (by omega)
      generalize (q : Int) * b.natAbs = p at *
      by_cases c3 : p / 18446744073709551616 = 0
      · rw [if_pos c3, signed_k _ _ (by omega) (by omega) k (by omega)]
        have e : p % 18446744073709551616 = p := by omega
        simp [e]
      · rw [if_neg c3, if_neg (by omega)]
theorem refLcm_is (a b : Int) (ha : I64 a) (hb : I64 b) (k : Nat) (hk : b.natAbs + 3 < k) : petrinetref01_Lcm.f k a b = some (lcmR a b) := by
  obtain ⟨k, rfl⟩ : ∃ m, k = m + 1 := ⟨k - 1, by omega⟩
  unfold petrinetref01_Lcm.f lcmR
  rw [petrinetref01_Abs.is a ha.1 ha.2, petrinetref01_Abs.is b hb.1 hb.2]
  simp only [Option.bind_some]
  by_cases c1 : a = 0
  · rw [if_pos (by omega), if_pos (.inl c1)]; simp [petrinetref01_Lcm.j0]
  · rw [if_neg (by omega)]
    by_cases c2 : b = 0
    · subst c2; simp [petrinetref01_Lcm.j0]
    · rw [if_neg (by omega), beq_eq_false_iff_ne.mpr (by omega)]
      have hg := gcd_pos a b (by omega)
      unfold I64 at ha hb
      simp only [petrinetref01_Lcm.j0, Bool.false_eq_true, if_false]
      rw [petrinetref01_gcd.is _ _ k (by omega)]
      simp only [Option.bind_some]
      rw [if_neg (by omega), if_neg (by omega), wrap_quo _ _ (by omega)]
      have hq := quo_le a.natAbs (Nat.gcd a.natAbs b.natAbs)
      generalize a.natAbs / Nat.gcd a.natAbs b.natAbs = q at *
      have e1 := wrap_quo 9223372036854775807 b.natAbs (by omega)
      have e1 : IntKind.u64.wrap (Int.tdiv (9223372036854775807 : Int) (b.natAbs : Int)) = ((9223372036854775807 / b.natAbs : Nat) : Int) := e1
      rw [e1]
      have hl : q ≤ 9223372036854775807 / b.natAbs ↔ q * b.natAbs ≤ 9223372036854775807 := Nat.le_div_iff_mul_le (by omega)
      generalize 9223372036854775807 / b.natAbs = d at *
      have hp : ((q * b.natAbs : Nat) : Int) = (q : Int) * b.natAbs := by simp
      rw [← hp]
      generalize q * b.natAbs = p at *
      by_cases c3 : q ≤ d
      · have := hl.mp c3
        rw [if_neg (by omega), if_pos (by omega), IntKind.wrap_u64]
        have e : wrap64 ((p : Int) % 18446744073709551616) = p := by unfold wrap64; omega
        rw [e]
      · have : ¬ p ≤ 9223372036854775807 := fun h => c3 (hl.mpr h)
        rw [if_pos (by omega), if_neg (by omega)]
theorem alive_60 : petrinetlaw01_alive.f 60 = some true := by decide +kernel
theorem alive_k (k : Nat) (hk : 60 ≤ k) : petrinetlaw01_alive.f k = some true := at_rounds (fun k => petrinetlaw01_alive.mono k) hk alive_60

/-! the laws over two numbers -/
theorem Cross_is (a b c d : Int) (ha : I64 a) (hb : I64 b) (hc : I64 c) (hd : I64 d) : safeint_Cross.f a b c d = some (cmpI (a * b) (c * d)) := by
  unfold safeint_Cross.f; unfold I64 at *; rw [if_pos ⟨⟨ha, hb⟩, hc, hd⟩]
theorem refCross_is (a b c d : Int) (ha : I64 a) (hb : I64 b) (hc : I64 c) (hd : I64 d) : petrinetref01_Cross.f a b c d = some (cmpI (a * b) (c * d)) := by
  unfold petrinetref01_Cross.f; unfold I64 at *; rw [if_pos ⟨⟨ha, hb⟩, hc, hd⟩]
theorem Mul_is (a b : Int) (ha : I64 a) (hb : I64 b) : safeint_Mul.f a b = some (if -9223372036854775808 ≤ a * b ∧ a * b < 9223372036854775808 then (a * b, true) else (0, false)) := by
  unfold safeint_Mul.f; unfold I64 at *; rw [if_pos ⟨ha, hb⟩]

theorem common_law (a b : Int) (ha : I64 a) (hb : I64 b) : petrinetlaw01_SafeintCommon.f (b.natAbs + 100) a b = some true := by
  unfold petrinetlaw01_SafeintCommon.f
  rw [Gcd_is a b ha hb _ (by omega), refGcd_is a b ha hb _ (by omega)]
  simp only [Option.bind_some, if_true, bne_self_eq_false]
  show petrinetlaw01_SafeintCommon.j0 ((b.natAbs + 99) + 1) a b false = some true
  simp only [petrinetlaw01_SafeintCommon.j0, Bool.false_eq_true, if_false]
  rw [Lcm_is a b ha hb _ (by omega), refLcm_is a b ha hb _ (by omega)]
  simp only [Option.bind_some, if_true, beq_self_eq_true]
  rw [alive_k _ (by omega)]; rfl
theorem crosses_law (a b c d : Int) (ha : I64 a) (hb : I64 b) (hc : I64 c) (hd : I64 d) : petrinetlaw01_SafeintCrosses.f 60 a b c d = some true := by
  unfold petrinetlaw01_SafeintCrosses.f
  rw [Cross_is a b c d ha hb hc hd, refCross_is a b c d ha hb hc hd]
  simp only [Option.bind_some, if_true]
  rw [alive_60]; rfl
theorem cmp_flip (x y : Int) : cmpI y x = -cmpI x y := by
  unfold cmpI
  repeat' split
  all_goals omega
theorem cmp_range (x y : Int) : cmpI x y ≥ -1 ∧ cmpI x y ≤ 1 := by
  unfold cmpI
  repeat' split
  all_goals omega
theorem cmp_same (x : Int) : cmpI x x = 0 := by unfold cmpI; rw [if_neg (by omega), if_neg (by omega)]
theorem orders_law (a b c d : Int) (ha : I64 a) (hb : I64 b) (hc : I64 c) (hd : I64 d) : petrinetlaw01_SafeintOrders.f 60 a b c d = some true := by
  have h := cmp_range (a * b) (c * d)
  unfold petrinetlaw01_SafeintOrders.f
  rw [Cross_is a b c d ha hb hc hd, Cross_is c d a b hc hd ha hb, Cross_is b a c d hb ha hc hd, Cross_is a b b a ha hb hb ha, Int.mul_comm b a, cmp_same, cmp_flip (a * b) (c * d)]
  simp only [Option.bind_some, if_true]
  rw [if_pos h.1, if_pos h.2, if_pos (by unfold wrap64; omega), alive_60]; rfl
theorem div_same (a b : Int) : petrinetref01_Div.f a b = safeint_Div.f a b := rfl
theorem mod_same (a b : Int) : petrinetref01_Mod.f a b = safeint_Mod.f a b := rfl
theorem Div_is (a b : Int) (ha : I64 a) (hb : I64 b) : safeint_Div.f a b = some (if b < 1 then (0, false) else (a / b, true)) := by
  unfold safeint_Div.f
  by_cases c : b < 1
  · rw [if_pos c, if_pos c]
  · rw [if_neg c, if_neg (by omega), if_neg c]
    have hb' : 0 < b := by omega
    have e := Int.mul_ediv_add_emod a b
    have e2 := Int.emod_nonneg a (show b ≠ 0 by omega)
    have e3 := Int.emod_lt_of_pos a hb'
    have f := Int.mul_tdiv_add_tmod a b
    unfold I64 at ha hb
    have bd : -9223372036854775808 ≤ a / b ∧ a / b < 9223372036854775808 := by
      by_cases n : 0 ≤ a
      · have h1 := Int.ediv_nonneg n (show 0 ≤ b by omega)
        have h2 := Int.ediv_le_self b n
        omega
      · have h1 : a / b < 0 := Int.ediv_neg_of_neg_of_pos (show a < 0 by omega) hb'
        have h2 : -9223372036854775808 ≤ a / b := by
          rw [Int.le_ediv_iff_mul_le hb']
          have : -9223372036854775808 * b ≤ -9223372036854775808 * 1 := Int.mul_le_mul_of_nonpos_left (by omega) (by omega)
          omega
        omega
    by_cases n : 0 ≤ a
    · rw [Int.tmod_eq_emod_of_nonneg n, Int.tdiv_eq_ediv_of_nonneg n, if_neg (by omega)]
      unfold wrap64; congr 2; omega
    · by_cases z : a % b = 0
      · have t1 : a.tmod b = 0 := by rw [Int.tmod_eq_emod, if_pos (.inr (Int.dvd_of_emod_eq_zero z))]; omega
        have t2 : a.tdiv b = a / b := by rw [Int.tdiv_eq_ediv, if_pos (.inr (Int.dvd_of_emod_eq_zero z))]; omega
        rw [t1, t2, if_neg (by omega)]
        unfold wrap64; congr 2; omega
      · have nd : ¬ (0 ≤ a ∨ b ∣ a) := fun h => h.elim n (fun d => z (Int.emod_eq_zero_of_dvd d))
        have t1 : a.tmod b = a % b - b := by rw [Int.tmod_eq_emod, if_neg nd]; omega
        have t2 : a.tdiv b = a / b + 1 := by rw [Int.tdiv_eq_ediv, if_neg nd, Int.sign_eq_one_of_pos hb']
        rw [t1, t2, if_pos (by omega)]
        unfold wrap64; congr 2; omega
theorem Mod_is (a b : Int) (_ha : I64 a) (hb : I64 b) : safeint_Mod.f a b = some (if b < 1 then (0, false) else (a % b, true)) := by
  unfold safeint_Mod.f
  by_cases c : b < 1
  · rw [if_pos c, if_pos c]
  · rw [if_neg c, if_neg (by omega), if_neg c]
    have hb' : 0 < b := by omega
    have e2 := Int.emod_nonneg a (show b ≠ 0 by omega)
    have e3 := Int.emod_lt_of_pos a hb'
    unfold I64 at hb
    by_cases n : 0 ≤ a
    · rw [Int.tmod_eq_emod_of_nonneg n, if_neg (by omega)]
    · by_cases z : a % b = 0
      · have t1 : a.tmod b = 0 := by rw [Int.tmod_eq_emod, if_pos (.inr (Int.dvd_of_emod_eq_zero z))]; omega
        rw [t1, if_neg (by omega), z]
      · have nd : ¬ (0 ≤ a ∨ b ∣ a) := fun h => h.elim n (fun d => z (Int.emod_eq_zero_of_dvd d))
        have t1 : a.tmod b = a % b - b := by rw [Int.tmod_eq_emod, if_neg nd]; omega
        rw [t1, if_pos (by omega)]
        unfold wrap64; congr 2; omega
theorem divides_law (a b : Int) (ha : I64 a) (hb : I64 b) : petrinetlaw01_SafeintDivides.f 61 a b = some true := by
  unfold petrinetlaw01_SafeintDivides.f
  rw [div_same, Div_is a b ha hb]
  simp only [Option.bind_some, if_true, bne_self_eq_false]
  show petrinetlaw01_SafeintDivides.j0 (60 + 1) a b false = some true
  simp only [petrinetlaw01_SafeintDivides.j0, Bool.false_eq_true, if_false]
  rw [mod_same, Mod_is a b ha hb]
  simp only [Option.bind_some, if_true, beq_self_eq_true]
  rw [alive_60]; rfl
theorem remainders_law (a b : Int) (ha : I64 a) (hb : I64 b) : petrinetlaw01_SafeintRemainders.f 60 a b = some true := by
  unfold petrinetlaw01_SafeintRemainders.f
  rw [Div_is a b ha hb, Mod_is a b ha hb]
  by_cases c : b < 1
  · simp [c, alive_60]
  · have e := Int.ediv_mul_add_emod a b
    have e2 := Int.emod_nonneg a (show b ≠ 0 by omega)
    have e3 := Int.emod_lt_of_pos a (show 0 < b by omega)
    simp only [c, if_false, Option.bind_some, if_true]
    rw [if_pos (by omega), if_pos e3]
    generalize a / b * b = p at *
    rw [if_pos (by unfold wrap64; unfold I64 at *; omega), alive_60]; rfl
/-! sums -/
def okR (n : Int) : Int × Bool := if -9223372036854775808 ≤ n ∧ n < 9223372036854775808 then (n, true) else (0, false)
theorem Add_is (a b : Int) (ha : I64 a) (hb : I64 b) : safeint_Add.f a b = some (okR (a + b)) := by
  unfold safeint_Add.f okR I64 wrap64 at *
  repeat' split
  all_goals first | omega | rfl | (congr 2; omega)
theorem Sub_is (a b : Int) (ha : I64 a) (hb : I64 b) : safeint_Sub.f a b = some (okR (a - b)) := by
  unfold safeint_Sub.f okR I64 wrap64 at *
  repeat' split
  all_goals first | omega | rfl | (congr 2; omega)
theorem narrow_of (n : Int) (hn : -18446744073709551616 ≤ n ∧ n ≤ 18446744073709551616) (k : Nat) (hk : 1 ≤ k) : petrinetref01_Narrow.f k (decide (n < 0)) ((n.natAbs : Int) / 18446744073709551616) ((n.natAbs : Int) % 18446744073709551616) = some (okR n) := by
  rw [narrow_k _ _ _ (by omega) (by omega) (by omega) k hk]
  unfold okR
  by_cases c : -9223372036854775808 ≤ n ∧ n < 9223372036854775808
  · rw [if_pos c, if_pos (by simp only [decide_eq_true_eq]; omega)]
    by_cases d : n < 0
    · rw [decide_eq_true d]; simp; omega
    · rw [decide_eq_false d]; simp; omega
  · rw [if_neg c, if_neg (by simp only [decide_eq_true_eq]; omega)]
theorem refAdd_is (a b : Int) (ha : I64 a) (hb : I64 b) (k : Nat) (hk : 1 ≤ k) : petrinetref01_Add.f k a b = some (okR (a + b)) := by
  unfold petrinetref01_Add.f petrinetref01_Plus.f I64 at *
  rw [if_pos ⟨ha, hb⟩]
  simp only [Option.bind_some]
  rw [narrow_of (a + b) (by omega) k hk]; rfl
theorem refSub_is (a b : Int) (ha : I64 a) (hb : I64 b) (k : Nat) (hk : 1 ≤ k) : petrinetref01_Sub.f k a b = some (okR (a - b)) := by
  unfold petrinetref01_Sub.f I64 at *
  by_cases c : b = -9223372036854775808
  · rw [if_pos c]; subst c
    unfold okR wrap64
    by_cases d : a < 0
    · rw [if_pos d, if_pos (by omega)]; congr 2; omega
    · rw [if_neg d, if_neg (by omega)]
  · rw [if_neg c]
    have e : wrap64 (-b) = -b := by unfold wrap64; omega
    rw [e]
    unfold petrinetref01_Plus.f
    rw [if_pos (by omega)]
    simp only [Option.bind_some]
    rw [narrow_of (a + -b) (by omega) k hk, show a + -b = a - b by omega]; rfl
theorem natAbs_prod (a b : Int) : ((a * b).natAbs : Int) = (a.natAbs : Int) * b.natAbs := by rw [Int.natAbs_mul]; simp
theorem refMul_is (a b : Int) (ha : I64 a) (hb : I64 b) (k : Nat) (hk : 1 ≤ k) : petrinetref01_Mul.f k a b = some (okR (a * b)) := by
  unfold petrinetref01_Mul.f
  rw [petrinetref01_Times.is a b ha hb]
  simp only [Option.bind_some]
  have hm := mul_natAbs a b
  have hn := abs_mul_nonneg a b
  rw [narrow_k _ _ _ (by omega) (by omega) (by omega) k hk]
  simp only [Option.bind_some]
  show some _ = some _
  generalize (a.natAbs : Int) * b.natAbs = p at *
  generalize a * b = x at *
  congr 1
  unfold okR
  by_cases c : ((decide (a < 0)) != (decide (b < 0))) = true
  · rw [if_pos c] at hm
    by_cases d : -9223372036854775808 ≤ x ∧ x < 9223372036854775808
    · rw [if_pos d, if_pos (by simp only [decide_eq_true_eq]; omega)]; congr 1; simp only [decide_eq_true_eq]; split <;> omega
    · rw [if_neg d, if_neg (by simp only [decide_eq_true_eq]; omega)]
  · rw [if_neg c] at hm
    by_cases d : -9223372036854775808 ≤ x ∧ x < 9223372036854775808
    · rw [if_pos d, if_pos (by simp only [decide_eq_true_eq]; omega)]; congr 1; simp only [decide_eq_true_eq]; split <;> omega
    · rw [if_neg d, if_neg (by simp only [decide_eq_true_eq]; omega)]
theorem sums_law (a b : Int) (ha : I64 a) (hb : I64 b) : petrinetlaw01_SafeintSums.f 62 a b = some true := by
  unfold petrinetlaw01_SafeintSums.f
  rw [Add_is a b ha hb, refAdd_is a b ha hb _ (by omega)]
  simp only [Option.bind_some, if_true, bne_self_eq_false]
  show petrinetlaw01_SafeintSums.j0 (61 + 1) a b false = some true
  simp only [petrinetlaw01_SafeintSums.j0, Bool.false_eq_true, if_false]
  rw [Sub_is a b ha hb, refSub_is a b ha hb _ (by omega)]
  simp only [Option.bind_some, if_true, bne_self_eq_false]
  show petrinetlaw01_SafeintSums.j1 (60 + 1) a b false = some true
  simp only [petrinetlaw01_SafeintSums.j1, Bool.false_eq_true, if_false]
  rw [Mul_is a b ha hb, refMul_is a b ha hb _ (by omega)]
  unfold okR
  simp only [Option.bind_some, if_true, beq_self_eq_true]
  rw [alive_60]; rfl
/-! factors -/
theorem alive_bind (k : Nat) (hk : 60 ≤ k) : ((petrinetlaw01_alive.f k).bind fun t => some t) = some true := by rw [alive_k k hk]; rfl
/-- The multiple, as the program reckons it, is divided by both, and is the product where it is multiplied with the divisor. -/
theorem lcm_facts (m n : Nat) : m ∣ m / Nat.gcd m n * n ∧ n ∣ m / Nat.gcd m n * n ∧ Nat.gcd m n * (m / Nat.gcd m n * n) = m * n := by
  have h1 := Nat.gcd_dvd_left m n
  have h2 := Nat.gcd_dvd_right m n
  by_cases h0 : Nat.gcd m n = 0
  · have hm : m = 0 := Nat.eq_zero_of_gcd_eq_zero_left h0
    have hn : n = 0 := Nat.eq_zero_of_gcd_eq_zero_right h0
    subst hm; subst hn; simp
  · have e1 : Nat.gcd m n * (m / Nat.gcd m n) = m := Nat.mul_div_cancel' h1
    refine ⟨?_, Nat.dvd_mul_left _ _, ?_⟩
    · obtain ⟨y, hy⟩ := h2
      refine ⟨y, ?_⟩
      generalize Nat.gcd m n = g at *
      generalize m / g = x at *
      subst hy; subst e1; rw [Nat.mul_comm x, Nat.mul_assoc, Nat.mul_assoc, Nat.mul_comm y x]
    · rw [← Nat.mul_assoc, e1]
theorem factors_j2 (x7 x9 : Int) (x5 : Int) (flag : Bool) (k : Nat) (hk : 61 ≤ k) (h : flag = true → I64 x5 ∧ I64 x7 ∧ I64 (x5 * x7) ∧ (x5 * x7 = x9 ∨ (x9 > -9223372036854775808 ∧ I64 x9 ∧ x5 * x7 = -x9))) :
    petrinetlaw01_SafeintFactors.j2 k x5 x7 x9 flag = some true := by
  obtain ⟨k, rfl⟩ : ∃ m, k = m + 1 := ⟨k - 1, by omega⟩
  simp only [petrinetlaw01_SafeintFactors.j2]
  cases flag with
  | false => simp only [Bool.false_eq_true, if_false]; exact alive_bind k (by omega)
  | true =>
    obtain ⟨h5, h7, hp, hx⟩ := h rfl
    simp only [if_true]
    rw [Mul_is x5 x7 h5 h7]
    have hp' := hp
    unfold I64 at hp
    rw [if_pos hp]
    simp only [Option.bind_some, if_true]
    by_cases c : x5 * x7 = x9
    · rw [if_pos c]; exact alive_bind k (by omega)
    · rw [if_neg c]
      rcases hx with hx | ⟨h1, h2, hx⟩
      · exact absurd hx c
      · have e : wrap64 (-x9) = -x9 := by unfold wrap64; unfold I64 at h2; omega
        rw [e, if_pos hx]; exact alive_bind k (by omega)
theorem factors_law (a b : Int) (ha : I64 a) (hb : I64 b) : petrinetlaw01_SafeintFactors.f (b.natAbs + 100) a b = some true := by
  obtain ⟨f1, f2, f3⟩ := lcm_facts a.natAbs b.natAbs
  have g1 := Nat.gcd_dvd_left a.natAbs b.natAbs
  have g2 := Nat.gcd_dvd_right a.natAbs b.natAbs
  have gz : Nat.gcd a.natAbs b.natAbs = 0 → a = 0 ∧ b = 0 := fun h => by
    have h1 := Nat.eq_zero_of_gcd_eq_zero_left h
    have h2 := Nat.eq_zero_of_gcd_eq_zero_right h
    omega
  have hm := mul_abs_or a b
  have f3' : ((Nat.gcd a.natAbs b.natAbs : Nat) : Int) * ((a.natAbs / Nat.gcd a.natAbs b.natAbs * b.natAbs : Nat) : Int) = (a.natAbs : Int) * (b.natAbs : Int) := by
    rw [← Int.natCast_mul, f3, Int.natCast_mul]
  unfold petrinetlaw01_SafeintFactors.f
  rw [Gcd_is a b ha hb _ (by omega), Lcm_is a b ha hb _ (by omega)]
  simp only [Option.bind_some]
  -- the flags and numbers, by their names
  have hl0 : (a = 0 ∨ b = 0) → a.natAbs / Nat.gcd a.natAbs b.natAbs * b.natAbs = 0 := fun h => by
    rcases h with h | h
    · subst h; simp
    · subst h; simp
  unfold gcdR lcmR
  generalize hG : Nat.gcd a.natAbs b.natAbs = G at *
  generalize hL : a.natAbs / G * b.natAbs = L at *
  have key : ∀ (g : Int) (is : Bool) (l : Int) (has : Bool), (is = true → g = (G : Int) ∧ (G : Int) ≤ 9223372036854775807) → (has = true → l = (L : Int) ∧ (L : Int) ≤ 9223372036854775807) →
      petrinetlaw01_SafeintFactors.j0 (b.natAbs + 100) a b g is l has false = some true := by
    intro g is l has hg hl
    have j1 : ∀ k, 63 ≤ k → petrinetlaw01_SafeintFactors.j1 k a b g is l has false = some true := by
      intro k hk
      obtain ⟨k, rfl⟩ : ∃ m, k = m + 1 := ⟨k - 1, by omega⟩
      simp only [petrinetlaw01_SafeintFactors.j1, Bool.false_eq_true, if_false]
      rw [Mul_is a b ha hb]
      simp only [Option.bind_some]
      cases is with
      | false => simp only [Bool.false_eq_true, if_false]; exact factors_j2 _ _ _ _ k (by omega) (fun h => by simp at h)
      | true =>
        cases has with
        | false => simp only [Bool.false_eq_true, if_false, if_true]; exact factors_j2 _ _ _ _ k (by omega) (fun h => by simp at h)
        | true =>
          simp only [if_true]
          obtain ⟨rfl, hg'⟩ := hg rfl
          obtain ⟨rfl, hl'⟩ := hl rfl
          by_cases c : -9223372036854775808 ≤ a * b ∧ a * b < 9223372036854775808
          · rw [if_pos c]
            simp only [if_true]
            refine factors_j2 _ _ _ _ k (by omega) (fun h => ?_)
            simp only [decide_eq_true_eq] at h
            rw [f3']
            unfold I64
            generalize a * b = p at *
            generalize (a.natAbs : Int) * b.natAbs = P at *
            exact ⟨by omega, by omega, by omega, by omega⟩
          · rw [if_neg c]
            simp only [Bool.false_eq_true, if_false]
            exact factors_j2 _ _ _ _ k (by omega) (fun h => by simp at h)
    show petrinetlaw01_SafeintFactors.j0 ((b.natAbs + 99) + 1) a b g is l has false = some true
    simp only [petrinetlaw01_SafeintFactors.j0, Bool.false_eq_true, if_false]
    cases has with
    | false => simp only [Bool.false_eq_true, if_false]; exact j1 _ (by omega)
    | true =>
      obtain ⟨rfl, hl'⟩ := hl rfl
      have da : (L : Int).tmod a = 0 := Int.tmod_eq_zero_of_dvd (Int.ofNat_dvd_right.mpr f1)
      have db : (L : Int).tmod b = 0 := Int.tmod_eq_zero_of_dvd (Int.ofNat_dvd_right.mpr f2)
      simp only [if_true]
      rw [if_neg (by omega)]
      by_cases c1 : a = 0
      · rw [if_pos c1]
        by_cases c2 : b = 0
        · rw [if_pos c2]; exact j1 _ (by omega)
        · rw [if_neg c2, db]; exact j1 _ (by omega)
      · rw [if_neg c1, if_pos da]
        by_cases c2 : b = 0
        · rw [if_pos c2]; exact j1 _ (by omega)
        · rw [if_neg c2, db]; exact j1 _ (by omega)
  have hlcm : ∀ x : Int × Bool, x = (if a = 0 ∨ b = 0 then (0, true) else if (L : Int) ≤ 9223372036854775807 then ((L : Int), true) else (0, false)) → (x.2 = true → x.1 = (L : Int) ∧ (L : Int) ≤ 9223372036854775807) := by
    intro x hx h
    subst hx
    by_cases c : a = 0 ∨ b = 0
    · rw [if_pos c] at h ⊢; have := hl0 c; exact ⟨by omega, by omega⟩
    · rw [if_neg c] at h ⊢
      by_cases d : (L : Int) ≤ 9223372036854775807
      · rw [if_pos d]; exact ⟨rfl, d⟩
      · rw [if_neg d] at h; simp at h
  generalize hX : (if a = 0 ∨ b = 0 then ((0 : Int), true) else if (L : Int) ≤ 9223372036854775807 then ((L : Int), true) else (0, false)) = X at *
  have hX2 := hlcm X rfl
  by_cases c : (G : Int) ≤ 9223372036854775807
  · rw [if_pos c]
    simp only [if_true]
    have kk := key (G : Int) true X.1 X.2 (fun _ => ⟨rfl, c⟩) hX2
    rw [if_neg (by omega)]
    by_cases d : (G : Int) > 0
    · have da : a.tmod (G : Int) = 0 := Int.tmod_eq_zero_of_dvd (Int.ofNat_dvd_left.mpr g1)
      have db : b.tmod (G : Int) = 0 := Int.tmod_eq_zero_of_dvd (Int.ofNat_dvd_left.mpr g2)
      rw [if_pos d, if_neg (by omega), if_pos da, if_pos db]
      exact kk
    · have := gz (by omega)
      rw [if_neg d, if_pos (by omega), if_pos this.1, this.2]
      have e2 : ((0 : Int) != 0) = false := by decide
      rw [e2]
      rw [this.2] at kk
      exact kk
  · rw [if_neg c]
    simp only [Bool.false_eq_true, if_false]
    exact key 0 false X.1 X.2 (fun h => by simp at h) hX2
/-! the walks of the laws over one struct -/
theorem safeintCrosses_walk (a b c d : Int) (w : World) (ha : (Lit.int .i64 a).wf = true) (hb : (Lit.int .i64 b).wf = true) (hc : (Lit.int .i64 c).wf = true) (hd : (Lit.int .i64 d).wf = true) :
    Calls Try.prog 4 #[.agg #[.int .i64 a, .int .i64 b, .int .i64 c, .int .i64 d]] w fun e w' => e = .returned (.bool true) ∧ Below w.heap.size w w' :=
  petrinetlaw01_SafeintCrosses.calls _ a b c d true w (crosses_law a b c d (i64_of ha) (i64_of hb) (i64_of hc) (i64_of hd))
theorem safeintOrders_walk (a b c d : Int) (w : World) (ha : (Lit.int .i64 a).wf = true) (hb : (Lit.int .i64 b).wf = true) (hc : (Lit.int .i64 c).wf = true) (hd : (Lit.int .i64 d).wf = true) :
    Calls Try.prog 5 #[.agg #[.int .i64 a, .int .i64 b, .int .i64 c, .int .i64 d]] w fun e w' => e = .returned (.bool true) ∧ Below w.heap.size w w' :=
  petrinetlaw01_SafeintOrders.calls _ a b c d true w (orders_law a b c d (i64_of ha) (i64_of hb) (i64_of hc) (i64_of hd))
end Go.Proofs.Ytjkiekdkkempdaa.Plain
