/- Plain laws over the printed functions: what each comes to. No condition but the ones written. -/
import Derived.Test.YtkkmpdonmiblnaaDoorRRRRPAllx5
import Derived.Test.YtkkmpdonmiblnaaDoorRRRRPAllx5
import Derived.Test.YtkkmpdonmiblnaaDoorRRRRPAllx6
import Derived.Test.YtkkmpdonmiblnaaDoorRRRRNum
import Derived.OpenShut
import Derived.Laws.Bits64
namespace Go.Proofs.YtkkmpdonmiblnaaDoorRRRR.Plain
open Go Go.RowKit Go.Proofs.YtkkmpdonmiblnaaDoorRRRR.PAll Go.Proofs.YtkkmpdonmiblnaaDoorRRRRW.PrintWords Go.Proofs.YtkkmpdonmiblnaaDoorRRRRW.PrintLast Go.Proofs.YtkkmpdonmiblnaaDoorRRRRW.PrintMore
set_option linter.unusedVariables false
def I64 (a : Int) : Prop := -9223372036854775808 ≤ a ∧ a < 9223372036854775808
theorem i64_of {a : Int} (h : (Lit.int .i64 a).wf = true) : I64 a := by have := bounds_i64 h; unfold I64; omega
def AllI (l : List Int) : Prop := ∀ x ∈ l, I64 x
theorem allI_of {l : List Int} (h : ∀ x ∈ l, (Lit.int .i64 x).wf = true) : AllI l := fun x hx => i64_of (h x hx)
theorem wrap_succ (i : Nat) (h : i < 9223372036854775807) : wrap64 ((i : Int) + 1) = ((i + 1 : Nat) : Int) := by unfold wrap64; omega
theorem wrap_id (x : Int) (h : -9223372036854775808 ≤ x ∧ x < 9223372036854775808) : wrap64 x = x := by unfold wrap64; omega
theorem rd_get (l : List Int) (i : Nat) (h : i < l.length) : rd l (i : Int) = l[i] := by
  unfold rd; rw [Int.toNat_natCast, List.getD_eq_getElem?_getD, List.getElem?_eq_getElem h]; rfl
theorem rdOf_get {α : Type} (d : α) (l : List α) (i : Nat) (h : i < l.length) : rdOf d l (i : Int) = l[i] := by
  unfold rdOf; rw [Int.toNat_natCast, List.getD_eq_getElem?_getD, List.getElem?_eq_getElem h]; rfl
theorem size_data (s : ByteArray) : s.size = s.data.toList.length := Lib.size_eq s
theorem bt_get (s : ByteArray) (i : Nat) (h : i < s.data.toList.length) : bt s (i : Int) = ((s.data.toList[i]'h).toNat : Int) := by
  have h' : i < s.size := by rw [size_data]; exact h
  unfold bt
  simp only [Int.toNat_natCast]
  rw [dif_pos h']
  rfl
theorem toList_eq_iff (s : ByteArray) (l : List UInt8) : s.toList = l ↔ s.data.toList = l := by rw [Lib.toList_data]
theorem getI {l : List Int} (h : AllI l) (i : Nat) (hi : i < l.length) : I64 l[i] := h _ (List.getElem_mem hi)
theorem drop_cons {α : Type} (l : List α) (i : Nat) (h : i < l.length) : l.drop i = l[i] :: l.drop (i + 1) := List.drop_eq_getElem_cons h
theorem drop_end {α : Type} (l : List α) (i : Nat) (h : l.length ≤ i) : l.drop i = [] := List.drop_eq_nil_of_le h
/-- The fuel is one more. -/
theorem fuel {n k : Nat} (h : n < k) : ∃ m, k = m + 1 := ⟨k - 1, by omega⟩
def mk (p : List UInt8) : ByteArray := ByteArray.mk p.toArray
theorem mk_extract (s : ByteArray) (f i : Nat) : s.extract f i = mk ((s.data.toList.drop f).take (i - f)) := Num.str_ext (by unfold mk; rw [Lib.extract_data, Num.data_mk])

/-! ### sizes, common divisors -/
theorem ib (x y : Int) : (x == y) = decide (x = y) := by
  by_cases h : x = y
  · rw [decide_eq_true h, h]; simp
  · rw [decide_eq_false h]; simpa using h
theorem uw (x : Int) : IntKind.u64.wrap x = x % 18446744073709551616 := IntKind.wrap_u64 x
theorem psize_is {a : Int} (h : I64 a) : frac_size.f a = some (a.natAbs : Int) := by
  unfold frac_size.f; unfold I64 at h
  by_cases c : a < 0
  · rw [if_pos c, uw, uw]; congr 1; omega
  · rw [if_neg c, uw]; congr 1; omega
theorem rsize_is {a : Int} (h : I64 a) : petrinetref02_size.f a = some (a.natAbs : Int) := by
  unfold petrinetref02_size.f; unfold I64 at h
  by_cases c : a < 0
  · rw [if_pos c, wrap_id (a + 1) (by omega), wrap_id _ (by omega), uw, uw]; congr 1; omega
  · rw [if_neg c, uw]; congr 1; omega
theorem abs_lt {a : Int} (h : I64 a) : a.natAbs ≤ 9223372036854775808 := by unfold I64 at h; omega
theorem tmod_nat (a b : Nat) : Int.tmod (a : Int) (b : Int) = ((a % b : Nat) : Int) := by rw [Int.tmod_eq_emod_of_nonneg (by omega)]; rfl
theorem tdiv_nat (a b : Nat) : Int.tdiv (a : Int) (b : Int) = ((a / b : Nat) : Int) := by rw [Int.tdiv_eq_ediv_of_nonneg (by omega)]; rfl
theorem pcommon_l (n : Nat) : ∀ (k a b : Nat), b ≤ n → n + 1 < k → frac_common.l0 k (a : Int) (b : Int) = some ((Nat.gcd a b : Nat) : Int) := by
  induction n with
  | zero =>
    intro k a b hb hk
    obtain ⟨k, rfl⟩ := fuel (show 0 < k by omega)
    obtain rfl : b = 0 := by omega
    simp only [frac_common.l0]
    rw [if_pos (show ((0 : Nat) : Int) = 0 from rfl), Nat.gcd_zero_right]
  | succ n ih =>
    intro k a b hb hk
    obtain ⟨k, rfl⟩ := fuel (show 0 < k by omega)
    simp only [frac_common.l0]
    by_cases h : b = 0
    · subst h; rw [if_pos (show ((0 : Nat) : Int) = 0 from rfl), Nat.gcd_zero_right]
    · have hlt := Nat.mod_lt a (show 0 < b by omega)
      rw [if_neg (by omega), tmod_nat, ih k b (a % b) (by omega) (by omega), Nat.gcd_comm b, ← Nat.gcd_rec, Nat.gcd_comm b]
theorem pcommon_is (a b : Nat) (k : Nat) (hk : b + 1 < k) : frac_common.f k (a : Int) (b : Int) = some ((Nat.gcd a b : Nat) : Int) := pcommon_l b k a b (Nat.le_refl _) hk
/-! ### numbers of 128 bits -/
def hiN (n : Nat) : Int := ((n / 18446744073709551616 : Nat) : Int)
def loN (n : Nat) : Int := ((n % 18446744073709551616 : Nat) : Int)
theorem plus_is (m n : Nat) (h : m + n < 340282366920938463463374607431768211456) : petrinetref02_plus.f (hiN m) (loN m) (hiN n) (loN n) = some (hiN (m + n), loN (m + n)) := by
  unfold petrinetref02_plus.f hiN loN
  simp only [uw]
  split
  · congr 2 <;> omega
  · congr 2 <;> omega
theorem minus_is (m n : Nat) (h : n ≤ m) (hm : m < 340282366920938463463374607431768211456) : petrinetref02_minus.f (hiN m) (loN m) (hiN n) (loN n) = some (hiN (m - n), loN (m - n)) := by
  unfold petrinetref02_minus.f hiN loN
  simp only [uw]
  split
  · congr 2 <;> omega
  · congr 2 <;> omega
theorem less_is (m n : Nat) : petrinetref02_less.f (hiN m) (loN m) (hiN n) (loN n) = some (decide (m < n)) := by
  unfold petrinetref02_less.f hiN loN
  split
  · congr 1; exact decide_eq_decide.mpr (by omega)
  · congr 1; exact decide_eq_decide.mpr (by omega)
theorem shr_nat (x s : Nat) (hs : s ≤ 64) : shr .u64 (x : Int) (s : Int) = ((x / 2 ^ s : Nat) : Int) := by
  unfold shr
  rw [Int.toNat_natCast, Nat.min_eq_left (show s ≤ IntKind.u64.bits by simpa [IntKind.bits] using hs)]
  rw [show ((2 : Int) ^ s) = ((2 ^ s : Nat) : Int) by simp]; rfl
theorem hi_bit (n j : Nat) : n / 18446744073709551616 / 2 ^ j = n / 2 ^ (64 + j) := by
  rw [Nat.div_div_eq_div_mul, Nat.pow_add]
theorem lo_bit (n i : Nat) (hi : i < 64) : n % 18446744073709551616 / 2 ^ i % 2 = n / 2 ^ i % 2 := by
  have h1 : (18446744073709551616 : Nat) = 2 ^ i * (2 * 2 ^ (63 - i)) := by
    rw [← Nat.pow_succ', ← Nat.pow_add, show i + (63 - i + 1) = 64 by omega]
  rw [h1, Nat.mod_mul_right_div_self, Nat.mod_mul_right_mod]
theorem bit_is (n i : Nat) (hi : i < 128) : petrinetref02_bit.f (hiN n) (loN n) (i : Int) = some ((n / 2 ^ i % 2 : Nat) : Int) := by
  unfold petrinetref02_bit.f hiN loN
  by_cases h : i ≥ 64
  · have e : IntKind.u64.wrap (wrap64 ((i : Int) - 64)) = ((i - 64 : Nat) : Int) := by rw [wrap_id _ (by omega), uw]; omega
    rw [if_pos (by omega), e, if_pos (by omega), shr_nat _ _ (by omega), show (2 : Int) = ((2 : Nat) : Int) from rfl, tmod_nat, hi_bit, show 64 + (i - 64) = i by omega]
  · have e : IntKind.u64.wrap (i : Int) = (i : Int) := by rw [uw]; omega
    rw [if_neg (by omega), e, if_pos (by omega), shr_nat _ _ (by omega), show (2 : Int) = ((2 : Nat) : Int) from rfl, tmod_nat, lo_bit n i (by omega)]
theorem step_div (a d b : Nat) (hd : 0 < d) (hb : b < 2) : (2 * (a % d) + b < d → (2 * a + b) / d = 2 * (a / d) ∧ (2 * a + b) % d = 2 * (a % d) + b) ∧ (¬ 2 * (a % d) + b < d → (2 * a + b) / d = 2 * (a / d) + 1 ∧ (2 * a + b) % d = 2 * (a % d) + b - d) := by
  have h1 := Nat.div_add_mod a d
  have h2 := Nat.mod_lt a hd
  constructor
  · intro h
    exact (Nat.div_mod_unique hd).mpr ⟨by rw [Nat.mul_left_comm]; omega, h⟩
  · intro h
    refine (Nat.div_mod_unique hd).mpr ⟨?_, by omega⟩
    rw [Nat.mul_add, Nat.mul_one, Nat.mul_left_comm]; omega
theorem div_half (n i : Nat) : n / 2 ^ i = 2 * (n / 2 ^ (i + 1)) + n / 2 ^ i % 2 := by
  have e : n / 2 ^ (i + 1) = n / 2 ^ i / 2 := by rw [Nat.div_div_eq_div_mul, ← Nat.pow_succ]
  rw [e]
  generalize n / 2 ^ i = m
  omega
theorem divide_l (n d : Nat) (hn : n < 340282366920938463463374607431768211456) (hd : 0 < d) (hd2 : d < 170141183460469231731687303715884105728) (i : Nat) : ∀ (k : Nat), i ≤ 128 → i < k →
    petrinetref02_divide.l0 k ((i : Int) - 1) (hiN n) (loN n) (hiN d) (loN d) (hiN (n / 2 ^ i / d)) (loN (n / 2 ^ i / d)) (hiN (n / 2 ^ i % d)) (loN (n / 2 ^ i % d)) = some (hiN (n / d), loN (n / d), hiN (n % d), loN (n % d)) := by
  induction i with
  | zero =>
    intro k _ hk
    obtain ⟨k, rfl⟩ := fuel (show 0 < k by omega)
    simp only [petrinetref02_divide.l0]
    rw [if_neg (by omega), Nat.pow_zero, Nat.div_one]
  | succ i ih =>
    intro k hi hk
    obtain ⟨k, rfl⟩ := fuel (show 0 < k by omega)
    have h1 := ih k (by omega) (by omega)
    have hr := Nat.mod_lt (n / 2 ^ (i + 1)) hd
    have hq1 : n / 2 ^ (i + 1) / d ≤ n / 2 ^ (i + 1) := Nat.div_le_self _ _
    have hq2 : n / 2 ^ (i + 1) ≤ n / 2 := by
      rw [Nat.pow_succ', ← Nat.div_div_eq_div_mul]; exact Nat.div_le_self _ _
    have hhalf := div_half n i
    have hb := Nat.mod_lt (n / 2 ^ i) (show 0 < 2 by omega)
    obtain ⟨s1, s2⟩ := step_div (n / 2 ^ (i + 1)) d (n / 2 ^ i % 2) hd hb
    rw [← hhalf] at s1 s2
    simp only [petrinetref02_divide.l0]
    rw [show ((i + 1 : Nat) : Int) - 1 = (i : Int) by omega, if_pos (by omega), plus_is _ _ (by omega), Option.bind_some, bit_is n i (by omega), Option.bind_some, plus_is _ _ (by omega), Option.bind_some, wrap_id ((i : Int) - 1) (by omega)]
    generalize n / 2 ^ i % 2 = b at *
    generalize n / 2 ^ (i + 1) % d = r at *
    generalize n / 2 ^ (i + 1) / d = q at *
    generalize n / 2 ^ (i + 1) = m at *
    have e1 : IntKind.u64.wrap (loN (r + r) + (b : Int)) = loN (2 * r + b) := by unfold loN; rw [uw]; omega
    have e2 : hiN (r + r) = hiN (2 * r + b) := by unfold hiN; omega
    have e3 : IntKind.u64.wrap (loN (q + q) + 1) = loN (2 * q + 1) := by unfold loN; rw [uw]; omega
    have e4 : hiN (q + q) = hiN (2 * q + 1) := by unfold hiN; omega
    have e5 : q + q = 2 * q := by omega
    simp only [e1]
    rw [e2, less_is, Option.bind_some]
    by_cases c : 2 * r + b < d
    · obtain ⟨t1, t2⟩ := s1 c
      rw [t1, t2] at h1
      rw [decide_eq_true c, if_pos rfl, e5]
      exact h1
    · obtain ⟨t1, t2⟩ := s2 c
      rw [t1, t2] at h1
      rw [decide_eq_false c, if_neg (by simp), minus_is _ _ (by omega) (by omega), Option.bind_some, e3, e4]
      exact h1
theorem divide_is (n d : Nat) (hn : n < 340282366920938463463374607431768211456) (hd : 0 < d) (hd2 : d < 170141183460469231731687303715884105728) (k : Nat) (hk : 128 < k) :
    petrinetref02_divide.f k (hiN n) (loN n) (hiN d) (loN d) = some (hiN (n / d), loN (n / d), hiN (n % d), loN (n % d)) := by
  unfold petrinetref02_divide.f
  have := divide_l n d hn hd hd2 128 k (by omega) hk
  have e : n / 2 ^ 128 = 0 := Nat.div_eq_of_lt hn
  rw [e, Nat.zero_div, Nat.zero_mod] at this
  exact this
theorem hi_lo_zero (n : Nat) : (!(hiN n == 0) || (!(loN n == 0))) = true ↔ n ≠ 0 := by
  unfold hiN loN
  rw [Bool.or_eq_true, Bool.not_eq_true', Bool.not_eq_true', beq_eq_false_iff_ne, beq_eq_false_iff_ne]; omega
theorem rcommon_l (n : Nat) : ∀ (k a b : Nat), b ≤ n → a < 170141183460469231731687303715884105728 → b < 170141183460469231731687303715884105728 → n + 200 < k → petrinetref02_common.l0 k (hiN a) (loN a) (hiN b) (loN b) = some (hiN (Nat.gcd a b), loN (Nat.gcd a b)) := by
  induction n with
  | zero =>
    intro k a b hb ha hb2 hk
    obtain ⟨k, rfl⟩ := fuel (show 0 < k by omega)
    obtain rfl : b = 0 := by omega
    simp only [petrinetref02_common.l0]
    rw [if_neg (fun h => ((hi_lo_zero 0).mp h) rfl), Nat.gcd_zero_right]
  | succ n ih =>
    intro k a b hb ha hb2 hk
    obtain ⟨k, rfl⟩ := fuel (show 0 < k by omega)
    simp only [petrinetref02_common.l0]
    by_cases h : b = 0
    · subst h; rw [if_neg (fun h => ((hi_lo_zero 0).mp h) rfl), Nat.gcd_zero_right]
    · have hlt := Nat.mod_lt a (show 0 < b by omega)
      rw [if_pos ((hi_lo_zero b).mpr h), divide_is a b (by omega) (by omega) hb2 k (by omega), Option.bind_some]
      dsimp only
      rw [ih k b (a % b) (by omega) hb2 (by omega) (by omega), Nat.gcd_comm b, ← Nat.gcd_rec, Nat.gcd_comm b]
theorem rcommon_is (a b : Nat) (ha : a < 170141183460469231731687303715884105728) (hb : b < 170141183460469231731687303715884105728) (k : Nat) (hk : b + 200 < k) : petrinetref02_common.f k (hiN a) (loN a) (hiN b) (loN b) = some (hiN (Nat.gcd a b), loN (Nat.gcd a b)) := rcommon_l b k a b (Nat.le_refl _) ha hb hk
theorem wide_small (n : Nat) (h : n < 18446744073709551616) : hiN n = 0 ∧ loN n = (n : Int) := by unfold hiN loN; omega
/-! ### Make, Valid -/
def resV (neg : Bool) (x y : Nat) : Int × Int × Int := if x > 9223372036854775807 ∨ y > 9223372036854775807 then (0, 0, 3) else (if neg = true then -(x : Int) else (x : Int), (y : Int), 0)
theorem presult_is (neg : Bool) (x y : Nat) (k : Nat) (hk : 0 < k) : frac_result.f k neg (x : Int) (y : Int) = some (resV neg x y) := by
  obtain ⟨k, rfl⟩ := fuel hk
  unfold frac_result.f resV
  simp only [frac_result.j0]
  by_cases h1 : x > 9223372036854775807
  · rw [if_pos (by omega), if_pos trivial, if_pos (.inl h1)]
  · rw [if_neg (by omega)]
    by_cases h2 : y > 9223372036854775807
    · rw [decide_eq_true (by omega), if_pos rfl, if_pos (.inr h2)]
    · rw [decide_eq_false (by omega), if_neg (by simp), if_neg (show ¬ (x > 9223372036854775807 ∨ y > 9223372036854775807) by omega), wrap_id (x : Int) (by omega), wrap_id (y : Int) (by omega), wrap_id (-(x : Int)) (by omega)]
      cases neg <;> rfl
theorem rnormal_is (neg : Bool) (a b : Nat) (ha : a < 18446744073709551616) (hb : b < 18446744073709551616) (hb0 : 0 < b) (k : Nat) (hk : b + 300 < k) :
    petrinetref02_normal.f k neg 0 (a : Int) 0 (b : Int) = some (resV neg (a / Nat.gcd a b) (b / Nat.gcd a b)) := by
  obtain ⟨k, rfl⟩ := fuel (show 0 < k by omega)
  obtain ⟨a1, a2⟩ := wide_small a ha
  obtain ⟨b1, b2⟩ := wide_small b hb
  have hg0 : 0 < Nat.gcd a b := Nat.gcd_pos_of_pos_right _ hb0
  have hg1 : Nat.gcd a b ≤ b := Nat.gcd_le_right _ hb0
  have hx : a / Nat.gcd a b ≤ a := Nat.div_le_self _ _
  have hy : b / Nat.gcd a b ≤ b := Nat.div_le_self _ _
  have e1 := rcommon_is a b (by omega) (by omega) (k + 1) (by omega)
  have e2 := divide_is a (Nat.gcd a b) (by omega) hg0 (by omega) (k + 1) (by omega)
  have e3 := divide_is b (Nat.gcd a b) (by omega) hg0 (by omega) (k + 1) (by omega)
  rw [a1, a2] at e1 e2
  rw [b1, b2] at e1 e3
  unfold petrinetref02_normal.f
  rw [e1, Option.bind_some, e2, Option.bind_some, e3, Option.bind_some]
  dsimp only
  obtain ⟨x1, x2⟩ := wide_small (a / Nat.gcd a b) (by omega)
  obtain ⟨y1, y2⟩ := wide_small (b / Nat.gcd a b) (by omega)
  rw [x1, x2, y1, y2]
  simp only [petrinetref02_normal.j0]
  generalize a / Nat.gcd a b = x at *
  generalize b / Nat.gcd a b = y at *
  unfold resV
  rw [if_neg (by omega)]
  by_cases h1 : x > 9223372036854775807
  · rw [if_pos (by omega), if_pos trivial, if_pos (.inl h1)]
  · rw [if_neg (by omega), if_neg (by omega)]
    by_cases h2 : y > 9223372036854775807
    · rw [decide_eq_true (by omega), if_pos rfl, if_pos (.inr h2)]
    · rw [decide_eq_false (by omega), if_neg (by simp), if_neg (show ¬ (x > 9223372036854775807 ∨ y > 9223372036854775807) by omega), wrap_id (x : Int) (by omega), wrap_id (y : Int) (by omega), wrap_id (-(x : Int)) (by omega)]
      cases neg <;> rfl
def makeV (a b : Int) : Int × Int × Int := if b = 0 then (0, 0, 4) else resV (decide (a < 0) != decide (b < 0)) (a.natAbs / Nat.gcd a.natAbs b.natAbs) (b.natAbs / Nat.gcd a.natAbs b.natAbs)
theorem pmake_is (a b : Int) (ha : I64 a) (hb : I64 b) (k : Nat) (hk : b.natAbs + 300 < k) : frac_Make.f k a b = some (makeV a b) := by
  unfold frac_Make.f makeV
  by_cases h : b = 0
  · rw [if_pos h, if_pos h]
  · have hg0 : 0 < Nat.gcd a.natAbs b.natAbs := Nat.gcd_pos_of_pos_right _ (by omega)
    have hx : a.natAbs / Nat.gcd a.natAbs b.natAbs ≤ a.natAbs := Nat.div_le_self _ _
    have hy : b.natAbs / Nat.gcd a.natAbs b.natAbs ≤ b.natAbs := Nat.div_le_self _ _
    have h1 := abs_lt ha
    have h2 := abs_lt hb
    rw [if_neg h, if_neg h, psize_is ha, psize_is hb, Option.bind_some, Option.bind_some, pcommon_is a.natAbs b.natAbs k (by omega), Option.bind_some, Option.bind_some, if_neg (by omega), Option.bind_some, tdiv_nat, tdiv_nat]
    generalize a.natAbs / Nat.gcd a.natAbs b.natAbs = x at *
    generalize b.natAbs / Nat.gcd a.natAbs b.natAbs = y at *
    rw [uw, uw, show (x : Int) % 18446744073709551616 = (x : Int) by omega, show (y : Int) % 18446744073709551616 = (y : Int) by omega, presult_is _ _ _ k (by omega)]; rfl
theorem rmake_is (a b : Int) (ha : I64 a) (hb : I64 b) (k : Nat) (hk : b.natAbs + 300 < k) : petrinetref02_Make.f k a b = some (makeV a b) := by
  unfold petrinetref02_Make.f makeV
  by_cases h : b = 0
  · rw [if_pos h, if_pos h]
  · have h1 := abs_lt ha
    have h2 := abs_lt hb
    rw [if_neg h, if_neg h, rsize_is ha, rsize_is hb, Option.bind_some, Option.bind_some, rnormal_is _ a.natAbs b.natAbs (by omega) (by omega) (by omega) k (by omega)]; rfl
def okF (a b : Int) : Bool := decide (1 ≤ b) && (!(decide (a = -9223372036854775808)) && decide (Nat.gcd a.natAbs b.natAbs = 1))
theorem pvalid_is (a b : Int) (ha : I64 a) (hb : I64 b) (k : Nat) (hk : b.natAbs + 300 < k) : frac_Valid.f k a b = some (okF a b) := by
  unfold frac_Valid.f okF
  by_cases h : b ≥ 1
  · rw [if_pos h, decide_eq_true h, Bool.true_and]
    by_cases c : a = -9223372036854775808
    · rw [if_pos c, decide_eq_true c]; rfl
    · rw [if_neg c, decide_eq_false c, psize_is ha, psize_is hb, Option.bind_some, Option.bind_some, pcommon_is a.natAbs b.natAbs k (by omega), Option.bind_some]
      congr 1
      rw [Bool.not_false, Bool.true_and, ib]
      exact decide_eq_decide.mpr (by omega)
  · rw [if_neg h, decide_eq_false h]; rfl
theorem rvalid_is (a b : Int) (ha : I64 a) (hb : I64 b) (k : Nat) (hk : b.natAbs + 300 < k) : petrinetref02_Valid.f k a b = some (okF a b) := by
  obtain ⟨k, rfl⟩ := fuel (show 0 < k by omega)
  unfold petrinetref02_Valid.f okF
  simp only [petrinetref02_Valid.j0]
  by_cases h : b < 1
  · rw [if_pos h, if_pos trivial, decide_eq_false (by omega)]; rfl
  · rw [if_neg h, decide_eq_true (by omega), Bool.true_and]
    by_cases c : a = -9223372036854775808
    · rw [if_pos (by simpa using c), decide_eq_true c]; rfl
    · have h1 := abs_lt ha
      have h2 := abs_lt hb
      have hb' : IntKind.u64.wrap b = (b.natAbs : Int) := by rw [uw]; unfold I64 at hb; omega
      obtain ⟨a1, a2⟩ := wide_small a.natAbs (by omega)
      obtain ⟨b1, b2⟩ := wide_small b.natAbs (by omega)
      have e1 := rcommon_is a.natAbs b.natAbs (by omega) (by omega) k (by omega)
      rw [a1, a2, b1, b2] at e1
      have hg1 : Nat.gcd a.natAbs b.natAbs ≤ b.natAbs := Nat.gcd_le_right _ (by omega)
      obtain ⟨g1, g2⟩ := wide_small (Nat.gcd a.natAbs b.natAbs) (by omega)
      rw [if_neg (by simpa using c), decide_eq_false c, rsize_is ha, Option.bind_some, hb', e1, Option.bind_some, g1, g2]
      congr 1
      rw [Bool.not_false, Bool.true_and, ib, ib, decide_eq_true rfl, Bool.true_and]
      exact decide_eq_decide.mpr (by omega)
theorem ex02 (k : Nat) (hk : 60 ≤ k) : petrinetlaw02_exampleHolds.f k = some true := at_rounds (fun k => petrinetlaw02_exampleHolds.mono k) hk (by decide +kernel)
end Go.Proofs.YtkkmpdonmiblnaaDoorRRRR.Plain
