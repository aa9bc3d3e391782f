/- Plain laws over the printed functions: what each comes to. No condition but the ones written. -/
import Derived.Test.YtdkfnhcegafliaaDoorPAllx7
import Derived.Test.YtdkfnhcegafliaaDoorPAllx5
import Derived.Test.YtdkfnhcegafliaaDoorPAllx5
import Derived.Test.YtdkfnhcegafliaaDoorNum
import Derived.OpenShut
import Derived.Laws.Bits64
namespace Go.Proofs.YtdkfnhcegafliaaDoor.Plain
open Go Go.RowKit Go.Proofs.YtdkfnhcegafliaaDoor.PAll Go.Proofs.YtdkfnhcegafliaaDoorW.PrintWords Go.Proofs.YtdkfnhcegafliaaDoorW.PrintLast Go.Proofs.YtdkfnhcegafliaaDoorW.PrintMore
set_option linter.unusedVariables false
def I64 (a : Int) : Prop := -9223372036854775808 ≤ a ∧ a < 9223372036854775808
theorem i64_of {a : Int} (h : (Lit.int .i64 a).wf = true) : I64 a := by have := bounds_i64 h; unfold I64; omega
def AllI (l : List Int) : Prop := ∀ x ∈ l, I64 x
theorem allI_of {l : List Int} (h : ∀ x ∈ l, (Lit.int .i64 x).wf = true) : AllI l := fun x hx => i64_of (h x hx)
theorem wrap_succ (i : Nat) (h : i < 9223372036854775807) : wrap64 ((i : Int) + 1) = ((i + 1 : Nat) : Int) := by unfold wrap64; omega
theorem wrap_id (x : Int) (h : -9223372036854775808 ≤ x ∧ x < 9223372036854775808) : wrap64 x = x := by unfold wrap64; omega
theorem rd_get (l : List Int) (i : Nat) (h : i < l.length) : rd l (i : Int) = l[i] := by
  unfold rd; rw [Int.toNat_natCast, List.getD_eq_getElem?_getD, List.getElem?_eq_getElem h]; rfl
theorem rdOf_get {α : Type} (d : α) (l : List α) (i : Nat) (h : i < l.length) : rdOf d l (i : Int) = l[i] := by
  unfold rdOf; rw [Int.toNat_natCast, List.getD_eq_getElem?_getD, List.getElem?_eq_getElem h]; rfl
theorem size_data (s : ByteArray) : s.size = s.data.toList.length := Lib.size_eq s
theorem bt_get (s : ByteArray) (i : Nat) (h : i < s.data.toList.length) : bt s (i : Int) = ((s.data.toList[i]'h).toNat : Int) := by
  have h' : i < s.size := by rw [size_data]; exact h
  unfold bt
  simp only [Int.toNat_natCast]
  rw [dif_pos h']
  rfl
theorem toList_eq_iff (s : ByteArray) (l : List UInt8) : s.toList = l ↔ s.data.toList = l := by rw [Lib.toList_data]
theorem getI {l : List Int} (h : AllI l) (i : Nat) (hi : i < l.length) : I64 l[i] := h _ (List.getElem_mem hi)
theorem drop_cons {α : Type} (l : List α) (i : Nat) (h : i < l.length) : l.drop i = l[i] :: l.drop (i + 1) := List.drop_eq_getElem_cons h
theorem drop_end {α : Type} (l : List α) (i : Nat) (h : l.length ≤ i) : l.drop i = [] := List.drop_eq_nil_of_le h
/-- The fuel is one more. -/
theorem fuel {n k : Nat} (h : n < k) : ∃ m, k = m + 1 := ⟨k - 1, by omega⟩
def mk (p : List UInt8) : ByteArray := ByteArray.mk p.toArray
theorem mk_extract (s : ByteArray) (f i : Nat) : s.extract f i = mk ((s.data.toList.drop f).take (i - f)) := Num.str_ext (by unfold mk; rw [Lib.extract_data, Num.data_mk])

/-! ### sizes, common divisors -/
theorem ib (x y : Int) : (x == y) = decide (x = y) := by
  by_cases h : x = y
  · rw [decide_eq_true h, h]; simp
  · rw [decide_eq_false h]; simpa using h
theorem uw (x : Int) : IntKind.u64.wrap x = x % 18446744073709551616 := IntKind.wrap_u64 x
theorem psize_is {a : Int} (h : I64 a) : frac_size.f a = some (a.natAbs : Int) := by
  unfold frac_size.f; unfold I64 at h
  by_cases c : a < 0
  · rw [if_pos c, uw, uw]; congr 1; omega
  · rw [if_neg c, uw]; congr 1; omega
theorem rsize_is {a : Int} (h : I64 a) : petrinetref02_size.f a = some (a.natAbs : Int) := by
  unfold petrinetref02_size.f; unfold I64 at h
  by_cases c : a < 0
  · rw [if_pos c, wrap_id (a + 1) (by omega), wrap_id _ (by omega), uw, uw]; congr 1; omega
  · rw [if_neg c, uw]; congr 1; omega
theorem abs_lt {a : Int} (h : I64 a) : a.natAbs ≤ 9223372036854775808 := by unfold I64 at h; omega
theorem tmod_nat (a b : Nat) : Int.tmod (a : Int) (b : Int) = ((a % b : Nat) : Int) := by rw [Int.tmod_eq_emod_of_nonneg (by omega)]; rfl
theorem tdiv_nat (a b : Nat) : Int.tdiv (a : Int) (b : Int) = ((a / b : Nat) : Int) := by rw [Int.tdiv_eq_ediv_of_nonneg (by omega)]; rfl
theorem pcommon_l (n : Nat) : ∀ (k a b : Nat), b ≤ n → n + 1 < k → frac_common.l0 k (a : Int) (b : Int) = some ((Nat.gcd a b : Nat) : Int) := by
  induction n with
  | zero =>
    intro k a b hb hk
    obtain ⟨k, rfl⟩ := fuel (show 0 < k by omega)
    obtain rfl : b = 0 := by omega
    simp only [frac_common.l0]
    rw [if_pos (show ((0 : Nat) : Int) = 0 from rfl), Nat.gcd_zero_right]
  | succ n ih =>
    intro k a b hb hk
    obtain ⟨k, rfl⟩ := fuel (show 0 < k by omega)
    simp only [frac_common.l0]
    by_cases h : b = 0
    · subst h; rw [if_pos (show ((0 : Nat) : Int) = 0 from rfl), Nat.gcd_zero_right]
    · have hlt := Nat.mod_lt a (show 0 < b by omega)
      rw [if_neg (by omega), tmod_nat, ih k b (a % b) (by omega) (by omega), Nat.gcd_comm b, ← Nat.gcd_rec, Nat.gcd_comm b]
theorem pcommon_is (a b : Nat) (k : Nat) (hk : b + 1 < k) : frac_common.f k (a : Int) (b : Int) = some ((Nat.gcd a b : Nat) : Int) := pcommon_l b k a b (Nat.le_refl _) hk
/-! ### numbers of 128 bits -/
def hiN (n : Nat) : Int := ((n / 18446744073709551616 : Nat) : Int)
def loN (n : Nat) : Int := ((n % 18446744073709551616 : Nat) : Int)
theorem plus_is (m n : Nat) (h : m + n < 340282366920938463463374607431768211456) : petrinetref02_plus.f (hiN m) (loN m) (hiN n) (loN n) = some (hiN (m + n), loN (m + n)) := by
  unfold petrinetref02_plus.f hiN loN
  simp only [uw]
  split
  · congr 2 <;> omega
  · congr 2 <;> omega
theorem minus_is (m n : Nat) (h : n ≤ m) (hm : m < 340282366920938463463374607431768211456) : petrinetref02_minus.f (hiN m) (loN m) (hiN n) (loN n) = some (hiN (m - n), loN (m - n)) := by
  unfold petrinetref02_minus.f hiN loN
  simp only [uw]
  split
  · congr 2 <;> omega
  · congr 2 <;> omega
theorem less_is (m n : Nat) : petrinetref02_less.f (hiN m) (loN m) (hiN n) (loN n) = some (decide (m < n)) := by
  unfold petrinetref02_less.f hiN loN
  split
  · congr 1; exact decide_eq_decide.mpr (by omega)
  · congr 1; exact decide_eq_decide.mpr (by omega)
theorem shr_nat (x s : Nat) (hs : s ≤ 64) : shr .u64 (x : Int) (s : Int) = ((x / 2 ^ s : Nat) : Int) := by
  unfold shr
  rw [Int.toNat_natCast, Nat.min_eq_left (show s ≤ IntKind.u64.bits by simpa [IntKind.bits] using hs)]
  rw [show ((2 : Int) ^ s) = ((2 ^ s : Nat) : Int) by simp]; rfl
theorem hi_bit (n j : Nat) : n / 18446744073709551616 / 2 ^ j = n / 2 ^ (64 + j) := by
  rw [Nat.div_div_eq_div_mul, Nat.pow_add]
theorem lo_bit (n i : Nat) (hi : i < 64) : n % 18446744073709551616 / 2 ^ i % 2 = n / 2 ^ i % 2 := by
  have h1 : (18446744073709551616 : Nat) = 2 ^ i * (2 * 2 ^ (63 - i)) := by
    rw [← Nat.pow_succ', ← Nat.pow_add, show i + (63 - i + 1) = 64 by omega]
  rw [h1, Nat.mod_mul_right_div_self, Nat.mod_mul_right_mod]
theorem bit_is (n i : Nat) (hi : i < 128) : petrinetref02_bit.f (hiN n) (loN n) (i : Int) = some ((n / 2 ^ i % 2 : Nat) : Int) := by
  unfold petrinetref02_bit.f hiN loN
  by_cases h : i ≥ 64
  · have e : IntKind.u64.wrap (wrap64 ((i : Int) - 64)) = ((i - 64 : Nat) : Int) := by rw [wrap_id _ (by omega), uw]; omega
    rw [if_pos (by omega), e, if_pos (by omega), shr_nat _ _ (by omega), show (2 : Int) = ((2 : Nat) : Int) from rfl, tmod_nat, hi_bit, show 64 + (i - 64) = i by omega]
  · have e : IntKind.u64.wrap (i : Int) = (i : Int) := by rw [uw]; omega
    rw [if_neg (by omega), e, if_pos (by omega), shr_nat _ _ (by omega), show (2 : Int) = ((2 : Nat) : Int) from rfl, tmod_nat, lo_bit n i (by omega)]
theorem step_div (a d b : Nat) (hd : 0 < d) (hb : b < 2) : (2 * (a % d) + b < d → (2 * a + b) / d = 2 * (a / d) ∧ (2 * a + b) % d = 2 * (a % d) + b) ∧ (¬ 2 * (a % d) + b < d → (2 * a + b) / d = 2 * (a / d) + 1 ∧ (2 * a + b) % d = 2 * (a % d) + b - d) := by
  have h1 := Nat.div_add_mod a d
  have h2 := Nat.mod_lt a hd
  constructor
  · intro h
    exact (Nat.div_mod_unique hd).mpr ⟨by rw [Nat.mul_left_comm]; omega, h⟩
  · intro h
    refine (Nat.div_mod_unique hd).mpr ⟨?_, by omega⟩
    rw [Nat.mul_add, Nat.mul_one, Nat.mul_left_comm]; omega
theorem div_half (n i : Nat) : n / 2 ^ i = 2 * (n / 2 ^ (i + 1)) + n / 2 ^ i % 2 := by
  have e : n / 2 ^ (i + 1) = n / 2 ^ i / 2 := by rw [Nat.div_div_eq_div_mul, ← Nat.pow_succ]
  rw [e]
  generalize n / 2 ^ i = m
  omega
theorem divide_l (n d : Nat) (hn : n < 340282366920938463463374607431768211456) (hd : 0 < d) (hd2 : d < 170141183460469231731687303715884105728) (i : Nat) : ∀ (k : Nat), i ≤ 128 → i < k →
    petrinetref02_divide.l0 k ((i : Int) - 1) (hiN n) (loN n) (hiN d) (loN d) (hiN (n / 2 ^ i / d)) (loN (n / 2 ^ i / d)) (hiN (n / 2 ^ i % d)) (loN (n / 2 ^ i % d)) = some (hiN (n / d), loN (n / d), hiN (n % d), loN (n % d)) := by
  induction i with
  | zero =>
    intro k _ hk
    obtain ⟨k, rfl⟩ := fuel (show 0 < k by omega)
    simp only [petrinetref02_divide.l0]
    rw [if_neg (by omega), Nat.pow_zero, Nat.div_one]
  | succ i ih =>
    intro k hi hk
    obtain ⟨k, rfl⟩ := fuel (show 0 < k by omega)
    have h1 := ih k (by omega) (by omega)
    have hr := Nat.mod_lt (n / 2 ^ (i + 1)) hd
    have hq1 : n / 2 ^ (i + 1) / d ≤ n / 2 ^ (i + 1) := Nat.div_le_self _ _
    have hq2 : n / 2 ^ (i + 1) ≤ n / 2 := by
      rw [Nat.pow_succ', ← Nat.div_div_eq_div_mul]; exact Nat.div_le_self _ _
    have hhalf := div_half n i
    have hb := Nat.mod_lt (n / 2 ^ i) (show 0 < 2 by omega)
    obtain ⟨s1, s2⟩ := step_div (n / 2 ^ (i + 1)) d (n / 2 ^ i % 2) hd hb
    rw [← hhalf] at s1 s2
    simp only [petrinetref02_divide.l0]
    rw [show ((i + 1 : Nat) : Int) - 1 = (i : Int) by omega, if_pos (by omega), plus_is _ _ (by omega), Option.bind_some, bit_is n i (by omega), Option.bind_some, plus_is _ _ (by omega), Option.bind_some, wrap_id ((i : Int) - 1) (by omega)]
    generalize n / 2 ^ i % 2 = b at *
    generalize n / 2 ^ (i + 1) % d = r at *
    generalize n / 2 ^ (i + 1) / d = q at *
    generalize n / 2 ^ (i + 1) = m at *
    have e1 : IntKind.u64.wrap (loN (r + r) + (b : Int)) = loN (2 * r + b) := by unfold loN; rw [uw]; omega
    have e2 : hiN (r + r) = hiN (2 * r + b) := by unfold hiN; omega
    have e3 : IntKind.u64.wrap (loN (q + q) + 1) = loN (2 * q + 1) := by unfold loN; rw [uw]; omega
    have e4 : hiN (q + q) = hiN (2 * q + 1) := by unfold hiN; omega
    have e5 : q + q = 2 * q := by omega
    simp only [e1]
    rw [e2, less_is, Option.bind_some]
    by_cases c : 2 * r + b < d
    · obtain ⟨t1, t2⟩ := s1 c
      rw [t1, t2] at h1
      rw [decide_eq_true c, if_pos rfl, e5]
      exact h1
    · obtain ⟨t1, t2⟩ := s2 c
      rw [t1, t2] at h1
      rw [decide_eq_false c, if_neg (by simp), minus_is _ _ (by omega) (by omega), Option.bind_some, e3, e4]
      exact h1
theorem divide_is (n d : Nat) (hn : n < 340282366920938463463374607431768211456) (hd : 0 < d) (hd2 : d < 170141183460469231731687303715884105728) (k : Nat) (hk : 128 < k) :
    petrinetref02_divide.f k (hiN n) (loN n) (hiN d) (loN d) = some (hiN (n / d), loN (n / d), hiN (n % d), loN (n % d)) := by
  unfold petrinetref02_divide.f
  have := divide_l n d hn hd hd2 128 k (by omega) hk
  have e : n / 2 ^ 128 = 0 := Nat.div_eq_of_lt hn
  rw [e, Nat.zero_div, Nat.zero_mod] at this
  exact this
theorem hi_lo_zero (n : Nat) : (!(hiN n == 0) || (!(loN n == 0))) = true ↔ n ≠ 0 := by
  unfold hiN loN
  rw [Bool.or_eq_true, Bool.not_eq_true', Bool.not_eq_true', beq_eq_false_iff_ne, beq_eq_false_iff_ne]; omega
theorem rcommon_l (n : Nat) : ∀ (k a b : Nat), b ≤ n → a < 170141183460469231731687303715884105728 → b < 170141183460469231731687303715884105728 → n + 200 < k → petrinetref02_common.l0 k (hiN a) (loN a) (hiN b) (loN b) = some (hiN (Nat.gcd a b), loN (Nat.gcd a b)) := by
  induction n with
  | zero =>
    intro k a b hb ha hb2 hk
    obtain ⟨k, rfl⟩ := fuel (show 0 < k by omega)
    obtain rfl : b = 0 := by omega
    simp only [petrinetref02_common.l0]
    rw [if_neg (fun h => ((hi_lo_zero 0).mp h) rfl), Nat.gcd_zero_right]
  | succ n ih =>
    intro k a b hb ha hb2 hk
    obtain ⟨k, rfl⟩ := fuel (show 0 < k by omega)
    simp only [petrinetref02_common.l0]
    by_cases h : b = 0
    · subst h; rw [if_neg (fun h => ((hi_lo_zero 0).mp h) rfl), Nat.gcd_zero_right]
    · have hlt := Nat.mod_lt a (show 0 < b by omega)
      rw [if_pos ((hi_lo_zero b).mpr h), divide_is a b (by omega) (by omega) hb2 k (by omega), Option.bind_some]
      dsimp only
      rw [ih k b (a % b) (by omega) hb2 (by omega) (by omega), Nat.gcd_comm b, ← Nat.gcd_rec, Nat.gcd_comm b]
theorem rcommon_is (a b : Nat) (ha : a < 170141183460469231731687303715884105728) (hb : b < 170141183460469231731687303715884105728) (k : Nat) (hk : b + 200 < k) : petrinetref02_common.f k (hiN a) (loN a) (hiN b) (loN b) = some (hiN (Nat.gcd a b), loN (Nat.gcd a b)) := rcommon_l b k a b (Nat.le_refl _) ha hb hk
theorem wide_small (n : Nat) (h : n < 18446744073709551616) : hiN n = 0 ∧ loN n = (n : Int) := by unfold hiN loN; omega

/-! ### Valid -/
def okF (a b : Int) : Bool := decide (1 ≤ b) && (!(decide (a = -9223372036854775808)) && decide (Nat.gcd a.natAbs b.natAbs = 1))
theorem pvalid_is (a b : Int) (ha : I64 a) (hb : I64 b) (k : Nat) (hk : b.natAbs + 300 < k) : frac_Valid.f k a b = some (okF a b) := by
  unfold frac_Valid.f okF
  by_cases h : b ≥ 1
  · rw [if_pos h, decide_eq_true h, Bool.true_and]
    by_cases c : a = -9223372036854775808
    · rw [if_pos c, decide_eq_true c]; rfl
    · rw [if_neg c, decide_eq_false c, psize_is ha, psize_is hb, Option.bind_some, Option.bind_some, pcommon_is a.natAbs b.natAbs k (by omega), Option.bind_some]
      congr 1
      rw [Bool.not_false, Bool.true_and, ib]
      exact decide_eq_decide.mpr (by omega)
  · rw [if_neg h, decide_eq_false h]; rfl
theorem rvalid_is (a b : Int) (ha : I64 a) (hb : I64 b) (k : Nat) (hk : b.natAbs + 300 < k) : petrinetref02_Valid.f k a b = some (okF a b) := by
  obtain ⟨k, rfl⟩ := fuel (show 0 < k by omega)
  unfold petrinetref02_Valid.f okF
  simp only [petrinetref02_Valid.j0]
  by_cases h : b < 1
  · rw [if_pos h, if_pos trivial, decide_eq_false (by omega)]; rfl
  · rw [if_neg h, decide_eq_true (by omega), Bool.true_and]
    by_cases c : a = -9223372036854775808
    · rw [if_pos (by simpa using c), decide_eq_true c]; rfl
    · have h1 := abs_lt ha
      have h2 := abs_lt hb
      have hb' : IntKind.u64.wrap b = (b.natAbs : Int) := by rw [uw]; unfold I64 at hb; omega
      obtain ⟨a1, a2⟩ := wide_small a.natAbs (by omega)
      obtain ⟨b1, b2⟩ := wide_small b.natAbs (by omega)
      have e1 := rcommon_is a.natAbs b.natAbs (by omega) (by omega) k (by omega)
      rw [a1, a2, b1, b2] at e1
      have hg1 : Nat.gcd a.natAbs b.natAbs ≤ b.natAbs := Nat.gcd_le_right _ (by omega)
      obtain ⟨g1, g2⟩ := wide_small (Nat.gcd a.natAbs b.natAbs) (by omega)
      rw [if_neg (by simpa using c), decide_eq_false c, rsize_is ha, Option.bind_some, hb', e1, Option.bind_some, g1, g2]
      congr 1
      rw [Bool.not_false, Bool.true_and, ib, ib, decide_eq_true rfl, Bool.true_and]
      exact decide_eq_decide.mpr (by omega)
theorem ex02 (k : Nat) (hk : 60 ≤ k) : petrinetlaw02_exampleHolds.f k = some true := at_rounds (fun k => petrinetlaw02_exampleHolds.mono k) hk (by decide +kernel)
theorem okF_facts {a b : Int} (h : okF a b = true) : 1 ≤ b ∧ a ≠ -9223372036854775808 ∧ Nat.gcd a.natAbs b.natAbs = 1 := by
  unfold okF at h
  rw [Bool.and_eq_true, Bool.and_eq_true, decide_eq_true_iff, decide_eq_true_iff, Bool.not_eq_true', decide_eq_false_iff_not] at h
  exact ⟨h.1, h.2.1, h.2.2⟩

/-! ### Text -/
def mk' (p : List UInt8) : ByteArray := mk p
theorem mk_size (p : List UInt8) : (mk p).size = p.length := by rw [size_data]; unfold mk; rw [Num.data_mk]
theorem mk_data (p : List UInt8) : (mk p).data.toList = p := by unfold mk; rw [Num.data_mk]
theorem mk_app (p q : List UInt8) : mk p ++ mk q = mk (p ++ q) := Num.str_ext (by rw [Num.data_append, mk_data, mk_data, mk_data])
theorem dec_len (d : Nat) : ∀ u, u < 10 ^ (d + 1) → (Lib.decDigits u).length ≤ d + 1 := by
  induction d with
  | zero => intro u h; rw [Lib.decDigits, dif_pos (by simpa using h)]; simp
  | succ d ih =>
    intro u h
    rw [Lib.decDigits]
    by_cases c : u < 10
    · rw [dif_pos c]; simp
    · rw [dif_neg c]
      have := ih (u / 10) (by rw [Nat.pow_succ] at h; omega)
      simp; omega
theorem digits_l (d : Nat) : ∀ (k u : Nat), u < 10 ^ (d + 1) → d ≤ 30 → u < 18446744073709551616 → d + 2 ≤ k → petrinetref02_Digits.f k (u : Int) = some (mk (Lib.decDigits u)) := by
  have small : ∀ (k u : Nat), u < 10 → 0 < k → petrinetref02_Digits.f k (u : Int) = some (mk (Lib.decDigits u)) := by
    intro k u hu hk
    obtain ⟨k, rfl⟩ := fuel hk
    simp only [petrinetref02_Digits.f]
    rw [if_pos (by omega), Lib.decDigits, dif_pos hu, uw]
    have e : ((48 + (u : Int)) % 18446744073709551616 % 256) = ((48 + u : Nat) : Int) := by omega
    rw [e]; rfl
  induction d with
  | zero => intro k u h _ _ hk; exact small k u (by simpa using h) (by omega)
  | succ d ih =>
    intro k u h hd hu hk
    by_cases c : u < 10
    · exact small k u c (by omega)
    · obtain ⟨k, rfl⟩ := fuel (show 0 < k by omega)
      have h10 : u / 10 < 10 ^ (d + 1) := by rw [Nat.pow_succ] at h; omega
      have l1 := dec_len d (u / 10) h10
      have l2 := dec_len 0 (u % 10) (by omega)
      simp only [petrinetref02_Digits.f]
      rw [if_neg (by omega), show (10 : Int) = ((10 : Nat) : Int) from rfl, tdiv_nat, tmod_nat, uw, show (((u / 10 : Nat) : Int) % 18446744073709551616) = ((u / 10 : Nat) : Int) by omega, ih k (u / 10) h10 (by omega) (by omega) (by omega), Option.bind_some, small k (u % 10) (by omega) (by omega), Option.bind_some, mk_size, mk_size, if_pos (by omega), mk_app]
      have e := Lib.decDigits.eq_1 u
      rw [dif_neg c] at e
      rw [e]
      have e2 : Lib.decDigits (u % 10) = [UInt8.ofNat (48 + u % 10)] := by rw [Lib.decDigits, dif_pos (by omega)]
      rw [e2]
theorem digits_is (u : Nat) (hu : u < 18446744073709551616) (k : Nat) (hk : 30 ≤ k) : petrinetref02_Digits.f k (u : Int) = some (mk (Lib.decDigits u)) := digits_l 19 k u (by omega) (by omega) hu (by omega)
theorem dec20 (u : Nat) (hu : u < 18446744073709551616) : (Lib.decDigits u).length ≤ 20 := dec_len 19 u (by omega)
theorem itoa21 {n : Int} (h : I64 n) : (Lib.itoa n).length ≤ 21 := by
  have ha := abs_lt h
  by_cases c : n < 0
  · rw [Num.itoa_neg' c, List.length_cons]; have := dec20 n.natAbs (by omega); omega
  · rw [Num.itoa_pos (by omega)]; have := dec20 n.toNat (by omega); omega
def textL (a b : Int) : List UInt8 := if okF a b = true then (if b = 1 then Lib.itoa a else Lib.itoa a ++ 47 :: Lib.itoa b) else [63]
theorem fmt_is {n : Int} (h : I64 n) : strconv_FormatInt.f n 10 = some (mk (Lib.itoa n)) := by unfold strconv_FormatInt.f mk; unfold I64 at h; rw [if_pos ⟨by omega, rfl⟩]
theorem ptext_is (a b : Int) (ha : I64 a) (hb : I64 b) (k : Nat) (hk : b.natAbs + 300 < k) : frac_Text.f k a b = some (mk (textL a b)) := by
  unfold frac_Text.f textL
  rw [pvalid_is a b ha hb k hk, Option.bind_some, fmt_is ha, fmt_is hb, Option.bind_some, Option.bind_some]
  have l1 := itoa21 ha
  have l2 := itoa21 hb
  by_cases h : okF a b = true
  · rw [if_pos h, if_pos h]
    by_cases c : b = 1
    · rw [if_pos c, if_pos c]
    · rw [if_neg c, if_neg c, show (⟨#[47]⟩ : ByteArray) = mk [47] from rfl, mk_app, mk_size, mk_size, mk_size, if_pos (by omega), if_pos (by simp; omega), mk_app]; rfl
  · rw [if_neg h, if_neg h]; rfl
theorem rtext_is (a b : Int) (ha : I64 a) (hb : I64 b) (k : Nat) (hk : b.natAbs + 300 < k) : petrinetref02_Text.f k a b = some (mk (textL a b)) := by
  unfold petrinetref02_Text.f textL
  rw [rvalid_is a b ha hb k hk, Option.bind_some]
  by_cases h : okF a b = true
  · obtain ⟨h1, h2, _⟩ := okF_facts h
    have hA := abs_lt ha
    have hB := abs_lt hb
    have l1 := dec20 a.natAbs (by omega)
    have l2 := dec20 b.natAbs (by omega)
    have hbw : IntKind.u64.wrap b = (b.natAbs : Int) := by rw [uw]; unfold I64 at hb; omega
    have eb : Lib.itoa b = Lib.decDigits b.natAbs := by rw [Num.itoa_pos (by omega)]; congr 1; omega
    rw [if_pos h, if_pos h, rsize_is ha, Option.bind_some, digits_is a.natAbs (by omega) k (by omega), Option.bind_some, hbw, digits_is b.natAbs (by omega) k (by omega), Option.bind_some, Option.bind_some, eb]
    rw [show (⟨#[45]⟩ : ByteArray) = mk [45] from rfl, show (⟨#[47]⟩ : ByteArray) = mk [47] from rfl, mk_app, mk_app, mk_app, mk_app, mk_app]
    simp only [mk_size]
    by_cases c : a < 0
    · have ea : Lib.itoa a = 45 :: Lib.decDigits a.natAbs := Num.itoa_neg' c
      rw [if_pos c, if_pos (by omega), ea]
      by_cases d : b = 1
      · rw [if_pos d, if_pos d]; rfl
      · rw [if_neg d, if_neg d, if_pos (by simp; omega), if_pos (by simp; omega)]; simp
    · have ea : Lib.itoa a = Lib.decDigits a.natAbs := by rw [Num.itoa_pos (by omega)]; congr 1; omega
      rw [if_neg c, ea]
      by_cases d : b = 1
      · rw [if_pos d, if_pos d]
      · rw [if_neg d, if_neg d, if_pos (by omega), if_pos (by simp; omega)]; simp
  · rw [if_neg h, if_neg h]; rfl

theorem mk_self (s : ByteArray) : mk s.data.toList = s := Num.str_ext (mk_data _)
end Go.Proofs.YtdkfnhcegafliaaDoor.Plain
