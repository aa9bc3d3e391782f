/- Plain laws over the printed functions: what each comes to. No condition but the ones written. -/
import Derived.Test.YtkkmpdonmiblnaaDoorRRRRPlainA
import Derived.Test.YtkkmpdonmiblnaaDoorRRRRPAllx6
import Derived.Test.YtkkmpdonmiblnaaDoorRRRRPAllx6
import Derived.Test.YtkkmpdonmiblnaaDoorRRRRPAllx6
namespace Go.Proofs.YtkkmpdonmiblnaaDoorRRRR.Plain
open Go Go.RowKit Go.Proofs.YtkkmpdonmiblnaaDoorRRRR.PAll Go.Proofs.YtkkmpdonmiblnaaDoorRRRRW.PrintWords Go.Proofs.YtkkmpdonmiblnaaDoorRRRRW.PrintLast Go.Proofs.YtkkmpdonmiblnaaDoorRRRRW.PrintMore
set_option linter.unusedVariables false
/-! ### Floor -/
theorem quo_facts (a b : Int) (hb : 1 ≤ b) : b * Int.tdiv a b + Int.tmod a b = a ∧ -b < Int.tmod a b ∧ Int.tmod a b < b ∧ (0 ≤ a → 0 ≤ b * Int.tdiv a b ∧ b * Int.tdiv a b ≤ a ∧ 0 ≤ Int.tdiv a b ∧ Int.tdiv a b ≤ b * Int.tdiv a b) ∧ (a < 0 → b * Int.tdiv a b ≤ 0 ∧ a ≤ b * Int.tdiv a b ∧ Int.tdiv a b ≤ 0 ∧ b * Int.tdiv a b ≤ Int.tdiv a b) := by
  have pos : ∀ c : Int, 0 ≤ c → 0 ≤ b * Int.tdiv c b ∧ b * Int.tdiv c b ≤ c ∧ 0 ≤ Int.tdiv c b ∧ Int.tdiv c b ≤ b * Int.tdiv c b := by
    intro c hc
    have h1 := Int.mul_tdiv_add_tmod c b
    have h2 := Int.tmod_nonneg b hc
    have h3 : 0 ≤ Int.tdiv c b := Int.tdiv_nonneg hc (by omega)
    have h4 : 1 * Int.tdiv c b ≤ b * Int.tdiv c b := Int.mul_le_mul_of_nonneg_right hb h3
    omega
  have h4 := Int.tmod_lt_of_pos a (show 0 < b by omega)
  have h5 := Int.tmod_lt_of_pos (-a) (show 0 < b by omega)
  rw [Int.neg_tmod] at h5
  refine ⟨Int.mul_tdiv_add_tmod a b, by omega, h4, pos a, fun h => ?_⟩
  have h6 := pos (-a) (by omega)
  rw [Int.neg_tdiv, Int.mul_neg] at h6
  omega
def floorV (a b : Int) : Int × Int := if okF a b = true then (if Int.tmod a b < 0 then (Int.tdiv a b - 1, 0) else (Int.tdiv a b, 0)) else (0, 1)
theorem okF_facts {a b : Int} (h : okF a b = true) : 1 ≤ b ∧ a ≠ -9223372036854775808 ∧ Nat.gcd a.natAbs b.natAbs = 1 := by
  unfold okF at h
  rw [Bool.and_eq_true, Bool.and_eq_true, decide_eq_true_iff, decide_eq_true_iff, Bool.not_eq_true', decide_eq_false_iff_not] at h
  exact ⟨h.1, h.2.1, h.2.2⟩
theorem pfloor_is (a b : Int) (ha : I64 a) (hb : I64 b) (k : Nat) (hk : b.natAbs + 300 < k) : frac_Floor.f k a b = some (floorV a b) := by
  unfold frac_Floor.f floorV
  rw [pvalid_is a b ha hb k hk, Option.bind_some]
  by_cases h : okF a b = true
  · obtain ⟨h1, h2, _⟩ := okF_facts h
    obtain ⟨q0, q1, q2, q3, q4⟩ := quo_facts a b h1
    rw [if_pos h, if_pos h]
    unfold safeint_Div.f
    rw [if_neg (by omega), if_neg (by omega)]
    unfold I64 at ha
    generalize b * Int.tdiv a b = p at *
    generalize Int.tdiv a b = q at *
    generalize Int.tmod a b = r at *
    have hq : wrap64 q = q := wrap_id q (by omega)
    by_cases c : r < 0
    · rw [if_pos c, if_pos c, hq, wrap_id (q - 1) (by omega)]; rfl
    · rw [if_neg c, if_neg c, hq]; rfl
  · rw [if_neg h, if_neg h]
theorem rfloor_is (a b : Int) (ha : I64 a) (hb : I64 b) (k : Nat) (hk : b.natAbs + 300 < k) : petrinetref02_Floor.f k a b = some (floorV a b) := by
  unfold petrinetref02_Floor.f floorV
  rw [rvalid_is a b ha hb k hk, Option.bind_some]
  by_cases h : okF a b = true
  · obtain ⟨h1, h2, _⟩ := okF_facts h
    obtain ⟨q0, q1, q2, q3, q4⟩ := quo_facts a b h1
    rw [if_pos h, if_pos h, if_neg (by omega)]
    unfold I64 at ha
    have hq : wrap64 (Int.tdiv a b) = Int.tdiv a b := wrap_id _ (by omega)
    rw [hq, Int.mul_comm (Int.tdiv a b) b]
    generalize b * Int.tdiv a b = p at *
    generalize Int.tdiv a b = q at *
    generalize Int.tmod a b = r at *
    rw [wrap_id p (by omega)]
    by_cases c : r < 0
    · rw [if_pos (show p > a by omega), if_pos c, wrap_id (q - 1) (by omega)]
    · rw [if_neg (show ¬ p > a by omega), if_neg c]
  · rw [if_neg h, if_neg h]
/-! ### Text -/
def mk' (p : List UInt8) : ByteArray := mk p
theorem mk_size (p : List UInt8) : (mk p).size = p.length := by rw [size_data]; unfold mk; rw [Num.data_mk]
theorem mk_data (p : List UInt8) : (mk p).data.toList = p := by unfold mk; rw [Num.data_mk]
theorem mk_app (p q : List UInt8) : mk p ++ mk q = mk (p ++ q) := Num.str_ext (by rw [Num.data_append, mk_data, mk_data, mk_data])
theorem dec_len (d : Nat) : ∀ u, u < 10 ^ (d + 1) → (Lib.decDigits u).length ≤ d + 1 := by
  induction d with
  | zero => intro u h; rw [Lib.decDigits, dif_pos (by simpa using h)]; simp
  | succ d ih =>
    intro u h
    rw [Lib.decDigits]
    by_cases c : u < 10
    · rw [dif_pos c]; simp
    · rw [dif_neg c]
      have := ih (u / 10) (by rw [Nat.pow_succ] at h; omega)
      simp; omega
theorem digits_l (d : Nat) : ∀ (k u : Nat), u < 10 ^ (d + 1) → d ≤ 30 → u < 18446744073709551616 → d + 2 ≤ k → petrinetref02_Digits.f k (u : Int) = some (mk (Lib.decDigits u)) := by
  have small : ∀ (k u : Nat), u < 10 → 0 < k → petrinetref02_Digits.f k (u : Int) = some (mk (Lib.decDigits u)) := by
    intro k u hu hk
    obtain ⟨k, rfl⟩ := fuel hk
    simp only [petrinetref02_Digits.f]
    rw [if_pos (by omega), Lib.decDigits, dif_pos hu, uw]
    have e : ((48 + (u : Int)) % 18446744073709551616 % 256) = ((48 + u : Nat) : Int) := by omega
    rw [e]; rfl
  induction d with
  | zero => intro k u h _ _ hk; exact small k u (by simpa using h) (by omega)
  | succ d ih =>
    intro k u h hd hu hk
    by_cases c : u < 10
    · exact small k u c (by omega)
    · obtain ⟨k, rfl⟩ := fuel (show 0 < k by omega)
      have h10 : u / 10 < 10 ^ (d + 1) := by rw [Nat.pow_succ] at h; omega
      have l1 := dec_len d (u / 10) h10
      have l2 := dec_len 0 (u % 10) (by omega)
      simp only [petrinetref02_Digits.f]
      rw [if_neg (by omega), show (10 : Int) = ((10 : Nat) : Int) from rfl, tdiv_nat, tmod_nat, uw, show (((u / 10 : Nat) : Int) % 18446744073709551616) = ((u / 10 : Nat) : Int) by omega, ih k (u / 10) h10 (by omega) (by omega) (by omega), Option.bind_some, small k (u % 10) (by omega) (by omega), Option.bind_some, mk_size, mk_size, if_pos (by omega), mk_app]
      have e := Lib.decDigits.eq_1 u
      rw [dif_neg c] at e
      rw [e]
      have e2 : Lib.decDigits (u % 10) = [UInt8.ofNat (48 + u % 10)] := by rw [Lib.decDigits, dif_pos (by omega)]
      rw [e2]
theorem digits_is (u : Nat) (hu : u < 18446744073709551616) (k : Nat) (hk : 30 ≤ k) : petrinetref02_Digits.f k (u : Int) = some (mk (Lib.decDigits u)) := digits_l 19 k u (by omega) (by omega) hu (by omega)
theorem dec20 (u : Nat) (hu : u < 18446744073709551616) : (Lib.decDigits u).length ≤ 20 := dec_len 19 u (by omega)
theorem itoa21 {n : Int} (h : I64 n) : (Lib.itoa n).length ≤ 21 := by
  have ha := abs_lt h
  by_cases c : n < 0
  · rw [Num.itoa_neg' c, List.length_cons]; have := dec20 n.natAbs (by omega); omega
  · rw [Num.itoa_pos (by omega)]; have := dec20 n.toNat (by omega); omega
def textL (a b : Int) : List UInt8 := if okF a b = true then (if b = 1 then Lib.itoa a else Lib.itoa a ++ 47 :: Lib.itoa b) else [63]
theorem fmt_is {n : Int} (h : I64 n) : strconv_FormatInt.f n 10 = some (mk (Lib.itoa n)) := by unfold strconv_FormatInt.f mk; unfold I64 at h; rw [if_pos ⟨by omega, rfl⟩]
theorem ptext_is (a b : Int) (ha : I64 a) (hb : I64 b) (k : Nat) (hk : b.natAbs + 300 < k) : frac_Text.f k a b = some (mk (textL a b)) := by
  unfold frac_Text.f textL
  rw [pvalid_is a b ha hb k hk, Option.bind_some, fmt_is ha, fmt_is hb, Option.bind_some, Option.bind_some]
  have l1 := itoa21 ha
  have l2 := itoa21 hb
  by_cases h : okF a b = true
  · rw [if_pos h, if_pos h]
    by_cases c : b = 1
    · rw [if_pos c, if_pos c]
    · rw [if_neg c, if_neg c, show (⟨#[47]⟩ : ByteArray) = mk [47] from rfl, mk_app, mk_size, mk_size, mk_size, if_pos (by omega), if_pos (by simp; omega), mk_app]; rfl
  · rw [if_neg h, if_neg h]; rfl
theorem rtext_is (a b : Int) (ha : I64 a) (hb : I64 b) (k : Nat) (hk : b.natAbs + 300 < k) : petrinetref02_Text.f k a b = some (mk (textL a b)) := by
  unfold petrinetref02_Text.f textL
  rw [rvalid_is a b ha hb k hk, Option.bind_some]
  by_cases h : okF a b = true
  · obtain ⟨h1, h2, _⟩ := okF_facts h
    have hA := abs_lt ha
    have hB := abs_lt hb
    have l1 := dec20 a.natAbs (by omega)
    have l2 := dec20 b.natAbs (by omega)
    have hbw : IntKind.u64.wrap b = (b.natAbs : Int) := by rw [uw]; unfold I64 at hb; omega
    have eb : Lib.itoa b = Lib.decDigits b.natAbs := by rw [Num.itoa_pos (by omega)]; congr 1; omega
    rw [if_pos h, if_pos h, rsize_is ha, Option.bind_some, digits_is a.natAbs (by omega) k (by omega), Option.bind_some, hbw, digits_is b.natAbs (by omega) k (by omega), Option.bind_some, Option.bind_some, eb]
    rw [show (⟨#[45]⟩ : ByteArray) = mk [45] from rfl, show (⟨#[47]⟩ : ByteArray) = mk [47] from rfl, mk_app, mk_app, mk_app, mk_app, mk_app]
    simp only [mk_size]
    by_cases c : a < 0
    · have ea : Lib.itoa a = 45 :: Lib.decDigits a.natAbs := Num.itoa_neg' c
      rw [if_pos c, if_pos (by omega), ea]
      by_cases d : b = 1
      · rw [if_pos d, if_pos d]; rfl
      · rw [if_neg d, if_neg d, if_pos (by simp; omega), if_pos (by simp; omega)]; simp
    · have ea : Lib.itoa a = Lib.decDigits a.natAbs := by rw [Num.itoa_pos (by omega)]; congr 1; omega
      rw [if_neg c, ea]
      by_cases d : b = 1
      · rw [if_pos d, if_pos d]
      · rw [if_neg d, if_neg d, if_pos (by omega), if_pos (by simp; omega)]; simp
  · rw [if_neg h, if_neg h]; rfl
end Go.Proofs.YtkkmpdonmiblnaaDoorRRRR.Plain
