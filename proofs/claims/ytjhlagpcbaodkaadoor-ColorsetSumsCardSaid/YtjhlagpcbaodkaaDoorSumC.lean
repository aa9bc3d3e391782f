/- Plain laws over the printed functions: what each comes to. No condition but the ones written. -/
import Derived.Test.YtjhlagpcbaodkaaDoorSumB
import Derived.Test.YtjhlagpcbaodkaaDoorPSumx6
import Derived.Test.YtjhlagpcbaodkaaDoorPSumx7
namespace Go.Proofs.YtjhlagpcbaodkaaDoor.PlainS
open Go Go.RowKit Go.Proofs.YtjhlagpcbaodkaaDoor.PSum Go.Proofs.YtjhlagpcbaodkaaDoorW.PrintWords Go.Proofs.YtjhlagpcbaodkaaDoorW.PrintLast Go.Proofs.YtjhlagpcbaodkaaDoorW.PrintMore
set_option linter.unusedVariables false
/-! ### multiples -/
def scOk (c : Int) (a : List Int) : Bool := decide (∀ x ∈ a, x * c ≤ 1048576)
theorem scOk_cons (c x : Int) (a : List Int) : scOk c (x :: a) = (decide (x * c ≤ 1048576) && scOk c a) := by unfold scOk; simp
def scaleV (a : List Int) (c : Int) : List Int := if (decide (0 ≤ c) && (inB a && scOk c a)) = true then mulT c a else []
theorem sc_iff {x c : Int} (hx : 0 < x) (hx2 : x ≤ 1048576) : c > wrap64 (Int.tdiv 1048576 x) ↔ ¬ x * c ≤ 1048576 := by
  have h1 : Int.tdiv 1048576 x = 1048576 / x := Int.tdiv_eq_ediv_of_nonneg (by omega)
  have h2 : 0 ≤ (1048576 : Int) / x := Int.ediv_nonneg (by omega) (by omega)
  have h3 : (1048576 : Int) / x ≤ 1048576 := Int.ediv_le_self _ (by omega)
  rw [h1, wrap_id _ (by omega)]
  have h4 : c ≤ 1048576 / x ↔ c * x ≤ 1048576 := Int.le_ediv_iff_mul_le hx
  rw [Int.mul_comm] at h4
  omega
theorem pscale_l (a : List Int) (c : Int) (hc : 0 ≤ c) (ha : a.length ≤ 17592186044416) (hb : inB a = true) (n : Nat) : ∀ (k i : Nat), a.length - i = n → i ≤ a.length → n < k →
    colorset_Scale.l0 k c ((mulT c a).take i ++ List.replicate ((mulT c a).length - i) 0) a (a.length : Int) (i : Int) = some (if scOk c (a.drop i) = true then mulT c a else []) := by
  have hT := mulT_len c a
  induction n with
  | zero =>
    intro k i hn hi hk
    obtain ⟨k, rfl⟩ := fuel (show 0 < k by omega)
    obtain rfl : i = a.length := by omega
    have e : (mulT c a).take a.length ++ List.replicate ((mulT c a).length - a.length) 0 = mulT c a := by rw [hT, Nat.sub_self, List.take_of_length_le (by omega)]; simp
    simp only [colorset_Scale.l0]
    rw [if_neg (by omega), e, drop_end a _ (by omega), if_pos (by simp [scOk])]
  | succ n ih =>
    intro k i hn hi hk
    obtain ⟨k, rfl⟩ := fuel (show 0 < k by omega)
    have h1 : i < a.length := by omega
    have hx := (inB_iff a).mp hb _ (List.getElem_mem h1)
    have hs := set_len (mulT c a) i (by omega)
    have hg : (mulT c a)[i]'(by omega) = wrap64 (a[i] * c) := by unfold mulT; rw [List.getElem_map]
    have hlt : (i : Int) < ((List.take i (mulT c a) ++ List.replicate ((mulT c a).length - i) (0 : Int)).length : Int) := by omega
    simp only [colorset_Scale.l0]
    rw [if_pos (by omega), if_pos (by omega), if_pos (by omega), rd_get a i h1, wrap_succ i (by omega), Int.toNat_natCast, ← hg, set_step _ i (by omega), ih k (i + 1) (by omega) (by omega) (by omega), drop_cons a i h1, scOk_cons]
    simp only [if_pos hlt]
    clear hg ih hs hlt
    generalize a[i] = x at *
    by_cases c0 : x > 0
    · rw [if_pos c0, if_neg (by omega)]
      by_cases c1 : x * c ≤ 1048576
      · rw [if_neg (fun h => (sc_iff c0 hx.2).mp h c1), decide_eq_true c1, Bool.true_and]
      · rw [if_pos ((sc_iff c0 hx.2).mpr c1), decide_eq_false c1, Bool.false_and, if_neg (by simp)]
    · rw [if_neg c0]
      obtain rfl : x = 0 := by omega
      rw [decide_eq_true (by rw [Int.zero_mul]; omega), Bool.true_and]
theorem pscale_is (a : List Int) (c : Int) (ha : a.length ≤ 17592186044416) (k : Nat) (hk : a.length + 100 ≤ k) : colorset_Scale.f k a c = some (scaleV a c) := by
  unfold colorset_Scale.f scaleV
  obtain ⟨k, rfl⟩ := fuel (show 0 < k by omega)
  simp only [colorset_Scale.j0]
  by_cases h : c < 0
  · rw [if_pos h, if_pos trivial, decide_eq_false (by omega), Bool.false_and, if_neg (by simp)]
  · rw [if_neg h, one_valid a ha (k + 1) (by omega), Option.bind_some, decide_eq_true (by omega), Bool.true_and]
    cases e : inB a with
    | false => rw [if_pos (by simp), Bool.false_and, if_neg (by simp)]
    | true =>
      have := pscale_l a c (by omega) ha e _ k 0 rfl (by omega) (by omega)
      rw [List.take_zero, List.nil_append, Nat.sub_zero, mulT_len] at this
      rw [if_neg (by simp), if_pos (by omega), if_pos (by omega), Int.toNat_natCast, Bool.true_and]
      simpa using this
def scR (c : Int) (a : List Int) : Bool := decide (∀ x ∈ a, x > 0 → c ≤ 1048576)
theorem scR_cons (c x : Int) (a : List Int) : scR c (x :: a) = (decide (x > 0 → c ≤ 1048576) && scR c a) := by unfold scR; simp
theorem rscale_l (a : List Int) (c : Int) (ha : a.length ≤ 17592186044416) (n : Nat) : ∀ (k i : Nat), a.length - i = n → i ≤ a.length → 2 * n + a.length + 20 < k →
    petrinetref39_Scale.l0 k a c ((mulT c a).take i) (i : Int) = some (if scR c (a.drop i) = true then (if inB (mulT c a) = true then mulT c a else []) else []) := by
  have hT := mulT_len c a
  induction n with
  | zero =>
    intro k i hn hi hk
    obtain ⟨k, rfl⟩ := fuel (show 0 < k by omega)
    simp only [petrinetref39_Scale.l0]
    rw [if_neg (by omega), List.take_of_length_le (by omega), rwhole_is _ (by omega) k (by omega), Option.bind_some, drop_end a i (by omega), if_pos (show scR c [] = true by simp [scR])]
  | succ n ih =>
    intro k i hn hi hk
    obtain ⟨k, rfl⟩ : ∃ j, k = j + 2 := ⟨k - 2, by omega⟩
    have h1 : i < a.length := by omega
    have hg : (mulT c a)[i]'(by omega) = wrap64 (a[i] * c) := by unfold mulT; rw [List.getElem_map]
    have hz : ∀ x : Int, x = a[i] → (if x = 0 then (mulT c a).take i ++ [0] else (mulT c a).take i ++ [wrap64 (x * c)]) = (mulT c a).take (i + 1) := by
      intro x hx
      rw [List.take_succ_eq_append_getElem (by omega), hg, hx]
      by_cases q : a[i] = 0
      · rw [if_pos q, q, Int.zero_mul, wrap_id 0 (by omega)]
      · rw [if_neg q]
    have hj : ∀ b : Bool, petrinetref39_Scale.j2 (k + 1) a c ((mulT c a).take i) (i : Int) b = if b = true then some [] else petrinetref39_Scale.l0 k a c ((mulT c a).take (i + 1)) ((i + 1 : Nat) : Int) := by
      intro b
      simp only [petrinetref39_Scale.j2]
      cases b with
      | true => rfl
      | false =>
        rw [if_neg (show ¬ (false = true) by simp), if_neg (show ¬ (false = true) by simp), if_pos (by omega), if_pos (by omega), rd_get a i h1, wrap_succ i (by omega)]
        have hlt : (List.take i (mulT c a)).length < 17592186044416 := by rw [List.length_take]; omega
        have := hz a[i] rfl
        by_cases q : a[i] = 0
        · rw [if_pos q] at this ⊢; rw [if_pos hlt, this]
        · rw [if_neg q] at this ⊢; rw [if_pos hlt, this]
    show petrinetref39_Scale.l0 ((k + 1) + 1) _ _ _ _ = _
    simp only [petrinetref39_Scale.l0]
    rw [if_pos (by omega), if_pos (by omega), rd_get a i h1, hj, hj, ih k (i + 1) (by omega) (by omega) (by omega), drop_cons a i h1, scR_cons]
    clear hz hj hg ih
    generalize a[i] = x at *
    by_cases c0 : x > 0
    · rw [if_pos c0]
      by_cases c1 : c > 1048576
      · rw [decide_eq_true c1, if_pos rfl, decide_eq_false (by omega), Bool.false_and, if_neg (by simp)]
      · rw [decide_eq_false c1, if_neg (by simp), decide_eq_true (by omega), Bool.true_and]
    · rw [if_neg c0, if_neg (by simp), decide_eq_true (by omega), Bool.true_and]
theorem sc_same (a : List Int) (c : Int) (hc : 0 ≤ c) (hb : inB a = true) : (if scR c a = true then (if inB (mulT c a) = true then mulT c a else []) else []) = if scOk c a = true then mulT c a else [] := by
  have hb' := (inB_iff a).mp hb
  by_cases h : scOk c a = true
  · have h' := of_decide_eq_true h
    have hr : scR c a = true := decide_eq_true fun x hx h0 => by
      have h1 := h' x hx
      have h2 : 1 * c ≤ x * c := Int.mul_le_mul_of_nonneg_right (by omega) hc
      omega
    have hi : inB (mulT c a) = true := by
      rw [inB_iff]
      intro y hy
      unfold mulT at hy
      obtain ⟨x, hx, rfl⟩ := List.mem_map.1 hy
      have h1 := h' x hx
      have h2 : 0 ≤ x * c := Int.mul_nonneg (hb' x hx).1 hc
      rw [wrap_id _ (by omega)]; omega
    rw [if_pos h, if_pos hr, if_pos hi]
  · rw [if_neg h]
    by_cases hr : scR c a = true
    · have hr' := of_decide_eq_true hr
      rw [if_pos hr, if_neg]
      intro hi
      have hi' := (inB_iff _).mp hi
      apply h
      refine decide_eq_true fun x hx => ?_
      have h0 := hb' x hx
      have h3 := hi' (wrap64 (x * c)) (List.mem_map.2 ⟨x, hx, rfl⟩)
      by_cases c0 : x > 0
      · have h4 := hr' x hx c0
        have h5 : x * c ≤ 1048576 * 1048576 := Int.mul_le_mul h0.2 h4 hc (by omega)
        have h6 : 0 ≤ x * c := Int.mul_nonneg h0.1 hc
        rw [wrap_id _ (by omega)] at h3; omega
      · obtain rfl : x = 0 := by omega
        rw [Int.zero_mul]; omega
    · rw [if_neg hr]
theorem rscale_is (a : List Int) (c : Int) (ha : a.length ≤ 17592186044416) (k : Nat) (hk : 3 * a.length + 100 ≤ k) : petrinetref39_Scale.f k a c = some (scaleV a c) := by
  unfold petrinetref39_Scale.f scaleV
  obtain ⟨k, rfl⟩ := fuel (show 0 < k by omega)
  simp only [petrinetref39_Scale.j0]
  rw [rmulti_is a ha (k + 1) (by omega), Option.bind_some]
  cases e : inB a with
  | false => rw [if_neg (by simp), if_pos trivial, Bool.false_and, Bool.and_false, if_neg (by simp)]
  | true =>
    rw [if_pos rfl]
    by_cases h : c < 0
    · rw [decide_eq_true h, if_pos rfl, decide_eq_false (by omega), Bool.false_and, if_neg (by simp)]
    · have := rscale_l a c ha _ k 0 rfl (by omega) (by omega)
      rw [List.drop_zero, sc_same a c (by omega) e] at this
      rw [decide_eq_false h, if_neg (by simp), decide_eq_true (by omega), Bool.true_and, Bool.true_and]
      simpa using this
theorem scaleV_len (a : List Int) (c : Int) : (scaleV a c).length ≤ a.length := by
  unfold scaleV
  split
  · rw [mulT_len]; omega
  · simp
end Go.Proofs.YtjhlagpcbaodkaaDoor.PlainS
