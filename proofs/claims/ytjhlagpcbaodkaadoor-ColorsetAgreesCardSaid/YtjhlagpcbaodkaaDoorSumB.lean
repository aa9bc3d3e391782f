/- Plain laws over the printed functions: what each comes to. No condition but the ones written. -/
import Derived.Test.YtjhlagpcbaodkaaDoorSumA
import Derived.Test.YtjhlagpcbaodkaaDoorPSumx3
import Derived.Test.YtjhlagpcbaodkaaDoorPSumx3
import Derived.Test.YtjhlagpcbaodkaaDoorPSumx4
import Derived.Test.YtjhlagpcbaodkaaDoorPSumx5
import Derived.Test.YtjhlagpcbaodkaaDoorPSumx5
import Derived.Test.YtjhlagpcbaodkaaDoorPSumx6
namespace Go.Proofs.YtjhlagpcbaodkaaDoor.PlainS
open Go Go.RowKit Go.Proofs.YtjhlagpcbaodkaaDoor.PSum Go.Proofs.YtjhlagpcbaodkaaDoorW.PrintWords Go.Proofs.YtjhlagpcbaodkaaDoorW.PrintLast Go.Proofs.YtjhlagpcbaodkaaDoorW.PrintMore
set_option linter.unusedVariables false
/-! ### sums, differences, multiples, the order -/
theorem set_step (T : List Int) (i : Nat) (h : i < T.length) : (T.take i ++ List.replicate (T.length - i) 0).set i T[i] = T.take (i + 1) ++ List.replicate (T.length - (i + 1)) 0 := by
  have hl : (T.take i).length = i := by rw [List.length_take]; omega
  rw [List.set_append_right _ _ (by omega), hl, Nat.sub_self, List.take_succ_eq_append_getElem h, show T.length - i = (T.length - (i + 1)) + 1 by omega, List.replicate_succ, List.set_cons_zero, List.append_assoc]
  rfl
def addT (a b : List Int) : List Int := List.zipWith (fun x y => wrap64 (x + y)) a b
def subT (a b : List Int) : List Int := List.zipWith (fun x y => wrap64 (x - y)) a b
def mulT (c : Int) (a : List Int) : List Int := a.map (fun x => wrap64 (x * c))
def leAll : List Int → List Int → Bool
  | x :: a, y :: b => decide (x ≤ y) && leAll a b
  | _, _ => true
def leqV (a b : List Int) : Bool := decide (a.length = b.length) && (inB a && inB b) && leAll a b
def addV (a b : List Int) : List Int := if (decide (a.length = b.length) && (inB a && inB b)) = true then (if inB (addT a b) = true then addT a b else []) else []
def subV (a b : List Int) : List Int := if leqV b a = true then subT a b else []
theorem addT_len {a b : List Int} (h : a.length = b.length) : (addT a b).length = a.length := by unfold addT; rw [List.length_zipWith]; omega
theorem subT_len {a b : List Int} (h : a.length = b.length) : (subT a b).length = a.length := by unfold subT; rw [List.length_zipWith]; omega
theorem mulT_len (c : Int) (a : List Int) : (mulT c a).length = a.length := by unfold mulT; rw [List.length_map]
theorem set_len (T : List Int) (i : Nat) (h : i ≤ T.length) : (T.take i ++ List.replicate (T.length - i) 0).length = T.length := by simp; omega
theorem two_valid (a b : List Int) (ha : a.length ≤ 17592186044416) (hb : b.length ≤ 17592186044416) (k : Nat) (hk : a.length + b.length + 10 ≤ k) : colorset_valid.f k [a, b] = some (inB a && inB b) := by
  rw [cvalid_is [a, b] (by simp) (by intro c hc; simp at hc; rcases hc with rfl | rfl <;> omega) k (by simp [wtL]; omega)]
  simp
theorem one_valid (a : List Int) (ha : a.length ≤ 17592186044416) (k : Nat) (hk : a.length + 10 ≤ k) : colorset_valid.f k [a] = some (inB a) := by
  rw [cvalid_is [a] (by simp) (by intro c hc; simp at hc; subst hc; omega) k (by simp [wtL]; omega)]
  simp
theorem padd_l (a b : List Int) (h : a.length = b.length) (ha : a.length ≤ 17592186044416) (n : Nat) : ∀ (k i : Nat), a.length - i = n → i ≤ a.length → n + a.length + 20 < k →
    colorset_Add.l0 k a b ((addT a b).take i ++ List.replicate ((addT a b).length - i) 0) (a.length : Int) (i : Int) = some (if inB (addT a b) = true then addT a b else []) := by
  have hT := addT_len h
  induction n with
  | zero =>
    intro k i hn hi hk
    obtain ⟨k, rfl⟩ := fuel (show 0 < k by omega)
    obtain rfl : i = a.length := by omega
    have e : (addT a b).take a.length ++ List.replicate ((addT a b).length - a.length) 0 = addT a b := by rw [hT, Nat.sub_self, List.take_of_length_le (by omega)]; simp
    simp only [colorset_Add.l0]
    rw [if_neg (by omega), e, one_valid _ (by omega) k (by omega), Option.bind_some]
    split <;> rfl
  | succ n ih =>
    intro k i hn hi hk
    obtain ⟨k, rfl⟩ := fuel (show 0 < k by omega)
    have h1 : i < a.length := by omega
    have h2 : i < b.length := by omega
    have hs := set_len (addT a b) i (by omega)
    have hg : (addT a b)[i]'(by omega) = wrap64 (a[i] + b[i]) := by unfold addT; rw [List.getElem_zipWith]
    simp only [colorset_Add.l0]
    rw [if_pos (by omega), if_pos (by omega), if_pos (by omega), if_pos (by omega), if_pos (by omega), rd_get a i h1, rd_get b i h2, wrap_succ i (by omega), Int.toNat_natCast, ← hg, set_step _ i (by omega), ih k (i + 1) (by omega) (by omega) (by omega)]
theorem padd_is (a b : List Int) (ha : a.length ≤ 17592186044416) (hb : b.length ≤ 17592186044416) (k : Nat) (hk : 2 * a.length + b.length + 100 ≤ k) : colorset_Add.f k a b = some (addV a b) := by
  unfold colorset_Add.f addV
  obtain ⟨k, rfl⟩ := fuel (show 0 < k by omega)
  simp only [colorset_Add.j0]
  by_cases h : a.length = b.length
  · rw [if_pos (by omega), two_valid a b ha hb (k + 1) (by omega), Option.bind_some, decide_eq_true h, Bool.true_and]
    cases e : (inB a && inB b) with
    | false => rw [if_pos (by simp), if_neg (by simp)]
    | true =>
      have := padd_l a b h ha _ k 0 rfl (by omega) (by omega)
      rw [List.take_zero, List.nil_append, Nat.sub_zero, addT_len h] at this
      rw [if_neg (by simp), if_pos rfl, if_pos (by omega), if_pos (by omega), Option.bind_some, Int.toNat_natCast, List.length_replicate]
      exact this
  · rw [if_neg (by omega), if_pos trivial, decide_eq_false h, Bool.false_and, if_neg (by simp)]
theorem pleq_l (a b : List Int) (h : a.length = b.length) (ha : a.length ≤ 17592186044416) (n : Nat) : ∀ (k i : Nat), a.length - i = n → i ≤ a.length → n < k → colorset_Leq.l0 k a b (a.length : Int) (i : Int) = some (leAll (a.drop i) (b.drop i)) := by
  induction n with
  | zero =>
    intro k i hn hi hk
    obtain ⟨k, rfl⟩ := fuel (show 0 < k by omega)
    simp only [colorset_Leq.l0]
    rw [if_neg (by omega), drop_end a i (by omega)]
    simp [leAll]
  | succ n ih =>
    intro k i hn hi hk
    obtain ⟨k, rfl⟩ := fuel (show 0 < k by omega)
    have h1 : i < a.length := by omega
    have h2 : i < b.length := by omega
    simp only [colorset_Leq.l0]
    rw [if_pos (by omega), if_pos (by omega), if_pos (by omega), if_pos (by omega), rd_get a i h1, rd_get b i h2, wrap_succ i (by omega), ih k (i + 1) (by omega) (by omega) (by omega), drop_cons a i h1, drop_cons b i h2, leAll]
    by_cases c : a[i] > b[i]
    · rw [if_pos c, decide_eq_false (by omega)]; rfl
    · rw [if_neg c, decide_eq_true (by omega)]; rfl
theorem pleq_is (a b : List Int) (ha : a.length ≤ 17592186044416) (hb : b.length ≤ 17592186044416) (k : Nat) (hk : a.length + b.length + 100 ≤ k) : colorset_Leq.f k a b = some (leqV a b) := by
  unfold colorset_Leq.f leqV
  obtain ⟨k, rfl⟩ := fuel (show 0 < k by omega)
  simp only [colorset_Leq.j0]
  by_cases h : a.length = b.length
  · rw [if_pos (by omega), two_valid a b ha hb (k + 1) (by omega), Option.bind_some, decide_eq_true h, Bool.true_and]
    cases e : (inB a && inB b) with
    | false => rw [if_pos (by simp)]; rfl
    | true =>
      have := pleq_l a b h ha _ k 0 rfl (by omega) (by omega)
      rw [if_neg (by simp), Bool.true_and]
      simpa using this
  · rw [if_neg (by omega), if_pos trivial, decide_eq_false h]; rfl
theorem psub_l (a b : List Int) (h : a.length = b.length) (ha : a.length ≤ 17592186044416) (n : Nat) : ∀ (k i : Nat), a.length - i = n → i ≤ a.length → n < k →
    colorset_Sub.l0 k a b ((subT a b).take i ++ List.replicate ((subT a b).length - i) 0) (a.length : Int) (i : Int) = some (subT a b) := by
  have hT := subT_len h
  induction n with
  | zero =>
    intro k i hn hi hk
    obtain ⟨k, rfl⟩ := fuel (show 0 < k by omega)
    obtain rfl : i = a.length := by omega
    have e : (subT a b).take a.length ++ List.replicate ((subT a b).length - a.length) 0 = subT a b := by rw [hT, Nat.sub_self, List.take_of_length_le (by omega)]; simp
    simp only [colorset_Sub.l0]
    rw [if_neg (by omega), e]
  | succ n ih =>
    intro k i hn hi hk
    obtain ⟨k, rfl⟩ := fuel (show 0 < k by omega)
    have h1 : i < a.length := by omega
    have h2 : i < b.length := by omega
    have hs := set_len (subT a b) i (by omega)
    have hg : (subT a b)[i]'(by omega) = wrap64 (a[i] - b[i]) := by unfold subT; rw [List.getElem_zipWith]
    simp only [colorset_Sub.l0]
    rw [if_pos (by omega), if_pos (by omega), if_pos (by omega), if_pos (by omega), if_pos (by omega), rd_get a i h1, rd_get b i h2, wrap_succ i (by omega), Int.toNat_natCast, ← hg, set_step _ i (by omega), ih k (i + 1) (by omega) (by omega) (by omega)]
theorem leqV_len {a b : List Int} (h : leqV a b = true) : a.length = b.length := by unfold leqV at h; rw [Bool.and_eq_true, Bool.and_eq_true, decide_eq_true_iff] at h; exact h.1.1
theorem psub_is (a b : List Int) (ha : a.length ≤ 17592186044416) (hb : b.length ≤ 17592186044416) (k : Nat) (hk : a.length + b.length + 100 ≤ k) : colorset_Sub.f k a b = some (subV a b) := by
  unfold colorset_Sub.f subV
  rw [pleq_is b a hb ha k (by omega), Option.bind_some]
  by_cases h : leqV b a = true
  · have hl := leqV_len h
    have := psub_l a b hl.symm ha _ k 0 rfl (by omega) (by omega)
    rw [List.take_zero, List.nil_append, Nat.sub_zero, subT_len hl.symm] at this
    rw [if_pos h, if_pos h, if_pos (by omega), if_pos (by omega), Option.bind_some, Int.toNat_natCast, List.length_replicate]
    exact this
  · rw [if_neg h, if_neg h]
/-! the reference -/
theorem rmulti_is (a : List Int) (ha : a.length ≤ 17592186044416) (k : Nat) (hk : a.length < k) : petrinetref39_Multi.f k a = some (inB a) := by
  unfold petrinetref39_Multi.f; rw [rvalid_is a _ ha k hk, Option.bind_some, valid_self]
theorem rwhole_is (a : List Int) (ha : a.length ≤ 17592186044416) (k : Nat) (hk : a.length < k) : petrinetref39_whole.f k a = some (if inB a = true then a else []) := by
  unfold petrinetref39_whole.f; rw [rmulti_is a ha k hk, Option.bind_some]; split <;> rfl
theorem radd_l (a b : List Int) (h : a.length = b.length) (ha : a.length ≤ 17592186044416) (n : Nat) : ∀ (k i : Nat), a.length - i = n → i ≤ a.length → n + a.length + 20 < k →
    petrinetref39_Add.l0 k a b ((addT a b).take i) (i : Int) = some (if inB (addT a b) = true then addT a b else []) := by
  have hT := addT_len h
  induction n with
  | zero =>
    intro k i hn hi hk
    obtain ⟨k, rfl⟩ := fuel (show 0 < k by omega)
    simp only [petrinetref39_Add.l0]
    rw [if_neg (by omega), List.take_of_length_le (by omega), rwhole_is _ (by omega) k (by omega), Option.bind_some]
  | succ n ih =>
    intro k i hn hi hk
    obtain ⟨k, rfl⟩ := fuel (show 0 < k by omega)
    have h1 : i < a.length := by omega
    have h2 : i < b.length := by omega
    have hg : (addT a b)[i]'(by omega) = wrap64 (a[i] + b[i]) := by unfold addT; rw [List.getElem_zipWith]
    simp only [petrinetref39_Add.l0]
    rw [if_pos (by omega), if_pos (by omega), if_pos (by omega), if_pos (by rw [List.length_take]; omega), rd_get a i h1, rd_get b i h2, wrap_succ i (by omega), ← hg, ← List.take_succ_eq_append_getElem (by omega), ih k (i + 1) (by omega) (by omega) (by omega)]
theorem radd_is (a b : List Int) (ha : a.length ≤ 17592186044416) (hb : b.length ≤ 17592186044416) (k : Nat) (hk : 2 * a.length + b.length + 100 ≤ k) : petrinetref39_Add.f k a b = some (addV a b) := by
  unfold petrinetref39_Add.f addV
  obtain ⟨k, rfl⟩ := fuel (show 0 < k by omega)
  simp only [petrinetref39_Add.j0]
  rw [rmulti_is a ha (k + 1) (by omega), rmulti_is b hb (k + 1) (by omega), Option.bind_some, Option.bind_some]
  cases e1 : inB a with
  | false => rw [if_neg (by simp), if_pos trivial, Bool.false_and, Bool.and_false, if_neg (by simp)]
  | true =>
    rw [if_pos rfl]
    cases e2 : inB b with
    | false => rw [if_neg (by simp), if_pos trivial, Bool.and_false, Bool.and_false, if_neg (by simp)]
    | true =>
      rw [if_pos rfl]
      by_cases h : a.length = b.length
      · have := radd_l a b h ha _ k 0 rfl (by omega) (by omega)
        have hne : ((a.length : Int) != (b.length : Int)) = false := by rw [bne_eq_false_iff_eq]; omega
        rw [hne, if_neg (by simp), decide_eq_true h, if_pos (show (true && (true && true)) = true from rfl)]
        simpa using this
      · have hne : ((a.length : Int) != (b.length : Int)) = true := by rw [bne_iff_ne]; omega
        rw [hne, if_pos rfl, decide_eq_false h, if_neg (by simp)]
theorem rleq_l (a b : List Int) (h : a.length = b.length) (ha : a.length ≤ 17592186044416) (n : Nat) : ∀ (k i : Nat), a.length - i = n → i ≤ a.length → n < k → petrinetref39_Leq.l0 k a b (i : Int) = some (leAll (a.drop i) (b.drop i)) := by
  induction n with
  | zero =>
    intro k i hn hi hk
    obtain ⟨k, rfl⟩ := fuel (show 0 < k by omega)
    simp only [petrinetref39_Leq.l0]
    rw [if_neg (by omega), drop_end a i (by omega)]
    simp [leAll]
  | succ n ih =>
    intro k i hn hi hk
    obtain ⟨k, rfl⟩ := fuel (show 0 < k by omega)
    have h1 : i < a.length := by omega
    have h2 : i < b.length := by omega
    simp only [petrinetref39_Leq.l0]
    rw [if_pos (by omega), if_pos (by omega), if_pos (by omega), rd_get a i h1, rd_get b i h2, wrap_succ i (by omega), ih k (i + 1) (by omega) (by omega) (by omega), drop_cons a i h1, drop_cons b i h2, leAll]
    by_cases c : a[i] > b[i]
    · rw [if_pos c, decide_eq_false (by omega)]; rfl
    · rw [if_neg c, decide_eq_true (by omega)]; rfl
theorem rleq_is (a b : List Int) (ha : a.length ≤ 17592186044416) (hb : b.length ≤ 17592186044416) (k : Nat) (hk : a.length + b.length + 100 ≤ k) : petrinetref39_Leq.f k a b = some (leqV a b) := by
  unfold petrinetref39_Leq.f leqV
  obtain ⟨k, rfl⟩ := fuel (show 0 < k by omega)
  simp only [petrinetref39_Leq.j0]
  rw [rmulti_is a ha (k + 1) (by omega), rmulti_is b hb (k + 1) (by omega), Option.bind_some, Option.bind_some]
  cases e1 : inB a with
  | false => rw [if_neg (by simp), if_pos trivial, Bool.false_and, Bool.and_false]; rfl
  | true =>
    rw [if_pos rfl]
    cases e2 : inB b with
    | false => rw [if_neg (by simp), if_pos trivial, Bool.and_false, Bool.and_false]; rfl
    | true =>
      rw [if_pos rfl]
      by_cases h : a.length = b.length
      · have := rleq_l a b h ha _ k 0 rfl (by omega) (by omega)
        have hne : ((a.length : Int) != (b.length : Int)) = false := by rw [bne_eq_false_iff_eq]; omega
        rw [hne, if_neg (by simp), decide_eq_true h]
        simpa using this
      · have hne : ((a.length : Int) != (b.length : Int)) = true := by rw [bne_iff_ne]; omega
        rw [hne, if_pos rfl, decide_eq_false h]; rfl
theorem rsub_l (a b : List Int) (h : a.length = b.length) (ha : a.length ≤ 17592186044416) (n : Nat) : ∀ (k i : Nat), a.length - i = n → i ≤ a.length → n < k →
    petrinetref39_Sub.l0 k a b ((subT a b).take i) (i : Int) = some (subT a b) := by
  have hT := subT_len h
  induction n with
  | zero =>
    intro k i hn hi hk
    obtain ⟨k, rfl⟩ := fuel (show 0 < k by omega)
    simp only [petrinetref39_Sub.l0]
    rw [if_neg (by omega), List.take_of_length_le (by omega)]
  | succ n ih =>
    intro k i hn hi hk
    obtain ⟨k, rfl⟩ := fuel (show 0 < k by omega)
    have h1 : i < a.length := by omega
    have h2 : i < b.length := by omega
    have hg : (subT a b)[i]'(by omega) = wrap64 (a[i] - b[i]) := by unfold subT; rw [List.getElem_zipWith]
    simp only [petrinetref39_Sub.l0]
    rw [if_pos (by omega), if_pos (by omega), if_pos (by omega), if_pos (by rw [List.length_take]; omega), rd_get a i h1, rd_get b i h2, wrap_succ i (by omega), ← hg, ← List.take_succ_eq_append_getElem (by omega), ih k (i + 1) (by omega) (by omega) (by omega)]
theorem rsub_is (a b : List Int) (ha : a.length ≤ 17592186044416) (hb : b.length ≤ 17592186044416) (k : Nat) (hk : a.length + b.length + 100 ≤ k) : petrinetref39_Sub.f k a b = some (subV a b) := by
  unfold petrinetref39_Sub.f subV
  rw [rleq_is b a hb ha k (by omega), Option.bind_some]
  by_cases h : leqV b a = true
  · have hl := leqV_len h
    have := rsub_l a b hl.symm ha _ k 0 rfl (by omega) (by omega)
    rw [if_pos h, if_pos h]
    simpa using this
  · rw [if_neg h, if_neg h]
theorem addV_len (a b : List Int) : (addV a b).length ≤ a.length := by
  unfold addV
  split
  · rename_i h
    rw [Bool.and_eq_true, decide_eq_true_iff] at h
    split
    · rw [addT_len h.1]; omega
    · simp
  · simp
theorem subV_len (a b : List Int) : (subV a b).length ≤ a.length := by
  unfold subV
  split
  · rename_i h; rw [subT_len (leqV_len h).symm]; omega
  · simp
end Go.Proofs.YtjhlagpcbaodkaaDoor.PlainS
