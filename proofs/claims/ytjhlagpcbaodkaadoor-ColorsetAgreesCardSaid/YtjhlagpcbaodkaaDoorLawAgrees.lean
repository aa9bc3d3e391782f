/- Plain laws over the printed functions: what each comes to. No condition but the ones written. -/
import Derived.Test.YtjhlagpcbaodkaaDoorSumB
import Derived.Test.YtjhlagpcbaodkaaDoorSumD
import Derived.Test.YtjhlagpcbaodkaaDoorPSumx7
import Derived.Test.YtjhlagpcbaodkaaDoorPSumlColorsetAgrees
namespace Go.Proofs.YtjhlagpcbaodkaaDoor.PlainS
open Go Go.RowKit Go.Proofs.YtjhlagpcbaodkaaDoor.PSum Go.Proofs.YtjhlagpcbaodkaaDoorW.PrintWords Go.Proofs.YtjhlagpcbaodkaaDoorW.PrintLast Go.Proofs.YtjhlagpcbaodkaaDoorW.PrintMore
set_option linter.unusedVariables false
/-! ### Sub undoes Add, shifts are cyclic -/
theorem shV_n (n i : Int) (h0 : 0 ≤ i) (h1 : i < n) : shV n i n = i := by
  unfold shV
  rw [if_neg (by omega), Int.tmod_self, if_neg (by omega), Int.add_zero, if_pos h1]
theorem shV_0 (n i : Int) (h0 : 0 ≤ i) (h1 : i < n) : shV n i 0 = i := by
  unfold shV
  rw [if_neg (by omega), Int.zero_tmod, if_neg (by omega), Int.add_zero, if_pos h1]
theorem shV_5 (n i : Int) (h0 : 0 ≤ i) (h1 : i < n) : shV n (shV n i 5) (-5) = i := by
  have hb := shift_bounds n 5 (by omega)
  have hp : 0 ≤ Int.tmod 5 n := Int.tmod_nonneg _ (by omega)
  have hn : Int.tmod (-5) n = - Int.tmod 5 n := Int.neg_tmod 5 n
  have e : shV n i 5 = if i + Int.tmod 5 n < n then i + Int.tmod 5 n else i + Int.tmod 5 n - n := by
    unfold shV; rw [if_neg (by omega), if_neg (by omega)]
  rw [e]
  unfold shV
  rw [hn]
  generalize Int.tmod 5 n = r at *
  repeat' split
  all_goals omega
theorem agree_l (c : ByteArray) (l : List ByteArray) (hl : l.length ≤ 40) (n : Nat) : ∀ (k i : Nat), l.length - i = n → i ≤ l.length → n + 100 < k → petrinetlaw39_ColorsetAgrees.l0 k (i : Int) c l = some true := by
  induction n with
  | zero =>
    intro k i hn hi hk
    obtain ⟨k, rfl⟩ := fuel (show 0 < k by omega)
    simp only [petrinetlaw39_ColorsetAgrees.l0]
    rw [if_neg (by omega), ex_is _ (by omega)]; rfl
  | succ n ih =>
    intro k i hn hi hk
    obtain ⟨k, rfl⟩ := fuel (show 0 < k by omega)
    simp only [petrinetlaw39_ColorsetAgrees.l0]
    rw [if_pos (by omega), pshift_is c l (by omega), Option.bind_some, shV_n _ _ (by omega) (by omega), if_pos rfl, pshift_is c l (by omega), Option.bind_some, shV_0 _ _ (by omega) (by omega), if_pos rfl, pshift_is c l (by omega), Option.bind_some, pshift_is c l (by omega), Option.bind_some, shV_5 _ _ (by omega) (by omega), if_pos rfl, wrap_succ i (by omega)]
    exact ih k (i + 1) (by omega) (by omega) (by omega)
theorem leAll_add (a : List Int) : ∀ b : List Int, inB a = true → inB b = true → leAll a (addT a b) = true ∧ leAll b (addT a b) = true ∧ (a.length = b.length → subT (addT a b) b = a) := by
  induction a with
  | nil => intro b _ _; refine ⟨by simp [leAll], by cases b <;> simp [addT, leAll], fun h => by cases b <;> simp_all [addT, subT]⟩
  | cons x a ih =>
    intro b ha hb
    cases b with
    | nil => exact ⟨by simp [addT, leAll], by simp [leAll], fun h => by simp at h⟩
    | cons y b =>
      rw [inB_cons, Bool.and_eq_true, decide_eq_true_iff] at ha hb
      obtain ⟨h1, h2, h3⟩ := ih b ha.2 hb.2
      have e : addT (x :: a) (y :: b) = (x + y) :: addT a b := by unfold addT; rw [List.zipWith_cons_cons, wrap_id _ (by omega)]
      rw [e]
      refine ⟨by rw [leAll, h1, decide_eq_true (by omega)]; rfl, by rw [leAll, h2, decide_eq_true (by omega)]; rfl, fun h => ?_⟩
      have h4 := h3 (by simpa using h)
      unfold subT at h4 ⊢
      rw [List.zipWith_cons_cons, h4, wrap_id _ (by omega)]; congr 1; omega
theorem ColorsetAgrees_pure (c : ByteArray) (_ : c.size ≤ maxLen) (l : List ByteArray) (_ : l.length ≤ maxLen) (_ : ∀ z ∈ l, z.size ≤ maxLen) (a : List Int) (ya : a.length * 8 ≤ 140737488351232) (_ : ∀ z ∈ a, (Lit.int .i64 z).wf = true) (b : List Int) (yb : b.length * 8 ≤ 140737488351232) (_ : ∀ z ∈ b, (Lit.int .i64 z).wf = true) :
    ∃ k, petrinetlaw39_ColorsetAgrees.f k c l a b = some true := ⟨4 * a.length + 4 * b.length + 2000, by
  have h1 := addV_len a b
  unfold petrinetlaw39_ColorsetAgrees.f
  rw [large_is, Option.bind_some]
  by_cases h : l.length > 40
  · rw [decide_eq_true h, if_pos rfl, ex_is _ (by omega)]; rfl
  · have hend : ∀ k, 500 ≤ k → petrinetlaw39_ColorsetAgrees.j0 k false c l = some true := by
      intro k hk
      obtain ⟨k, rfl⟩ := fuel (show 0 < k by omega)
      simp only [petrinetlaw39_ColorsetAgrees.j0]
      rw [if_neg (by simp)]
      exact agree_l c l (by omega) _ k 0 rfl (by omega) (by omega)
    rw [decide_eq_false h, if_neg (by simp), padd_is a b (by omega) (by omega) _ (by omega), Option.bind_some]
    by_cases g : ((addV a b).length : Int) > 0
    · have hq : (decide (a.length = b.length) && (inB a && inB b)) = true ∧ inB (addT a b) = true := by
        unfold addV at g
        by_cases q1 : (decide (a.length = b.length) && (inB a && inB b)) = true
        · rw [if_pos q1] at g
          by_cases q2 : inB (addT a b) = true
          · exact ⟨q1, q2⟩
          · rw [if_neg q2] at g; simp at g
        · rw [if_neg q1] at g; simp at g
      have e : addV a b = addT a b := by unfold addV; rw [if_pos hq.1, if_pos hq.2]
      have hh := hq.1
      rw [Bool.and_eq_true, Bool.and_eq_true, decide_eq_true_iff] at hh
      obtain ⟨p1, p2, p3⟩ := leAll_add a b hh.2.1 hh.2.2
      have hT := addT_len hh.1
      have s1 : subV (addT a b) b = a := by
        unfold subV leqV
        rw [decide_eq_true (by omega), hh.2.2, hq.2, p2, if_pos (show (true && (true && true) && true) = true from rfl)]
        exact p3 hh.1
      have s2 : leqV a (addT a b) = true := by unfold leqV; rw [decide_eq_true (by omega), hh.2.1, hq.2, p1]; rfl
      rw [if_pos g, e, psub_is _ b (by omega) (by omega) _ (by omega), Option.bind_some, s1, same_is a a (by omega) _ (by omega), Option.bind_some, decide_eq_true rfl, if_pos rfl, pleq_is a _ (by omega) (by omega) _ (by omega), Option.bind_some, s2]
      exact hend _ (by omega)
    · rw [if_neg g]
      exact hend _ (by omega)⟩
end Go.Proofs.YtjhlagpcbaodkaaDoor.PlainS
