/- Plain laws over the printed functions: what each comes to. No condition but the ones written. -/
import Derived.Test.YtjhlagpcbaodkaaDoorPlainB
import Derived.Test.YtjhlagpcbaodkaaDoorPAllx5
import Derived.Test.YtjhlagpcbaodkaaDoorPAllx6
import Derived.Test.YtjhlagpcbaodkaaDoorPAllx6
namespace Go.Proofs.YtjhlagpcbaodkaaDoor.Plain
open Go Go.RowKit Go.Proofs.YtjhlagpcbaodkaaDoor.PAll Go.Proofs.YtjhlagpcbaodkaaDoorW.PrintWords Go.Proofs.YtjhlagpcbaodkaaDoorW.PrintLast Go.Proofs.YtjhlagpcbaodkaaDoorW.PrintMore
set_option linter.unusedVariables false
/-! ### Find, Check, Shift -/
def dl (s : ByteArray) : List UInt8 := s.data.toList
def vls (l : List ByteArray) : List (List UInt8) := l.map dl
theorem vls_len (l : List ByteArray) : (vls l).length = l.length := by unfold vls; rw [List.length_map]
theorem vls_get (l : List ByteArray) (i : Nat) (h : i < l.length) : (vls l)[i]'(by rw [vls_len]; exact h) = l[i].data.toList := by unfold vls dl; rw [List.getElem_map]
def fd (s : List UInt8) : List (List UInt8) → Nat → Int
  | [], _ => -1
  | x :: r, i => if x = s then (i : Int) else fd s r (i + 1)
theorem fd_spec (s : List UInt8) (L : List (List UInt8)) : ∀ i, (fd s L i = -1 ∧ s ∉ L) ∨ ∃ m, ∃ h : m < L.length, fd s L i = ((i + m : Nat) : Int) ∧ L[m] = s ∧ s ∉ L.take m := by
  induction L with
  | nil => intro i; exact .inl ⟨rfl, by simp⟩
  | cons x r ih =>
    intro i
    rw [fd]
    by_cases c : x = s
    · rw [if_pos c]; exact .inr ⟨0, by simp, by simp, by simpa using c, by simp⟩
    · rw [if_neg c]
      rcases ih (i + 1) with ⟨h1, h2⟩ | ⟨m, h0, h1, h2, h3⟩
      · exact .inl ⟨h1, by simp [h2]; exact fun g => c g.symm⟩
      · refine .inr ⟨m + 1, by simp; omega, by rw [h1]; congr 1; omega, by simpa using h2, ?_⟩
        rw [List.take_succ_cons, List.mem_cons]
        rintro (g | g)
        · exact c g.symm
        · exact h3 g
theorem fd_lt (s : List UInt8) (L : List (List UInt8)) (i : Nat) (hi : i < L.length) (hs : L[i] = s) : fd s L 0 < i ↔ s ∈ L.take i := by
  rcases fd_spec s L 0 with ⟨_, h2⟩ | ⟨m, h0, h1, h2, h3⟩
  · exact absurd (hs ▸ List.getElem_mem hi) h2
  · rw [h1]
    constructor
    · intro h
      have hm : m < i := by omega
      rw [← h2]
      exact List.mem_take_iff_getElem.mpr ⟨m, by omega, rfl⟩
    · intro h
      rcases Nat.lt_or_ge m i with c | c
      · omega
      · obtain ⟨j, hj, e⟩ := List.mem_take_iff_getElem.mp h
        exact absurd (List.mem_take_iff_getElem.mpr ⟨j, by omega, e⟩) h3
theorem rfind_l (s c : ByteArray) (l : List ByteArray) (hl : l.length ≤ 1000000) (n : Nat) : ∀ (k i : Nat), l.length - i = n → i ≤ l.length → n < k → petrinetref39_Find.l0 k s (i : Int) c l = some (fd s.data.toList ((vls l).drop i) i) := by
  have hv := vls_len l
  induction n with
  | zero =>
    intro k i hn hi hk
    obtain ⟨k, rfl⟩ := fuel hk
    simp only [petrinetref39_Find.l0]
    rw [if_neg (by omega), drop_end _ i (by omega), fd]
  | succ n ih =>
    intro k i hn hi hk
    obtain ⟨k, rfl⟩ := fuel hk
    have h1 : i < l.length := by omega
    simp only [petrinetref39_Find.l0, Lib.toList_data]
    rw [if_pos (by omega), if_pos (by omega), rdOf_get _ l i h1, wrap_succ i (by omega), ih k (i + 1) (by omega) (by omega) (by omega), drop_cons (vls l) i (by omega), vls_get l i h1, fd]
    by_cases e : l[i].data.toList = s.data.toList
    · rw [if_pos e, if_pos e]
    · rw [if_neg e, if_neg e]
theorem rfind_is (s c : ByteArray) (l : List ByteArray) (hl : l.length ≤ 1000000) (k : Nat) (hk : l.length < k) : petrinetref39_Find.f k c l s = some (fd s.data.toList (vls l) 0) := by
  unfold petrinetref39_Find.f
  have := rfind_l s c l hl _ k 0 rfl (by omega) (by omega)
  simpa using this
theorem pfind_l (s : ByteArray) (l : List ByteArray) (hl : l.length ≤ 1000000) (n : Nat) : ∀ (k i : Nat), l.length - i = n → i ≤ l.length → n < k → colorset_Find.l0 k s l (l.length : Int) (i : Int) = some (fd s.data.toList ((vls l).drop i) i) := by
  have hv := vls_len l
  induction n with
  | zero =>
    intro k i hn hi hk
    obtain ⟨k, rfl⟩ := fuel hk
    simp only [colorset_Find.l0]
    rw [if_neg (by omega), drop_end _ i (by omega), fd]
  | succ n ih =>
    intro k i hn hi hk
    obtain ⟨k, rfl⟩ := fuel hk
    have h1 : i < l.length := by omega
    simp only [colorset_Find.l0, Lib.toList_data]
    rw [if_pos (by omega), if_pos (by omega), if_pos (by omega), rdOf_get _ l i h1, wrap_succ i (by omega), ih k (i + 1) (by omega) (by omega) (by omega), drop_cons (vls l) i (by omega), vls_get l i h1, fd]
    by_cases e : l[i].data.toList = s.data.toList
    · rw [if_pos e, if_pos e]
    · rw [if_neg e, if_neg e]
theorem pfind_is (s c : ByteArray) (l : List ByteArray) (hl : l.length ≤ 1000000) (k : Nat) (hk : l.length < k) : colorset_Find.f k c l s = some (fd s.data.toList (vls l) 0) := by
  unfold colorset_Find.f
  have := pfind_l s l hl _ k 0 rfl (by omega) (by omega)
  simpa using this
def ckV (c : ByteArray) (l : List ByteArray) : Int := if nmB c = true then (if l.length < 1 then 2 else if l.length > 12 then 2 else ckFrom l l.length 0) else 5
theorem pcheck_is (c : ByteArray) (l : List ByteArray) : colorset_Check.f c l = some (ckV c l) := rfl
theorem any_iff (l : List ByteArray) (i : Nat) (s : ByteArray) : (l.take i).any (fun t => decide (t.data.toList = s.data.toList)) = true ↔ s.data.toList ∈ (vls l).take i := by
  unfold vls dl
  rw [List.any_eq_true, ← List.map_take, List.mem_map]
  constructor
  · rintro ⟨x, h1, h2⟩; exact ⟨x, h1, by simpa using h2⟩
  · rintro ⟨x, h1, h2⟩; exact ⟨x, h1, by simpa using h2⟩
theorem getD_get (l : List ByteArray) (i : Nat) (h : i < l.length) : l.getD i ByteArray.empty = l[i] := by rw [List.getD_eq_getElem?_getD, List.getElem?_eq_getElem h]; rfl
theorem rcheck_l (c : ByteArray) (l : List ByteArray) (hl : l.length ≤ 1000) (n : Nat) : ∀ (k i : Nat), l.length - i = n → i ≤ l.length → n + 1040 < k → petrinetref39_Check.l0 k (i : Int) c l = some (ckFrom l n i) := by
  have hv := vls_len l
  induction n with
  | zero =>
    intro k i hn hi hk
    obtain ⟨k, rfl⟩ := fuel (show 0 < k by omega)
    simp only [petrinetref39_Check.l0]
    rw [if_neg (by omega), ckFrom]
  | succ n ih =>
    intro k i hn hi hk
    obtain ⟨k, rfl⟩ := fuel (show 0 < k by omega)
    have h1 : i < l.length := by omega
    simp only [petrinetref39_Check.l0]
    rw [if_pos (by omega), if_pos (by omega), rdOf_get _ l i h1, rname_is _ k (by omega), Option.bind_some, ckFrom, getD_get l i h1]
    by_cases e : nmB l[i] = true
    · rw [if_pos e, if_pos e, rfind_is _ _ l (by omega) k (by omega), Option.bind_some]
      have q := fd_lt l[i].data.toList (vls l) i (by omega) (vls_get l i h1)
      by_cases g : l[i].data.toList ∈ (vls l).take i
      · rw [if_pos (q.mpr g), if_pos ((any_iff l i l[i]).mpr g)]
      · rw [if_neg (fun h => g (q.mp h)), if_neg (fun h => g ((any_iff l i l[i]).mp h)), wrap_succ i (by omega), ih k (i + 1) (by omega) (by omega) (by omega)]
    · rw [if_neg e, if_neg e]
theorem rcheck_is (c : ByteArray) (l : List ByteArray) (hl : l.length ≤ 1000) (k : Nat) (hk : 3000 ≤ k) : petrinetref39_Check.f k c l = some (ckV c l) := by
  unfold petrinetref39_Check.f ckV
  obtain ⟨k, rfl⟩ := fuel (show 0 < k by omega)
  rw [rname_is _ _ (by omega), Option.bind_some]
  by_cases e : nmB c = true
  · rw [if_pos e, if_pos e]
    simp only [petrinetref39_Check.j0]
    by_cases h1 : l.length < 1
    · rw [if_pos (by omega), if_pos trivial, if_pos h1]
    · rw [if_neg (by omega), if_neg h1]
      by_cases h2 : l.length > 12
      · rw [decide_eq_true (by omega), if_pos rfl, if_pos h2]
      · rw [decide_eq_false (by omega), if_neg (by simp), if_neg h2]
        exact rcheck_l c l hl _ k 0 (by omega) (by omega) (by omega)
  · rw [if_neg e, if_neg e]
theorem tmod_small {a n : Int} (h0 : 0 ≤ a) (h1 : a < n) : Int.tmod a n = a := Int.tmod_eq_of_lt h0 h1
theorem tmod_neg_small {a n : Int} (h0 : a < 0) (h1 : -n < a) : Int.tmod a n = a := by
  have := Int.tmod_eq_of_lt (a := -a) (b := n) (by omega) (by omega)
  rw [Int.neg_tmod] at this; omega
theorem tmod_one {a n : Int} (h0 : n ≤ a) (h1 : a < 2 * n) : Int.tmod a n = a - n := by
  have h2 := Int.mul_tdiv_add_tmod a n
  have h3 := Int.tmod_nonneg n (show 0 ≤ a by omega)
  have h4 := Int.tmod_lt_of_pos a (show 0 < n by omega)
  have h5 : Int.tdiv a n = 1 := by
    rw [Int.tdiv_eq_ediv_of_nonneg (by omega)]
    rw [show a = (a - n) + 1 * n by omega, Int.add_mul_ediv_right _ _ (by omega), Int.ediv_eq_zero_of_lt (by omega) (by omega)]; rfl
  rw [h5] at h2; omega
def shV (n i by_ : Int) : Int := if i < 0 ∨ i ≥ n then -1 else if Int.tmod by_ n < 0 then (if i + Int.tmod by_ n + n < n then i + Int.tmod by_ n + n else i + Int.tmod by_ n) else if i + Int.tmod by_ n < n then i + Int.tmod by_ n else i + Int.tmod by_ n - n
theorem shift_bounds (n b : Int) (hn : 0 < n) : -n < Int.tmod b n ∧ Int.tmod b n < n := by
  have h4 := Int.tmod_lt_of_pos b hn
  refine ⟨?_, h4⟩
  have h5 := Int.tmod_lt_of_pos (-b) hn
  rw [Int.neg_tmod] at h5; omega
theorem pshift_is (c : ByteArray) (l : List ByteArray) (hl : l.length ≤ 1000000) (i b : Int) : colorset_Shift.f c l i b = some (shV l.length i b) := by
  unfold colorset_Shift.f shV
  by_cases h1 : i < 0
  · rw [if_pos h1, if_pos (.inl h1)]
  · rw [if_neg h1]
    by_cases h2 : i ≥ (l.length : Int)
    · rw [if_pos h2, if_pos (.inr h2)]
    · rw [if_neg h2, if_neg (show ¬ (l.length : Int) = 0 by omega), if_neg (show ¬ (i < 0 ∨ i ≥ (l.length : Int)) by omega)]
      have hl' : (l.length : Int) ≤ 1000000 := by omega
      obtain ⟨q1, q2⟩ := shift_bounds (l.length : Int) b (by omega)
      generalize Int.tmod b (l.length : Int) = r at *
      generalize (l.length : Int) = n at *
      rw [wrap_id (i + r) (by omega)]
      congr 1
      by_cases c1 : r < 0
      · rw [if_pos c1]
        by_cases c2 : i + r < 0
        · rw [if_pos (by omega), tmod_neg_small c2 (by omega), wrap_id _ (by omega), tmod_small (by omega) (by omega)]
        · rw [if_neg (by omega), tmod_small (show 0 ≤ i + r by omega) (by omega), wrap_id _ (by omega), tmod_one (by omega) (by omega)]; omega
      · rw [if_neg c1]
        by_cases c2 : i + r < n
        · rw [if_pos c2, tmod_small (show 0 ≤ i + r by omega) c2, wrap_id _ (by omega), tmod_one (by omega) (by omega)]; omega
        · rw [if_neg c2, tmod_one (show n ≤ i + r by omega) (by omega), wrap_id _ (by omega), tmod_one (by omega) (by omega)]; omega
theorem rshift_is (c : ByteArray) (l : List ByteArray) (hl : l.length ≤ 1000000) (i b : Int) (k : Nat) (hk : 0 < k) : petrinetref39_Shift.f k c l i b = some (shV l.length i b) := by
  obtain ⟨k, rfl⟩ := fuel hk
  unfold petrinetref39_Shift.f shV
  simp only [petrinetref39_Shift.j0]
  by_cases h1 : i < 0
  · rw [if_pos h1, if_pos trivial, if_pos (.inl h1)]
  · rw [if_neg h1]
    by_cases h2 : i ≥ (l.length : Int)
    · rw [decide_eq_true h2, if_pos rfl, if_pos (.inr h2)]
    · rw [decide_eq_false h2, if_neg (by simp), if_neg (show ¬ (l.length : Int) = 0 by omega), if_neg (show ¬ (i < 0 ∨ i ≥ (l.length : Int)) by omega)]
      have hl' : (l.length : Int) ≤ 1000000 := by omega
      obtain ⟨q1, q2⟩ := shift_bounds (l.length : Int) b (by omega)
      generalize Int.tmod b (l.length : Int) = r at *
      generalize (l.length : Int) = n at *
      by_cases c1 : r < 0
      · rw [if_pos c1, if_pos c1, wrap_id (r + n) (by omega), wrap_id _ (by omega)]
        congr 1
        by_cases c2 : i + r + n < n
        · rw [if_pos c2, tmod_small (by omega) (by omega)]; omega
        · rw [if_neg c2, tmod_one (by omega) (by omega)]; omega
      · rw [if_neg c1, if_neg c1, wrap_id _ (by omega)]
        congr 1
        by_cases c2 : i + r < n
        · rw [if_pos c2, tmod_small (by omega) (by omega)]
        · rw [if_neg c2, tmod_one (by omega) (by omega)]
theorem large_is (c : ByteArray) (l : List ByteArray) : petrinetlaw39_large.f c l = some (decide (l.length > 40)) := by
  unfold petrinetlaw39_large.f
  congr 1; exact decide_eq_decide.mpr (by omega)
end Go.Proofs.YtjhlagpcbaodkaaDoor.Plain
