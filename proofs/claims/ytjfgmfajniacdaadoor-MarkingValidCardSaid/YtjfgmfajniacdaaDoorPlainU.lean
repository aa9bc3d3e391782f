/- Plain laws over the printed functions: what each comes to. No condition but the ones written. -/
import Derived.Test.YtjfgmfajniacdaaDoorPlainA
import Derived.Test.YtjfgmfajniacdaaDoorPAllx8
import Derived.Test.YtjfgmfajniacdaaDoorPAllx4
namespace Go.Proofs.YtjfgmfajniacdaaDoor.Plain
open Go Go.RowKit Go.Proofs.YtjfgmfajniacdaaDoor.PAll Go.Proofs.YtjfgmfajniacdaaDoorW.PrintWords Go.Proofs.YtjfgmfajniacdaaDoorW.PrintLast Go.Proofs.YtjfgmfajniacdaaDoorW.PrintMore
set_option linter.unusedVariables false
/-! ### Compare, Unit -/
def cmpL : List Int → List Int → Int
  | [], [] => 0
  | [], _ :: _ => -1
  | _ :: _, [] => 1
  | x :: a, y :: b => if x < y then -1 else if x > y then 1 else cmpL a b
theorem mn_len (m n : Nat) : mn (m : Int) (n : Int) = ((min m n : Nat) : Int) := by unfold mn; split <;> omega
theorem cmp_end (a b : List Int) (i : Nat) (h : i = min a.length b.length) : (if (a.length : Int) < (b.length : Int) then some (-1) else (if (a.length : Int) > (b.length : Int) then some 1 else some 0)) = some (cmpL (a.drop i) (b.drop i)) := by
  by_cases c : a.length < b.length
  · rw [if_pos (by omega), drop_end a i (by omega), drop_cons b i (by omega), cmpL]
  · rw [if_neg (by omega)]
    by_cases d : a.length > b.length
    · rw [if_pos (by omega), drop_end b i (by omega), drop_cons a i (by omega), cmpL]
    · rw [if_neg (by omega), drop_end a i (by omega), drop_end b i (by omega), cmpL]
theorem cmp_l (a b : List Int) (hl : a.length ≤ 1000000) (n : Nat) : ∀ (k i : Nat), min a.length b.length - i = n → i ≤ min a.length b.length → n < k → marking_Compare.l0 k a b ((min a.length b.length : Nat) : Int) (i : Int) = some (cmpL (a.drop i) (b.drop i)) := by
  induction n with
  | zero =>
    intro k i hn hi hk
    obtain ⟨k, rfl⟩ := fuel hk
    simp only [marking_Compare.l0]
    rw [if_neg (by omega), cmp_end a b i (by omega)]
  | succ n ih =>
    intro k i hn hi hk
    obtain ⟨k, rfl⟩ := fuel hk
    have h1 : i < a.length := by omega
    have h2 : i < b.length := by omega
    simp only [marking_Compare.l0]
    rw [if_pos (by omega), if_pos (by omega), if_pos (by omega), if_pos (by omega), rd_get a i h1, rd_get b i h2, drop_cons a i h1, drop_cons b i h2, cmpL, wrap_succ i (by omega), ih k (i + 1) (by omega) (by omega) (by omega)]
    split
    · rfl
    · split <;> rfl
theorem cmp_is (a b : List Int) (hl : a.length ≤ 1000000) (k : Nat) (hk : a.length < k) : marking_Compare.f k a b = some (cmpL a b) := by
  unfold marking_Compare.f
  rw [mn_len]
  have := cmp_l a b hl _ k 0 rfl (by omega) (by omega)
  simpa using this
theorem rcmp_l (a b : List Int) (hl : a.length ≤ 1000000) (n : Nat) : ∀ (k i : Nat), min a.length b.length - i = n → i ≤ min a.length b.length → 2 * n + 2 ≤ k → petrinetref04_Compare.l0 k a b (i : Int) = some (cmpL (a.drop i) (b.drop i)) := by
  induction n with
  | zero =>
    intro k i hn hi hk
    obtain ⟨k, rfl⟩ : ∃ j, k = j + 2 := ⟨k - 2, by omega⟩
    show petrinetref04_Compare.l0 ((k + 1) + 1) a b _ = _
    have e := cmp_end a b i (by omega)
    simp only [petrinetref04_Compare.l0]
    by_cases c : (i : Int) < (a.length : Int)
    · rw [if_pos c, decide_eq_false (by omega)]
      simp only [petrinetref04_Compare.j1]
      rw [if_neg (by simp), e]
    · rw [if_neg c]
      simp only [petrinetref04_Compare.j1]
      rw [if_neg (by simp), e]
  | succ n ih =>
    intro k i hn hi hk
    obtain ⟨k, rfl⟩ : ∃ j, k = j + 2 := ⟨k - 2, by omega⟩
    show petrinetref04_Compare.l0 ((k + 1) + 1) a b _ = _
    have h1 : i < a.length := by omega
    have h2 : i < b.length := by omega
    simp only [petrinetref04_Compare.l0]
    rw [if_pos (by omega), decide_eq_true (by omega)]
    simp only [petrinetref04_Compare.j1]
    rw [if_pos trivial, if_pos (by omega), if_pos (by omega), if_pos (by omega), rd_get a i h1, rd_get b i h2, drop_cons a i h1, drop_cons b i h2, cmpL, wrap_succ i (by omega), ih k (i + 1) (by omega) (by omega) (by omega)]
    split
    · rfl
    · split <;> rfl
theorem rcmp_is (a b : List Int) (hl : a.length ≤ 1000000) (k : Nat) (hk : 2 * a.length + 2 ≤ k) : petrinetref04_Compare.f k a b = some (cmpL a b) := by
  unfold petrinetref04_Compare.f
  have := rcmp_l a b hl _ k 0 rfl (by omega) (by omega)
  simpa using this
theorem unit_is (a b : Int) : ∃ u, marking_Unit.f a b = some u ∧ petrinetref04_Unit.f a b = some u ∧ u.length ≤ 24 := by
  have e : petrinetref04_Unit.f a b = marking_Unit.f a b := rfl
  rw [e]
  suffices h : ∃ u, marking_Unit.f a b = some u ∧ u.length ≤ 24 by obtain ⟨u, h1, h2⟩ := h; exact ⟨u, h1, h1, h2⟩
  unfold marking_Unit.f
  by_cases h1 : a < 1
  · exact ⟨[], by rw [if_pos h1], by simp⟩
  · rw [if_neg h1]
    by_cases h2 : a > 24
    · exact ⟨[], by rw [if_pos h2], by simp⟩
    · rw [if_neg h2]
      by_cases h3 : b < 0
      · exact ⟨[], by rw [if_pos h3], by simp⟩
      · rw [if_neg h3]
        by_cases h4 : b ≥ a
        · exact ⟨[], by rw [if_pos h4], by simp⟩
        · rw [if_neg h4, if_pos (by omega), if_pos (by omega), Option.bind_some, if_pos (by omega), if_pos (by rw [List.length_replicate]; omega)]
          exact ⟨_, rfl, by rw [List.length_set, List.length_replicate]; omega⟩
theorem cmpL_anti : ∀ a b : List Int, cmpL b a = -cmpL a b
  | [], [] => rfl
  | [], y :: b => rfl
  | x :: a, [] => rfl
  | x :: a, y :: b => by
    have := cmpL_anti a b
    rw [cmpL, cmpL]
    by_cases h : x < y
    · rw [if_neg (by omega), if_pos h, if_pos h]; rfl
    · by_cases g : y < x
      · rw [if_pos g, if_neg h, if_pos g]
      · rw [if_neg g, if_neg h, if_neg h, if_neg g, this]
theorem cmpL_range : ∀ a b : List Int, -1 ≤ cmpL a b ∧ cmpL a b ≤ 1
  | [], [] => by simp [cmpL]
  | [], y :: b => by simp [cmpL]
  | x :: a, [] => by simp [cmpL]
  | x :: a, y :: b => by
    have := cmpL_range a b
    rw [cmpL]
    split
    · omega
    · split <;> omega
theorem cmpL_zero : ∀ a b : List Int, cmpL a b = 0 ↔ a = b
  | [], [] => by simp [cmpL]
  | [], y :: b => by simp [cmpL]
  | x :: a, [] => by simp [cmpL]
  | x :: a, y :: b => by
    have := cmpL_zero a b
    rw [cmpL]
    by_cases h : x < y
    · rw [if_pos h]; refine ⟨fun e => absurd e (by omega), fun e => ?_⟩
      injection e with e1 _; omega
    · rw [if_neg h]
      by_cases g : x > y
      · rw [if_pos g]; refine ⟨fun e => absurd e (by omega), fun e => ?_⟩
        injection e with e1 _; omega
      · rw [if_neg g, this, List.cons.injEq]; exact ⟨fun e => ⟨by omega, e⟩, fun e => e.2⟩
theorem cmpL_trans : ∀ a b c : List Int, cmpL a b ≤ 0 → cmpL b c ≤ 0 → cmpL a c ≤ 0
  | [], _, [], _, _ => by simp [cmpL]
  | [], _, z :: c, _, _ => by simp [cmpL]
  | x :: a, [], _, h, _ => by simp [cmpL] at h
  | x :: a, y :: b, [], _, g => by simp [cmpL] at g
  | x :: a, y :: b, z :: c, h, g => by
    have ih := cmpL_trans a b c
    rw [cmpL] at h g ⊢
    by_cases h1 : x < y
    · by_cases g1 : y < z
      · rw [if_pos (by omega)]; omega
      · rw [if_neg g1] at g
        by_cases g2 : y > z
        · rw [if_pos g2] at g; omega
        · rw [if_pos (by omega)]; omega
    · rw [if_neg h1] at h
      by_cases h2 : x > y
      · rw [if_pos h2] at h; omega
      · rw [if_neg h2] at h
        by_cases g1 : y < z
        · rw [if_pos (by omega)]; omega
        · rw [if_neg g1] at g
          by_cases g2 : y > z
          · rw [if_pos g2] at g; omega
          · rw [if_neg g2] at g
            rw [if_neg (by omega), if_neg (by omega)]; exact ih h g
end Go.Proofs.YtjfgmfajniacdaaDoor.Plain
