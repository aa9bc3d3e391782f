/- Plain laws over the printed functions: what each comes to. No condition but the ones written. -/
import Derived.Test.YtjfgmfajniacdaaDoorPlainC
import Derived.Test.YtjfgmfajniacdaaDoorPAllx4
import Derived.Test.YtjfgmfajniacdaaDoorPAllx8
namespace Go.Proofs.YtjfgmfajniacdaaDoor.Plain
open Go Go.RowKit Go.Proofs.YtjfgmfajniacdaaDoor.PAll Go.Proofs.YtjfgmfajniacdaaDoorW.PrintWords Go.Proofs.YtjfgmfajniacdaaDoorW.PrintLast Go.Proofs.YtjfgmfajniacdaaDoorW.PrintMore
set_option linter.unusedVariables false
/-! ### Total -/
def sumL : List Int → Int
  | [] => 0
  | x :: l => x + sumL l
theorem sumL_le (l : List Int) (h : ∀ x ∈ l, 0 ≤ x ∧ x ≤ 1048576) : 0 ≤ sumL l ∧ sumL l ≤ 1048576 * l.length := by
  induction l with
  | nil => simp [sumL]
  | cons x l ih =>
    have h1 := h x (List.mem_cons_self ..)
    have h2 := ih (fun y hy => h y (List.mem_cons_of_mem _ hy))
    simp only [sumL, List.length_cons]; omega
theorem drop_all {α : Type} {P : α → Prop} {l : List α} (h : ∀ x ∈ l, P x) (i : Nat) : ∀ x ∈ l.drop i, P x := fun x hx => h x (List.mem_of_mem_drop hx)
theorem total_l (l : List Int) (hl : l.length ≤ 24) (hin : ∀ x ∈ l, 0 ≤ x ∧ x ≤ 1048576) (n : Nat) : ∀ (k i : Nat) (s : Int), l.length - i = n → i ≤ l.length → n < k → 0 ≤ s → s ≤ 1048576 * i → marking_Total.l0 k s l (l.length : Int) (i : Int) = some (s + sumL (l.drop i)) := by
  induction n with
  | zero =>
    intro k i s hn hi hk _ _
    obtain ⟨k, rfl⟩ := fuel hk
    simp only [marking_Total.l0]
    rw [if_neg (by omega), drop_end l i (by omega), sumL, Int.add_zero]
  | succ n ih =>
    intro k i s hn hi hk hs0 hs1
    obtain ⟨k, rfl⟩ := fuel hk
    have h1 : i < l.length := by omega
    have hx := hin _ (List.getElem_mem h1)
    simp only [marking_Total.l0]
    rw [if_pos (by omega), if_pos (by omega), if_pos (by omega), rd_get l i h1, wrap_succ i (by omega), drop_cons l i h1, wrap_id _ (by omega), ih k (i + 1) _ (by omega) (by omega) (by omega) (by omega) (by omega), sumL]
    congr 1; omega
theorem rtotal_l (l : List Int) (hl : l.length ≤ 24) (hin : ∀ x ∈ l, 0 ≤ x ∧ x ≤ 1048576) (n : Nat) : ∀ (k i : Nat) (s : Int), l.length - i = n → i ≤ l.length → n < k → 0 ≤ s → s ≤ 1048576 * i → petrinetref04_Total.l0 k l s (i : Int) = some (s + sumL (l.drop i)) := by
  induction n with
  | zero =>
    intro k i s hn hi hk _ _
    obtain ⟨k, rfl⟩ := fuel hk
    simp only [petrinetref04_Total.l0]
    rw [if_neg (by omega), drop_end l i (by omega), sumL, Int.add_zero]
  | succ n ih =>
    intro k i s hn hi hk hs0 hs1
    obtain ⟨k, rfl⟩ := fuel hk
    have h1 : i < l.length := by omega
    have hx := hin _ (List.getElem_mem h1)
    simp only [petrinetref04_Total.l0]
    rw [if_pos (by omega), if_pos (by omega), rd_get l i h1, wrap_succ i (by omega), drop_cons l i h1, wrap_id _ (by omega), ih k (i + 1) _ (by omega) (by omega) (by omega) (by omega) (by omega), sumL]
    congr 1; omega
def totalR (l : List Int) : Int := if l.length ≤ 24 ∧ inB l = true then sumL l else -1
theorem total_is (l : List Int) (hl : l.length ≤ 1000000) (k : Nat) (hk : l.length + 1 < k) : marking_Total.f k l = some (totalR l) := by
  obtain ⟨k, rfl⟩ := fuel (show 0 < k by omega)
  unfold marking_Total.f totalR
  by_cases h : (l.length : Int) > 24
  · rw [if_pos h, if_neg (by omega)]; rfl
  · rw [if_neg h, valid_is l _ hl _ (by omega), valid_self, Option.bind_some]
    cases e : inB l with
    | false => rw [if_neg (by simp)]; rfl
    | true =>
      rw [if_pos ⟨by omega, rfl⟩]
      have := total_l l (by omega) ((inB_iff l).mp e) _ k 0 0 rfl (by omega) (by omega) (by omega) (by omega)
      simp only [Bool.not_true, marking_Total.j0]
      simpa using this
theorem rtotal_is (l : List Int) (hl : l.length ≤ 1000000) (k : Nat) (hk : l.length + 1 < k) : petrinetref04_Total.f k l = some (totalR l) := by
  obtain ⟨k, rfl⟩ := fuel (show 0 < k by omega)
  unfold petrinetref04_Total.f totalR
  rw [rvalid_is l _ hl _ (by omega), valid_self, Option.bind_some]
  cases e : inB l with
  | false => rw [if_neg (by simp), if_neg (by simp)]; rfl
  | true =>
    rw [if_pos rfl]
    by_cases h : (l.length : Int) > 24
    · rw [decide_eq_true h, if_neg (by omega)]; rfl
    · rw [decide_eq_false h, if_pos ⟨by omega, rfl⟩]
      have := rtotal_l l (by omega) ((inB_iff l).mp e) _ k 0 0 rfl (by omega) (by omega) (by omega) (by omega)
      simp only [petrinetref04_Total.j0]
      simpa using this
theorem totalR_good (l : List Int) : 0 ≤ totalR l ↔ (l.length ≤ 24 ∧ inB l = true) := by
  unfold totalR
  by_cases h : l.length ≤ 24 ∧ inB l = true
  · rw [if_pos h]; exact ⟨fun _ => h, fun _ => (sumL_le l ((inB_iff l).mp h.2)).1⟩
  · rw [if_neg h]; exact ⟨fun g => absurd g (by omega), fun g => absurd g h⟩
end Go.Proofs.YtjfgmfajniacdaaDoor.Plain
