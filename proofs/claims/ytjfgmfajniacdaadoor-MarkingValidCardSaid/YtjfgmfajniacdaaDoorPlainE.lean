/- Plain laws over the printed functions: what each comes to. No condition but the ones written. -/
import Derived.Test.YtjfgmfajniacdaaDoorPlainA
import Derived.Test.YtjfgmfajniacdaaDoorPAllx2
import Derived.Test.YtjfgmfajniacdaaDoorPAllx6
import Derived.Test.YtjfgmfajniacdaaDoorPAllx5
namespace Go.Proofs.YtjfgmfajniacdaaDoor.Plain
open Go Go.RowKit Go.Proofs.YtjfgmfajniacdaaDoor.PAll Go.Proofs.YtjfgmfajniacdaaDoorW.PrintWords Go.Proofs.YtjfgmfajniacdaaDoorW.PrintLast Go.Proofs.YtjfgmfajniacdaaDoorW.PrintMore
set_option linter.unusedVariables false
/-! ### Leq, Max, Min, Compare, Unit -/
def leqL : List Int → List Int → Bool
  | [], [] => true
  | x :: a, y :: b => decide (x ≤ y) && leqL a b
  | _, _ => false
theorem leqL_len : ∀ a b : List Int, leqL a b = true → a.length = b.length
  | [], [], _ => rfl
  | x :: a, y :: b, h => by rw [leqL, Bool.and_eq_true] at h; simp only [List.length_cons]; rw [leqL_len a b h.2]
  | [], y :: b, h => by simp [leqL] at h
  | x :: a, [], h => by simp [leqL] at h
theorem leq_l (a b : List Int) (hab : a.length = b.length) (hl : a.length ≤ 1000000) (n : Nat) : ∀ (k i : Nat), a.length - i = n → i ≤ a.length → n < k → marking_Leq.l0 k a b (a.length : Int) (i : Int) = some (leqL (a.drop i) (b.drop i)) := by
  induction n with
  | zero =>
    intro k i hn hi hk
    obtain ⟨k, rfl⟩ := fuel hk
    simp only [marking_Leq.l0]
    rw [if_neg (by omega), drop_end a i (by omega), drop_end b i (by omega), leqL]
  | succ n ih =>
    intro k i hn hi hk
    obtain ⟨k, rfl⟩ := fuel hk
    have h1 : i < a.length := by omega
    have h2 : i < b.length := by omega
    simp only [marking_Leq.l0]
    rw [if_pos (by omega), if_pos (by omega), if_pos (by omega), if_pos (by omega), rd_get a i h1, rd_get b i h2, drop_cons a i h1, drop_cons b i h2, leqL]
    by_cases e : a[i] > b[i]
    · rw [if_pos e, decide_eq_false (by omega)]; rfl
    · rw [if_neg e, decide_eq_true (by omega), wrap_succ i (by omega), ih k (i + 1) (by omega) (by omega) (by omega)]; rfl
theorem leq_is (a b : List Int) (hl : a.length ≤ 1000000) (k : Nat) (hk : a.length < k) : marking_Leq.f k a b = some (leqL a b) := by
  unfold marking_Leq.f
  by_cases h : (a.length : Int) = (b.length : Int)
  · rw [if_pos h]
    have := leq_l a b (by omega) hl _ k 0 rfl (by omega) hk
    simpa using this
  · rw [if_neg h]
    cases e : leqL a b with
    | false => rfl
    | true => exact absurd (leqL_len a b e) (by omega)
theorem rleq_l (a b : List Int) (hab : a.length = b.length) (hl : a.length ≤ 1000000) (n : Nat) : ∀ (k i : Nat), a.length - i = n → i ≤ a.length → n < k → petrinetref04_Leq.l0 k a b (i : Int) = some (leqL (a.drop i) (b.drop i)) := by
  induction n with
  | zero =>
    intro k i hn hi hk
    obtain ⟨k, rfl⟩ := fuel hk
    simp only [petrinetref04_Leq.l0]
    rw [if_neg (by omega), drop_end a i (by omega), drop_end b i (by omega), leqL]
  | succ n ih =>
    intro k i hn hi hk
    obtain ⟨k, rfl⟩ := fuel hk
    have h1 : i < a.length := by omega
    have h2 : i < b.length := by omega
    simp only [petrinetref04_Leq.l0]
    rw [if_pos (by omega), if_pos (by omega), if_pos (by omega), rd_get a i h1, rd_get b i h2, drop_cons a i h1, drop_cons b i h2, leqL]
    by_cases e : a[i] > b[i]
    · rw [if_pos e, decide_eq_false (by omega)]; rfl
    · rw [if_neg e, decide_eq_true (by omega), wrap_succ i (by omega), ih k (i + 1) (by omega) (by omega) (by omega)]; rfl
theorem rleq_is (a b : List Int) (hl : a.length ≤ 1000000) (k : Nat) (hk : a.length < k) : petrinetref04_Leq.f k a b = some (leqL a b) := by
  unfold petrinetref04_Leq.f
  by_cases h : (a.length : Int) = (b.length : Int)
  · rw [if_pos h]
    have := rleq_l a b (by omega) hl _ k 0 rfl (by omega) hk
    simpa using this
  · rw [if_neg h]
    cases e : leqL a b with
    | false => rfl
    | true => exact absurd (leqL_len a b e) (by omega)
theorem set_take {α : Type} (l : List α) (i : Nat) (v : α) (h : i < l.length) : (l.set i v).take (i + 1) = l.take i ++ [v] := by
  rw [List.take_succ_eq_append_getElem (by rw [List.length_set]; exact h), List.getElem_set_self, List.take_set, List.set_eq_of_length_le (by rw [List.length_take]; omega)]
def zipG (g : Int → Int → Int) (a b : List Int) : List Int := if a.length = b.length then List.zipWith g a b else []
theorem zipG_len (g : Int → Int → Int) (a b : List Int) : (zipG g a b).length ≤ a.length := by
  unfold zipG
  split
  · simp; omega
  · simp
theorem Max_l (a b : List Int) (hab : a.length = b.length) (hl : a.length ≤ 1000000) (n : Nat) : ∀ (k i : Nat) (acc : List Int), a.length - i = n → i ≤ a.length → acc.length = a.length → n < k → marking_Max.l0 k a b acc (a.length : Int) (i : Int) = some (acc.take i ++ List.zipWith mx (a.drop i) (b.drop i)) := by
  induction n with
  | zero =>
    intro k i acc hn hi ha hk
    obtain ⟨k, rfl⟩ := fuel hk
    simp only [marking_Max.l0]
    rw [if_neg (by omega), drop_end a i (by omega), List.take_of_length_le (by omega)]; simp
  | succ n ih =>
    intro k i acc hn hi ha hk
    obtain ⟨k, rfl⟩ := fuel hk
    have h1 : i < a.length := by omega
    have h2 : i < b.length := by omega
    simp only [marking_Max.l0]
    rw [if_pos (by omega), if_pos (by omega), if_pos (by omega), if_pos (by omega), if_pos (by omega), rd_get a i h1, rd_get b i h2, wrap_succ i (by omega), Int.toNat_natCast, ih k (i + 1) _ (by omega) (by omega) (by rw [List.length_set]; exact ha) (by omega), set_take acc i _ (by omega), drop_cons a i h1, drop_cons b i h2, List.zipWith_cons_cons]
    simp
theorem Max_is (a b : List Int) (hl : a.length ≤ 1000000) (k : Nat) (hk : a.length < k) : marking_Max.f k a b = some (zipG mx a b) := by
  unfold marking_Max.f zipG
  by_cases h : (a.length : Int) = (b.length : Int)
  · rw [if_pos h, if_pos (by omega), if_pos (by omega), if_pos (by omega)]
    have := Max_l a b (by omega) hl _ k 0 (List.replicate a.length 0) rfl (by omega) (by simp) hk
    simpa using this
  · rw [if_neg h, if_neg (by omega)]
theorem rMax_l (a b : List Int) (hab : a.length = b.length) (hl : a.length ≤ 1000000) (n : Nat) : ∀ (k i : Nat) (out : List Int), a.length - i = n → i ≤ a.length → out.length ≤ i → n < k → petrinetref04_Max.l0 k a b out (i : Int) = some (out ++ List.zipWith mx (a.drop i) (b.drop i)) := by
  induction n with
  | zero =>
    intro k i out hn hi ha hk
    obtain ⟨k, rfl⟩ := fuel hk
    simp only [petrinetref04_Max.l0]
    rw [if_neg (by omega), drop_end a i (by omega)]; simp
  | succ n ih =>
    intro k i out hn hi ha hk
    obtain ⟨k, rfl⟩ := fuel hk
    have h1 : i < a.length := by omega
    have h2 : i < b.length := by omega
    simp only [petrinetref04_Max.l0]
    rw [if_pos (by omega), if_pos (by omega), if_pos (by omega), if_pos (by omega), rd_get a i h1, rd_get b i h2, wrap_succ i (by omega), ih k (i + 1) _ (by omega) (by omega) (by simp; omega) (by omega), drop_cons a i h1, drop_cons b i h2, List.zipWith_cons_cons]
    simp
theorem rMax_is (a b : List Int) (hl : a.length ≤ 1000000) (k : Nat) (hk : a.length < k) : petrinetref04_Max.f k a b = some (zipG mx a b) := by
  unfold petrinetref04_Max.f zipG
  by_cases h : (a.length : Int) = (b.length : Int)
  · rw [if_pos h, if_pos (by omega)]
    have := rMax_l a b (by omega) hl _ k 0 [] rfl (by omega) (by simp) hk
    simpa using this
  · rw [if_neg h, if_neg (by omega)]
theorem Min_l (a b : List Int) (hab : a.length = b.length) (hl : a.length ≤ 1000000) (n : Nat) : ∀ (k i : Nat) (acc : List Int), a.length - i = n → i ≤ a.length → acc.length = a.length → n < k → marking_Min.l0 k a b acc (a.length : Int) (i : Int) = some (acc.take i ++ List.zipWith mn (a.drop i) (b.drop i)) := by
  induction n with
  | zero =>
    intro k i acc hn hi ha hk
    obtain ⟨k, rfl⟩ := fuel hk
    simp only [marking_Min.l0]
    rw [if_neg (by omega), drop_end a i (by omega), List.take_of_length_le (by omega)]; simp
  | succ n ih =>
    intro k i acc hn hi ha hk
    obtain ⟨k, rfl⟩ := fuel hk
    have h1 : i < a.length := by omega
    have h2 : i < b.length := by omega
    simp only [marking_Min.l0]
    rw [if_pos (by omega), if_pos (by omega), if_pos (by omega), if_pos (by omega), if_pos (by omega), rd_get a i h1, rd_get b i h2, wrap_succ i (by omega), Int.toNat_natCast, ih k (i + 1) _ (by omega) (by omega) (by rw [List.length_set]; exact ha) (by omega), set_take acc i _ (by omega), drop_cons a i h1, drop_cons b i h2, List.zipWith_cons_cons]
    simp
theorem Min_is (a b : List Int) (hl : a.length ≤ 1000000) (k : Nat) (hk : a.length < k) : marking_Min.f k a b = some (zipG mn a b) := by
  unfold marking_Min.f zipG
  by_cases h : (a.length : Int) = (b.length : Int)
  · rw [if_pos h, if_pos (by omega), if_pos (by omega), if_pos (by omega)]
    have := Min_l a b (by omega) hl _ k 0 (List.replicate a.length 0) rfl (by omega) (by simp) hk
    simpa using this
  · rw [if_neg h, if_neg (by omega)]
theorem rMin_l (a b : List Int) (hab : a.length = b.length) (hl : a.length ≤ 1000000) (n : Nat) : ∀ (k i : Nat) (out : List Int), a.length - i = n → i ≤ a.length → out.length ≤ i → n < k → petrinetref04_Min.l0 k a b out (i : Int) = some (out ++ List.zipWith mn (a.drop i) (b.drop i)) := by
  induction n with
  | zero =>
    intro k i out hn hi ha hk
    obtain ⟨k, rfl⟩ := fuel hk
    simp only [petrinetref04_Min.l0]
    rw [if_neg (by omega), drop_end a i (by omega)]; simp
  | succ n ih =>
    intro k i out hn hi ha hk
    obtain ⟨k, rfl⟩ := fuel hk
    have h1 : i < a.length := by omega
    have h2 : i < b.length := by omega
    simp only [petrinetref04_Min.l0]
    rw [if_pos (by omega), if_pos (by omega), if_pos (by omega), if_pos (by omega), rd_get a i h1, rd_get b i h2, wrap_succ i (by omega), ih k (i + 1) _ (by omega) (by omega) (by simp; omega) (by omega), drop_cons a i h1, drop_cons b i h2, List.zipWith_cons_cons]
    simp
theorem rMin_is (a b : List Int) (hl : a.length ≤ 1000000) (k : Nat) (hk : a.length < k) : petrinetref04_Min.f k a b = some (zipG mn a b) := by
  unfold petrinetref04_Min.f zipG
  by_cases h : (a.length : Int) = (b.length : Int)
  · rw [if_pos h, if_pos (by omega)]
    have := rMin_l a b (by omega) hl _ k 0 [] rfl (by omega) (by simp) hk
    simpa using this
  · rw [if_neg h, if_neg (by omega)]
/-! ### facts of the order -/
theorem leqL_refl : ∀ a : List Int, leqL a a = true
  | [] => rfl
  | x :: a => by rw [leqL, leqL_refl a, decide_eq_true (Int.le_refl x)]; rfl
theorem leqL_cons (x y : Int) (a b : List Int) : leqL (x :: a) (y :: b) = true ↔ x ≤ y ∧ leqL a b = true := by rw [leqL, Bool.and_eq_true, decide_eq_true_iff]
theorem leqL_anti : ∀ a b : List Int, leqL a b = true → leqL b a = true → a = b
  | [], [], _, _ => rfl
  | x :: a, y :: b, h, g => by
    rw [leqL_cons] at h g
    rw [leqL_anti a b h.2 g.2, show x = y by omega]
  | [], y :: b, h, _ => by simp [leqL] at h
  | x :: a, [], h, _ => by simp [leqL] at h
theorem leqL_trans : ∀ a b c : List Int, leqL a b = true → leqL b c = true → leqL a c = true
  | [], [], [], _, _ => rfl
  | x :: a, y :: b, z :: c, h, g => by
    rw [leqL_cons] at h g ⊢
    exact ⟨by omega, leqL_trans a b c h.2 g.2⟩
  | [], y :: b, _, h, _ => by simp [leqL] at h
  | x :: a, [], _, h, _ => by simp [leqL] at h
  | _, [], z :: c, _, g => by simp [leqL] at g
  | _, y :: b, [], _, g => by simp [leqL] at g
theorem mx_ge (x y : Int) : x ≤ mx x y ∧ y ≤ mx x y := by unfold mx; split <;> omega
theorem mn_le (x y : Int) : mn x y ≤ x ∧ mn x y ≤ y := by unfold mn; split <;> omega
theorem zip_ge : ∀ a b : List Int, a.length = b.length → leqL a (List.zipWith mx a b) = true ∧ leqL b (List.zipWith mx a b) = true
  | [], [], _ => ⟨rfl, rfl⟩
  | x :: a, y :: b, h => by
    have := zip_ge a b (by simpa using h)
    rw [List.zipWith_cons_cons, leqL_cons, leqL_cons]
    exact ⟨⟨(mx_ge x y).1, this.1⟩, ⟨(mx_ge x y).2, this.2⟩⟩
  | [], y :: b, h => by simp at h
  | x :: a, [], h => by simp at h
theorem zip_le : ∀ a b : List Int, a.length = b.length → leqL (List.zipWith mn a b) a = true ∧ leqL (List.zipWith mn a b) b = true
  | [], [], _ => ⟨rfl, rfl⟩
  | x :: a, y :: b, h => by
    have := zip_le a b (by simpa using h)
    rw [List.zipWith_cons_cons, leqL_cons, leqL_cons]
    exact ⟨⟨(mn_le x y).1, this.1⟩, ⟨(mn_le x y).2, this.2⟩⟩
  | [], y :: b, h => by simp at h
  | x :: a, [], h => by simp at h
theorem zip_lub : ∀ a b c : List Int, leqL a c = true → leqL b c = true → leqL (List.zipWith mx a b) c = true
  | [], [], [], _, _ => rfl
  | x :: a, y :: b, z :: c, h, g => by
    rw [leqL_cons] at h g
    rw [List.zipWith_cons_cons, leqL_cons]
    exact ⟨by unfold mx; split <;> omega, zip_lub a b c h.2 g.2⟩
  | _, y :: b, [], _, g => by simp [leqL] at g
  | x :: a, _, [], h, _ => by simp [leqL] at h
  | [], _, z :: c, h, _ => by simp [leqL] at h
  | _, [], z :: c, _, g => by simp [leqL] at g
theorem zip_glb : ∀ a b c : List Int, leqL c a = true → leqL c b = true → leqL c (List.zipWith mn a b) = true
  | [], [], [], _, _ => rfl
  | x :: a, y :: b, z :: c, h, g => by
    rw [leqL_cons] at h g
    rw [List.zipWith_cons_cons, leqL_cons]
    exact ⟨by unfold mn; split <;> omega, zip_glb a b c h.2 g.2⟩
  | _, y :: b, [], _, g => by simp [leqL] at g
  | x :: a, _, [], h, _ => by simp [leqL] at h
  | [], _, z :: c, h, _ => by simp [leqL] at h
  | _, [], z :: c, _, g => by simp [leqL] at g
theorem zip_comm (g : Int → Int → Int) (hg : ∀ x y, g x y = g y x) : ∀ a b : List Int, List.zipWith g a b = List.zipWith g b a
  | [], [] => rfl
  | x :: a, y :: b => by rw [List.zipWith_cons_cons, List.zipWith_cons_cons, hg, zip_comm g hg a b]
  | [], y :: b => rfl
  | x :: a, [] => rfl
theorem mx_comm (x y : Int) : mx x y = mx y x := by unfold mx; split <;> split <;> omega
theorem mn_comm (x y : Int) : mn x y = mn y x := by unfold mn; split <;> split <;> omega
theorem zipG_comm (g : Int → Int → Int) (hg : ∀ x y, g x y = g y x) (a b : List Int) : zipG g a b = zipG g b a := by
  unfold zipG
  by_cases h : a.length = b.length
  · rw [if_pos h, if_pos h.symm, zip_comm g hg]
  · rw [if_neg h, if_neg (fun e => h e.symm)]
end Go.Proofs.YtjfgmfajniacdaaDoor.Plain
