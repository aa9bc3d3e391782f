/- Plain laws over the printed functions: what each comes to. No condition but the ones written. -/
import Derived.Test.YtjfgmfajniacdaaDoorPlainB
namespace Go.Proofs.YtjfgmfajniacdaaDoor.Plain
open Go Go.RowKit Go.Proofs.YtjfgmfajniacdaaDoor.PAll Go.Proofs.YtjfgmfajniacdaaDoorW.PrintWords Go.Proofs.YtjfgmfajniacdaaDoorW.PrintLast Go.Proofs.YtjfgmfajniacdaaDoorW.PrintMore
set_option linter.unusedVariables false
/-! ### Valid, Total -/
def inB (l : List Int) : Bool := decide (∀ x ∈ l, 0 ≤ x ∧ x ≤ 1048576)
theorem inB_nil : inB [] = true := by simp [inB]
theorem inB_cons (x : Int) (l : List Int) : inB (x :: l) = (decide (0 ≤ x ∧ x ≤ 1048576) && inB l) := by simp [inB]
theorem inB_iff (l : List Int) : inB l = true ↔ ∀ x ∈ l, 0 ≤ x ∧ x ≤ 1048576 := by unfold inB; rw [decide_eq_true_iff]
theorem valid_l (l : List Int) (hl : l.length ≤ 1000000) (n : Nat) : ∀ (k i : Nat), l.length - i = n → i ≤ l.length → n < k → marking_Valid.l0 k l (l.length : Int) (i : Int) = some (inB (l.drop i)) := by
  induction n with
  | zero =>
    intro k i hn hi hk
    obtain ⟨k, rfl⟩ := fuel hk
    simp only [marking_Valid.l0]
    rw [if_neg (by omega), drop_end l i (by omega), inB_nil]
  | succ n ih =>
    intro k i hn hi hk
    obtain ⟨k, rfl⟩ := fuel hk
    have h1 : i < l.length := by omega
    simp only [marking_Valid.l0]
    rw [if_pos (by omega), if_pos (by omega), if_pos (by omega), rd_get l i h1, wrap_succ i (by omega), drop_cons l i h1, inB_cons]
    by_cases a : l[i] < 0
    · rw [if_pos a, decide_eq_false (by omega)]; rfl
    · rw [if_neg a]
      by_cases b : l[i] > 1048576
      · rw [if_pos b, decide_eq_false (by omega)]; rfl
      · rw [if_neg b, decide_eq_true (by omega), ih k (i + 1) (by omega) (by omega) (by omega)]; rfl
def validB (l : List Int) (n : Int) : Bool := decide ((l.length : Int) = n) && inB l
theorem valid_is (l : List Int) (n : Int) (hl : l.length ≤ 1000000) (k : Nat) (hk : l.length < k) : marking_Valid.f k l n = some (validB l n) := by
  unfold marking_Valid.f validB
  by_cases h : (l.length : Int) = n
  · rw [if_pos h, decide_eq_true h]
    have := valid_l l hl _ k 0 rfl (by omega) (by omega)
    simpa using this
  · rw [if_neg h, decide_eq_false h]; rfl
theorem valid_self (l : List Int) : validB l (l.length : Int) = inB l := by unfold validB; rw [decide_eq_true rfl]; rfl
theorem rvalid_l (l : List Int) (m : Int) (hl : l.length ≤ 1000000) (n : Nat) : ∀ (k i : Nat), l.length - i = n → i ≤ l.length → n < k → petrinetref04_Valid.l0 k l m (i : Int) = some (inB (l.drop i) && decide ((l.length : Int) = m)) := by
  induction n with
  | zero =>
    intro k i hn hi hk
    obtain ⟨k, rfl⟩ := fuel hk
    simp only [petrinetref04_Valid.l0]
    rw [if_neg (by omega), drop_end l i (by omega), inB_nil, Bool.true_and]; rfl
  | succ n ih =>
    intro k i hn hi hk
    obtain ⟨k, rfl⟩ := fuel hk
    have h1 : i < l.length := by omega
    simp only [petrinetref04_Valid.l0]
    rw [if_pos (by omega), if_pos (by omega), rd_get l i h1, wrap_succ i (by omega), drop_cons l i h1, inB_cons]
    by_cases a : l[i] < 0
    · rw [if_pos a, decide_eq_false (by omega)]; rfl
    · rw [if_neg a]
      by_cases b : l[i] > 1048576
      · rw [if_pos b, decide_eq_false (by omega)]; rfl
      · rw [if_neg b, decide_eq_true (by omega), ih k (i + 1) (by omega) (by omega) (by omega)]; rfl
theorem rvalid_is (l : List Int) (n : Int) (hl : l.length ≤ 1000000) (k : Nat) (hk : l.length < k) : petrinetref04_Valid.f k l n = some (validB l n) := by
  unfold petrinetref04_Valid.f validB
  have := rvalid_l l n hl _ k 0 rfl (by omega) (by omega)
  rw [Bool.and_comm]
  simpa using this

/-! ### Text -/
def tailC : List Int → List UInt8
  | [] => []
  | x :: l => 44 :: (Lib.itoa x ++ tailC l)
theorem join_tail (l : List Int) : ∀ x, Num.joinB 44 ((x :: l).map Lib.itoa) = Lib.itoa x ++ tailC l := by
  induction l with
  | nil => intro x; simp [Num.joinB, tailC]
  | cons y l ih =>
    intro x
    rw [List.map_cons, Num.joinB_cons _ _ _ (by simp), ih y, tailC]
theorem itoa_len {n : Int} (h : I64 n) : (Lib.itoa n).length ≤ 20 := by
  unfold I64 at h
  by_cases c : n < 0
  · rw [Num.itoa_neg' c, List.length_cons]
    have := decDigits_le 18 n.natAbs (by omega); omega
  · rw [Num.itoa_pos (by omega)]
    have := decDigits_le 18 n.toNat (by omega); omega
theorem strItoa_is {n : Int} (h : I64 n) : strconv_Itoa.f n = some (mk (Lib.itoa n)) := by
  unfold I64 at h; unfold strconv_Itoa.f mk; rw [if_pos (by omega)]
theorem mk_size (p : List UInt8) : (mk p).size = p.length := by rw [size_data]; unfold mk; rw [Num.data_mk]
theorem mk_data (p : List UInt8) : (mk p).data.toList = p := by unfold mk; rw [Num.data_mk]
theorem mk_self (s : ByteArray) : mk s.data.toList = s := Num.str_ext (mk_data _)
theorem app_eq {a b : ByteArray} {p q : List UInt8} (ha : a = mk p) (hb : b = mk q) : a ++ b = mk (p ++ q) := by subst ha hb; exact Num.str_ext (by rw [Num.data_append, mk_data, mk_data, mk_data])
theorem comma_eq : (⟨#[44]⟩ : ByteArray) = mk [44] := rfl
theorem tail_drop {l : List Int} {i : Nat} (h : i < l.length) : tailC (l.drop i) = 44 :: (Lib.itoa l[i] ++ tailC (l.drop (i + 1))) := by rw [drop_cons l i h, tailC]
theorem number_mk {n : Int} (h : I64 n) (k : Nat) (hk : 60 ≤ k) : petrinetref04_Number.f k n = some (mk (Lib.itoa n)) := number_is n h k hk
theorem join_l (l : List Int) (hl : l.length ≤ 1000000) (hin : AllI l) (n : Nat) : ∀ (k i : Nat) (s : List UInt8), l.length - i = n → 0 < i → i ≤ l.length → n < k → s.length ≤ 100 * i → marking_join.l0 k (mk s) l (l.length : Int) (i : Int) = some (mk (s ++ tailC (l.drop i))) := by
  induction n with
  | zero =>
    intro k i s hn h0 hi hk _
    obtain ⟨k, rfl⟩ := fuel hk
    simp only [marking_join.l0]
    rw [if_neg (by omega), drop_end l i (by omega), tailC, List.append_nil]
  | succ n ih =>
    intro k i s hn h0 hi hk hs
    obtain ⟨k, rfl⟩ := fuel hk
    have h1 : i < l.length := by omega
    have hz := itoa_len (hin _ (List.getElem_mem h1))
    simp only [marking_join.l0]
    rw [if_pos (by omega), if_pos (by omega), if_pos (by omega), if_pos (by omega), if_pos (by rw [mk_size]; omega), rd_get l i h1, strItoa_is (hin _ (List.getElem_mem h1)), Option.bind_some, app_eq rfl comma_eq]
    rw [if_pos (by rw [mk_size, mk_size, List.length_append, List.length_singleton]; omega), app_eq rfl rfl, wrap_succ i (by omega), ih k (i + 1) _ (by omega) (by omega) (by omega) (by omega) (by simp only [List.length_append, List.length_singleton]; omega), tail_drop h1]
    congr 2; simp
theorem rtext_l (l : List Int) (hl : l.length ≤ 1000000) (hin : AllI l) (n : Nat) : ∀ (k i : Nat) (s : List UInt8), l.length - i = n → 0 < i → i ≤ l.length → n + 60 < k → s.length ≤ 100 * i → petrinetref04_Text.l0 k l (mk s) (i : Int) = some (mk (s ++ tailC (l.drop i))) := by
  induction n with
  | zero =>
    intro k i s hn h0 hi hk _
    obtain ⟨k, rfl⟩ := fuel hk
    simp only [petrinetref04_Text.l0]
    rw [if_neg (by omega), drop_end l i (by omega), tailC, List.append_nil]
  | succ n ih =>
    intro k i s hn h0 hi hk hs
    obtain ⟨k, rfl⟩ := fuel hk
    have h1 : i < l.length := by omega
    have hz := itoa_len (hin _ (List.getElem_mem h1))
    simp only [petrinetref04_Text.l0]
    rw [if_pos (by omega), if_pos (by omega), if_pos (by rw [mk_size]; omega), if_pos (by omega), rd_get l i h1, number_mk (hin _ (List.getElem_mem h1)) k (by omega), Option.bind_some, app_eq rfl comma_eq]
    rw [if_pos (by rw [mk_size, mk_size, List.length_append, List.length_singleton]; omega), app_eq rfl rfl, wrap_succ i (by omega), ih k (i + 1) _ (by omega) (by omega) (by omega) (by omega) (by simp only [List.length_append, List.length_singleton]; omega), tail_drop h1]
    congr 2; simp
theorem wrap01 : wrap64 (0 + 1) = ((1 : Nat) : Int) := by unfold wrap64; omega
theorem empty_eq : (⟨#[]⟩ : ByteArray) = mk [] := rfl
theorem text_is (l : List Int) (hl : l.length ≤ 1000000) (hin : AllI l) (k : Nat) (hk : l.length < k) : marking_Text.f k l = some (mk (Num.textOf l)) := by
  unfold marking_Text.f
  by_cases h : (l.length : Int) = 0
  · obtain rfl : l = [] := List.length_eq_zero_iff.mp (by omega)
    rfl
  · rw [if_neg h]
    have h1 : 0 < l.length := by omega
    have hne : l ≠ [] := by rintro rfl; simp at h1
    obtain ⟨x, r, rfl⟩ := List.exists_cons_of_ne_nil hne
    obtain ⟨k, rfl⟩ := fuel hk
    have hx := hin x (List.mem_cons_self ..)
    have hz := itoa_len hx
    unfold marking_join.f
    have := join_l (x :: r) hl hin r.length k 1 (Lib.itoa x) (by simp) (by omega) (by simp) (by simp at hk; omega) (by omega)
    have h00 : rd (x :: r) 0 = x := rfl
    simp only [marking_join.l0]
    rw [if_pos (by omega), if_pos (by omega), if_pos (by omega), if_neg (by omega), h00, strItoa_is hx, Option.bind_some, empty_eq, if_pos (by rw [mk_size, mk_size, List.length_nil]; omega), app_eq rfl rfl, List.nil_append]
    rw [wrap01, this, Option.bind_some, Num.textOf_cons hne, join_tail]; rfl
theorem rtext_is (l : List Int) (hl : l.length ≤ 1000000) (hin : AllI l) (k : Nat) (hk : l.length + 62 < k) : petrinetref04_Text.f k l = some (mk (Num.textOf l)) := by
  unfold petrinetref04_Text.f
  by_cases h : (l.length : Int) = 0
  · obtain rfl : l = [] := List.length_eq_zero_iff.mp (by omega)
    rfl
  · rw [if_neg h]
    have h1 : 0 < l.length := by omega
    have hne : l ≠ [] := by rintro rfl; simp at h1
    obtain ⟨x, r, rfl⟩ := List.exists_cons_of_ne_nil hne
    obtain ⟨k, rfl⟩ := fuel hk
    have hx := hin x (List.mem_cons_self ..)
    have hz := itoa_len hx
    have := rtext_l (x :: r) hl hin r.length k 1 (Lib.itoa x) (by simp) (by omega) (by simp) (by simp at hk; omega) (by omega)
    have h00 : rd (x :: r) 0 = x := rfl
    simp only [petrinetref04_Text.l0]
    rw [if_pos (by omega), if_neg (by omega), if_pos (by omega), h00, number_mk hx k (by omega), Option.bind_some, empty_eq, if_pos (by rw [mk_size, mk_size, List.length_nil]; omega), app_eq rfl rfl, List.nil_append]
    rw [wrap01, this, Num.textOf_cons hne, join_tail]; rfl
end Go.Proofs.YtjfgmfajniacdaaDoor.Plain
