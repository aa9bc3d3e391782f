/- Plain laws over the printed functions: what each comes to. No condition but the ones written. -/
import Derived.Test.YtjhlagpcbaodkaaDoorPAllx4
import Derived.Test.YtjhlagpcbaodkaaDoorPAllx2
import Derived.Test.YtjhlagpcbaodkaaDoorNum
import Derived.OpenShut
namespace Go.Proofs.YtjhlagpcbaodkaaDoor.Plain
open Go Go.RowKit Go.Proofs.YtjhlagpcbaodkaaDoor.PAll Go.Proofs.YtjhlagpcbaodkaaDoorW.PrintWords Go.Proofs.YtjhlagpcbaodkaaDoorW.PrintLast Go.Proofs.YtjhlagpcbaodkaaDoorW.PrintMore
set_option linter.unusedVariables false
def I64 (a : Int) : Prop := -9223372036854775808 ≤ a ∧ a < 9223372036854775808
theorem i64_of {a : Int} (h : (Lit.int .i64 a).wf = true) : I64 a := by have := bounds_i64 h; unfold I64; omega
def AllI (l : List Int) : Prop := ∀ x ∈ l, I64 x
theorem allI_of {l : List Int} (h : ∀ x ∈ l, (Lit.int .i64 x).wf = true) : AllI l := fun x hx => i64_of (h x hx)
theorem wrap_succ (i : Nat) (h : i < 9223372036854775807) : wrap64 ((i : Int) + 1) = ((i + 1 : Nat) : Int) := by unfold wrap64; omega
theorem wrap_id (x : Int) (h : -9223372036854775808 ≤ x ∧ x < 9223372036854775808) : wrap64 x = x := by unfold wrap64; omega
theorem rd_get (l : List Int) (i : Nat) (h : i < l.length) : rd l (i : Int) = l[i] := by
  unfold rd; rw [Int.toNat_natCast, List.getD_eq_getElem?_getD, List.getElem?_eq_getElem h]; rfl
theorem rdOf_get {α : Type} (d : α) (l : List α) (i : Nat) (h : i < l.length) : rdOf d l (i : Int) = l[i] := by
  unfold rdOf; rw [Int.toNat_natCast, List.getD_eq_getElem?_getD, List.getElem?_eq_getElem h]; rfl
theorem size_data (s : ByteArray) : s.size = s.data.toList.length := Lib.size_eq s
theorem bt_get (s : ByteArray) (i : Nat) (h : i < s.data.toList.length) : bt s (i : Int) = ((s.data.toList[i]'h).toNat : Int) := by
  have h' : i < s.size := by rw [size_data]; exact h
  unfold bt
  simp only [Int.toNat_natCast]
  rw [dif_pos h']
  rfl
theorem toList_eq_iff (s : ByteArray) (l : List UInt8) : s.toList = l ↔ s.data.toList = l := by rw [Lib.toList_data]
theorem getI {l : List Int} (h : AllI l) (i : Nat) (hi : i < l.length) : I64 l[i] := h _ (List.getElem_mem hi)
theorem drop_cons {α : Type} (l : List α) (i : Nat) (h : i < l.length) : l.drop i = l[i] :: l.drop (i + 1) := List.drop_eq_getElem_cons h
theorem drop_end {α : Type} (l : List α) (i : Nat) (h : l.length ≤ i) : l.drop i = [] := List.drop_eq_nil_of_le h
/-- The fuel is one more. -/
theorem fuel {n k : Nat} (h : n < k) : ∃ m, k = m + 1 := ⟨k - 1, by omega⟩
def mk (p : List UInt8) : ByteArray := ByteArray.mk p.toArray
theorem mk_extract (s : ByteArray) (f i : Nat) : s.extract f i = mk ((s.data.toList.drop f).take (i - f)) := Num.str_ext (by unfold mk; rw [Lib.extract_data, Num.data_mk])

/-! ### Name, Find, Check, Shift of a color set -/
theorem bt_at (s : ByteArray) (i : Nat) (h : i < s.size) : bt s (i : Int) = ((s[i]'h).toNat : Int) := by
  unfold bt; simp only [Int.toNat_natCast]; rw [dif_pos h]
theorem rname_l (s : ByteArray) (hs : s.size ≤ 1000000) (n : Nat) : ∀ (k i : Nat), s.size - i = n → i ≤ s.size → n < k → petrinetref39_Name.l0 k s (i : Int) = some (nmFrom s n i) := by
  induction n with
  | zero =>
    intro k i hn hi hk
    obtain ⟨k, rfl⟩ := fuel hk
    simp only [petrinetref39_Name.l0]
    rw [if_neg (by omega), nmFrom]
  | succ n ih =>
    intro k i hn hi hk
    obtain ⟨k, rfl⟩ := fuel hk
    have h : i < s.size := by omega
    simp only [petrinetref39_Name.l0]
    rw [if_pos (by omega), if_pos (by omega), bt_at s i h, wrap_succ i (by omega), ih k (i + 1) (by omega) (by omega) (by omega), nmFrom, dif_pos h]
    generalize nmFrom s n (i + 1) = T
    generalize (s[i]'h).toNat = B
    cases e : nmByte B i with
    | true =>
      rw [Bool.true_and]
      unfold nmByte at e; simp at e
      repeat' split
      all_goals first | rfl | (exfalso; omega)
    | false =>
      rw [Bool.false_and]
      unfold nmByte at e; simp at e
      repeat' split
      all_goals first | rfl | (exfalso; omega)
theorem rname_is (s : ByteArray) (k : Nat) (hk : 30 ≤ k) : petrinetref39_Name.f k s = some (nmB s) := by
  obtain ⟨k, rfl⟩ := fuel (show 0 < k by omega)
  unfold petrinetref39_Name.f nmB
  by_cases h1 : (s.size : Int) < 1
  · rw [if_pos h1, decide_eq_false (by omega)]; rfl
  · rw [if_neg h1]
    by_cases h2 : (s.size : Int) > 16
    · rw [decide_eq_true h2, decide_eq_false (by omega)]; rfl
    · rw [decide_eq_false h2, decide_eq_true (by omega)]
      simp only [petrinetref39_Name.j0]
      rw [if_neg (by simp), Bool.true_and]
      exact rname_l s (by omega) _ k 0 rfl (by omega) (by omega)
theorem name_is (s : ByteArray) : colorset_Name.f s = some (nmB s) := rfl
end Go.Proofs.YtjhlagpcbaodkaaDoor.Plain
