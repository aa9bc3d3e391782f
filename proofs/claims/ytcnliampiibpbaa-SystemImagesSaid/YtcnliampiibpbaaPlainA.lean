/- Plain laws over the printed functions: what each comes to. No condition but the ones written. -/
import Derived.Test.YtcnliampiibpbaaPAllx3
import Derived.Test.YtcnliampiibpbaaPAllx10
import Derived.Lib.Strings
import Derived.OpenShut
namespace Go.Proofs.Ytcnliampiibpbaa.Plain
open Go Go.RowKit Go.Proofs.Ytcnliampiibpbaa.PAll Go.Proofs.YtcnliampiibpbaaW.PrintWords Go.Proofs.YtcnliampiibpbaaW.PrintLast Go.Proofs.YtcnliampiibpbaaW.PrintMore
set_option linter.unusedVariables false
theorem wrap_succ (i : Nat) (h : i < 9223372036854775807) : wrap64 ((i : Int) + 1) = ((i + 1 : Nat) : Int) := by unfold wrap64; omega
theorem rd_get (l : List Int) (i : Nat) (h : i < l.length) : rd l (i : Int) = l[i] := by
  unfold rd; rw [Int.toNat_natCast, List.getD_eq_getElem?_getD, List.getElem?_eq_getElem h]; rfl
theorem rdOf_get {α : Type} (d : α) (l : List α) (i : Nat) (h : i < l.length) : rdOf d l (i : Int) = l[i] := by
  unfold rdOf; rw [Int.toNat_natCast, List.getD_eq_getElem?_getD, List.getElem?_eq_getElem h]; rfl
theorem drop_cons {α : Type} (l : List α) (i : Nat) (h : i < l.length) : l.drop i = l[i] :: l.drop (i + 1) := List.drop_eq_getElem_cons h
theorem drop_end {α : Type} (l : List α) (i : Nat) (h : l.length ≤ i) : l.drop i = [] := List.drop_eq_nil_of_le h
/-- The fuel is one more. -/
theorem fuel {n k : Nat} (h : n < k) : ∃ m, k = m + 1 := ⟨k - 1, by omega⟩
def mk (p : List UInt8) : ByteArray := ByteArray.mk p.toArray

/-! ### Name, Find, Check, Shift of a system -/
def nmB (s : ByteArray) : Bool := decide (1 ≤ s.size ∧ s.size ≤ 16) && nmFrom s s.size 0
theorem bt_at (s : ByteArray) (i : Nat) (h : i < s.size) : bt s (i : Int) = ((s[i]'h).toNat : Int) := by
  unfold bt; simp only [Int.toNat_natCast]; rw [dif_pos h]
theorem rname_l (s : ByteArray) (hs : s.size ≤ 1000000) (n : Nat) : ∀ (k i : Nat), s.size - i = n → i ≤ s.size → n < k → petrinetref09_Name.l0 k s (i : Int) = some (nmFrom s n i) := by
  induction n with
  | zero =>
    intro k i hn hi hk
    obtain ⟨k, rfl⟩ := fuel hk
    simp only [petrinetref09_Name.l0]
    rw [if_neg (by omega), nmFrom]
  | succ n ih =>
    intro k i hn hi hk
    obtain ⟨k, rfl⟩ := fuel hk
    have h : i < s.size := by omega
    simp only [petrinetref09_Name.l0]
    rw [if_pos (by omega), if_pos (by omega), bt_at s i h, wrap_succ i (by omega), ih k (i + 1) (by omega) (by omega) (by omega), nmFrom, dif_pos h]
    generalize nmFrom s n (i + 1) = T
    generalize (s[i]'h).toNat = B
    cases e : nmByte B i with
    | true =>
      rw [Bool.true_and]
      unfold nmByte at e; simp at e
      repeat' split
      all_goals first | rfl | (exfalso; omega)
    | false =>
      rw [Bool.false_and]
      unfold nmByte at e; simp at e
      repeat' split
      all_goals first | rfl | (exfalso; omega)
theorem rname_is (s : ByteArray) (k : Nat) (hk : 30 ≤ k) : petrinetref09_Name.f k s = some (nmB s) := by
  obtain ⟨k, rfl⟩ := fuel (show 0 < k by omega)
  unfold petrinetref09_Name.f nmB
  by_cases h1 : (s.size : Int) < 1
  · rw [if_pos h1, decide_eq_false (by omega)]; rfl
  · rw [if_neg h1]
    by_cases h2 : (s.size : Int) > 16
    · rw [decide_eq_true h2, decide_eq_false (by omega)]; rfl
    · rw [decide_eq_false h2, decide_eq_true (by omega)]
      simp only [petrinetref09_Name.j0]
      rw [if_neg (by simp), Bool.true_and]
      exact rname_l s (by omega) _ k 0 rfl (by omega) (by omega)
theorem name_is (s : ByteArray) : system_name.f s = some (nmB s) := rfl

/-! ### Check: what both sides say -/
def dl (s : ByteArray) : List UInt8 := s.data.toList
def vls (l : List ByteArray) : List (List UInt8) := l.map dl
theorem vls_len (l : List ByteArray) : (vls l).length = l.length := by unfold vls; rw [List.length_map]
theorem vls_get (l : List ByteArray) (i : Nat) (h : i < l.length) : (vls l)[i]'(by rw [vls_len]; exact h) = l[i].data.toList := by unfold vls dl; rw [List.getElem_map]
/-- The first fault of the names from the i-th on. -/
def ckNames (l : List ByteArray) : Nat → Nat → Option (Int × Int)
  | 0, _ => none
  | n + 1, i => if nmB (l.getD i ByteArray.empty) = true then (if dl (l.getD i ByteArray.empty) ∈ (vls l).take i then some (6, (i : Int)) else ckNames l n (i + 1)) else some (5, (i : Int))
theorem getD_get (l : List ByteArray) (i : Nat) (h : i < l.length) : l.getD i ByteArray.empty = l[i] := by rw [List.getD_eq_getElem?_getD, List.getElem?_eq_getElem h]; rfl
theorem sck_l1 (l : List ByteArray) (hl : l.length ≤ 1000) (i : Nat) (hi : i < l.length) (y : ByteArray) (a : Int) (l2 : List S44) (K : Nat) (R : Int × Int) (hc : ∀ k', K ≤ k' → system_Check.l0 k' l (l.length : Int) (wrap64 ((i : Int) + 1)) a l l2 = some R) (n : Nat) : ∀ (k j : Nat), i - j = n → j ≤ i → n + K < k →
    system_Check.l1 k (i : Int) y l (l.length : Int) (i : Int) (l.take i) ((l.take i).length : Int) (j : Int) a l l2 = some (if dl y ∈ ((vls l).take i).drop j then (6, (i : Int)) else R) := by
  have ht : (l.take i).length = i := by rw [List.length_take]; omega
  have hv := vls_len l
  induction n with
  | zero =>
    intro k j hn hj hk
    obtain ⟨k, rfl⟩ := fuel (show 0 < k by omega)
    simp only [system_Check.l1, ht]
    rw [if_neg (by omega), hc k (by omega), List.drop_eq_nil_of_le (by rw [List.length_take]; omega), if_neg (by simp)]
  | succ n ih =>
    intro k j hn hj hk
    obtain ⟨k, rfl⟩ := fuel (show 0 < k by omega)
    have hjl : j < l.length := by omega
    have ih' := ih k (j + 1) (by omega) (by omega) (by omega)
    rw [ht] at ih'
    simp only [system_Check.l1, ht, Lib.toList_data]
    rw [if_pos (by omega), if_pos (by omega), if_pos (by omega), rdOf_get _ (l.take i) j (by omega), List.getElem_take, wrap_succ j (by omega), ih', List.drop_eq_getElem_cons (show j < ((vls l).take i).length by rw [List.length_take]; omega), List.getElem_take, vls_get l j hjl]
    by_cases e : y.data.toList = l[j].data.toList
    · rw [if_pos e, if_pos (show dl y ∈ l[j].data.toList :: ((vls l).take i).drop (j + 1) from List.mem_cons.mpr (.inl e))]
    · rw [if_neg e]
      by_cases g : dl y ∈ ((vls l).take i).drop (j + 1)
      · rw [if_pos g, if_pos (show dl y ∈ l[j].data.toList :: ((vls l).take i).drop (j + 1) from List.mem_cons.mpr (.inr g))]
      · rw [if_neg g, if_neg (show ¬ dl y ∈ l[j].data.toList :: ((vls l).take i).drop (j + 1) from fun q => (List.mem_cons.mp q).elim e g)]
set_option maxRecDepth 100000 in
theorem sck_l0 (l : List ByteArray) (hl : l.length ≤ 1000) (a : Int) (l2 : List S44) (K : Nat) (R : Int × Int) (hc : ∀ k', K ≤ k' → system_Check.l2 k' l2 (l2.length : Int) 0 a l l2 = some R) (n : Nat) : ∀ (k i : Nat), l.length - i = n → i ≤ l.length → n * 1002 + K < k →
    system_Check.l0 k l (l.length : Int) (i : Int) a l l2 = some ((ckNames l n i).getD R) := by
  induction n with
  | zero =>
    intro k i hn hi hk
    obtain ⟨k, rfl⟩ := fuel (show 0 < k by omega)
    simp only [system_Check.l0]
    rw [if_neg (by omega), hc k (by omega), ckNames]; rfl
  | succ n ih =>
    intro k i hn hi hk
    obtain ⟨k, rfl⟩ := fuel (show 0 < k by omega)
    have hil : i < l.length := by omega
    simp only [system_Check.l0]
    rw [if_pos (by omega), if_pos (by omega), if_pos (by omega), rdOf_get _ l i hil, name_is, Option.bind_some, ckNames, getD_get l i hil]
    by_cases e : nmB l[i] = true
    · rw [if_pos e, if_pos e, if_pos (by omega), Int.toNat_natCast]
      refine (sck_l1 l hl i hil l[i] a l2 (n * 1002 + K + 1) ((ckNames l n (i + 1)).getD R) (fun k' hk' => by rw [wrap_succ i (by omega)]; exact ih k' (i + 1) (by omega) (by omega) (by omega)) i k 0 (by omega) (by omega) (by omega)).trans ?_
      rw [List.drop_zero]
      by_cases g : dl l[i] ∈ (vls l).take i
      · rw [if_pos g, if_pos g]; rfl
      · rw [if_neg g, if_neg g]
    · rw [if_neg e, if_neg e]; rfl
end Go.Proofs.Ytcnliampiibpbaa.Plain
