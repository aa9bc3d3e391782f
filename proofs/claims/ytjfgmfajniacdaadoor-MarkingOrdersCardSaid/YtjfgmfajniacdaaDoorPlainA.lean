/- Plain laws over the printed functions: what each comes to. No condition but the ones written. -/
import Derived.Test.YtjfgmfajniacdaaDoorPAllx3
import Derived.Test.YtjfgmfajniacdaaDoorNum
import Derived.OpenShut
namespace Go.Proofs.YtjfgmfajniacdaaDoor.Plain
open Go Go.RowKit Go.Proofs.YtjfgmfajniacdaaDoor.PAll Go.Proofs.YtjfgmfajniacdaaDoorW.PrintWords Go.Proofs.YtjfgmfajniacdaaDoorW.PrintLast Go.Proofs.YtjfgmfajniacdaaDoorW.PrintMore
set_option linter.unusedVariables false
def I64 (a : Int) : Prop := -9223372036854775808 ≤ a ∧ a < 9223372036854775808
theorem i64_of {a : Int} (h : (Lit.int .i64 a).wf = true) : I64 a := by have := bounds_i64 h; unfold I64; omega
def AllI (l : List Int) : Prop := ∀ x ∈ l, I64 x
theorem allI_of {l : List Int} (h : ∀ x ∈ l, (Lit.int .i64 x).wf = true) : AllI l := fun x hx => i64_of (h x hx)
theorem wrap_succ (i : Nat) (h : i < 9223372036854775807) : wrap64 ((i : Int) + 1) = ((i + 1 : Nat) : Int) := by unfold wrap64; omega
theorem wrap_id (x : Int) (h : -9223372036854775808 ≤ x ∧ x < 9223372036854775808) : wrap64 x = x := by unfold wrap64; omega
theorem rd_get (l : List Int) (i : Nat) (h : i < l.length) : rd l (i : Int) = l[i] := by
  unfold rd; rw [Int.toNat_natCast, List.getD_eq_getElem?_getD, List.getElem?_eq_getElem h]; rfl
theorem rdOf_get {α : Type} (d : α) (l : List α) (i : Nat) (h : i < l.length) : rdOf d l (i : Int) = l[i] := by
  unfold rdOf; rw [Int.toNat_natCast, List.getD_eq_getElem?_getD, List.getElem?_eq_getElem h]; rfl
theorem size_data (s : ByteArray) : s.size = s.data.toList.length := Lib.size_eq s
theorem bt_get (s : ByteArray) (i : Nat) (h : i < s.data.toList.length) : bt s (i : Int) = ((s.data.toList[i]'h).toNat : Int) := by
  have h' : i < s.size := by rw [size_data]; exact h
  unfold bt
  simp only [Int.toNat_natCast]
  rw [dif_pos h']
  rfl
theorem toList_eq_iff (s : ByteArray) (l : List UInt8) : s.toList = l ↔ s.data.toList = l := by rw [Lib.toList_data]
theorem getI {l : List Int} (h : AllI l) (i : Nat) (hi : i < l.length) : I64 l[i] := h _ (List.getElem_mem hi)
theorem drop_cons {α : Type} (l : List α) (i : Nat) (h : i < l.length) : l.drop i = l[i] :: l.drop (i + 1) := List.drop_eq_getElem_cons h
theorem drop_end {α : Type} (l : List α) (i : Nat) (h : l.length ≤ i) : l.drop i = [] := List.drop_eq_nil_of_le h
/-- The fuel is one more. -/
theorem fuel {n k : Nat} (h : n < k) : ∃ m, k = m + 1 := ⟨k - 1, by omega⟩

/-! ### petrinetref04.Same -/
theorem same_l (a b : List Int) (hab : a.length = b.length) (hl : a.length ≤ 4611686018427387904) (n : Nat) : ∀ (k i : Nat), a.length - i = n → i ≤ a.length → n < k → petrinetref04_Same.l0 k a b (i : Int) = some (decide (a.drop i = b.drop i)) := by
  induction n with
  | zero =>
    intro k i hn hi hk
    obtain ⟨k, rfl⟩ := fuel hk
    simp only [petrinetref04_Same.l0]
    rw [if_neg (by omega), drop_end a i (by omega), drop_end b i (by omega)]; simp
  | succ n ih =>
    intro k i hn hi hk
    obtain ⟨k, rfl⟩ := fuel hk
    have h1 : i < a.length := by omega
    have h2 : i < b.length := by omega
    simp only [petrinetref04_Same.l0]
    rw [if_pos (by omega), if_pos (by omega), if_pos (by omega), rd_get a i h1, rd_get b i h2]
    have hiff : (a.drop i = b.drop i) ↔ (a[i] = b[i] ∧ a.drop (i + 1) = b.drop (i + 1)) := by rw [drop_cons a i h1, drop_cons b i h2, List.cons.injEq]
    by_cases e : a[i] = b[i]
    · rw [if_pos e, wrap_succ i (by omega), ih k (i + 1) (by omega) (by omega) (by omega)]
      congr 1; rw [decide_eq_decide, hiff]; exact ⟨fun h => ⟨e, h⟩, fun h => h.2⟩
    · rw [if_neg e, decide_eq_false (fun h => e (hiff.mp h).1)]
theorem same_is (a b : List Int) (hl : a.length ≤ 4611686018427387904) (k : Nat) (hk : a.length < k) : petrinetref04_Same.f k a b = some (decide (a = b)) := by
  unfold petrinetref04_Same.f
  by_cases h : (a.length : Int) = (b.length : Int)
  · rw [if_pos h]
    have := same_l a b (by omega) hl a.length k 0 (by omega) (by omega) hk
    simpa using this
  · rw [if_neg h]
    have : a ≠ b := fun e => h (by rw [e])
    simp [this]

/-! ### petrinetref04.Number -/
theorem digits10 : (ByteArray.mk #[48, 49, 50, 51, 52, 53, 54, 55, 56, 57]).size = 10 := rfl
theorem digit_piece (d : Nat) (h : d < 10) : ((ByteArray.mk #[48, 49, 50, 51, 52, 53, 54, 55, 56, 57]).extract d (d + 1)).data.toList = [UInt8.ofNat (48 + d)] := by
  rw [Lib.extract_data]
  have : ∀ d : Fin 10, ((ByteArray.mk #[48, 49, 50, 51, 52, 53, 54, 55, 56, 57]).data.toList.drop d.val).take (d.val + 1 - d.val) = [UInt8.ofNat (48 + d.val)] := by decide +kernel
  exact this ⟨d, h⟩
/-- What the loop comes to: the digits of m ahead of what is there; none where m is 0 and something is there. -/
def numAcc (m : Nat) (s : List UInt8) : List UInt8 := if m = 0 ∧ s ≠ [] then s else Lib.decDigits m ++ s
theorem numAcc_step (m : Nat) (s : List UInt8) (h : ¬ (m = 0 ∧ s ≠ [])) : numAcc m s = numAcc (m / 10) (UInt8.ofNat (48 + m % 10) :: s) := by
  unfold numAcc
  rw [if_neg h]
  by_cases c : m < 10
  · rw [if_pos ⟨by omega, by simp⟩, Lib.decDigits_one c, Nat.mod_eq_of_lt c]; rfl
  · rw [if_neg (by omega)]
    conv => lhs; rw [Lib.decDigits, dif_neg c]
    simp
theorem tmod10 (n : Int) : Int.tmod n 10 = if n < 0 then -((n.natAbs % 10 : Nat) : Int) else ((n.natAbs % 10 : Nat) : Int) := by
  rw [Int.tmod_eq_emod]
  have e : (10 : Int).natAbs = 10 := rfl
  rw [e]
  split <;> split <;> omega
theorem tdiv10 (n : Int) : Int.tdiv n 10 = if n < 0 then -((n.natAbs / 10 : Nat) : Int) else ((n.natAbs / 10 : Nat) : Int) := by
  rw [Int.tdiv_eq_ediv]
  have e : (10 : Int).sign = 1 := rfl
  rw [e]
  split <;> split <;> omega
theorem number_l (x0 : Int) (B : Nat) : ∀ (k : Nat) (m : Int) (s : ByteArray), m.natAbs < 9223372036854775809 → m.natAbs < 10 ^ B → B ≤ 20 → s.size + B ≤ 1000 → 2 * B + 4 ≤ k → (m < 0 → x0 < 0) → (B = 0 → s.data.toList ≠ []) →
    petrinetref04_Number.l0 k x0 s m = some (ByteArray.mk ((if x0 < 0 then [45] else []) ++ numAcc m.natAbs s.data.toList).toArray) := by
  induction B with
  | zero =>
    intro k m s hlim hm hB hs hk hneg hne
    obtain ⟨k, rfl⟩ : ∃ j, k = j + 2 := ⟨k - 2, by omega⟩
    have hm0 : m = 0 := by omega
    have hne := hne rfl
    subst hm0
    simp only [petrinetref04_Number.l0, if_true]
    have e : (s.toList == ([] : List UInt8)) = false := by rw [Lib.toList_data]; simpa using hne
    rw [e]
    simp only [petrinetref04_Number.j1, Bool.false_eq_true, if_false]
    have hna : numAcc (0 : Int).natAbs s.data.toList = s.data.toList := by unfold numAcc; rw [if_pos ⟨rfl, hne⟩]
    rw [hna]
    by_cases c : x0 < 0
    · rw [if_pos c, if_pos (by omega), if_pos c]
      exact congrArg some (Num.str_ext (by rw [Num.data_append, Num.data_mk]))
    · rw [if_neg c, if_neg c]
      exact congrArg some (Num.str_ext (by rw [Num.data_mk]; rfl))
  | succ B ih =>
    intro k m s hlim hm hB hs hk hneg _
    obtain ⟨k, rfl⟩ : ∃ j, k = j + 2 := ⟨k - 2, by omega⟩
    by_cases hstop : m = 0 ∧ s.data.toList ≠ []
    · obtain ⟨rfl, hne⟩ := hstop
      simp only [petrinetref04_Number.l0, if_true]
      have e : (s.toList == ([] : List UInt8)) = false := by rw [Lib.toList_data]; simpa using hne
      rw [e]
      simp only [petrinetref04_Number.j1, Bool.false_eq_true, if_false]
      have hna : numAcc (0 : Int).natAbs s.data.toList = s.data.toList := by unfold numAcc; rw [if_pos ⟨rfl, hne⟩]
      rw [hna]
      by_cases c : x0 < 0
      · rw [if_pos c, if_pos (by omega), if_pos c]
        exact congrArg some (Num.str_ext (by rw [Num.data_append, Num.data_mk]))
      · rw [if_neg c, if_neg c]
        exact congrArg some (Num.str_ext (by rw [Num.data_mk]; rfl))
    · have hgo : petrinetref04_Number.l0 (k + 2) x0 s m = petrinetref04_Number.j1 (k + 1) x0 s m true := by
        show petrinetref04_Number.l0 ((k + 1) + 1) x0 s m = _
        simp only [petrinetref04_Number.l0]
        by_cases c : m = 0
        · rw [if_pos c]
          have e : (s.toList == ([] : List UInt8)) = true := by
            rw [Lib.toList_data]
            have : s.data.toList = [] := Classical.byContradiction fun h => hstop ⟨c, h⟩
            rw [this]; rfl
          rw [e]
        · rw [if_neg c]
      rw [hgo]
      simp only [petrinetref04_Number.j1, if_true]
      have hd : m.natAbs % 10 < 10 := Nat.mod_lt _ (by omega)
      have hb : (10 : Nat) ^ (B + 1) ≤ 10 ^ 20 := Nat.pow_le_pow_right (by omega) hB
      have hb2 : m.natAbs / 10 < 10 ^ B := by rw [Nat.pow_succ] at hm; omega
      have hstep := numAcc_step m.natAbs s.data.toList (fun h => hstop ⟨by omega, h.2⟩)
      have key : ∀ (d : Int), d = ((m.natAbs % 10 : Nat) : Int) → (wrap64 (Int.tdiv m 10)).natAbs = m.natAbs / 10 → (wrap64 (Int.tdiv m 10) < 0 → x0 < 0) →
          (if 0 ≤ d then (if d ≤ wrap64 (d + 1) then (if wrap64 (d + 1) ≤ 10 then (if ((ByteArray.mk #[48, 49, 50, 51, 52, 53, 54, 55, 56, 57]).extract (d : Int).toNat (wrap64 (d + 1) : Int).toNat).size + s.size ≤ 9223372036854775807 then petrinetref04_Number.l0 k x0 (((ByteArray.mk #[48, 49, 50, 51, 52, 53, 54, 55, 56, 57]).extract (d : Int).toNat (wrap64 (d + 1) : Int).toNat) ++ s) (wrap64 (Int.tdiv m 10)) else none) else none) else none) else none)
            = some (ByteArray.mk ((if x0 < 0 then [45] else []) ++ numAcc m.natAbs s.data.toList).toArray) := by
        intro d hd' hq hn
        subst hd'
        have e1 : wrap64 (((m.natAbs % 10 : Nat) : Int) + 1) = ((m.natAbs % 10 + 1 : Nat) : Int) := by unfold wrap64; omega
        rw [e1, Int.toNat_natCast, Int.toNat_natCast]
        have hp := digit_piece (m.natAbs % 10) hd
        have hsz : ((ByteArray.mk #[48, 49, 50, 51, 52, 53, 54, 55, 56, 57]).extract (m.natAbs % 10) (m.natAbs % 10 + 1)).size = 1 := by rw [size_data, hp]; rfl
        rw [if_pos (by omega), if_pos (by omega), if_pos (by omega), if_pos (by rw [hsz]; omega)]
        rw [ih k _ _ (by rw [hq]; omega) (by rw [hq]; exact hb2) (by omega) (by rw [size_data, Num.data_append, List.length_append, hp, ← size_data]; simp; omega) (by omega) hn (fun _ => by rw [Num.data_append, hp]; simp)]
        rw [hq, Num.data_append, hp, hstep]; rfl
      have hmb : m.natAbs < 9223372036854775809 := hlim
      have hq : (wrap64 (Int.tdiv m 10)).natAbs = m.natAbs / 10 := by rw [tdiv10]; unfold wrap64; split <;> omega
      have hn : wrap64 (Int.tdiv m 10) < 0 → x0 < 0 := by
        intro h; apply hneg; rw [tdiv10] at h; unfold wrap64 at h; split at h <;> omega
      by_cases c : Int.tmod m 10 < 0
      · rw [if_pos c]
        refine key (wrap64 (-(Int.tmod m 10))) ?_ hq hn
        rw [tmod10] at c ⊢; unfold wrap64; split at c <;> split <;> omega
      · rw [if_neg c]
        refine key (Int.tmod m 10) ?_ hq hn
        rw [tmod10] at c ⊢; split at c <;> split <;> omega
theorem number_is (n : Int) (hn : I64 n) (k : Nat) (hk : 60 ≤ k) : petrinetref04_Number.f k n = some (ByteArray.mk (Lib.itoa n).toArray) := by
  unfold petrinetref04_Number.f
  unfold I64 at hn
  have hp : (10 : Nat) ^ 20 = 100000000000000000000 := by decide
  have := number_l n 20 k n (ByteArray.mk #[]) (by omega) (by omega) (by omega) (by show 0 + 20 ≤ 1000; omega) (by omega) (fun h => h) (fun h => by omega)
  rw [this]
  have e : numAcc n.natAbs (ByteArray.mk #[]).data.toList = Lib.decDigits n.natAbs := by unfold numAcc; rw [if_neg (by simp)]; simp
  rw [e]
  congr 2
  by_cases c : n < 0
  · rw [if_pos c, Num.itoa_neg' c]; rfl
  · rw [if_neg c, Num.itoa_pos (by omega)]; congr 1; simp; congr 1; omega
end Go.Proofs.YtjfgmfajniacdaaDoor.Plain
