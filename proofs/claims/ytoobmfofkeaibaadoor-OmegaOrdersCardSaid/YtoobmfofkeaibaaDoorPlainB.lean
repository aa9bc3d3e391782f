/- Plain laws over the printed functions: what each comes to. No condition but the ones written. -/
import Derived.Test.YtoobmfofkeaibaaDoorPlainA
import Derived.Test.YtoobmfofkeaibaaDoorPAllx5
namespace Go.Proofs.YtoobmfofkeaibaaDoor.Plain
open Go Go.RowKit Go.Proofs.YtoobmfofkeaibaaDoor.PAll Go.Proofs.YtoobmfofkeaibaaDoorW.PrintWords Go.Proofs.YtoobmfofkeaibaaDoorW.PrintLast Go.Proofs.YtoobmfofkeaibaaDoorW.PrintMore
set_option linter.unusedVariables false
/-! ### petrinetref04.Number -/
theorem digits10 : (ByteArray.mk #[48, 49, 50, 51, 52, 53, 54, 55, 56, 57]).size = 10 := rfl
theorem digit_piece (d : Nat) (h : d < 10) : ((ByteArray.mk #[48, 49, 50, 51, 52, 53, 54, 55, 56, 57]).extract d (d + 1)).data.toList = [UInt8.ofNat (48 + d)] := by
  rw [Lib.extract_data]
  have : ∀ d : Fin 10, ((ByteArray.mk #[48, 49, 50, 51, 52, 53, 54, 55, 56, 57]).data.toList.drop d.val).take (d.val + 1 - d.val) = [UInt8.ofNat (48 + d.val)] := by decide +kernel
  exact this ⟨d, h⟩
/-- What the loop comes to: the digits of m ahead of what is there; none where m is 0 and something is there. -/
def numAcc (m : Nat) (s : List UInt8) : List UInt8 := if m = 0 ∧ s ≠ [] then s else Lib.decDigits m ++ s
theorem numAcc_step (m : Nat) (s : List UInt8) (h : ¬ (m = 0 ∧ s ≠ [])) : numAcc m s = numAcc (m / 10) (UInt8.ofNat (48 + m % 10) :: s) := by
  unfold numAcc
  rw [if_neg h]
  by_cases c : m < 10
  · rw [if_pos ⟨by omega, by simp⟩, Lib.decDigits_one c, Nat.mod_eq_of_lt c]; rfl
  · rw [if_neg (by omega)]
    conv => lhs; rw [Lib.decDigits, dif_neg c]
    simp
theorem tmod10 (n : Int) : Int.tmod n 10 = if n < 0 then -((n.natAbs % 10 : Nat) : Int) else ((n.natAbs % 10 : Nat) : Int) := by
  rw [Int.tmod_eq_emod]
  have e : (10 : Int).natAbs = 10 := rfl
  rw [e]
  split <;> split <;> omega
theorem tdiv10 (n : Int) : Int.tdiv n 10 = if n < 0 then -((n.natAbs / 10 : Nat) : Int) else ((n.natAbs / 10 : Nat) : Int) := by
  rw [Int.tdiv_eq_ediv]
  have e : (10 : Int).sign = 1 := rfl
  rw [e]
  split <;> split <;> omega
theorem number_l (x0 : Int) (B : Nat) : ∀ (k : Nat) (m : Int) (s : ByteArray), m.natAbs < 9223372036854775809 → m.natAbs < 10 ^ B → B ≤ 20 → s.size + B ≤ 1000 → 2 * B + 4 ≤ k → (m < 0 → x0 < 0) → (B = 0 → s.data.toList ≠ []) →
    petrinetref04_Number.l0 k x0 s m = some (ByteArray.mk ((if x0 < 0 then [45] else []) ++ numAcc m.natAbs s.data.toList).toArray) := by
  induction B with
  | zero =>
    intro k m s hlim hm hB hs hk hneg hne
    obtain ⟨k, rfl⟩ : ∃ j, k = j + 2 := ⟨k - 2, by omega⟩
    have hm0 : m = 0 := by omega
    have hne := hne rfl
    subst hm0
    simp only [petrinetref04_Number.l0, if_true]
    have e : (s.toList == ([] : List UInt8)) = false := by rw [Lib.toList_data]; simpa using hne
    rw [e]
    simp only [petrinetref04_Number.j1, Bool.false_eq_true, if_false]
    have hna : numAcc (0 : Int).natAbs s.data.toList = s.data.toList := by unfold numAcc; rw [if_pos ⟨rfl, hne⟩]
    rw [hna]
    by_cases c : x0 < 0
    · rw [if_pos c, if_pos (by omega), if_pos c]
      exact congrArg some (Num.str_ext (by rw [Num.data_append, Num.data_mk]))
    · rw [if_neg c, if_neg c]
      exact congrArg some (Num.str_ext (by rw [Num.data_mk]; rfl))
  | succ B ih =>
    intro k m s hlim hm hB hs hk hneg _
    obtain ⟨k, rfl⟩ : ∃ j, k = j + 2 := ⟨k - 2, by omega⟩
    by_cases hstop : m = 0 ∧ s.data.toList ≠ []
    · obtain ⟨rfl, hne⟩ := hstop
      simp only [petrinetref04_Number.l0, if_true]
      have e : (s.toList == ([] : List UInt8)) = false := by rw [Lib.toList_data]; simpa using hne
      rw [e]
      simp only [petrinetref04_Number.j1, Bool.false_eq_true, if_false]
      have hna : numAcc (0 : Int).natAbs s.data.toList = s.data.toList := by unfold numAcc; rw [if_pos ⟨rfl, hne⟩]
      rw [hna]
      by_cases c : x0 < 0
      · rw [if_pos c, if_pos (by omega), if_pos c]
        exact congrArg some (Num.str_ext (by rw [Num.data_append, Num.data_mk]))
      · rw [if_neg c, if_neg c]
        exact congrArg some (Num.str_ext (by rw [Num.data_mk]; rfl))
    · have hgo : petrinetref04_Number.l0 (k + 2) x0 s m = petrinetref04_Number.j1 (k + 1) x0 s m true := by
        show petrinetref04_Number.l0 ((k + 1) + 1) x0 s m = _
        simp only [petrinetref04_Number.l0]
        by_cases c : m = 0
        · rw [if_pos c]
          have e : (s.toList == ([] : List UInt8)) = true := by
            rw [Lib.toList_data]
            have : s.data.toList = [] := Classical.byContradiction fun h => hstop ⟨c, h⟩
            rw [this]; rfl
          rw [e]
        · rw [if_neg c]
      rw [hgo]
      simp only [petrinetref04_Number.j1, if_true]
      have hd : m.natAbs % 10 < 10 := Nat.mod_lt _ (by omega)
      have hb : (10 : Nat) ^ (B + 1) ≤ 10 ^ 20 := Nat.pow_le_pow_right (by omega) hB
      have hb2 : m.natAbs / 10 < 10 ^ B := by rw [Nat.pow_succ] at hm; omega
      have hstep := numAcc_step m.natAbs s.data.toList (fun h => hstop ⟨by omega, h.2⟩)
      have key : ∀ (d : Int), d = ((m.natAbs % 10 : Nat) : Int) → (wrap64 (Int.tdiv m 10)).natAbs = m.natAbs / 10 → (wrap64 (Int.tdiv m 10) < 0 → x0 < 0) →
          (if 0 ≤ d then (if d ≤ wrap64 (d + 1) then (if wrap64 (d + 1) ≤ 10 then (if ((ByteArray.mk #[48, 49, 50, 51, 52, 53, 54, 55, 56, 57]).extract (d : Int).toNat (wrap64 (d + 1) : Int).toNat).size + s.size ≤ 9223372036854775807 then petrinetref04_Number.l0 k x0 (((ByteArray.mk #[48, 49, 50, 51, 52, 53, 54, 55, 56, 57]).extract (d : Int).toNat (wrap64 (d + 1) : Int).toNat) ++ s) (wrap64 (Int.tdiv m 10)) else none) else none) else none) else none)
            = some (ByteArray.mk ((if x0 < 0 then [45] else []) ++ numAcc m.natAbs s.data.toList).toArray) := by
        intro d hd' hq hn
        subst hd'
        have e1 : wrap64 (((m.natAbs % 10 : Nat) : Int) + 1) = ((m.natAbs % 10 + 1 : Nat) : Int) := by unfold wrap64; omega
        rw [e1, Int.toNat_natCast, Int.toNat_natCast]
        have hp := digit_piece (m.natAbs % 10) hd
        have hsz : ((ByteArray.mk #[48, 49, 50, 51, 52, 53, 54, 55, 56, 57]).extract (m.natAbs % 10) (m.natAbs % 10 + 1)).size = 1 := by rw [size_data, hp]; rfl
        rw [if_pos (by omega), if_pos (by omega), if_pos (by omega), if_pos (by rw [hsz]; omega)]
        rw [ih k _ _ (by rw [hq]; omega) (by rw [hq]; exact hb2) (by omega) (by rw [size_data, Num.data_append, List.length_append, hp, ← size_data]; simp; omega) (by omega) hn (fun _ => by rw [Num.data_append, hp]; simp)]
        rw [hq, Num.data_append, hp, hstep]; rfl
      have hmb : m.natAbs < 9223372036854775809 := hlim
      have hq : (wrap64 (Int.tdiv m 10)).natAbs = m.natAbs / 10 := by rw [tdiv10]; unfold wrap64; split <;> omega
      have hn : wrap64 (Int.tdiv m 10) < 0 → x0 < 0 := by
        intro h; apply hneg; rw [tdiv10] at h; unfold wrap64 at h; split at h <;> omega
      by_cases c : Int.tmod m 10 < 0
      · rw [if_pos c]
        refine key (wrap64 (-(Int.tmod m 10))) ?_ hq hn
        rw [tmod10] at c ⊢; unfold wrap64; split at c <;> split <;> omega
      · rw [if_neg c]
        refine key (Int.tmod m 10) ?_ hq hn
        rw [tmod10] at c ⊢; split at c <;> split <;> omega
theorem number_is (n : Int) (hn : I64 n) (k : Nat) (hk : 60 ≤ k) : petrinetref04_Number.f k n = some (ByteArray.mk (Lib.itoa n).toArray) := by
  unfold petrinetref04_Number.f
  unfold I64 at hn
  have hp : (10 : Nat) ^ 20 = 100000000000000000000 := by decide
  have := number_l n 20 k n (ByteArray.mk #[]) (by omega) (by omega) (by omega) (by show 0 + 20 ≤ 1000; omega) (by omega) (fun h => h) (fun h => by omega)
  rw [this]
  have e : numAcc n.natAbs (ByteArray.mk #[]).data.toList = Lib.decDigits n.natAbs := by unfold numAcc; rw [if_neg (by simp)]; simp
  rw [e]
  congr 2
  by_cases c : n < 0
  · rw [if_pos c, Num.itoa_neg' c]; rfl
  · rw [if_neg c, Num.itoa_pos (by omega)]; congr 1; simp; congr 1; omega
theorem decDigits_le (k : Nat) : ∀ u, u < 10 ^ (k + 1) → (Lib.decDigits u).length ≤ k + 1 := by
  induction k with
  | zero => intro u h; rw [Lib.decDigits, dif_pos (by simpa using h)]; simp
  | succ k ih =>
    intro u h
    rw [Lib.decDigits]
    split
    · simp
    · rw [List.length_append, List.length_singleton]
      have := ih (u / 10) (by rw [Nat.pow_succ] at h; omega)
      omega

/-! ### texts -/
theorem itoa_len {n : Int} (h : I64 n) : (Lib.itoa n).length ≤ 20 := by
  unfold I64 at h
  by_cases c : n < 0
  · rw [Num.itoa_neg' c, List.length_cons]
    have := decDigits_le 18 n.natAbs (by omega); omega
  · rw [Num.itoa_pos (by omega)]
    have := decDigits_le 18 n.toNat (by omega); omega
theorem strItoa_is {n : Int} (h : I64 n) : strconv_Itoa.f n = some (mk (Lib.itoa n)) := by
  unfold I64 at h; unfold strconv_Itoa.f mk; rw [if_pos (by omega)]
theorem mk_size (p : List UInt8) : (mk p).size = p.length := by rw [size_data]; unfold mk; rw [Num.data_mk]
theorem mk_data (p : List UInt8) : (mk p).data.toList = p := by unfold mk; rw [Num.data_mk]
theorem mk_self (s : ByteArray) : mk s.data.toList = s := Num.str_ext (mk_data _)
theorem app_eq {a b : ByteArray} {p q : List UInt8} (ha : a = mk p) (hb : b = mk q) : a ++ b = mk (p ++ q) := by subst ha hb; exact Num.str_ext (by rw [Num.data_append, mk_data, mk_data, mk_data])
theorem comma_eq : (⟨#[44]⟩ : ByteArray) = mk [44] := rfl
theorem number_mk {n : Int} (h : I64 n) (k : Nat) (hk : 60 ≤ k) : petrinetref04_Number.f k n = some (mk (Lib.itoa n)) := number_is n h k hk
theorem wrap01 : wrap64 (0 + 1) = ((1 : Nat) : Int) := by unfold wrap64; omega
theorem empty_eq : (⟨#[]⟩ : ByteArray) = mk [] := rfl

/-! ### Text of an extended marking -/
def pieceW (x : Int) : List UInt8 := if x = -1 then [119] else Lib.itoa x
def tailW : List Int → List UInt8
  | [] => []
  | x :: l => 44 :: (pieceW x ++ tailW l)
def textW (l : List Int) : List UInt8 := if l = [] then [45] else Num.joinB 44 (l.map pieceW)
theorem textW_cons {l : List Int} (h : l ≠ []) : textW l = Num.joinB 44 (l.map pieceW) := by unfold textW; rw [if_neg h]
theorem joinW_tail (l : List Int) : ∀ x, Num.joinB 44 ((x :: l).map pieceW) = pieceW x ++ tailW l := by
  induction l with
  | nil => intro x; simp [Num.joinB, tailW]
  | cons y l ih =>
    intro x
    rw [List.map_cons, Num.joinB_cons _ _ _ (by simp), ih y, tailW]
theorem pieceW_len {n : Int} (h : I64 n) : (pieceW n).length ≤ 20 := by
  unfold pieceW; split
  · simp
  · exact itoa_len h
theorem w_eq : (⟨#[119]⟩ : ByteArray) = mk [119] := rfl
theorem tailW_drop {l : List Int} {i : Nat} (h : i < l.length) : tailW (l.drop i) = 44 :: (pieceW l[i] ++ tailW (l.drop (i + 1))) := by rw [drop_cons l i h, tailW]
theorem otext_l (l : List Int) (hl : l.length ≤ 1000000) (hin : AllI l) (n : Nat) : ∀ (k i : Nat) (s : List UInt8), l.length - i = n → 0 < i → i ≤ l.length → n < k → s.length ≤ 100 * i → omega_Text.l0 k (mk s) l (l.length : Int) (i : Int) = some (mk (s ++ tailW (l.drop i))) := by
  induction n with
  | zero =>
    intro k i s hn h0 hi hk _
    obtain ⟨k, rfl⟩ := fuel hk
    simp only [omega_Text.l0]
    rw [if_neg (by omega), drop_end l i (by omega), tailW, List.append_nil]
  | succ n ih =>
    intro k i s hn h0 hi hk hs
    obtain ⟨k, rfl⟩ := fuel hk
    have h1 : i < l.length := by omega
    have hz := itoa_len (hin _ (List.getElem_mem h1))
    simp only [omega_Text.l0]
    rw [if_pos (by omega), if_pos (by omega), if_pos (by omega), if_pos (by omega), if_pos (by rw [mk_size]; omega), rd_get l i h1, tailW_drop h1, pieceW, app_eq rfl comma_eq, wrap_succ i (by omega)]
    by_cases e : l[i] = -1
    · rw [if_pos e, if_pos e, if_pos (by rw [mk_size, List.length_append, List.length_singleton]; omega), w_eq, app_eq rfl rfl, ih k (i + 1) _ (by omega) (by omega) (by omega) (by omega) (by simp only [List.length_append, List.length_singleton]; omega)]
      congr 2; simp
    · rw [if_neg e, if_neg e, strItoa_is (hin _ (List.getElem_mem h1)), Option.bind_some]
      rw [if_pos (by rw [mk_size, mk_size, List.length_append, List.length_singleton]; omega), app_eq rfl rfl, ih k (i + 1) _ (by omega) (by omega) (by omega) (by omega) (by simp only [List.length_append, List.length_singleton]; omega)]
      congr 2; simp
theorem wtext_l (l : List Int) (hl : l.length ≤ 1000000) (hin : AllI l) (n : Nat) : ∀ (k i : Nat) (s : List UInt8), l.length - i = n → 0 < i → i ≤ l.length → n + 60 < k → s.length ≤ 100 * i → petrinetref05_Text.l0 k l (mk s) (i : Int) = some (mk (s ++ tailW (l.drop i))) := by
  induction n with
  | zero =>
    intro k i s hn h0 hi hk _
    obtain ⟨k, rfl⟩ := fuel hk
    simp only [petrinetref05_Text.l0]
    rw [if_neg (by omega), drop_end l i (by omega), tailW, List.append_nil]
  | succ n ih =>
    intro k i s hn h0 hi hk hs
    obtain ⟨k, rfl⟩ := fuel hk
    have h1 : i < l.length := by omega
    have hz := itoa_len (hin _ (List.getElem_mem h1))
    simp only [petrinetref05_Text.l0]
    rw [if_pos (by omega), if_pos (by omega), if_pos (by rw [mk_size]; omega), if_pos (by omega), rd_get l i h1, tailW_drop h1, pieceW, app_eq rfl comma_eq, wrap_succ i (by omega)]
    by_cases e : l[i] = -1
    · rw [if_pos e, if_pos e, if_pos (by rw [mk_size, List.length_append, List.length_singleton]; omega), w_eq, app_eq rfl rfl, ih k (i + 1) _ (by omega) (by omega) (by omega) (by omega) (by simp only [List.length_append, List.length_singleton]; omega)]
      congr 2; simp
    · rw [if_neg e, if_neg e, number_mk (hin _ (List.getElem_mem h1)) k (by omega), Option.bind_some]
      rw [if_pos (by rw [mk_size, mk_size, List.length_append, List.length_singleton]; omega), app_eq rfl rfl, ih k (i + 1) _ (by omega) (by omega) (by omega) (by omega) (by simp only [List.length_append, List.length_singleton]; omega)]
      congr 2; simp
theorem otext_is (l : List Int) (hl : l.length ≤ 1000000) (hin : AllI l) (k : Nat) (hk : l.length < k) : omega_Text.f k l = some (mk (textW l)) := by
  unfold omega_Text.f
  by_cases h : (l.length : Int) = 0
  · obtain rfl : l = [] := List.length_eq_zero_iff.mp (by omega)
    rfl
  · rw [if_neg h]
    have h1 : 0 < l.length := by omega
    have hne : l ≠ [] := by rintro rfl; simp at h1
    obtain ⟨x, r, rfl⟩ := List.exists_cons_of_ne_nil hne
    obtain ⟨k, rfl⟩ := fuel hk
    have hx := hin x (List.mem_cons_self ..)
    have hz := itoa_len hx
    have hz' := pieceW_len hx
    have := otext_l (x :: r) hl hin r.length k 1 (pieceW x) (by simp) (by omega) (by simp) (by simp at hk; omega) (by omega)
    have h00 : rd (x :: r) 0 = x := rfl
    rw [textW_cons hne, joinW_tail]
    simp only [omega_Text.l0]
    rw [if_pos (by omega), if_pos (by omega), if_pos (by omega), if_neg (by omega), h00, wrap01, empty_eq]
    by_cases e : x = -1
    · rw [if_pos e, if_pos (by rw [mk_size, List.length_nil]; omega), w_eq, app_eq rfl rfl, List.nil_append]
      rw [pieceW, if_pos e] at this ⊢
      rw [this]; rfl
    · rw [if_neg e, strItoa_is hx, Option.bind_some, if_pos (by rw [mk_size, mk_size, List.length_nil]; omega), app_eq rfl rfl, List.nil_append]
      rw [pieceW, if_neg e] at this ⊢
      rw [this]; rfl
theorem wtext_is (l : List Int) (hl : l.length ≤ 1000000) (hin : AllI l) (k : Nat) (hk : l.length + 62 < k) : petrinetref05_Text.f k l = some (mk (textW l)) := by
  unfold petrinetref05_Text.f
  by_cases h : (l.length : Int) = 0
  · obtain rfl : l = [] := List.length_eq_zero_iff.mp (by omega)
    rfl
  · rw [if_neg h]
    have h1 : 0 < l.length := by omega
    have hne : l ≠ [] := by rintro rfl; simp at h1
    obtain ⟨x, r, rfl⟩ := List.exists_cons_of_ne_nil hne
    obtain ⟨k, rfl⟩ := fuel hk
    have hx := hin x (List.mem_cons_self ..)
    have hz := itoa_len hx
    have hz' := pieceW_len hx
    have := wtext_l (x :: r) hl hin r.length k 1 (pieceW x) (by simp) (by omega) (by simp) (by simp at hk; omega) (by omega)
    have h00 : rd (x :: r) 0 = x := rfl
    rw [textW_cons hne, joinW_tail]
    simp only [petrinetref05_Text.l0]
    rw [if_pos (by omega), if_neg (by omega), if_pos (by omega), h00, wrap01, empty_eq]
    by_cases e : x = -1
    · rw [if_pos e, if_pos (by rw [mk_size, List.length_nil]; omega), w_eq, app_eq rfl rfl, List.nil_append]
      rw [pieceW, if_pos e] at this ⊢
      rw [this]; rfl
    · rw [if_neg e, number_mk hx k (by omega), Option.bind_some, if_pos (by rw [mk_size, mk_size, List.length_nil]; omega), app_eq rfl rfl, List.nil_append]
      rw [pieceW, if_neg e] at this ⊢
      rw [this]; rfl
end Go.Proofs.YtoobmfofkeaibaaDoor.Plain
