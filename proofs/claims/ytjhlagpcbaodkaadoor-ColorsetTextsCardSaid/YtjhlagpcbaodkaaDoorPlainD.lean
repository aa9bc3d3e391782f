/- Plain laws over the printed functions: what each comes to. No condition but the ones written. -/
import Derived.Test.YtjhlagpcbaodkaaDoorPlainC
import Derived.Test.YtjhlagpcbaodkaaDoorPAllx9
namespace Go.Proofs.YtjhlagpcbaodkaaDoor.Plain
open Go Go.RowKit Go.Proofs.YtjhlagpcbaodkaaDoor.PAll Go.Proofs.YtjhlagpcbaodkaaDoorW.PrintWords Go.Proofs.YtjhlagpcbaodkaaDoorW.PrintLast Go.Proofs.YtjhlagpcbaodkaaDoorW.PrintMore
set_option linter.unusedVariables false
/-! ### markings in bounds -/
def inB (l : List Int) : Bool := decide (∀ x ∈ l, 0 ≤ x ∧ x ≤ 1048576)
theorem inB_nil : inB [] = true := by simp [inB]
theorem inB_cons (x : Int) (l : List Int) : inB (x :: l) = (decide (0 ≤ x ∧ x ≤ 1048576) && inB l) := by simp [inB]
theorem inB_iff (l : List Int) : inB l = true ↔ ∀ x ∈ l, 0 ≤ x ∧ x ≤ 1048576 := by unfold inB; rw [decide_eq_true_iff]
def validB (l : List Int) (n : Int) : Bool := decide ((l.length : Int) = n) && inB l

theorem rvalid_l (l : List Int) (m : Int) (hl : l.length ≤ 1000000) (n : Nat) : ∀ (k i : Nat), l.length - i = n → i ≤ l.length → n < k → petrinetref04_Valid.l0 k l m (i : Int) = some (inB (l.drop i) && decide ((l.length : Int) = m)) := by
  induction n with
  | zero =>
    intro k i hn hi hk
    obtain ⟨k, rfl⟩ := fuel hk
    simp only [petrinetref04_Valid.l0]
    rw [if_neg (by omega), drop_end l i (by omega), inB_nil, Bool.true_and]; rfl
  | succ n ih =>
    intro k i hn hi hk
    obtain ⟨k, rfl⟩ := fuel hk
    have h1 : i < l.length := by omega
    simp only [petrinetref04_Valid.l0]
    rw [if_pos (by omega), if_pos (by omega), rd_get l i h1, wrap_succ i (by omega), drop_cons l i h1, inB_cons]
    by_cases a : l[i] < 0
    · rw [if_pos a, decide_eq_false (by omega)]; rfl
    · rw [if_neg a]
      by_cases b : l[i] > 1048576
      · rw [if_pos b, decide_eq_false (by omega)]; rfl
      · rw [if_neg b, decide_eq_true (by omega), ih k (i + 1) (by omega) (by omega) (by omega)]; rfl
theorem rvalid_is (l : List Int) (n : Int) (hl : l.length ≤ 1000000) (k : Nat) (hk : l.length < k) : petrinetref04_Valid.f k l n = some (validB l n) := by
  unfold petrinetref04_Valid.f validB
  have := rvalid_l l n hl _ k 0 rfl (by omega) (by omega)
  rw [Bool.and_comm]
  simpa using this

/-! ### petrinetref04.Number -/
theorem digits10 : (ByteArray.mk #[48, 49, 50, 51, 52, 53, 54, 55, 56, 57]).size = 10 := rfl
theorem digit_piece (d : Nat) (h : d < 10) : ((ByteArray.mk #[48, 49, 50, 51, 52, 53, 54, 55, 56, 57]).extract d (d + 1)).data.toList = [UInt8.ofNat (48 + d)] := by
  rw [Lib.extract_data]
  have : ∀ d : Fin 10, ((ByteArray.mk #[48, 49, 50, 51, 52, 53, 54, 55, 56, 57]).data.toList.drop d.val).take (d.val + 1 - d.val) = [UInt8.ofNat (48 + d.val)] := by decide +kernel
  exact this ⟨d, h⟩
/-- What the loop comes to: the digits of m ahead of what is there; none where m is 0 and something is there. -/
def numAcc (m : Nat) (s : List UInt8) : List UInt8 := if m = 0 ∧ s ≠ [] then s else Lib.decDigits m ++ s
theorem numAcc_step (m : Nat) (s : List UInt8) (h : ¬ (m = 0 ∧ s ≠ [])) : numAcc m s = numAcc (m / 10) (UInt8.ofNat (48 + m % 10) :: s) := by
  unfold numAcc
  rw [if_neg h]
  by_cases c : m < 10
  · rw [if_pos ⟨by omega, by simp⟩, Lib.decDigits_one c, Nat.mod_eq_of_lt c]; rfl
  · rw [if_neg (by omega)]
    conv => lhs; rw [Lib.decDigits, dif_neg c]
    simp
theorem tmod10 (n : Int) : Int.tmod n 10 = if n < 0 then -((n.natAbs % 10 : Nat) : Int) else ((n.natAbs % 10 : Nat) : Int) := by
  rw [Int.tmod_eq_emod]
  have e : (10 : Int).natAbs = 10 := rfl
  rw [e]
  split <;> split <;> omega
theorem tdiv10 (n : Int) : Int.tdiv n 10 = if n < 0 then -((n.natAbs / 10 : Nat) : Int) else ((n.natAbs / 10 : Nat) : Int) := by
  rw [Int.tdiv_eq_ediv]
  have e : (10 : Int).sign = 1 := rfl
  rw [e]
  split <;> split <;> omega
theorem number_l (x0 : Int) (B : Nat) : ∀ (k : Nat) (m : Int) (s : ByteArray), m.natAbs < 9223372036854775809 → m.natAbs < 10 ^ B → B ≤ 20 → s.size + B ≤ 1000 → 2 * B + 4 ≤ k → (m < 0 → x0 < 0) → (B = 0 → s.data.toList ≠ []) →
    petrinetref04_Number.l0 k x0 s m = some (ByteArray.mk ((if x0 < 0 then [45] else []) ++ numAcc m.natAbs s.data.toList).toArray) := by
  induction B with
  | zero =>
    intro k m s hlim hm hB hs hk hneg hne
    obtain ⟨k, rfl⟩ : ∃ j, k = j + 2 := ⟨k - 2, by omega⟩
    have hm0 : m = 0 := by omega
    have hne := hne rfl
    subst hm0
    simp only [petrinetref04_Number.l0, if_true]
    have e : (s.toList == ([] : List UInt8)) = false := by rw [Lib.toList_data]; simpa using hne
    rw [e]
    simp only [petrinetref04_Number.j1, Bool.false_eq_true, if_false]
    have hna : numAcc (0 : Int).natAbs s.data.toList = s.data.toList := by unfold numAcc; rw [if_pos ⟨rfl, hne⟩]
    rw [hna]
    by_cases c : x0 < 0
    · rw [if_pos c, if_pos (by omega), if_pos c]
      exact congrArg some (Num.str_ext (by rw [Num.data_append, Num.data_mk]))
    · rw [if_neg c, if_neg c]
      exact congrArg some (Num.str_ext (by rw [Num.data_mk]; rfl))
  | succ B ih =>
    intro k m s hlim hm hB hs hk hneg _
    obtain ⟨k, rfl⟩ : ∃ j, k = j + 2 := ⟨k - 2, by omega⟩
    by_cases hstop : m = 0 ∧ s.data.toList ≠ []
    · obtain ⟨rfl, hne⟩ := hstop
      simp only [petrinetref04_Number.l0, if_true]
      have e : (s.toList == ([] : List UInt8)) = false := by rw [Lib.toList_data]; simpa using hne
      rw [e]
      simp only [petrinetref04_Number.j1, Bool.false_eq_true, if_false]
      have hna : numAcc (0 : Int).natAbs s.data.toList = s.data.toList := by unfold numAcc; rw [if_pos ⟨rfl, hne⟩]
      rw [hna]
      by_cases c : x0 < 0
      · rw [if_pos c, if_pos (by omega), if_pos c]
        exact congrArg some (Num.str_ext (by rw [Num.data_append, Num.data_mk]))
      · rw [if_neg c, if_neg c]
        exact congrArg some (Num.str_ext (by rw [Num.data_mk]; rfl))
    · have hgo : petrinetref04_Number.l0 (k + 2) x0 s m = petrinetref04_Number.j1 (k + 1) x0 s m true := by
        show petrinetref04_Number.l0 ((k + 1) + 1) x0 s m = _
        simp only [petrinetref04_Number.l0]
        by_cases c : m = 0
        · rw [if_pos c]
          have e : (s.toList == ([] : List UInt8)) = true := by
            rw [Lib.toList_data]
            have : s.data.toList = [] := Classical.byContradiction fun h => hstop ⟨c, h⟩
            rw [this]; rfl
          rw [e]
        · rw [if_neg c]
      rw [hgo]
      simp only [petrinetref04_Number.j1, if_true]
      have hd : m.natAbs % 10 < 10 := Nat.mod_lt _ (by omega)
      have hb : (10 : Nat) ^ (B + 1) ≤ 10 ^ 20 := Nat.pow_le_pow_right (by omega) hB
      have hb2 : m.natAbs / 10 < 10 ^ B := by rw [Nat.pow_succ] at hm; omega
      have hstep := numAcc_step m.natAbs s.data.toList (fun h => hstop ⟨by omega, h.2⟩)
      have key : ∀ (d : Int), d = ((m.natAbs % 10 : Nat) : Int) → (wrap64 (Int.tdiv m 10)).natAbs = m.natAbs / 10 → (wrap64 (Int.tdiv m 10) < 0 → x0 < 0) →
          (if 0 ≤ d then (if d ≤ wrap64 (d + 1) then (if wrap64 (d + 1) ≤ 10 then (if ((ByteArray.mk #[48, 49, 50, 51, 52, 53, 54, 55, 56, 57]).extract (d : Int).toNat (wrap64 (d + 1) : Int).toNat).size + s.size ≤ 9223372036854775807 then petrinetref04_Number.l0 k x0 (((ByteArray.mk #[48, 49, 50, 51, 52, 53, 54, 55, 56, 57]).extract (d : Int).toNat (wrap64 (d + 1) : Int).toNat) ++ s) (wrap64 (Int.tdiv m 10)) else none) else none) else none) else none)
            = some (ByteArray.mk ((if x0 < 0 then [45] else []) ++ numAcc m.natAbs s.data.toList).toArray) := by
        intro d hd' hq hn
        subst hd'
        have e1 : wrap64 (((m.natAbs % 10 : Nat) : Int) + 1) = ((m.natAbs % 10 + 1 : Nat) : Int) := by unfold wrap64; omega
        rw [e1, Int.toNat_natCast, Int.toNat_natCast]
        have hp := digit_piece (m.natAbs % 10) hd
        have hsz : ((ByteArray.mk #[48, 49, 50, 51, 52, 53, 54, 55, 56, 57]).extract (m.natAbs % 10) (m.natAbs % 10 + 1)).size = 1 := by rw [size_data, hp]; rfl
        rw [if_pos (by omega), if_pos (by omega), if_pos (by omega), if_pos (by rw [hsz]; omega)]
        rw [ih k _ _ (by rw [hq]; omega) (by rw [hq]; exact hb2) (by omega) (by rw [size_data, Num.data_append, List.length_append, hp, ← size_data]; simp; omega) (by omega) hn (fun _ => by rw [Num.data_append, hp]; simp)]
        rw [hq, Num.data_append, hp, hstep]; rfl
      have hmb : m.natAbs < 9223372036854775809 := hlim
      have hq : (wrap64 (Int.tdiv m 10)).natAbs = m.natAbs / 10 := by rw [tdiv10]; unfold wrap64; split <;> omega
      have hn : wrap64 (Int.tdiv m 10) < 0 → x0 < 0 := by
        intro h; apply hneg; rw [tdiv10] at h; unfold wrap64 at h; split at h <;> omega
      by_cases c : Int.tmod m 10 < 0
      · rw [if_pos c]
        refine key (wrap64 (-(Int.tmod m 10))) ?_ hq hn
        rw [tmod10] at c ⊢; unfold wrap64; split at c <;> split <;> omega
      · rw [if_neg c]
        refine key (Int.tmod m 10) ?_ hq hn
        rw [tmod10] at c ⊢; split at c <;> split <;> omega
theorem number_is (n : Int) (hn : I64 n) (k : Nat) (hk : 60 ≤ k) : petrinetref04_Number.f k n = some (ByteArray.mk (Lib.itoa n).toArray) := by
  unfold petrinetref04_Number.f
  unfold I64 at hn
  have hp : (10 : Nat) ^ 20 = 100000000000000000000 := by decide
  have := number_l n 20 k n (ByteArray.mk #[]) (by omega) (by omega) (by omega) (by show 0 + 20 ≤ 1000; omega) (by omega) (fun h => h) (fun h => by omega)
  rw [this]
  have e : numAcc n.natAbs (ByteArray.mk #[]).data.toList = Lib.decDigits n.natAbs := by unfold numAcc; rw [if_neg (by simp)]; simp
  rw [e]
  congr 2
  by_cases c : n < 0
  · rw [if_pos c, Num.itoa_neg' c]; rfl
  · rw [if_neg c, Num.itoa_pos (by omega)]; congr 1; simp; congr 1; omega
theorem decDigits_le (k : Nat) : ∀ u, u < 10 ^ (k + 1) → (Lib.decDigits u).length ≤ k + 1 := by
  induction k with
  | zero => intro u h; rw [Lib.decDigits, dif_pos (by simpa using h)]; simp
  | succ k ih =>
    intro u h
    rw [Lib.decDigits]
    split
    · simp
    · rw [List.length_append, List.length_singleton]
      have := ih (u / 10) (by rw [Nat.pow_succ] at h; omega)
      omega

/-! ### texts -/
theorem itoa_len {n : Int} (h : I64 n) : (Lib.itoa n).length ≤ 20 := by
  unfold I64 at h
  by_cases c : n < 0
  · rw [Num.itoa_neg' c, List.length_cons]
    have := decDigits_le 18 n.natAbs (by omega); omega
  · rw [Num.itoa_pos (by omega)]
    have := decDigits_le 18 n.toNat (by omega); omega
theorem strItoa_is {n : Int} (h : I64 n) : strconv_Itoa.f n = some (mk (Lib.itoa n)) := by
  unfold I64 at h; unfold strconv_Itoa.f mk; rw [if_pos (by omega)]
theorem mk_size (p : List UInt8) : (mk p).size = p.length := by rw [size_data]; unfold mk; rw [Num.data_mk]
theorem mk_data (p : List UInt8) : (mk p).data.toList = p := by unfold mk; rw [Num.data_mk]
theorem mk_self (s : ByteArray) : mk s.data.toList = s := Num.str_ext (mk_data _)
theorem app_eq {a b : ByteArray} {p q : List UInt8} (ha : a = mk p) (hb : b = mk q) : a ++ b = mk (p ++ q) := by subst ha hb; exact Num.str_ext (by rw [Num.data_append, mk_data, mk_data, mk_data])
theorem comma_eq : (⟨#[44]⟩ : ByteArray) = mk [44] := rfl
theorem number_mk {n : Int} (h : I64 n) (k : Nat) (hk : 60 ≤ k) : petrinetref04_Number.f k n = some (mk (Lib.itoa n)) := number_is n h k hk
theorem wrap01 : wrap64 (0 + 1) = ((1 : Nat) : Int) := by unfold wrap64; omega
theorem empty_eq : (⟨#[]⟩ : ByteArray) = mk [] := rfl

/-! ### valid, Text -/
theorem rdL5_get (ll : List (List Int)) (i : Nat) (h : i < ll.length) : rd_L5 ll (i : Int) = ll[i] := by
  unfold rd_L5; rw [Int.toNat_natCast, List.getD_eq_getElem?_getD, List.getElem?_eq_getElem h]; rfl
theorem valid_row (ll : List (List Int)) (i : Nat) (hi : i < ll.length) (hl : ll.length ≤ 1000) (a : List Int) (ha : a.length ≤ 17592186044416) (n : Nat) : ∀ (k j : Nat), a.length - j = n → j ≤ a.length → n < k →
    colorset_valid.l1 k ll (ll.length : Int) (i : Int) a (a.length : Int) (j : Int) = if inB (a.drop j) = true then colorset_valid.l0 (k - (n + 1)) ll (ll.length : Int) ((i + 1 : Nat) : Int) else some false := by
  induction n with
  | zero =>
    intro k j hn hj hk
    obtain ⟨k, rfl⟩ := fuel hk
    simp only [colorset_valid.l1]
    rw [if_neg (by omega), drop_end a j (by omega), inB_nil, if_pos rfl, wrap_succ i (by omega)]; rfl
  | succ n ih =>
    intro k j hn hj hk
    obtain ⟨k, rfl⟩ := fuel hk
    have h1 : j < a.length := by omega
    simp only [colorset_valid.l1]
    rw [if_pos (by omega), if_pos (by omega), if_pos (by omega), rd_get a j h1, wrap_succ j (by omega), drop_cons a j h1, inB_cons]
    by_cases c : a[j] < 0
    · rw [if_pos c, decide_eq_false (by omega)]; rfl
    · rw [if_neg c]
      by_cases b : a[j] > 1048576
      · rw [if_pos b, decide_eq_false (by omega)]; rfl
      · rw [if_neg b, decide_eq_true (by omega), ih k (j + 1) (by omega) (by omega) (by omega), Bool.true_and, show k + 1 - (n + 1 + 1) = k - (n + 1) by omega]
def wtL : List (List Int) → Nat
  | [] => 1
  | a :: r => a.length + 2 + wtL r
theorem valid_l0 (ll : List (List Int)) (hl : ll.length ≤ 1000) (ha : ∀ a ∈ ll, a.length ≤ 17592186044416) (n : Nat) : ∀ (k i : Nat), ll.length - i = n → i ≤ ll.length → wtL (ll.drop i) ≤ k →
    colorset_valid.l0 k ll (ll.length : Int) (i : Int) = some ((ll.drop i).all inB) := by
  induction n with
  | zero =>
    intro k i hn hi hk
    rw [drop_end ll i (by omega), wtL] at hk
    obtain ⟨k, rfl⟩ := fuel (show 0 < k by omega)
    simp only [colorset_valid.l0]
    rw [if_neg (by omega), drop_end ll i (by omega)]; rfl
  | succ n ih =>
    intro k i hn hi hk
    have h1 : i < ll.length := by omega
    rw [drop_cons ll i h1, wtL] at hk
    obtain ⟨k, rfl⟩ := fuel (show 0 < k by omega)
    simp only [colorset_valid.l0]
    rw [if_pos (by omega), if_pos (by omega), if_pos (by omega), rdL5_get ll i h1]
    have hrow := valid_row ll i h1 hl ll[i] (ha _ (List.getElem_mem h1)) ll[i].length k 0 (by omega) (by omega) (by omega)
    rw [List.drop_zero] at hrow
    rw [show (0 : Int) = ((0 : Nat) : Int) from rfl, hrow, ih (k - (ll[i].length + 1)) (i + 1) (by omega) (by omega) (by omega), drop_cons ll i h1, List.all_cons]
    cases inB ll[i] <;> rfl
theorem cvalid_is (ll : List (List Int)) (hl : ll.length ≤ 1000) (ha : ∀ a ∈ ll, a.length ≤ 17592186044416) (k : Nat) (hk : wtL ll ≤ k) : colorset_valid.f k ll = some (ll.all inB) := by
  unfold colorset_valid.f
  have := valid_l0 ll hl ha _ k 0 rfl (by omega) (by simpa using hk)
  simpa using this
/-! what Check lets in -/
theorem nmFrom_all (s : ByteArray) (n : Nat) : ∀ i, s.size - i = n → nmFrom s n i = true → ∀ j, i ≤ j → ∀ h : j < s.size, nmByte (s[j]'h).toNat j = true := by
  induction n with
  | zero => intro i hn _ j hj h; omega
  | succ n ih =>
    intro i hn ht j hj h
    have hi : i < s.size := by omega
    rw [nmFrom, dif_pos hi, Bool.and_eq_true] at ht
    rcases Nat.eq_or_lt_of_le hj with e | e
    · subst e; exact ht.1
    · exact ih (i + 1) (by omega) ht.2 j (by omega) h
theorem name_bytes (s : ByteArray) (h : nmB s = true) : s.size ≤ 16 ∧ 1 ≤ s.size ∧ ∀ c ∈ s.data.toList, c ≠ 32 ∧ c ≠ 39 ∧ c ≠ 10 := by
  unfold nmB at h
  rw [Bool.and_eq_true, decide_eq_true_iff] at h
  refine ⟨h.1.2, h.1.1, fun c hc => ?_⟩
  obtain ⟨j, hj, e⟩ := List.getElem_of_mem hc
  have hj' : j < s.size := by rw [size_data]; exact hj
  have hb := nmFrom_all s s.size 0 (by omega) h.2 j (by omega) hj'
  have e2 : s[j]'hj' = c := e
  rw [e2] at hb
  unfold nmByte at hb
  simp at hb
  have e1 : (32 : UInt8).toNat = 32 := rfl
  have e2 : (39 : UInt8).toNat = 39 := rfl
  have e3 : (10 : UInt8).toNat = 10 := rfl
  refine ⟨?_, ?_, ?_⟩ <;> (rintro rfl; omega)
structure NamesOk (l : List ByteArray) : Prop where
  hi : l.length ≤ 12
  lo : 1 ≤ l.length
  nm : ∀ i, ∀ h : i < l.length, nmB l[i] = true
  fresh : ∀ i, ∀ h : i < l.length, l[i].data.toList ∉ (vls l).take i
theorem ckFrom_ok (l : List ByteArray) (n : Nat) : ∀ i, l.length - i = n → ckFrom l n i = 0 → ∀ j, i ≤ j → ∀ h : j < l.length, nmB l[j] = true ∧ l[j].data.toList ∉ (vls l).take j := by
  induction n with
  | zero => intro i hn _ j hj h; omega
  | succ n ih =>
    intro i hn ht j hj h
    have hi : i < l.length := by omega
    rw [ckFrom, getD_get l i hi] at ht
    by_cases e : nmB l[i] = true
    · rw [if_pos e] at ht
      by_cases g : l[i].data.toList ∈ (vls l).take i
      · rw [if_pos ((any_iff l i l[i]).mpr g)] at ht; omega
      · rw [if_neg (fun h => g ((any_iff l i l[i]).mp h))] at ht
        rcases Nat.eq_or_lt_of_le hj with q | q
        · subst q; exact ⟨e, g⟩
        · exact ih (i + 1) (by omega) ht j (by omega) h
    · rw [if_neg e] at ht; omega
theorem namesOk_of {c : ByteArray} {l : List ByteArray} (h : ckV c l = 0) : NamesOk l := by
  unfold ckV at h
  by_cases h0 : nmB c = true
  · rw [if_pos h0] at h
    by_cases h1 : l.length < 1
    · rw [if_pos h1] at h; omega
    · rw [if_neg h1] at h
      by_cases h2 : l.length > 12
      · rw [if_pos h2] at h; omega
      · rw [if_neg h2] at h
        have := ckFrom_ok l l.length 0 (by omega) h
        exact ⟨by omega, by omega, fun i hi => (this i (by omega) hi).1, fun i hi => (this i (by omega) hi).2⟩
  · rw [if_neg h0] at h; omega
/-! the text -/
def trm (x : Int) (v : List UInt8) : List UInt8 := Lib.itoa x ++ 39 :: v
def txF : List UInt8 → List Int → List (List UInt8) → List UInt8
  | out, x :: xs, v :: vs => if x = 0 then txF out xs vs else txF ((if out = [] then [] else out ++ [32, 43, 32]) ++ trm x v) xs vs
  | out, _, _ => out
def finT (t : List UInt8) : List UInt8 := if t = [] then [48] else t
theorem quote_eq : (⟨#[39]⟩ : ByteArray) = mk [39] := rfl
theorem plus_eq : (⟨#[32, 43, 32]⟩ : ByteArray) = mk [32, 43, 32] := rfl
theorem val_eq (l : List ByteArray) (i : Nat) (h : i < l.length) : rdOf ByteArray.empty l (i : Int) = mk ((vls l)[i]'(by rw [vls_len]; exact h)) := by
  rw [rdOf_get _ l i h, vls_get l i h, mk_self]
theorem ptext_l (c : ByteArray) (l : List ByteArray) (ok : NamesOk l) (a : List Int) (ha : a.length = l.length) (hb : inB a = true) (n : Nat) : ∀ (k i : Nat) (s : List UInt8), a.length - i = n → i ≤ a.length → n < k → s.length ≤ 100 * i →
    colorset_Text.l0 k (mk s) a (a.length : Int) (i : Int) c l = some (mk (finT (txF s (a.drop i) ((vls l).drop i)))) := by
  have hv := vls_len l
  have hi12 := ok.hi
  induction n with
  | zero =>
    intro k i s hn hi hk hs
    obtain ⟨k, rfl⟩ := fuel hk
    simp only [colorset_Text.l0]
    rw [if_neg (by omega), drop_end a i (by omega), Lib.toList_data, mk_data]
    have e : txF s [] ((vls l).drop i) = s := by simp [txF]
    rw [e]; unfold finT
    by_cases q : s = []
    · rw [if_pos q, if_pos q]; rfl
    · rw [if_neg q, if_neg q]
  | succ n ih =>
    intro k i s hn hi hk hs
    obtain ⟨k, rfl⟩ := fuel hk
    have h1 : i < a.length := by omega
    have h2 : i < l.length := by omega
    have hx := (inB_iff a).mp hb _ (List.getElem_mem h1)
    have hI : I64 a[i] := by unfold I64; omega
    have hz := itoa_len hI
    have hnm := name_bytes _ (ok.nm i h2)
    have hvl : ((vls l)[i]'(by omega)).length ≤ 16 := by rw [vls_get l i h2, ← size_data]; exact hnm.1
    simp only [colorset_Text.l0]
    rw [if_pos (by omega), if_pos (by omega), if_pos (by omega), rd_get a i h1, drop_cons a i h1, drop_cons (vls l) i (by omega), txF, wrap_succ i (by omega)]
    generalize a[i] = x at *
    by_cases h0 : x = 0
    · rw [if_pos h0, if_pos h0, ih k (i + 1) s (by omega) (by omega) (by omega) (by omega)]
    · rw [if_neg h0, if_neg h0, Lib.toList_data, mk_data, strItoa_is hI, val_eq l i h2, Option.bind_some, Option.bind_some, if_pos (show (i : Int) < (l.length : Int) by omega), plus_eq, quote_eq]
      generalize hv' : ((vls l)[i]'(by omega)) = v at *
      by_cases hsn : s = []
      · rw [if_pos hsn, if_pos hsn, if_pos (by rw [mk_size]; omega), app_eq rfl rfl, app_eq rfl rfl, app_eq rfl rfl]
        subst hsn
        simp only [mk_size, List.length_append, List.length_singleton, List.length_nil]
        rw [if_pos (by omega), if_pos (by omega), ih k (i + 1) _ (by omega) (by omega) (by omega) (by simp; omega)]
        unfold trm; simp
      · rw [if_neg hsn, if_neg hsn, if_pos (by rw [mk_size]; omega), if_pos (by rw [mk_size]; omega), app_eq rfl rfl, app_eq rfl rfl, app_eq rfl rfl, app_eq rfl rfl]
        simp only [mk_size, List.length_append, List.length_singleton]
        have h3 : ([32, 43, 32] : List UInt8).length = 3 := rfl
        rw [if_pos (by omega), if_pos (by omega), if_pos (by omega), ih k (i + 1) _ (by omega) (by omega) (by omega) (by simp; omega)]
        unfold trm; simp
def okA (l : List ByteArray) (a : List Int) : Bool := decide (a.length = l.length) && inB a
def textV (c : ByteArray) (l : List ByteArray) (a : List Int) : List UInt8 := if ckV c l = 0 then (if okA l a = true then finT (txF [] a (vls l)) else []) else []
theorem ptext_is (c : ByteArray) (l : List ByteArray) (a : List Int) (k : Nat) (hk : 100 ≤ k) : colorset_Text.f k c l a = some (mk (textV c l a)) := by
  unfold colorset_Text.f textV
  rw [pcheck_is, Option.bind_some]
  obtain ⟨k, rfl⟩ := fuel (show 0 < k by omega)
  simp only [colorset_Text.j0]
  by_cases h : ckV c l = 0
  · rw [if_pos h, if_pos h]
    have ok := namesOk_of h
    have hi12 := ok.hi
    by_cases g : a.length = l.length
    · rw [if_pos (by omega), cvalid_is [a] (by simp) (by intro b hb; simp at hb; subst hb; omega) (k + 1) (by simp [wtL]; omega), Option.bind_some]
      have e : okA l a = inB a := by unfold okA; rw [decide_eq_true g]; rfl
      rw [e, List.all_cons, List.all_nil, Bool.and_true]
      cases hb : inB a with
      | false => rw [if_pos (by simp), if_neg (by simp)]; rfl
      | true =>
        rw [if_neg (by simp), if_pos rfl, empty_eq]
        have := ptext_l c l ok a g hb _ k 0 [] rfl (by omega) (by omega) (by simp)
        simpa using this
    · rw [if_neg (by omega), if_pos trivial]
      have e : okA l a = false := by unfold okA; rw [decide_eq_false g]; rfl
      rw [e, if_neg (by simp)]; rfl
  · rw [if_neg h, if_neg h, if_pos trivial]; rfl
theorem rtext_l (c : ByteArray) (l : List ByteArray) (ok : NamesOk l) (a : List Int) (ha : a.length = l.length) (hb : inB a = true) (n : Nat) : ∀ (k i : Nat) (s : List UInt8), a.length - i = n → i ≤ a.length → n + 60 < k → s.length ≤ 100 * i →
    petrinetref39_Text.l0 k a (mk s) (i : Int) c l = some (mk (finT (txF s (a.drop i) ((vls l).drop i)))) := by
  have hv := vls_len l
  have hi12 := ok.hi
  induction n with
  | zero =>
    intro k i s hn hi hk hs
    obtain ⟨k, rfl⟩ := fuel (show 0 < k by omega)
    simp only [petrinetref39_Text.l0]
    rw [if_neg (by omega), drop_end a i (by omega), Lib.toList_data, mk_data]
    have e : txF s [] ((vls l).drop i) = s := by simp [txF]
    rw [e]; unfold finT
    by_cases q : s = []
    · rw [if_pos q, if_pos q]; rfl
    · rw [if_neg q, if_neg q]
  | succ n ih =>
    intro k i s hn hi hk hs
    obtain ⟨k, rfl⟩ := fuel (show 0 < k by omega)
    have h1 : i < a.length := by omega
    have h2 : i < l.length := by omega
    have hx := (inB_iff a).mp hb _ (List.getElem_mem h1)
    have hI : I64 a[i] := by unfold I64; omega
    have hz := itoa_len hI
    have hnm := name_bytes _ (ok.nm i h2)
    have hvl : ((vls l)[i]'(by omega)).length ≤ 16 := by rw [vls_get l i h2, ← size_data]; exact hnm.1
    simp only [petrinetref39_Text.l0]
    rw [if_pos (by omega), if_pos (by omega), rd_get a i h1, drop_cons a i h1, drop_cons (vls l) i (by omega), txF, wrap_succ i (by omega)]
    generalize a[i] = x at *
    by_cases h0 : x = 0
    · rw [if_pos h0, if_pos h0, ih k (i + 1) s (by omega) (by omega) (by omega) (by omega)]
    · rw [if_neg h0, if_neg h0, Lib.toList_data, mk_data, number_mk hI k (by omega), val_eq l i h2, Option.bind_some, Option.bind_some, if_pos (show (i : Int) < (l.length : Int) by omega), plus_eq, quote_eq]
      generalize hv' : ((vls l)[i]'(by omega)) = v at *
      by_cases hsn : s = []
      · rw [if_pos hsn, if_pos hsn, app_eq rfl rfl, app_eq rfl rfl, app_eq rfl rfl]
        subst hsn
        simp only [mk_size, List.length_append, List.length_singleton, List.length_nil]
        rw [if_pos (by omega), if_pos (by omega), if_pos (by omega), ih k (i + 1) _ (by omega) (by omega) (by omega) (by simp; omega)]
        unfold trm; simp
      · rw [if_neg hsn, if_neg hsn, if_pos (by rw [mk_size]; omega), app_eq rfl rfl, app_eq rfl rfl, app_eq rfl rfl, app_eq rfl rfl]
        simp only [mk_size, List.length_append, List.length_singleton]
        have h3 : ([32, 43, 32] : List UInt8).length = 3 := rfl
        rw [if_pos (by omega), if_pos (by omega), if_pos (by omega), if_pos (by omega), ih k (i + 1) _ (by omega) (by omega) (by omega) (by simp; omega)]
        unfold trm; simp
theorem validB_ok (l : List ByteArray) (a : List Int) : validB a (l.length : Int) = okA l a := by unfold validB okA; congr 1; exact decide_eq_decide.mpr (by omega)
theorem rtext_is (c : ByteArray) (l : List ByteArray) (hl : l.length ≤ 1000) (a : List Int) (hA : a.length ≤ 1000) (k : Nat) (hk : 3000 ≤ k) : petrinetref39_Text.f k c l a = some (mk (textV c l a)) := by
  unfold petrinetref39_Text.f textV
  rw [rcheck_is c l hl k hk, Option.bind_some]
  obtain ⟨k, rfl⟩ := fuel (show 0 < k by omega)
  simp only [petrinetref39_Text.j0]
  by_cases h : ckV c l = 0
  · rw [if_pos h, if_pos h, rvalid_is a _ (by omega) (k + 1) (by omega), Option.bind_some, validB_ok]
    have ok := namesOk_of h
    have hi12 := ok.hi
    cases hb : okA l a with
    | false => rw [if_pos (by simp), if_neg (by simp)]; rfl
    | true =>
      rw [if_neg (by simp), if_pos rfl, empty_eq]
      unfold okA at hb
      rw [Bool.and_eq_true, decide_eq_true_iff] at hb
      have := rtext_l c l ok a hb.1 hb.2 _ k 0 [] rfl (by omega) (by omega) (by simp)
      simpa using this
  · rw [if_neg h, if_neg h, if_pos trivial]; rfl
end Go.Proofs.YtjhlagpcbaodkaaDoor.Plain
