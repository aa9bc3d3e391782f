/- Plain laws over the printed functions: what each comes to. No condition but the ones written. -/
import Derived.Test.YtcnliampiibpbaaDoorPlainA
import Derived.Test.YtcnliampiibpbaaDoorPAllx11
import Derived.Test.YtcnliampiibpbaaDoorPAllx16
import Derived.Test.YtcnliampiibpbaaDoorPAllx17
import Derived.Test.YtcnliampiibpbaaDoorPAllx18
namespace Go.Proofs.YtcnliampiibpbaaDoor.Plain
open Go Go.RowKit Go.Proofs.YtcnliampiibpbaaDoor.PAll Go.Proofs.YtcnliampiibpbaaDoorW.PrintWords Go.Proofs.YtcnliampiibpbaaDoorW.PrintLast Go.Proofs.YtcnliampiibpbaaDoorW.PrintMore
set_option linter.unusedVariables false
theorem digit_piece (d : Nat) (h : d < 10) : ((ByteArray.mk #[48, 49, 50, 51, 52, 53, 54, 55, 56, 57]).extract d (d + 1)).data.toList = [UInt8.ofNat (48 + d)] := by
  rw [Lib.extract_data]
  have : ∀ d : Fin 10, ((ByteArray.mk #[48, 49, 50, 51, 52, 53, 54, 55, 56, 57]).data.toList.drop d.val).take (d.val + 1 - d.val) = [UInt8.ofNat (48 + d.val)] := by decide +kernel
  exact this ⟨d, h⟩
/-- What the loop comes to: the digits of m ahead of what is there; none where m is 0 and something is there. -/
def numAcc (m : Nat) (s : List UInt8) : List UInt8 := if m = 0 ∧ s ≠ [] then s else Lib.decDigits m ++ s
theorem numAcc_step (m : Nat) (s : List UInt8) (h : ¬ (m = 0 ∧ s ≠ [])) : numAcc m s = numAcc (m / 10) (UInt8.ofNat (48 + m % 10) :: s) := by
  unfold numAcc
  rw [if_neg h]
  by_cases c : m < 10
  · rw [if_pos ⟨by omega, by simp⟩, Lib.decDigits_one c, Nat.mod_eq_of_lt c]; rfl
  · rw [if_neg (by omega)]
    conv => lhs; rw [Lib.decDigits, dif_neg c]
    simp
theorem tmod10 (n : Int) : Int.tmod n 10 = if n < 0 then -((n.natAbs % 10 : Nat) : Int) else ((n.natAbs % 10 : Nat) : Int) := by
  rw [Int.tmod_eq_emod]
  have e : (10 : Int).natAbs = 10 := rfl
  rw [e]
  split <;> split <;> omega
theorem tdiv10 (n : Int) : Int.tdiv n 10 = if n < 0 then -((n.natAbs / 10 : Nat) : Int) else ((n.natAbs / 10 : Nat) : Int) := by
  rw [Int.tdiv_eq_ediv]
  have e : (10 : Int).sign = 1 := rfl
  rw [e]
  split <;> split <;> omega
theorem number_l (x0 : Int) (B : Nat) : ∀ (k : Nat) (m : Int) (s : ByteArray), m.natAbs < 9223372036854775809 → m.natAbs < 10 ^ B → B ≤ 20 → s.size + B ≤ 1000 → 2 * B + 4 ≤ k → (m < 0 → x0 < 0) → (B = 0 → s.data.toList ≠ []) →
    petrinetref04_Number.l0 k x0 s m = some (ByteArray.mk ((if x0 < 0 then [45] else []) ++ numAcc m.natAbs s.data.toList).toArray) := by
  induction B with
  | zero =>
    intro k m s hlim hm hB hs hk hneg hne
    obtain ⟨k, rfl⟩ : ∃ j, k = j + 2 := ⟨k - 2, by omega⟩
    have hm0 : m = 0 := by omega
    have hne := hne rfl
    subst hm0
    simp only [petrinetref04_Number.l0, if_true]
    have e : (s.toList == ([] : List UInt8)) = false := by rw [Lib.toList_data]; simpa using hne
    rw [e]
    simp only [petrinetref04_Number.j1, Bool.false_eq_true, if_false]
    have hna : numAcc (0 : Int).natAbs s.data.toList = s.data.toList := by unfold numAcc; rw [if_pos ⟨rfl, hne⟩]
    rw [hna]
    by_cases c : x0 < 0
    · rw [if_pos c, if_pos (by omega), if_pos c]
      exact congrArg some (Num.str_ext (by rw [Num.data_append, Num.data_mk]))
    · rw [if_neg c, if_neg c]
      exact congrArg some (Num.str_ext (by rw [Num.data_mk]; rfl))
  | succ B ih =>
    intro k m s hlim hm hB hs hk hneg _
    obtain ⟨k, rfl⟩ : ∃ j, k = j + 2 := ⟨k - 2, by omega⟩
    by_cases hstop : m = 0 ∧ s.data.toList ≠ []
    · obtain ⟨rfl, hne⟩ := hstop
      simp only [petrinetref04_Number.l0, if_true]
      have e : (s.toList == ([] : List UInt8)) = false := by rw [Lib.toList_data]; simpa using hne
      rw [e]
      simp only [petrinetref04_Number.j1, Bool.false_eq_true, if_false]
      have hna : numAcc (0 : Int).natAbs s.data.toList = s.data.toList := by unfold numAcc; rw [if_pos ⟨rfl, hne⟩]
      rw [hna]
      by_cases c : x0 < 0
      · rw [if_pos c, if_pos (by omega), if_pos c]
        exact congrArg some (Num.str_ext (by rw [Num.data_append, Num.data_mk]))
      · rw [if_neg c, if_neg c]
        exact congrArg some (Num.str_ext (by rw [Num.data_mk]; rfl))
    · have hgo : petrinetref04_Number.l0 (k + 2) x0 s m = petrinetref04_Number.j1 (k + 1) x0 s m true := by
        show petrinetref04_Number.l0 ((k + 1) + 1) x0 s m = _
        simp only [petrinetref04_Number.l0]
        by_cases c : m = 0
        · rw [if_pos c]
          have e : (s.toList == ([] : List UInt8)) = true := by
            rw [Lib.toList_data]
            have : s.data.toList = [] := Classical.byContradiction fun h => hstop ⟨c, h⟩
            rw [this]; rfl
          rw [e]
        · rw [if_neg c]
      rw [hgo]
      simp only [petrinetref04_Number.j1, if_true]
      have hd : m.natAbs % 10 < 10 := Nat.mod_lt _ (by omega)
      have hb : (10 : Nat) ^ (B + 1) ≤ 10 ^ 20 := Nat.pow_le_pow_right (by omega) hB
      have hb2 : m.natAbs / 10 < 10 ^ B := by rw [Nat.pow_succ] at hm; omega
      have hstep := numAcc_step m.natAbs s.data.toList (fun h => hstop ⟨by omega, h.2⟩)
      have key : ∀ (d : Int), d = ((m.natAbs % 10 : Nat) : Int) → (wrap64 (Int.tdiv m 10)).natAbs = m.natAbs / 10 → (wrap64 (Int.tdiv m 10) < 0 → x0 < 0) →
          (if 0 ≤ d then (if d ≤ wrap64 (d + 1) then (if wrap64 (d + 1) ≤ 10 then (if ((ByteArray.mk #[48, 49, 50, 51, 52, 53, 54, 55, 56, 57]).extract (d : Int).toNat (wrap64 (d + 1) : Int).toNat).size + s.size ≤ 9223372036854775807 then petrinetref04_Number.l0 k x0 (((ByteArray.mk #[48, 49, 50, 51, 52, 53, 54, 55, 56, 57]).extract (d : Int).toNat (wrap64 (d + 1) : Int).toNat) ++ s) (wrap64 (Int.tdiv m 10)) else none) else none) else none) else none)
            = some (ByteArray.mk ((if x0 < 0 then [45] else []) ++ numAcc m.natAbs s.data.toList).toArray) := by
        intro d hd' hq hn
        subst hd'
        have e1 : wrap64 (((m.natAbs % 10 : Nat) : Int) + 1) = ((m.natAbs % 10 + 1 : Nat) : Int) := by unfold wrap64; omega
        rw [e1, Int.toNat_natCast, Int.toNat_natCast]
        have hp := digit_piece (m.natAbs % 10) hd
        have hsz : ((ByteArray.mk #[48, 49, 50, 51, 52, 53, 54, 55, 56, 57]).extract (m.natAbs % 10) (m.natAbs % 10 + 1)).size = 1 := by rw [size_data, hp]; rfl
        rw [if_pos (by omega), if_pos (by omega), if_pos (by omega), if_pos (by rw [hsz]; omega)]
        rw [ih k _ _ (by rw [hq]; omega) (by rw [hq]; exact hb2) (by omega) (by rw [size_data, Num.data_append, List.length_append, hp, ← size_data]; simp; omega) (by omega) hn (fun _ => by rw [Num.data_append, hp]; simp)]
        rw [hq, Num.data_append, hp, hstep]; rfl
      have hmb : m.natAbs < 9223372036854775809 := hlim
      have hq : (wrap64 (Int.tdiv m 10)).natAbs = m.natAbs / 10 := by rw [tdiv10]; unfold wrap64; split <;> omega
      have hn : wrap64 (Int.tdiv m 10) < 0 → x0 < 0 := by
        intro h; apply hneg; rw [tdiv10] at h; unfold wrap64 at h; split at h <;> omega
      by_cases c : Int.tmod m 10 < 0
      · rw [if_pos c]
        refine key (wrap64 (-(Int.tmod m 10))) ?_ hq hn
        rw [tmod10] at c ⊢; unfold wrap64; split at c <;> split <;> omega
      · rw [if_neg c]
        refine key (Int.tmod m 10) ?_ hq hn
        rw [tmod10] at c ⊢; split at c <;> split <;> omega
theorem number_is (n : Int) (hn : I64 n) (k : Nat) (hk : 60 ≤ k) : petrinetref04_Number.f k n = some (ByteArray.mk (Lib.itoa n).toArray) := by
  unfold petrinetref04_Number.f
  unfold I64 at hn
  have hp : (10 : Nat) ^ 20 = 100000000000000000000 := by decide
  have := number_l n 20 k n (ByteArray.mk #[]) (by omega) (by omega) (by omega) (by show 0 + 20 ≤ 1000; omega) (by omega) (fun h => h) (fun h => by omega)
  rw [this]
  have e : numAcc n.natAbs (ByteArray.mk #[]).data.toList = Lib.decDigits n.natAbs := by unfold numAcc; rw [if_neg (by simp)]; simp
  rw [e]
  congr 2
  by_cases c : n < 0
  · rw [if_pos c, Num.itoa_neg' c]; rfl
  · rw [if_neg c, Num.itoa_pos (by omega)]; congr 1; simp; congr 1; omega
theorem decDigits_le (k : Nat) : ∀ u, u < 10 ^ (k + 1) → (Lib.decDigits u).length ≤ k + 1 := by
  induction k with
  | zero => intro u h; rw [Lib.decDigits, dif_pos (by simpa using h)]; simp
  | succ k ih =>
    intro u h
    rw [Lib.decDigits]
    split
    · simp
    · rw [List.length_append, List.length_singleton]
      have := ih (u / 10) (by rw [Nat.pow_succ] at h; omega)
      omega

/-! ### texts -/
theorem itoa_len {n : Int} (h : I64 n) : (Lib.itoa n).length ≤ 20 := by
  unfold I64 at h
  by_cases c : n < 0
  · rw [Num.itoa_neg' c, List.length_cons]
    have := decDigits_le 18 n.natAbs (by omega); omega
  · rw [Num.itoa_pos (by omega)]
    have := decDigits_le 18 n.toNat (by omega); omega
theorem strItoa_is {n : Int} (h : I64 n) : strconv_Itoa.f n = some (mk (Lib.itoa n)) := by
  unfold I64 at h; unfold strconv_Itoa.f mk; rw [if_pos (by omega)]
theorem mk_size (p : List UInt8) : (mk p).size = p.length := by rw [size_data]; unfold mk; rw [Num.data_mk]
theorem mk_data (p : List UInt8) : (mk p).data.toList = p := by unfold mk; rw [Num.data_mk]
theorem mk_self (s : ByteArray) : mk s.data.toList = s := Num.str_ext (mk_data _)
theorem app_eq {a b : ByteArray} {p q : List UInt8} (ha : a = mk p) (hb : b = mk q) : a ++ b = mk (p ++ q) := by subst ha hb; exact Num.str_ext (by rw [Num.data_append, mk_data, mk_data, mk_data])
theorem number_mk {n : Int} (h : I64 n) (k : Nat) (hk : 60 ≤ k) : petrinetref04_Number.f k n = some (mk (Lib.itoa n)) := number_is n h k hk
/-! ### markings as texts -/
theorem cur_step (L : List UInt8) (f i : Nat) (hf : f ≤ i) (hi : i < L.length) : (L.drop f).take (i + 1 - f) = (L.drop f).take (i - f) ++ [L[i]] := by
  have e : i + 1 - f = (i - f) + 1 := by omega
  have h : i - f < (L.drop f).length := by rw [List.length_drop]; omega
  rw [e, List.take_succ_eq_append_getElem h, List.getElem_drop]
  congr 3; omega
theorem cur_self (L : List UInt8) (i : Nat) : (L.drop i).take (i - i) = [] := by rw [Nat.sub_self]; rfl
/-! ### petrinetref04.Split -/
theorem split_l (s : ByteArray) (c : UInt8) (hs : s.size ≤ 1000000) (n : Nat) : ∀ (k f i : Nat) (out : List ByteArray), s.size - i = n → i ≤ s.size → f ≤ i → out.length ≤ i → n + 1 < k →
    petrinetref04_Split.l0 k s (c.toNat : Int) out (f : Int) (i : Int) = some (out ++ (Num.splitAcc c ((s.data.toList.drop f).take (i - f)) (s.data.toList.drop i)).map mk) := by
  have hsz := size_data s
  induction n with
  | zero =>
    intro k f i out hn hi hf ho hk
    obtain ⟨k, rfl⟩ : ∃ j, k = j + 2 := ⟨k - 2, by omega⟩
    obtain rfl : i = s.size := by omega
    show petrinetref04_Split.l0 ((k + 1) + 1) s _ out _ _ = _
    simp only [petrinetref04_Split.l0]
    rw [if_pos (by omega), if_pos trivial, if_pos (by omega), if_pos (by omega), if_pos (by omega), wrap_succ _ (by omega)]
    rw [if_neg (by omega), drop_end s.data.toList s.size (by omega)]
    simp only [Num.splitAcc, List.map_cons, List.map_nil, Int.toNat_natCast]
    rw [mk_extract]
  | succ n ih =>
    intro k f i out hn hi hf ho hk
    obtain ⟨k, rfl⟩ := fuel hk
    have hi' : i < s.data.toList.length := by omega
    simp only [petrinetref04_Split.l0]
    rw [if_pos (by omega), if_neg (by omega), if_pos (by omega), if_pos (by omega), bt_get s i hi', drop_cons _ _ hi', wrap_succ i (by omega)]
    by_cases e : s.data.toList[i] = c
    · rw [if_pos (by rw [e]), if_pos (by omega), if_pos (by omega), if_pos (by omega)]
      rw [ih k (i + 1) (i + 1) _ (by omega) (by omega) (Nat.le_refl _) (by simp; omega) (by omega), cur_self, Num.splitAcc, if_pos e]
      simp only [Int.toNat_natCast, List.map_cons]
      rw [mk_extract]; simp
    · rw [if_neg (fun h => e (UInt8.toNat_inj.mp (by omega)))]
      rw [ih k f (i + 1) _ (by omega) (by omega) (by omega) (by omega) (by omega), cur_step _ f i hf hi', Num.splitAcc, if_neg e]
theorem split_is (s : ByteArray) (c : UInt8) (hs : s.size ≤ 1000000) (k : Nat) (hk : s.size + 1 < k) : petrinetref04_Split.f k s (c.toNat : Int) = some ((Num.splitB c s.data.toList).map mk) := by
  unfold petrinetref04_Split.f
  have := split_l s c hs s.size k 0 0 [] (by omega) (by omega) (by omega) (by simp) hk
  simpa [Num.splitB] using this
/-! ### petrinetref04.Natural -/
def natR (l : List UInt8) (most : Int) : Int := if (∀ c ∈ l, Num.isDig c) ∧ l.length ≤ 10 ∧ Lib.decDigits (Num.dval 0 l) = l ∧ (Num.dval 0 l : Int) ≤ most then (Num.dval 0 l : Int) else -1
theorem dval_lt' (l : List UInt8) : ∀ a, (∀ c ∈ l, Num.isDig c) → Num.dval a l < (a + 1) * 10 ^ l.length := by
  induction l with
  | nil => intro a _; rw [Num.dval_nil]; simp
  | cons c l ih =>
    intro a h
    have hc := h c (List.mem_cons_self ..)
    unfold Num.isDig at hc
    have h1 := ih (a * 10 + (c.toNat - 48)) (fun d hd => h d (List.mem_cons_of_mem _ hd))
    rw [Num.dval_cons, List.length_cons, Nat.pow_succ]
    have h2 : (a * 10 + (c.toNat - 48) + 1) * 10 ^ l.length ≤ ((a + 1) * 10) * 10 ^ l.length := Nat.mul_le_mul_right _ (by omega)
    have h3 : (a + 1) * (10 ^ l.length * 10) = ((a + 1) * 10) * 10 ^ l.length := by rw [Nat.mul_assoc, Nat.mul_comm 10]
    omega
theorem dval_lt (l : List UInt8) (h : ∀ c ∈ l, Num.isDig c) : Num.dval 0 l < 10 ^ l.length := by
  have := dval_lt' l 0 h
  omega
theorem natural_end (s : ByteArray) (most : Int) (n k : Nat) (hk : 61 ≤ k) (hn : n < 10000000000) :
    ((petrinetref04_Number.f k (n : Int)).bind fun t => (if t.toList = s.toList then (if (n : Int) > most then (some (-1)) else (some (n : Int))) else (some (-1)))) = some (if Lib.decDigits n = s.data.toList ∧ (n : Int) ≤ most then (n : Int) else -1) := by
  rw [number_is (n : Int) (by unfold I64; omega) k (by omega)]
  simp only [Option.bind_some, Lib.toList_data, Num.itoa_nat]
  by_cases h : Lib.decDigits n = s.data.toList
  · rw [if_pos h]
    by_cases g : (n : Int) > most
    · rw [if_pos g, if_neg (by omega)]
    · rw [if_neg g, if_pos ⟨h, by omega⟩]
  · rw [if_neg h, if_neg (fun g => h g.1)]
theorem natural_l (s : ByteArray) (most : Int) (hs : s.size ≤ 1000000) (m : Nat) : ∀ (k i : Nat), s.size - i = m → i ≤ s.size → (∀ c ∈ s.data.toList.take i, Num.isDig c) → (0 < i → s.size ≤ 10) → m + 62 ≤ k →
    petrinetref04_Natural.l0 k s most (Num.dval 0 (s.data.toList.take i) : Nat) (i : Int) = some (natR s.data.toList most) := by
  have hsz := size_data s
  induction m with
  | zero =>
    intro k i hm hi hd h10 hk
    obtain ⟨k, rfl⟩ := fuel (show 0 < k by omega)
    have ht : s.data.toList.take i = s.data.toList := List.take_of_length_le (by omega)
    rw [ht] at hd ⊢
    have hlen : s.data.toList.length ≤ 10 := by omega
    have hv := dval_lt _ hd
    have hp : (10 : Nat) ^ s.data.toList.length ≤ 10 ^ 10 := Nat.pow_le_pow_right (by omega) hlen
    simp only [petrinetref04_Natural.l0]
    rw [if_neg (by omega), natural_end s most _ k (by omega) (by omega)]
    unfold natR
    congr 1
    by_cases c : Lib.decDigits (Num.dval 0 s.data.toList) = s.data.toList ∧ (Num.dval 0 s.data.toList : Int) ≤ most
    · rw [if_pos c, if_pos ⟨hd, hlen, c.1, c.2⟩]
    · rw [if_neg c, if_neg (fun h => c h.2.2)]
  | succ m ih =>
    intro k i hm hi hd h10 hk
    obtain ⟨k, rfl⟩ := fuel (show 0 < k by omega)
    have hi' : i < s.data.toList.length := by omega
    simp only [petrinetref04_Natural.l0]
    rw [if_pos (by omega), if_pos (by omega), bt_get s i hi']
    by_cases c1 : ((s.data.toList[i].toNat : Nat) : Int) < 48
    · rw [if_pos c1]; unfold natR; rw [if_neg (fun h => by have := h.1 _ (List.getElem_mem hi'); unfold Num.isDig at this; omega)]
    · rw [if_neg c1]
      by_cases c2 : ((s.data.toList[i].toNat : Nat) : Int) > 57
      · rw [if_pos c2]; unfold natR; rw [if_neg (fun h => by have := h.1 _ (List.getElem_mem hi'); unfold Num.isDig at this; omega)]
      · rw [if_neg c2]
        by_cases c3 : (s.size : Int) > 10
        · rw [if_pos c3]; unfold natR; rw [if_neg (fun h => by have := h.2.1; omega)]
        · rw [if_neg c3]
          have hv := dval_lt _ hd
          have hp : (10 : Nat) ^ (s.data.toList.take i).length ≤ 10 ^ 10 := Nat.pow_le_pow_right (by omega) (by rw [List.length_take]; omega)
          have ht : s.data.toList.take (i + 1) = s.data.toList.take i ++ [s.data.toList[i]] := List.take_succ_eq_append_getElem hi'
          have hstep : wrap64 (wrap64 (wrap64 (10 * ((Num.dval 0 (s.data.toList.take i) : Nat) : Int)) + wrap64 ((s.data.toList[i].toNat : Nat) : Int)) - 48) = ((Num.dval 0 (s.data.toList.take (i + 1)) : Nat) : Int) := by
            rw [ht, Num.dval_append, Num.dval_cons, Num.dval_nil]
            generalize Num.dval 0 (s.data.toList.take i) = v at *
            generalize s.data.toList[i].toNat = b at *
            have hv10 : v < 10000000000 := by omega
            clear hv hp ih hd ht hsz
            rw [wrap_id (10 * (v : Int)) (by omega), wrap_id ((b : Nat) : Int) (by omega), wrap_id (10 * (v : Int) + (b : Int)) (by omega), wrap_id (10 * (v : Int) + (b : Int) - 48) (by omega)]
            omega
          rw [hstep, wrap_succ i (by omega)]
          refine ih k (i + 1) (by omega) (by omega) ?_ (fun _ => by omega) (by omega)
          intro c hc
          rw [ht] at hc
          rcases List.mem_append.1 hc with hc | hc
          · exact hd c hc
          · rw [List.mem_singleton.1 hc]; unfold Num.isDig; omega
theorem natural_is (s : ByteArray) (most : Int) (hs : s.size ≤ 1000000) (k : Nat) (hk : s.size + 62 ≤ k) : petrinetref04_Natural.f k s most = some (natR s.data.toList most) := by
  unfold petrinetref04_Natural.f
  have := natural_l s most hs s.size k 0 (by omega) (by omega) (by simp) (fun h => by omega) hk
  simpa [Num.dval] using this
theorem natR_of (x most : Int) (h0 : 0 ≤ x) (h1 : x ≤ most) (hm : most < 10000000000) : natR (Lib.itoa x) most = x := by
  unfold natR
  rw [Num.itoa_pos h0, Num.dval_decDigits]
  have := decDigits_le 9 x.toNat (by omega)
  rw [if_pos ⟨Num.decDigits_dig _, this, rfl, by omega⟩]; omega
theorem natR_some (l : List UInt8) (most : Int) (h : ¬ natR l most < 0) : Lib.itoa (natR l most) = l ∧ 0 ≤ natR l most ∧ natR l most ≤ most := by
  unfold natR at *
  by_cases c : (∀ c ∈ l, Num.isDig c) ∧ l.length ≤ 10 ∧ Lib.decDigits (Num.dval 0 l) = l ∧ (Num.dval 0 l : Int) ≤ most
  · rw [if_pos c] at *
    exact ⟨by rw [Num.itoa_nat, c.2.2.1], by omega, c.2.2.2⟩
  · rw [if_neg c] at h; omega
/-! ### petrinetref04.Parse -/
theorem splitAcc_len (c : UInt8) (l : List UInt8) : ∀ acc, (∀ p ∈ Num.splitAcc c acc l, p.length ≤ acc.length + l.length) ∧ (Num.splitAcc c acc l).length ≤ l.length + 1 := by
  induction l with
  | nil => intro acc; simp [Num.splitAcc]
  | cons x r ih =>
    intro acc
    rw [Num.splitAcc]
    split
    · have := ih []
      refine ⟨fun p hp => ?_, by simp only [List.length_cons]; omega⟩
      rcases List.mem_cons.1 hp with rfl | hp
      · omega
      · have := this.1 p hp; simp at this ⊢; omega
    · have := ih (acc ++ [x])
      refine ⟨fun p hp => ?_, by simp only [List.length_cons]; omega⟩
      have := this.1 p hp; simp at this ⊢; omega

/-! ### system.split and petrinetref04.Split -/
theorem splA_is (s : ByteArray) (c : UInt8) (n : Nat) : ∀ (fr pos : Nat), s.size - pos = n → pos ≤ s.size → fr ≤ pos →
    splA s c.toNat n fr pos = (Num.splitAcc c ((s.data.toList.drop fr).take (pos - fr)) (s.data.toList.drop pos)).map mk := by
  have hsz := size_data s
  induction n with
  | zero =>
    intro fr pos hn hp hf
    obtain rfl : pos = s.size := by omega
    rw [splA, drop_end s.data.toList s.size (by omega)]
    simp only [Num.splitAcc, List.map_cons, List.map_nil]
    rw [mk_extract]
  | succ n ih =>
    intro fr pos hn hp hf
    have hp' : pos < s.data.toList.length := by omega
    have hps : pos < s.size := by omega
    rw [splA, dif_pos hps, drop_cons _ _ hp']
    have hget : s[pos]'hps = s.data.toList[pos] := rfl
    by_cases e : s.data.toList[pos] = c
    · rw [if_pos (by rw [hget, e]), ih (pos + 1) (pos + 1) (by omega) (by omega) (Nat.le_refl _), cur_self, Num.splitAcc, if_pos e, List.map_cons, mk_extract]
    · rw [if_neg (fun h => e (UInt8.toNat_inj.mp (by rw [← hget]; exact h))), ih fr (pos + 1) (by omega) (by omega) (by omega), cur_step _ fr pos hf hp', Num.splitAcc, if_neg e]
theorem syssplit_is (s : ByteArray) (c : UInt8) (hc : c.toNat < 128) (hs : s.size ≤ 1000000000) : system_split.f s (c.toNat : Int) = some ((Num.splitB c s.data.toList).map mk) := by
  unfold system_split.f
  rw [if_pos (by omega), Int.toNat_natCast, splA_is s c s.size 0 0 (by omega) (by omega) (by omega)]
  simp [Num.splitB]

/-! ### numbers of lines -/
theorem snumber_is (s : ByteArray) (hs : s.size ≤ 1000000) : system_number.f s = some (if natR s.data.toList 1048576 < 0 then (0, false) else (natR s.data.toList 1048576, true)) := by
  unfold system_number.f strconv_Atoi.f
  rw [if_pos (by omega), Option.bind_some]
  by_cases c : natR s.data.toList 1048576 < 0
  · rw [if_pos c]
    cases e : Lib.atoiAll s.data.toList with
    | ok n =>
      simp only [Option.isNone_none, if_true]
      by_cases h0 : n < 0
      · rw [if_pos h0]
      · rw [if_neg h0]
        by_cases h1 : n > 1048576
        · rw [if_pos h1]
        · rw [if_neg h1, strItoa_is (by unfold I64; omega), Option.bind_some, if_neg]
          intro h
          rw [Lib.toList_data, Lib.toList_data, mk_data] at h
          rw [← h, natR_of n 1048576 (by omega) (by omega) (by omega)] at c
          omega
    | _ => rfl
  · rw [if_neg c]
    obtain ⟨h1, h2, h3⟩ := natR_some _ _ c
    generalize natR s.data.toList 1048576 = v at *
    have e : Lib.atoiAll s.data.toList = .ok v := by rw [← h1]; exact Num.atoi_itoa v (by omega) (by omega)
    rw [e]
    simp only [Option.isNone_none, if_true]
    rw [if_neg (by omega), if_neg (by omega), strItoa_is (by unfold I64; omega), Option.bind_some, if_pos (by rw [Lib.toList_data, Lib.toList_data, mk_data, h1])]
theorem rnat_ev (s : ByteArray) (hs : s.size ≤ 1000000) : Ev (fun k => petrinetref04_Natural.f k s 1048576) (natR s.data.toList 1048576) := ⟨s.size + 62, fun k hk => natural_is s 1048576 hs k hk⟩
theorem dl_inj {a b : ByteArray} (h : dl a = dl b) : a = b := Num.str_ext h
theorem dl_mk (p : List UInt8) : dl (mk p) = p := mk_data p
theorem fnd_fd (x : ByteArray) (l : List ByteArray) : ∀ i, fd (dl x) (vls l) i = (match fnd x l i with | some j => (j : Int) | none => -1) := by
  induction l with
  | nil => intro i; rfl
  | cons y l ih =>
    intro i
    show fd (dl x) (dl y :: vls l) i = _
    rw [fd, fnd]
    by_cases c : y = x
    · rw [if_pos c, if_pos (by rw [c])]
    · rw [if_neg c, if_neg (fun h => c (dl_inj h)), ih]
theorem fnd_spec (x : ByteArray) (l : List ByteArray) : ∀ i j, fnd x l i = some j → ∃ m, j = i + m ∧ ∃ h : m < l.length, l[m] = x := by
  induction l with
  | nil => intro i j h; simp [fnd] at h
  | cons y l ih =>
    intro i j h
    rw [fnd] at h
    by_cases c : y = x
    · rw [if_pos c] at h
      exact ⟨0, by simpa using (Option.some.inj h).symm, by simp, by simpa using c⟩
    · rw [if_neg c] at h
      obtain ⟨m, h1, h2, h3⟩ := ih _ _ h
      exact ⟨m + 1, by omega, by simp; omega, by simpa using h3⟩
theorem fnd_at (l : List ByteArray) : ∀ (m i : Nat) (h : m < l.length), (∀ j (hj : j < m), l[j]'(by omega) ≠ l[m]) → fnd l[m] l i = some (i + m) := by
  induction l with
  | nil => intro m i h; simp at h
  | cons y l ih =>
    intro m i h hne
    cases m with
    | zero => simp [fnd]
    | succ m =>
      have h0 := hne 0 (by omega)
      simp only [List.getElem_cons_zero, List.getElem_cons_succ] at h0 ⊢
      rw [fnd, if_neg h0, ih m (i + 1) (by simpa using h) (fun j hj => by have := hne (j + 1) (by omega); simpa using this)]
      congr 1; omega
/-! ### a line of a system's text -/
abbrev St44 := Int × List ByteArray × List S46
def lnS (s : St44) (first : Bool) : List ByteArray → Option St44
  | [a, b] => if first = true then (if a = tStates ∧ 0 ≤ natR (dl b) 1048576 then some (natR (dl b) 1048576, s.2.1, s.2.2) else none)
      else (if a = tEvent ∧ b ≠ tNone ∧ s.2.2 = [] then some (s.1, s.2.1 ++ [b], s.2.2) else none)
  | [a, b, c] => if first = true then none else (if 0 ≤ natR (dl a) 1048576 ∧ 0 ≤ natR (dl c) 1048576 then (match fnd b s.2.1 0 with | some i => some (s.1, s.2.1, s.2.2 ++ [⟨natR (dl a) 1048576, (i : Int), natR (dl c) 1048576⟩]) | none => none) else none)
  | _ => none
theorem sarc_is (ev : List ByteArray) (av : List S46) (a b c : ByteArray) (ha : a.size ≤ 1000000) (hc : c.size ≤ 1000000) (hv : av.length ≤ 1000000) (he : ev.length ≤ 1000000000) (st : Int) :
    ∃ r, system_arc.f ev av [a, b, c] = some r ∧ (r.1 = true → lnS (st, ev, av) false [a, b, c] = some (st, ev, r.2)) ∧ (r.1 = false → lnS (st, ev, av) false [a, b, c] = none) := by
  unfold system_arc.f lnS
  simp only [snumber_is a ha, snumber_is c hc, Option.bind_some, Bool.false_eq_true, if_false]
  show ∃ r, _ ∧ _ ∧ _
  simp only [show a.data.toList = dl a from rfl, show c.data.toList = dl c from rfl]
  by_cases h1 : natR (dl a) 1048576 < 0
  · rw [if_pos h1, if_neg (by simp)]
    exact ⟨_, rfl, by simp, fun _ => by rw [if_neg (by omega)]⟩
  · rw [if_neg h1]
    by_cases h2 : natR (dl c) 1048576 < 0
    · rw [if_pos h2, if_neg (by simp)]
      exact ⟨_, rfl, by simp, fun _ => by rw [if_neg (by omega)]⟩
    · have h3 : 0 ≤ natR (dl a) 1048576 ∧ 0 ≤ natR (dl c) 1048576 := ⟨by omega, by omega⟩
      rw [if_neg h2, if_pos ⟨rfl, rfl⟩]
      cases fnd b ev 0 with
      | none => exact ⟨(false, av), by simp only []; rw [if_pos he], by simp, fun _ => by rw [if_pos h3]⟩
      | some i => exact ⟨(true, av ++ [⟨natR (dl a) 1048576, (i : Int), natR (dl c) 1048576⟩]), by simp only []; rw [if_pos ⟨by omega, by omega⟩], fun _ => by rw [if_pos h3], by simp⟩
def ws32 (x : ByteArray) : List ByteArray := (Num.splitB 32 (dl x)).map mk
theorem ws_len (x : ByteArray) : ∀ y ∈ ws32 x, y.size ≤ x.size := by
  intro y hy
  unfold ws32 at hy
  obtain ⟨p, hp, rfl⟩ := List.mem_map.1 hy
  have := (splitAcc_len 32 (dl x) []).1 p hp
  rw [mk_size]
  have h2 := size_data x
  unfold dl at this
  simp at this; simp at h2; omega
theorem sline_is (st : Int) (ev : List ByteArray) (av : List S46) (x : ByteArray) (first : Bool) (hx : x.size ≤ 1000000) (hv : av.length ≤ 1000000) (he : ev.length ≤ 1000000) :
    ∃ r, system_line.f st ev av x first = some r ∧ (r.1 = true → lnS (st, ev, av) first (ws32 x) = some r.2) ∧ (r.1 = false → lnS (st, ev, av) first (ws32 x) = none) := by
  have hw := ws_len x
  have e32 : ((32 : UInt8).toNat : Int) = 32 := rfl
  have hs := syssplit_is x 32 (by decide) (by omega)
  rw [e32] at hs
  unfold system_line.f
  rw [hs, Option.bind_some]
  show ∃ r, system_line.g st ev av first (ws32 x) = some r ∧ _ ∧ _
  generalize ws32 x = ws at *
  match ws, hw with
  | [], _ => exact ⟨_, rfl, by simp, fun _ => rfl⟩
  | [a], _ => exact ⟨_, rfl, by simp, fun _ => rfl⟩
  | [a, b], hw =>
    have hb := hw b (by simp)
    cases first with
    | true =>
      simp only [system_line.g, if_true]
      by_cases ha : a = tStates
      · rw [if_pos ha, snumber_is b (by omega), Option.bind_some]
        by_cases h1 : natR b.data.toList 1048576 < 0
        · rw [if_pos h1]; exact ⟨_, rfl, by simp, fun _ => by rw [lnS, if_pos rfl, if_neg]; intro h; have := h.2; unfold dl at this; omega⟩
        · rw [if_neg h1]; exact ⟨_, rfl, fun _ => by rw [lnS, if_pos rfl, if_pos ⟨ha, by unfold dl; omega⟩]; rfl, by simp⟩
      · rw [if_neg ha]; exact ⟨_, rfl, by simp, fun _ => by rw [lnS, if_pos rfl, if_neg (fun h => ha h.1)]⟩
    | false =>
      simp only [system_line.g, Bool.false_eq_true, if_false]
      by_cases ha : a = tEvent ∧ b ≠ tNone ∧ av = []
      · rw [if_pos ha, if_pos (by omega)]; exact ⟨_, rfl, fun _ => by rw [lnS, if_neg (by simp), if_pos ha], by simp⟩
      · rw [if_neg ha]; exact ⟨_, rfl, by simp, fun _ => by rw [lnS, if_neg (by simp), if_neg ha]⟩
  | [a, b, c], hw =>
    cases first with
    | true => exact ⟨_, rfl, by simp, fun _ => rfl⟩
    | false =>
      obtain ⟨r, h1, h2, h3⟩ := sarc_is ev av a b c (by have := hw a (by simp); omega) (by have := hw c (by simp); omega) hv (by omega) st
      simp only [system_line.g, Bool.false_eq_true, if_false]
      rw [h1, Option.bind_some]
      exact ⟨_, rfl, h2, h3⟩
  | a :: b :: c :: d :: l, _ => exact ⟨_, by cases first <;> rfl, by simp, fun _ => rfl⟩
end Go.Proofs.YtcnliampiibpbaaDoor.Plain
