/- Plain lemmas on decimal numerals and on texts that are split at a byte and joined again. No condition. -/
import Derived.Lib.AtoiAll
import Derived.Lib.AtoiAllCases
import Derived.Lib.ItoaNum
import Derived.Lib.ItoaLen
import Derived.Lib.Strings
namespace Go.Proofs.YtcnliampiibpbaaDoor.Num
open Go

/-! ### digits -/
def isDig (c : UInt8) : Prop := 48 ≤ c.toNat ∧ c.toNat ≤ 57
instance (c : UInt8) : Decidable (isDig c) := inferInstanceAs (Decidable (_ ∧ _))
def dval (a : Nat) (l : List UInt8) : Nat := l.foldl (fun a c => a * 10 + (c.toNat - 48)) a
theorem dval_nil (a : Nat) : dval a [] = a := by unfold dval; rw [List.foldl_nil]
theorem dval_cons (a : Nat) (c : UInt8) (l : List UInt8) : dval a (c :: l) = dval (a * 10 + (c.toNat - 48)) l := by unfold dval; rw [List.foldl_cons]
theorem dval_append (a : Nat) (l m : List UInt8) : dval a (l ++ m) = dval (dval a l) m := by unfold dval; rw [List.foldl_append]
theorem dval_le (l : List UInt8) : ∀ a, a ≤ dval a l := by
  induction l with
  | nil => intro a; exact Nat.le_refl _
  | cons c l ih => intro a; rw [dval_cons]; have := ih (a * 10 + (c.toNat - 48)); omega
theorem dig_toNat (d : Nat) (h : d < 10) : (UInt8.ofNat (48 + d)).toNat = 48 + d := by
  rw [UInt8.toNat_ofNat']; omega
theorem dig_is (d : Nat) (h : d < 10) : isDig (UInt8.ofNat (48 + d)) := by unfold isDig; rw [dig_toNat d h]; omega
theorem decDigits_dig (u : Nat) : ∀ c ∈ Lib.decDigits u, isDig c := by
  induction u using Nat.strongRecOn with
  | _ u ih =>
    intro c hc
    by_cases h : u < 10
    · rw [Lib.decDigits, dif_pos h] at hc
      rw [List.mem_singleton.1 hc]; exact dig_is u h
    · rw [Lib.decDigits, dif_neg h] at hc
      rcases List.mem_append.1 hc with h' | h'
      · exact ih (u / 10) (by omega) c h'
      · rw [List.mem_singleton.1 h']; exact dig_is _ (by omega)
theorem decDigits_ne (u : Nat) : Lib.decDigits u ≠ [] := by
  rw [Lib.decDigits]; split <;> simp
theorem dval_decDigits (u : Nat) : dval 0 (Lib.decDigits u) = u := by
  induction u using Nat.strongRecOn with
  | _ u ih =>
    by_cases h : u < 10
    · rw [Lib.decDigits, dif_pos h, dval_cons, dval_nil, dig_toNat u h]; omega
    · rw [Lib.decDigits, dif_neg h, dval_append, ih (u / 10) (by omega), dval_cons, dval_nil, dig_toNat _ (by omega)]; omega
theorem parse_dval (l : List UInt8) : ∀ a, (∀ c ∈ l, isDig c) → dval a l < 18446744073709551616 → Lib.parseUint10 a l = .ok (dval a l) := by
  induction l with
  | nil => intro a _ _; rfl
  | cons c l ih =>
    intro a hd hl
    have hc := hd c (List.mem_cons_self ..)
    unfold isDig at hc
    rw [dval_cons] at hl
    have := dval_le l (a * 10 + (c.toNat - 48))
    rw [Lib.parseUint10, if_pos hc, if_neg (by omega), if_neg (by omega), ih _ (fun c h => hd c (List.mem_cons_of_mem _ h)) hl, dval_cons]
theorem itoa_nat (u : Nat) : Lib.itoa (u : Int) = Lib.decDigits u := by unfold Lib.itoa; rw [if_neg (by omega)]; simp
theorem itoa_pos {n : Int} (h : 0 ≤ n) : Lib.itoa n = Lib.decDigits n.toNat := by unfold Lib.itoa; rw [if_neg (by omega)]
theorem itoa_neg' {n : Int} (h : n < 0) : Lib.itoa n = 45 :: Lib.decDigits n.natAbs := by unfold Lib.itoa; rw [if_pos h]
/-- No byte of a numeral is a comma; of one without a sign each is a digit. -/
theorem itoa_mem (n : Int) (c : UInt8) (h : c ∈ Lib.itoa n) : c = 45 ∨ isDig c := by
  unfold Lib.itoa at h
  split at h
  · rcases List.mem_cons.1 h with h | h
    · exact .inl h
    · exact .inr (decDigits_dig _ c h)
  · exact .inr (decDigits_dig _ c h)
theorem notDig_of {c d : UInt8} (hc : isDig c) (hd : d.toNat < 48 ∨ 57 < d.toNat) : c ≠ d := by
  rintro rfl; unfold isDig at hc; omega
theorem itoa_notin (n : Int) (d : UInt8) (hd : d.toNat < 48 ∨ 57 < d.toNat) (h45 : d ≠ 45) : d ∉ Lib.itoa n := by
  intro h
  rcases itoa_mem n d h with h | h
  · exact h45 h
  · exact notDig_of h hd rfl
theorem head_dig {l : List UInt8} (hd : ∀ c ∈ l, isDig c) (hne : l ≠ []) : ∃ c r, l = c :: r ∧ isDig c := by
  cases l with
  | nil => exact absurd rfl hne
  | cons c r => exact ⟨c, r, rfl, hd c (List.mem_cons_self ..)⟩
theorem parseMag_dec (u : Nat) (hu : u < 18446744073709551616) : Lib.parseMag (Lib.decDigits u) = .ok u := by
  unfold Lib.parseMag
  rw [if_neg (decDigits_ne u), parse_dval _ 0 (decDigits_dig u) (by rw [dval_decDigits]; exact hu), dval_decDigits]
/-- What Itoa writes Atoi reads. -/
theorem atoi_itoa (n : Int) (h0 : -9223372036854775808 ≤ n) (h1 : n ≤ 9223372036854775807) : Lib.atoiAll (Lib.itoa n) = .ok n := by
  by_cases h : n < 0
  · rw [itoa_neg' h]
    unfold Lib.atoiAll
    simp only
    rw [if_pos (.inr (by decide)), parseMag_dec _ (by omega)]
    have e : (45 : UInt8).toNat = 45 := by decide
    simp only [e, not_true, false_and, if_false, true_and, if_true]
    rw [if_neg (by omega)]
    congr 1; omega
  · rw [itoa_pos (by omega)]
    obtain ⟨c, r, e, hc⟩ := head_dig (decDigits_dig n.toNat) (decDigits_ne _)
    have hm := parseMag_dec n.toNat (by omega)
    rw [e] at hm ⊢
    unfold Lib.atoiAll
    unfold isDig at hc
    simp only
    rw [if_neg (by omega), hm]
    simp only
    rw [if_neg (by omega), if_neg (by omega), if_neg (by omega)]
    congr 1; omega
/-! ### splitting at a byte, and joining -/
def splitAcc (c : UInt8) : List UInt8 → List UInt8 → List (List UInt8)
  | acc, [] => [acc]
  | acc, x :: r => if x = c then acc :: splitAcc c [] r else splitAcc c (acc ++ [x]) r
def splitB (c : UInt8) (l : List UInt8) : List (List UInt8) := splitAcc c [] l
def joinB (c : UInt8) : List (List UInt8) → List UInt8
  | [] => []
  | [p] => p
  | p :: q :: r => p ++ c :: joinB c (q :: r)
theorem splitAcc_ne (c : UInt8) (l : List UInt8) : ∀ acc, splitAcc c acc l ≠ [] := by
  induction l with
  | nil => intro acc; simp [splitAcc]
  | cons x r ih => intro acc; rw [splitAcc]; split; simp; exact ih _
theorem splitB_ne (c : UInt8) (l : List UInt8) : splitB c l ≠ [] := splitAcc_ne c l []
theorem joinB_cons (c : UInt8) (p : List UInt8) (ps : List (List UInt8)) (h : ps ≠ []) : joinB c (p :: ps) = p ++ c :: joinB c ps := by
  cases ps with
  | nil => exact absurd rfl h
  | cons q r => rfl
theorem join_splitAcc (c : UInt8) (l : List UInt8) : ∀ acc, joinB c (splitAcc c acc l) = acc ++ l := by
  induction l with
  | nil => intro acc; simp [splitAcc, joinB]
  | cons x r ih =>
    intro acc
    rw [splitAcc]
    split
    · rename_i h; subst h; rw [joinB_cons _ _ _ (splitAcc_ne _ _ _), ih]; rfl
    · rw [ih]; simp
theorem join_split (c : UInt8) (l : List UInt8) : joinB c (splitB c l) = l := join_splitAcc c l []
theorem splitAcc_piece (c : UInt8) (p : List UInt8) (hp : c ∉ p) : ∀ acc r, splitAcc c acc (p ++ r) = splitAcc c (acc ++ p) r := by
  induction p with
  | nil => intro acc r; simp
  | cons x p ih =>
    intro acc r
    have hx : x ≠ c := fun e => hp (e ▸ List.mem_cons_self ..)
    rw [List.cons_append, splitAcc, if_neg hx, ih (fun h => hp (List.mem_cons_of_mem _ h))]; simp
theorem split_join (c : UInt8) (ps : List (List UInt8)) (hne : ps ≠ []) (hp : ∀ p ∈ ps, c ∉ p) : splitB c (joinB c ps) = ps := by
  unfold splitB
  induction ps with
  | nil => exact absurd rfl hne
  | cons p ps ih =>
    have hc := hp p (List.mem_cons_self ..)
    cases ps with
    | nil =>
      rw [joinB]
      have := splitAcc_piece c p hc [] []
      rw [List.append_nil] at this
      rw [this]; simp [splitAcc]
    | cons q r =>
      rw [joinB_cons _ _ _ (by simp), splitAcc_piece c p hc, splitAcc, if_pos rfl, ih (by simp) (fun p h => hp p (List.mem_cons_of_mem _ h))]; simp
/-! ### bytes of a string -/
theorem str_ext {a b : ByteArray} (h : a.data.toList = b.data.toList) : a = b := by
  rw [← Lib.mk_data a, ← Lib.mk_data b, h]
theorem data_mk (l : List UInt8) : (ByteArray.mk l.toArray).data.toList = l := by simp
theorem data_append (a b : ByteArray) : (a ++ b).data.toList = a.data.toList ++ b.data.toList := by simp
end Go.Proofs.YtcnliampiibpbaaDoor.Num
