/- Plain laws over the printed functions: what each comes to. No condition but the ones written. -/
import Derived.Test.YtcnliampiibpbaaDoorNum
import Derived.Lib.Strings
import Derived.OpenShut
import Derived.Test.YtcnliampiibpbaaDoorPAllx11
import Derived.Test.YtcnliampiibpbaaDoorPAllx13
import Derived.Test.YtcnliampiibpbaaDoorPAllx15
import Derived.Test.YtcnliampiibpbaaDoorPAllx3
import Derived.Test.YtcnliampiibpbaaDoorPAllx4
namespace Go.Proofs.YtcnliampiibpbaaDoor.Plain
open Go Go.RowKit Go.Proofs.YtcnliampiibpbaaDoor.PAll Go.Proofs.YtcnliampiibpbaaDoorW.PrintWords Go.Proofs.YtcnliampiibpbaaDoorW.PrintLast Go.Proofs.YtcnliampiibpbaaDoorW.PrintMore
set_option linter.unusedVariables false
def I64 (a : Int) : Prop := -9223372036854775808 ≤ a ∧ a < 9223372036854775808
theorem wrap_succ (i : Nat) (h : i < 9223372036854775807) : wrap64 ((i : Int) + 1) = ((i + 1 : Nat) : Int) := by unfold wrap64; omega
theorem wrap_id (x : Int) (h : -9223372036854775808 ≤ x ∧ x < 9223372036854775808) : wrap64 x = x := by unfold wrap64; omega
theorem rd_get (l : List Int) (i : Nat) (h : i < l.length) : rd l (i : Int) = l[i] := by
  unfold rd; rw [Int.toNat_natCast, List.getD_eq_getElem?_getD, List.getElem?_eq_getElem h]; rfl
theorem rdOf_get {α : Type} (d : α) (l : List α) (i : Nat) (h : i < l.length) : rdOf d l (i : Int) = l[i] := by
  unfold rdOf; rw [Int.toNat_natCast, List.getD_eq_getElem?_getD, List.getElem?_eq_getElem h]; rfl
theorem size_data (s : ByteArray) : s.size = s.data.toList.length := Lib.size_eq s
theorem bt_get (s : ByteArray) (i : Nat) (h : i < s.data.toList.length) : bt s (i : Int) = ((s.data.toList[i]'h).toNat : Int) := by
  have h' : i < s.size := by rw [size_data]; exact h
  unfold bt
  simp only [Int.toNat_natCast]
  rw [dif_pos h']
  rfl
theorem drop_cons {α : Type} (l : List α) (i : Nat) (h : i < l.length) : l.drop i = l[i] :: l.drop (i + 1) := List.drop_eq_getElem_cons h
theorem drop_end {α : Type} (l : List α) (i : Nat) (h : l.length ≤ i) : l.drop i = [] := List.drop_eq_nil_of_le h
/-- The fuel is one more. -/
theorem fuel {n k : Nat} (h : n < k) : ∃ m, k = m + 1 := ⟨k - 1, by omega⟩
def mk (p : List UInt8) : ByteArray := ByteArray.mk p.toArray
theorem mk_extract (s : ByteArray) (f i : Nat) : s.extract f i = mk ((s.data.toList.drop f).take (i - f)) := Num.str_ext (by unfold mk; rw [Lib.extract_data, Num.data_mk])

/-! ### Name, Find, Check, Shift of a system -/
def nmB (s : ByteArray) : Bool := decide (1 ≤ s.size ∧ s.size ≤ 16) && nmFrom s s.size 0
theorem bt_at (s : ByteArray) (i : Nat) (h : i < s.size) : bt s (i : Int) = ((s[i]'h).toNat : Int) := by
  unfold bt; simp only [Int.toNat_natCast]; rw [dif_pos h]
theorem rname_l (s : ByteArray) (hs : s.size ≤ 1000000) (n : Nat) : ∀ (k i : Nat), s.size - i = n → i ≤ s.size → n < k → petrinetref09_Name.l0 k s (i : Int) = some (nmFrom s n i) := by
  induction n with
  | zero =>
    intro k i hn hi hk
    obtain ⟨k, rfl⟩ := fuel hk
    simp only [petrinetref09_Name.l0]
    rw [if_neg (by omega), nmFrom]
  | succ n ih =>
    intro k i hn hi hk
    obtain ⟨k, rfl⟩ := fuel hk
    have h : i < s.size := by omega
    simp only [petrinetref09_Name.l0]
    rw [if_pos (by omega), if_pos (by omega), bt_at s i h, wrap_succ i (by omega), ih k (i + 1) (by omega) (by omega) (by omega), nmFrom, dif_pos h]
    generalize nmFrom s n (i + 1) = T
    generalize (s[i]'h).toNat = B
    cases e : nmByte B i with
    | true =>
      rw [Bool.true_and]
      unfold nmByte at e; simp at e
      repeat' split
      all_goals first | rfl | (exfalso; omega)
    | false =>
      rw [Bool.false_and]
      unfold nmByte at e; simp at e
      repeat' split
      all_goals first | rfl | (exfalso; omega)
theorem rname_is (s : ByteArray) (k : Nat) (hk : 30 ≤ k) : petrinetref09_Name.f k s = some (nmB s) := by
  obtain ⟨k, rfl⟩ := fuel (show 0 < k by omega)
  unfold petrinetref09_Name.f nmB
  by_cases h1 : (s.size : Int) < 1
  · rw [if_pos h1, decide_eq_false (by omega)]; rfl
  · rw [if_neg h1]
    by_cases h2 : (s.size : Int) > 16
    · rw [decide_eq_true h2, decide_eq_false (by omega)]; rfl
    · rw [decide_eq_false h2, decide_eq_true (by omega)]
      simp only [petrinetref09_Name.j0]
      rw [if_neg (by simp), Bool.true_and]
      exact rname_l s (by omega) _ k 0 rfl (by omega) (by omega)
theorem name_is (s : ByteArray) : system_name.f s = some (nmB s) := rfl

/-! ### Check: what both sides say -/
def dl (s : ByteArray) : List UInt8 := s.data.toList
def vls (l : List ByteArray) : List (List UInt8) := l.map dl
theorem vls_len (l : List ByteArray) : (vls l).length = l.length := by unfold vls; rw [List.length_map]
theorem vls_get (l : List ByteArray) (i : Nat) (h : i < l.length) : (vls l)[i]'(by rw [vls_len]; exact h) = l[i].data.toList := by unfold vls dl; rw [List.getElem_map]
/-- The first fault of the names from the i-th on. -/
def ckNames (l : List ByteArray) : Nat → Nat → Option (Int × Int)
  | 0, _ => none
  | n + 1, i => if nmB (l.getD i ByteArray.empty) = true then (if dl (l.getD i ByteArray.empty) ∈ (vls l).take i then some (6, (i : Int)) else ckNames l n (i + 1)) else some (5, (i : Int))
theorem getD_get (l : List ByteArray) (i : Nat) (h : i < l.length) : l.getD i ByteArray.empty = l[i] := by rw [List.getD_eq_getElem?_getD, List.getElem?_eq_getElem h]; rfl
theorem sck_l1 (l : List ByteArray) (hl : l.length ≤ 1000) (i : Nat) (hi : i < l.length) (y : ByteArray) (a : Int) (l2 : List S46) (K : Nat) (R : Int × Int) (hc : ∀ k', K ≤ k' → system_Check.l0 k' l (l.length : Int) (wrap64 ((i : Int) + 1)) a l l2 = some R) (n : Nat) : ∀ (k j : Nat), i - j = n → j ≤ i → n + K < k →
    system_Check.l1 k (i : Int) y l (l.length : Int) (i : Int) (l.take i) ((l.take i).length : Int) (j : Int) a l l2 = some (if dl y ∈ ((vls l).take i).drop j then (6, (i : Int)) else R) := by
  have ht : (l.take i).length = i := by rw [List.length_take]; omega
  have hv := vls_len l
  induction n with
  | zero =>
    intro k j hn hj hk
    obtain ⟨k, rfl⟩ := fuel (show 0 < k by omega)
    simp only [system_Check.l1, ht]
    rw [if_neg (by omega), hc k (by omega), List.drop_eq_nil_of_le (by rw [List.length_take]; omega), if_neg (by simp)]
  | succ n ih =>
    intro k j hn hj hk
    obtain ⟨k, rfl⟩ := fuel (show 0 < k by omega)
    have hjl : j < l.length := by omega
    have ih' := ih k (j + 1) (by omega) (by omega) (by omega)
    rw [ht] at ih'
    simp only [system_Check.l1, ht, Lib.toList_data]
    rw [if_pos (by omega), if_pos (by omega), if_pos (by omega), rdOf_get _ (l.take i) j (by omega), List.getElem_take, wrap_succ j (by omega), ih', List.drop_eq_getElem_cons (show j < ((vls l).take i).length by rw [List.length_take]; omega), List.getElem_take, vls_get l j hjl]
    by_cases e : y.data.toList = l[j].data.toList
    · rw [if_pos e, if_pos (show dl y ∈ l[j].data.toList :: ((vls l).take i).drop (j + 1) from List.mem_cons.mpr (.inl e))]
    · rw [if_neg e]
      by_cases g : dl y ∈ ((vls l).take i).drop (j + 1)
      · rw [if_pos g, if_pos (show dl y ∈ l[j].data.toList :: ((vls l).take i).drop (j + 1) from List.mem_cons.mpr (.inr g))]
      · rw [if_neg g, if_neg (show ¬ dl y ∈ l[j].data.toList :: ((vls l).take i).drop (j + 1) from fun q => (List.mem_cons.mp q).elim e g)]
set_option maxRecDepth 100000 in
theorem sck_l0 (l : List ByteArray) (hl : l.length ≤ 1000) (a : Int) (l2 : List S46) (K : Nat) (R : Int × Int) (hc : ∀ k', K ≤ k' → system_Check.l2 k' l2 (l2.length : Int) 0 a l l2 = some R) (n : Nat) : ∀ (k i : Nat), l.length - i = n → i ≤ l.length → n * 1002 + K < k →
    system_Check.l0 k l (l.length : Int) (i : Int) a l l2 = some ((ckNames l n i).getD R) := by
  induction n with
  | zero =>
    intro k i hn hi hk
    obtain ⟨k, rfl⟩ := fuel (show 0 < k by omega)
    simp only [system_Check.l0]
    rw [if_neg (by omega), hc k (by omega), ckNames]; rfl
  | succ n ih =>
    intro k i hn hi hk
    obtain ⟨k, rfl⟩ := fuel (show 0 < k by omega)
    have hil : i < l.length := by omega
    simp only [system_Check.l0]
    rw [if_pos (by omega), if_pos (by omega), if_pos (by omega), rdOf_get _ l i hil, name_is, Option.bind_some, ckNames, getD_get l i hil]
    by_cases e : nmB l[i] = true
    · rw [if_pos e, if_pos e, if_pos (by omega), Int.toNat_natCast]
      refine (sck_l1 l hl i hil l[i] a l2 (n * 1002 + K + 1) ((ckNames l n (i + 1)).getD R) (fun k' hk' => by rw [wrap_succ i (by omega)]; exact ih k' (i + 1) (by omega) (by omega) (by omega)) i k 0 (by omega) (by omega) (by omega)).trans ?_
      rw [List.drop_zero]
      by_cases g : dl l[i] ∈ (vls l).take i
      · rw [if_pos g, if_pos g]; rfl
      · rw [if_neg g, if_neg g]
    · rw [if_neg e, if_neg e]; rfl

/-! ### Check: the arcs -/
def arcOk (a : Int) (m : Nat) (x : S46) : Bool := decide (0 ≤ x.f0 ∧ x.f0 < a ∧ 0 ≤ x.f2 ∧ x.f2 < a ∧ 0 ≤ x.f1 ∧ x.f1 < (m : Int))
def arcBef (x y : S46) : Bool := if x.f0 = y.f0 then (if x.f1 = y.f1 then decide (x.f2 < y.f2) else decide (x.f1 < y.f1)) else decide (x.f0 < y.f0)
def ckArcs (a : Int) (m : Nat) (l2 : List S46) : Nat → Nat → Int × Int
  | 0, _ => (0, 0)
  | n + 1, i => if arcOk a m (rd_T46 l2 (i : Int)) = true then (if i = 0 then ckArcs a m l2 n 1 else (if arcBef (rd_T46 l2 ((i - 1 : Nat) : Int)) (rd_T46 l2 (i : Int)) = true then ckArcs a m l2 n (i + 1) else (8, (i : Int)))) else (1, (i : Int))
theorem wrap_pred (i : Nat) (h : 0 < i) (h2 : i < 9223372036854775807) : wrap64 ((i : Int) - 1) = ((i - 1 : Nat) : Int) := by unfold wrap64; omega
theorem inside_is (x n : Int) : system_Check_1.f x n = some (decide (0 ≤ x ∧ x < n)) := by
  unfold system_Check_1.f
  by_cases h : x ≥ 0
  · rw [if_pos h]; congr 1; by_cases g : x < n
    · rw [decide_eq_true g, decide_eq_true ⟨h, g⟩]
    · rw [decide_eq_false g, decide_eq_false (fun q => g q.2)]
  · rw [if_neg h, decide_eq_false (fun q => h q.1)]
theorem before_is (x y : S46) : system_before.f x.f0 x.f1 x.f2 y.f0 y.f1 y.f2 = some (arcBef x y) := by
  unfold system_before.f arcBef
  repeat' split
  all_goals rfl
set_option maxRecDepth 100000 in
theorem sck_l2 (l : List ByteArray) (a : Int) (l2 : List S46) (hl : l2.length ≤ 1000000) (n : Nat) : ∀ (k i : Nat), l2.length - i = n → i ≤ l2.length → 2 * n < k →
    system_Check.l2 k l2 (l2.length : Int) (i : Int) a l l2 = some (ckArcs a l.length l2 n i) := by
  induction n with
  | zero =>
    intro k i hn hi hk
    obtain ⟨k, rfl⟩ := fuel (show 0 < k by omega)
    simp only [system_Check.l2]
    rw [if_neg (by omega), ckArcs]
  | succ n ih =>
    intro k i hn hi hk
    obtain ⟨k, rfl⟩ := fuel (show 0 < k by omega)
    obtain ⟨k, rfl⟩ := fuel (show 0 < k by omega)
    have hil : i < l2.length := by omega
    have hj : ∀ b : Bool, system_Check.j4 (k + 1) (i : Int) l2 (l2.length : Int) (i : Int) b a l l2 (rd_T46 l2 (i : Int)).f0 (rd_T46 l2 (i : Int)).f1 (rd_T46 l2 (i : Int)).f2 = some (if b = true then (1, (i : Int)) else (if i = 0 then ckArcs a l.length l2 n 1 else (if arcBef (rd_T46 l2 ((i - 1 : Nat) : Int)) (rd_T46 l2 (i : Int)) = true then ckArcs a l.length l2 n (i + 1) else (8, (i : Int))))) := by
      intro b
      simp only [system_Check.j4]
      by_cases e : b = true
      · rw [if_pos e, if_pos e]
      · rw [if_neg e, if_neg e]
        by_cases g : i = 0
        · rw [if_neg (by omega), if_pos g, wrap_succ i (by omega), ih k (i + 1) (by omega) (by omega) (by omega), g]
        · rw [if_pos (by omega), if_neg g, wrap_pred i (by omega) (by omega), if_pos (by omega), if_pos (by omega), before_is, Option.bind_some, wrap_succ i (by omega), ih k (i + 1) (by omega) (by omega) (by omega)]
          by_cases c : arcBef (rd_T46 l2 ((i - 1 : Nat) : Int)) (rd_T46 l2 (i : Int)) = true
          · rw [if_pos c, if_pos c]
          · rw [if_neg c, if_neg c]
    rw [system_Check.l2, if_pos (by omega), if_pos (by omega), if_pos (by omega), inside_is, Option.bind_some, ckArcs]
    generalize hx : rd_T46 l2 (i : Int) = x at *
    by_cases c0 : 0 ≤ x.f0 ∧ x.f0 < a
    · rw [if_pos (decide_eq_true c0), inside_is, Option.bind_some]
      by_cases c2 : 0 ≤ x.f2 ∧ x.f2 < a
      · rw [if_pos (decide_eq_true c2), inside_is, Option.bind_some, hj]
        by_cases c1 : 0 ≤ x.f1 ∧ x.f1 < (l.length : Int)
        · rw [decide_eq_true c1, if_neg (by decide), if_pos (show arcOk a l.length x = true from decide_eq_true ⟨c0.1, c0.2, c2.1, c2.2, c1.1, c1.2⟩)]
        · rw [decide_eq_false c1, if_pos (by decide), if_neg (show ¬ arcOk a l.length x = true from fun q => c1 ((of_decide_eq_true q).2.2.2.2))]
      · rw [if_neg (show ¬ decide (0 ≤ x.f2 ∧ x.f2 < a) = true from fun q => c2 (of_decide_eq_true q)), hj, if_pos rfl, if_neg (show ¬ arcOk a l.length x = true from fun q => c2 ⟨(of_decide_eq_true q).2.2.1, (of_decide_eq_true q).2.2.2.1⟩)]
    · rw [if_neg (show ¬ decide (0 ≤ x.f0 ∧ x.f0 < a) = true from fun q => c0 (of_decide_eq_true q)), hj, if_pos rfl, if_neg (show ¬ arcOk a l.length x = true from fun q => c0 ⟨(of_decide_eq_true q).1, (of_decide_eq_true q).2.1⟩)]
/-- What Check comes to. -/
def ckS (a : Int) (l : List ByteArray) (l2 : List S46) : Int × Int := if a < 1 ∨ a > 200 ∨ l.length > 24 then (2, 0) else (ckNames l l.length 0).getD (ckArcs a l.length l2 l2.length 0)
theorem sck_is (a : Int) (l : List ByteArray) (l2 : List S46) (hl : l2.length ≤ 1000000) (k : Nat) (hk : 3000000 ≤ k) : system_Check.f k a l l2 = some (ckS a l l2) := by
  obtain ⟨k, rfl⟩ := fuel (show 0 < k by omega)
  unfold system_Check.f ckS
  by_cases c1 : a < 1
  · rw [if_pos c1, if_pos (.inl c1)]; simp only [system_Check.j0]; rfl
  · rw [if_neg c1]
    by_cases c2 : a > 200
    · rw [if_pos c2, if_pos (.inr (.inl c2))]; simp only [system_Check.j0]; rfl
    · rw [if_neg c2]; simp only [system_Check.j0]
      by_cases c3 : l.length > 24
      · rw [if_pos (decide_eq_true (by omega)), if_pos (.inr (.inr c3))]
      · rw [if_neg (show ¬ decide ((l.length : Int) > 24) = true from fun q => c3 (by have := of_decide_eq_true q; omega)), if_neg (by omega)]
        exact sck_l0 l (by omega) a l2 2000100 _ (fun k' hk' => sck_l2 l a l2 hl _ k' 0 (by omega) (by omega) (by omega)) l.length k 0 (by omega) (by omega) (by omega)

/-! ### Compare, Unit -/
def cmpL : List Int → List Int → Int
  | [], [] => 0
  | [], _ :: _ => -1
  | _ :: _, [] => 1
  | x :: a, y :: b => if x < y then -1 else if x > y then 1 else cmpL a b
theorem cmp_end (a b : List Int) (i : Nat) (h : i = min a.length b.length) : (if (a.length : Int) < (b.length : Int) then some (-1) else (if (a.length : Int) > (b.length : Int) then some 1 else some 0)) = some (cmpL (a.drop i) (b.drop i)) := by
  by_cases c : a.length < b.length
  · rw [if_pos (by omega), drop_end a i (by omega), drop_cons b i (by omega), cmpL]
  · rw [if_neg (by omega)]
    by_cases d : a.length > b.length
    · rw [if_pos (by omega), drop_end b i (by omega), drop_cons a i (by omega), cmpL]
    · rw [if_neg (by omega), drop_end a i (by omega), drop_end b i (by omega), cmpL]
theorem rcmp_l (a b : List Int) (hl : a.length ≤ 1000000) (n : Nat) : ∀ (k i : Nat), min a.length b.length - i = n → i ≤ min a.length b.length → 2 * n + 2 ≤ k → petrinetref04_Compare.l0 k a b (i : Int) = some (cmpL (a.drop i) (b.drop i)) := by
  induction n with
  | zero =>
    intro k i hn hi hk
    obtain ⟨k, rfl⟩ : ∃ j, k = j + 2 := ⟨k - 2, by omega⟩
    show petrinetref04_Compare.l0 ((k + 1) + 1) a b _ = _
    have e := cmp_end a b i (by omega)
    simp only [petrinetref04_Compare.l0]
    by_cases c : (i : Int) < (a.length : Int)
    · rw [if_pos c, decide_eq_false (by omega)]
      simp only [petrinetref04_Compare.j1]
      rw [if_neg (by simp), e]
    · rw [if_neg c]
      simp only [petrinetref04_Compare.j1]
      rw [if_neg (by simp), e]
  | succ n ih =>
    intro k i hn hi hk
    obtain ⟨k, rfl⟩ : ∃ j, k = j + 2 := ⟨k - 2, by omega⟩
    show petrinetref04_Compare.l0 ((k + 1) + 1) a b _ = _
    have h1 : i < a.length := by omega
    have h2 : i < b.length := by omega
    simp only [petrinetref04_Compare.l0]
    rw [if_pos (by omega), decide_eq_true (by omega)]
    simp only [petrinetref04_Compare.j1]
    rw [if_pos trivial, if_pos (by omega), if_pos (by omega), if_pos (by omega), rd_get a i h1, rd_get b i h2, drop_cons a i h1, drop_cons b i h2, cmpL, wrap_succ i (by omega), ih k (i + 1) (by omega) (by omega) (by omega)]
    split
    · rfl
    · split <;> rfl
theorem rcmp_is (a b : List Int) (hl : a.length ≤ 1000000) (k : Nat) (hk : 2 * a.length + 2 ≤ k) : petrinetref04_Compare.f k a b = some (cmpL a b) := by
  unfold petrinetref04_Compare.f
  have := rcmp_l a b hl _ k 0 rfl (by omega) (by omega)
  simpa using this

def fd (s : List UInt8) : List (List UInt8) → Nat → Int
  | [], _ => -1
  | x :: r, i => if x = s then (i : Int) else fd s r (i + 1)
theorem fd_spec (s : List UInt8) (L : List (List UInt8)) : ∀ i, (fd s L i = -1 ∧ s ∉ L) ∨ ∃ m, ∃ h : m < L.length, fd s L i = ((i + m : Nat) : Int) ∧ L[m] = s ∧ s ∉ L.take m := by
  induction L with
  | nil => intro i; exact .inl ⟨rfl, by simp⟩
  | cons x r ih =>
    intro i
    rw [fd]
    by_cases c : x = s
    · rw [if_pos c]; exact .inr ⟨0, by simp, by simp, by simpa using c, by simp⟩
    · rw [if_neg c]
      rcases ih (i + 1) with ⟨h1, h2⟩ | ⟨m, h0, h1, h2, h3⟩
      · exact .inl ⟨h1, by simp [h2]; exact fun g => c g.symm⟩
      · refine .inr ⟨m + 1, by simp; omega, by rw [h1]; congr 1; omega, by simpa using h2, ?_⟩
        rw [List.take_succ_cons, List.mem_cons]
        rintro (g | g)
        · exact c g.symm
        · exact h3 g
theorem fd_lt (s : List UInt8) (L : List (List UInt8)) (i : Nat) (hi : i < L.length) (hs : L[i] = s) : fd s L 0 < i ↔ s ∈ L.take i := by
  rcases fd_spec s L 0 with ⟨_, h2⟩ | ⟨m, h0, h1, h2, h3⟩
  · exact absurd (hs ▸ List.getElem_mem hi) h2
  · rw [h1]
    constructor
    · intro h
      have hm : m < i := by omega
      rw [← h2]
      exact List.mem_take_iff_getElem.mpr ⟨m, by omega, rfl⟩
    · intro h
      rcases Nat.lt_or_ge m i with c | c
      · omega
      · obtain ⟨j, hj, e⟩ := List.mem_take_iff_getElem.mp h
        exact absurd (List.mem_take_iff_getElem.mpr ⟨j, by omega, e⟩) h3
theorem at_l (s : ByteArray) (l : List ByteArray) (hl : l.length ≤ 1000000) (n : Nat) : ∀ (k i : Nat), l.length - i = n → i ≤ l.length → n < k → petrinetref45_at.l0 k l s (i : Int) = some (fd s.data.toList ((vls l).drop i) i) := by
  have hv := vls_len l
  induction n with
  | zero =>
    intro k i hn hi hk
    obtain ⟨k, rfl⟩ := fuel hk
    simp only [petrinetref45_at.l0]
    rw [if_neg (by omega), drop_end _ i (by omega), fd]
  | succ n ih =>
    intro k i hn hi hk
    obtain ⟨k, rfl⟩ := fuel hk
    have h1 : i < l.length := by omega
    simp only [petrinetref45_at.l0, Lib.toList_data]
    rw [if_pos (by omega), if_pos (by omega), rdOf_get _ l i h1, wrap_succ i (by omega), ih k (i + 1) (by omega) (by omega) (by omega), drop_cons (vls l) i (by omega), vls_get l i h1, fd]
    by_cases e : l[i].data.toList = s.data.toList
    · rw [if_pos e, if_pos e]
    · rw [if_neg e, if_neg e]
theorem at_is (s : ByteArray) (l : List ByteArray) (hl : l.length ≤ 1000000) (k : Nat) (hk : l.length < k) : petrinetref45_at.f k l s = some (fd s.data.toList (vls l) 0) := by
  unfold petrinetref45_at.f
  have := at_l s l hl _ k 0 rfl (by omega) (by omega)
  simpa using this
/-! ### The specification's Check -/
theorem cmp3 (p x : S46) : decide (cmpL [p.f0, p.f1, p.f2] [x.f0, x.f1, x.f2] < 0) = arcBef p x := by
  have h : cmpL [p.f0, p.f1, p.f2] [x.f0, x.f1, x.f2] < 0 ↔ arcBef p x = true := by
    simp only [cmpL]
    unfold arcBef
    repeat' split
    all_goals (try simp only [decide_eq_true_eq])
    all_goals omega
  rw [Bool.eq_iff_iff, decide_eq_true_iff]
  exact h
theorem after_is (x p : S46) (k : Nat) (hk : 8 ≤ k) : petrinetref45_after.f k x.f0 x.f1 x.f2 p.f0 p.f1 p.f2 = some (arcBef p x) := by
  unfold petrinetref45_after.f
  rw [rcmp_is _ _ (by simp) k (by simpa using hk), Option.bind_some, cmp3]
set_option maxRecDepth 100000 in
theorem rck_l1 (l : List ByteArray) (a : Int) (l2 : List S46) (hl : l2.length ≤ 1000000) (n : Nat) : ∀ (k i : Nat), l2.length - i = n → i ≤ l2.length → 2 * n + 20 ≤ k →
    petrinetref45_Check.l1 k (i : Int) a l l2 = some (ckArcs a l.length l2 n i) := by
  induction n with
  | zero =>
    intro k i hn hi hk
    obtain ⟨k, rfl⟩ := fuel (show 0 < k by omega)
    simp only [petrinetref45_Check.l1]
    rw [if_neg (by omega), ckArcs]
  | succ n ih =>
    intro k i hn hi hk
    obtain ⟨k, rfl⟩ := fuel (show 0 < k by omega)
    obtain ⟨k, rfl⟩ := fuel (show 0 < k by omega)
    have hil : i < l2.length := by omega
    have hj : ∀ b : Bool, petrinetref45_Check.j3 (k + 1) (i : Int) b a l l2 (rd_T46 l2 (i : Int)).f0 (rd_T46 l2 (i : Int)).f1 (rd_T46 l2 (i : Int)).f2 = some (if b = true then (1, (i : Int)) else (if i = 0 then ckArcs a l.length l2 n 1 else (if arcBef (rd_T46 l2 ((i - 1 : Nat) : Int)) (rd_T46 l2 (i : Int)) = true then ckArcs a l.length l2 n (i + 1) else (8, (i : Int))))) := by
      intro b
      simp only [petrinetref45_Check.j3]
      by_cases e : b = true
      · rw [if_pos e, if_pos e]
      · rw [if_neg e, if_neg e]
        by_cases g : i = 0
        · rw [if_neg (by omega), if_pos g, wrap_succ i (by omega), ih k (i + 1) (by omega) (by omega) (by omega), g]
        · rw [if_pos (by omega), if_neg g, wrap_pred i (by omega) (by omega), if_pos (by omega), if_pos (by omega), after_is _ _ k (by omega), Option.bind_some, wrap_succ i (by omega), ih k (i + 1) (by omega) (by omega) (by omega)]
          by_cases c : arcBef (rd_T46 l2 ((i - 1 : Nat) : Int)) (rd_T46 l2 (i : Int)) = true
          · rw [if_pos c, if_pos c]
          · rw [if_neg c, if_neg c]
    rw [petrinetref45_Check.l1, if_pos (by omega), if_pos (by omega), ckArcs]
    generalize hx : rd_T46 l2 (i : Int) = x at *
    have bad : ¬ arcOk a l.length x = true → some (1, (i : Int)) = some (if arcOk a l.length x = true then (if i = 0 then ckArcs a l.length l2 n 1 else (if arcBef (rd_T46 l2 ((i - 1 : Nat) : Int)) x = true then ckArcs a l.length l2 n (i + 1) else (8, (i : Int)))) else (1, (i : Int))) := fun q => by rw [if_neg q]
    have ok := fun (q : arcOk a l.length x = true) => of_decide_eq_true q
    by_cases c0 : x.f0 < 0
    · rw [if_pos c0, hj, if_pos rfl]; exact bad (fun q => by have := ok q; omega)
    · rw [if_neg c0]
      by_cases c1 : x.f0 ≥ a
      · rw [if_pos c1, hj, if_pos rfl]; exact bad (fun q => by have := ok q; omega)
      · rw [if_neg c1]
        by_cases c2 : x.f2 < 0
        · rw [if_pos c2, hj, if_pos rfl]; exact bad (fun q => by have := ok q; omega)
        · rw [if_neg c2]
          by_cases c3 : x.f2 ≥ a
          · rw [if_pos c3, hj, if_pos rfl]; exact bad (fun q => by have := ok q; omega)
          · rw [if_neg c3]
            by_cases c4 : x.f1 < 0
            · rw [if_pos c4, hj, if_pos rfl]; exact bad (fun q => by have := ok q; omega)
            · rw [if_neg c4, hj]
              by_cases c5 : x.f1 ≥ (l.length : Int)
              · rw [if_pos (decide_eq_true c5)]; exact bad (fun q => by have := ok q; omega)
              · rw [if_neg (show ¬ decide (x.f1 ≥ (l.length : Int)) = true from fun q => c5 (of_decide_eq_true q)), if_pos (show arcOk a l.length x = true from decide_eq_true ⟨by omega, by omega, by omega, by omega, by omega, by omega⟩)]
set_option maxRecDepth 100000 in
theorem rck_l0 (l : List ByteArray) (hl : l.length ≤ 1000) (a : Int) (l2 : List S46) (K : Nat) (R : Int × Int) (hc : ∀ k', K ≤ k' → petrinetref45_Check.l1 k' 0 a l l2 = some R) (n : Nat) : ∀ (k i : Nat), l.length - i = n → i ≤ l.length → n + K + 1100 < k →
    petrinetref45_Check.l0 k (i : Int) a l l2 = some ((ckNames l n i).getD R) := by
  induction n with
  | zero =>
    intro k i hn hi hk
    obtain ⟨k, rfl⟩ := fuel (show 0 < k by omega)
    simp only [petrinetref45_Check.l0]
    rw [if_neg (by omega), hc k (by omega), ckNames]; rfl
  | succ n ih =>
    intro k i hn hi hk
    obtain ⟨k, rfl⟩ := fuel (show 0 < k by omega)
    have hil : i < l.length := by omega
    simp only [petrinetref45_Check.l0]
    rw [if_pos (by omega), if_pos (by omega), rdOf_get _ l i hil, rname_is _ k (by omega), Option.bind_some, ckNames, getD_get l i hil]
    by_cases e : nmB l[i] = true
    · rw [if_pos e, if_pos e, at_is _ l (by omega) k (by omega), Option.bind_some]
      have hf := fd_lt l[i].data.toList (vls l) i (by rw [vls_len]; exact hil) (vls_get l i hil)
      by_cases g : dl l[i] ∈ (vls l).take i
      · rw [if_pos g, if_pos (hf.mpr g)]; rfl
      · rw [if_neg g, if_neg (fun q => g (hf.mp q)), wrap_succ i (by omega), ih k (i + 1) (by omega) (by omega) (by omega)]
    · rw [if_neg e, if_neg e]; rfl
theorem rck_is (a : Int) (l : List ByteArray) (l2 : List S46) (hl : l2.length ≤ 1000000) (k : Nat) (hk : 3000000 ≤ k) : petrinetref45_Check.f k a l l2 = some (ckS a l l2) := by
  obtain ⟨k, rfl⟩ := fuel (show 0 < k by omega)
  unfold petrinetref45_Check.f ckS
  by_cases c1 : a < 1
  · rw [if_pos c1, if_pos (.inl c1)]; simp only [petrinetref45_Check.j0]; rfl
  · rw [if_neg c1]
    by_cases c2 : a > 200
    · rw [if_pos c2, if_pos (.inr (.inl c2))]; simp only [petrinetref45_Check.j0]; rfl
    · rw [if_neg c2]; simp only [petrinetref45_Check.j0]
      by_cases c3 : l.length > 24
      · rw [if_pos (decide_eq_true (by omega)), if_pos (.inr (.inr c3))]
      · rw [if_neg (show ¬ decide ((l.length : Int) > 24) = true from fun q => c3 (by have := of_decide_eq_true q; omega)), if_neg (by omega)]
        exact rck_l0 l (by omega) a l2 2000100 _ (fun k' hk' => rck_l1 l a l2 hl _ k' 0 (by omega) (by omega) (by omega)) l.length k 0 (by omega) (by omega) (by omega)

/-- What 'few' tells. -/
def FewP (a : Int) (l : List ByteArray) (l2 : List S46) : Prop := (a ≤ 12 ∨ a > 200) ∧ l.length ≤ 66 ∧ l2.length ≤ 40 ∧ ∀ x ∈ l, x.size ≤ 40
theorem few_l (a : Int) (l : List ByteArray) (l2 : List S46) (n : Nat) : ∀ (i : Nat), 67 - i = n → i ≤ 67 → i ≤ l.length → (∀ j (h : j < l.length), j < i → l[j].size ≤ 40) → ∃ b, Ev (fun k => petrinetlaw45_few.l0 k (i : Int) a l l2) b ∧ (b = true → FewP a l l2) := by
  have fin : ∀ i : Nat, (i = l.length ∨ 67 ≤ i) → i ≤ l.length → (∀ j (h : j < l.length), j < i → l[j].size ≤ 40) → ∃ b, Ev (fun k => petrinetlaw45_few.j1 k (i : Int) false a l l2) b ∧ (b = true → FewP a l l2) := by
    intro i hi hil hall
    by_cases c : (a ≤ 12 ∨ a > 200) ∧ l.length ≤ 66
    · refine ⟨decide ((l2.length : Int) ≤ 40), Ev.step (f := fun _ => some (decide ((l2.length : Int) ≤ 40))) (fun k => ?_) (Ev.now _), fun h => ⟨c.1, c.2, by have := of_decide_eq_true h; omega, fun x hx => ?_⟩⟩
      · rw [petrinetlaw45_few.j1, if_neg (by simp)]
        rcases c.1 with h | h
        · rw [if_pos h, if_pos (by omega)]
        · rw [if_neg (by omega), if_pos h, if_pos (by omega)]
      · obtain ⟨j, hj, rfl⟩ := List.getElem_of_mem hx
        exact hall j hj (by omega)
    · refine ⟨false, Ev.step (f := fun _ => some false) (fun k => ?_) (Ev.now _), fun h => by simp at h⟩
      rw [petrinetlaw45_few.j1, if_neg (by simp)]
      by_cases h : a ≤ 12
      · rw [if_pos h, if_neg (fun q => c ⟨.inl h, by omega⟩)]
      · rw [if_neg h]
        by_cases g : a > 200
        · rw [if_pos g, if_neg (fun q => c ⟨.inr g, by omega⟩)]
        · rw [if_neg g]
  induction n with
  | zero =>
    intro i hn hi hil hall
    obtain ⟨b, h1, h2⟩ := fin i (by omega) hil hall
    refine ⟨b, Ev.step (f := fun k => petrinetlaw45_few.j1 k (i : Int) false a l l2) (fun k => ?_) h1, h2⟩
    rw [petrinetlaw45_few.l0]
    by_cases c : (i : Int) < (l.length : Int)
    · rw [if_pos c, decide_eq_false (by omega)]
    · rw [if_neg c]
  | succ n ih =>
    intro i hn hi hil hall
    by_cases c : i < l.length
    · by_cases g : l[i].size ≤ 40
      · obtain ⟨b, h1, h2⟩ := ih (i + 1) (by omega) (by omega) (by omega) (fun j h hj => by
          by_cases e : j = i
          · subst e; exact g
          · exact hall j h (by omega))
        refine ⟨b, Ev.step (f := fun k => petrinetlaw45_few.j1 k (i : Int) true a l l2) (fun k => ?_) (Ev.step (f := fun k => petrinetlaw45_few.l0 k ((i + 1 : Nat) : Int) a l l2) (fun k => ?_) h1), h2⟩
        · rw [petrinetlaw45_few.l0, if_pos (by omega), decide_eq_true (by omega)]
        · rw [petrinetlaw45_few.j1, if_pos rfl, if_pos (by omega), if_pos (by omega), rdOf_get _ l i c, if_neg (by omega), wrap_succ i (by omega)]
      · refine ⟨false, Ev.step (f := fun k => petrinetlaw45_few.j1 k (i : Int) true a l l2) (fun k => ?_) (Ev.step (f := fun _ => some false) (fun k => ?_) (Ev.now _)), fun h => by simp at h⟩
        · rw [petrinetlaw45_few.l0, if_pos (by omega), decide_eq_true (by omega)]
        · rw [petrinetlaw45_few.j1, if_pos rfl, if_pos (by omega), if_pos (by omega), rdOf_get _ l i c, if_pos (by omega)]
    · obtain ⟨b, h1, h2⟩ := fin i (by omega) hil hall
      refine ⟨b, Ev.step (f := fun k => petrinetlaw45_few.j1 k (i : Int) false a l l2) (fun k => ?_) h1, h2⟩
      rw [petrinetlaw45_few.l0, if_neg (by omega)]
theorem few_ev (a : Int) (l : List ByteArray) (l2 : List S46) : ∃ b, Ev (fun k => petrinetlaw45_few.f k a l l2) b ∧ (b = true → FewP a l l2) := by
  unfold petrinetlaw45_few.f
  exact few_l a l l2 _ 0 rfl (by omega) (by omega) (fun j _ h => by omega)
set_option maxRecDepth 100000 in
theorem alive_200 : petrinetlaw45_alive.f 200 = some true := by decide +kernel
theorem alive_ev : Ev (fun k => petrinetlaw45_alive.f k) true := Ev.of petrinetlaw45_alive.mono alive_200

theorem rdT_get (l : List S46) (i : Nat) (h : i < l.length) : rd_T46 l (i : Int) = l[i] := by
  unfold rd_T46; rw [Int.toNat_natCast, List.getD_eq_getElem?_getD, List.getElem?_eq_getElem h]; rfl
def vaB (a : Int) (l : List ByteArray) (l2 : List S46) : Bool := (ckS a l l2).1 == 0
theorem scheck_ev (a : Int) (l : List ByteArray) (l2 : List S46) (hl : l2.length ≤ 1000000) : Ev (fun k => system_Check.f k a l l2) (ckS a l l2) := ⟨3000000, fun k hk => sck_is a l l2 hl k hk⟩
theorem rcheck_ev (a : Int) (l : List ByteArray) (l2 : List S46) (hl : l2.length ≤ 1000000) : Ev (fun k => petrinetref45_Check.f k a l l2) (ckS a l l2) := ⟨3000000, fun k hk => rck_is a l l2 hl k hk⟩
def gA (l2 : List S46) (i : Nat) : S46 := rd_T46 l2 (i : Int)
/-! ### a valid system; its graph; Reachable -/
theorem ckArcs_ok (a : Int) (m : Nat) (l2 : List S46) : ∀ (n i : Nat), (ckArcs a m l2 n i).1 = 0 → ∀ j, i ≤ j → j < i + n → arcOk a m (gA l2 j) = true ∧ (0 < j → i < j ∨ 0 < i → arcBef (gA l2 (j - 1)) (gA l2 j) = true)
  | 0, i, _, j, h1, h2 => absurd h2 (by omega)
  | n + 1, i, h, j, h1, h2 => by
    rw [ckArcs] at h
    by_cases c : arcOk a m (rd_T46 l2 (i : Int)) = true
    · rw [if_pos c] at h
      by_cases e : i = 0
      · rw [if_pos e] at h
        subst e
        by_cases g : j = 0
        · subst g; exact ⟨c, fun q => absurd q (by omega)⟩
        · obtain ⟨h3, h4⟩ := ckArcs_ok a m l2 n 1 h j (by omega) (by omega)
          exact ⟨h3, fun q _ => h4 q (.inr (by omega))⟩
      · rw [if_neg e] at h
        by_cases b : arcBef (rd_T46 l2 ((i - 1 : Nat) : Int)) (rd_T46 l2 (i : Int)) = true
        · rw [if_pos b] at h
          by_cases g : j = i
          · subst g; exact ⟨c, fun _ _ => b⟩
          · obtain ⟨h3, h4⟩ := ckArcs_ok a m l2 n (i + 1) h j (by omega) (by omega)
            exact ⟨h3, fun q _ => h4 q (.inr (by omega))⟩
        · rw [if_neg b] at h; simp at h
    · rw [if_neg c] at h; simp at h
theorem ckNames_ok (l : List ByteArray) : ∀ (n i : Nat) (q : Int × Int), ckNames l n i = some q → q.1 ≠ 0
  | 0, i, q, h => by rw [ckNames] at h; simp at h
  | n + 1, i, q, h => by
    rw [ckNames] at h
    split at h
    · split at h
      · obtain rfl := Option.some.inj h; simp
      · exact ckNames_ok l n (i + 1) q h
    · obtain rfl := Option.some.inj h; simp
/-- What holds of a valid system. -/
structure VaP (a : Int) (l : List ByteArray) (l2 : List S46) : Prop where
  lo : 1 ≤ a
  hi : a ≤ 200
  ev : l.length ≤ 24
  nm : ckNames l l.length 0 = none
  arcs : ∀ x ∈ l2, 0 ≤ x.f0 ∧ x.f0 < a ∧ 0 ≤ x.f2 ∧ x.f2 < a ∧ 0 ≤ x.f1 ∧ x.f1 < (l.length : Int)
  asc : ∀ j, 0 < j → j < l2.length → arcBef (gA l2 (j - 1)) (gA l2 j) = true
theorem va_of {a : Int} {l : List ByteArray} {l2 : List S46} (h : vaB a l l2 = true) : VaP a l l2 := by
  unfold vaB ckS at h
  split at h
  · simp at h
  · rename_i c
    cases e : ckNames l l.length 0 with
    | some q =>
      rw [e] at h
      exact absurd (by simpa using h) (ckNames_ok l _ _ q e)
    | none =>
      rw [e] at h
      have h0 : (ckArcs a l.length l2 l2.length 0).1 = 0 := by simpa using h
      have ha := ckArcs_ok a l.length l2 l2.length 0 h0
      refine ⟨by omega, by omega, by omega, e, fun x hx => ?_, fun j h1 h2 => (ha j (by omega) (by omega)).2 h1 (.inl h1)⟩
      obtain ⟨j, hj, rfl⟩ := List.getElem_of_mem hx
      have := of_decide_eq_true (ha j (by omega) (by omega)).1
      unfold gA at this
      rw [rdT_get l2 j hj] at this
      exact this
theorem ckNames_none (l : List ByteArray) : ∀ (n i : Nat), ckNames l n i = none → ∀ j (h : j < l.length), i ≤ j → j < i + n → nmB l[j] = true ∧ dl l[j] ∉ (vls l).take j
  | 0, i, _, j, _, h1, h2 => absurd h2 (by omega)
  | n + 1, i, h, j, hj, h1, h2 => by
    rw [ckNames] at h
    split at h
    · rename_i c
      split at h
      · simp at h
      · rename_i d
        by_cases e : j = i
        · subst e
          rw [getD_get l j hj] at c d
          exact ⟨c, d⟩
        · exact ckNames_none l n (i + 1) h j hj (by omega) (by omega)
    · simp at h
end Go.Proofs.YtcnliampiibpbaaDoor.Plain
