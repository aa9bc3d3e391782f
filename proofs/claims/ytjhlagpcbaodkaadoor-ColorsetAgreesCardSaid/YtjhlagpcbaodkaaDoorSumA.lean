/- Plain laws over the printed functions: what each comes to. No condition but the ones written. -/
import Derived.Test.YtjhlagpcbaodkaaDoorPSumx2
import Derived.Test.YtjhlagpcbaodkaaDoorPSumx3
import Derived.Test.YtjhlagpcbaodkaaDoorPSumx4
import Derived.Test.YtjhlagpcbaodkaaDoorNum
import Derived.OpenShut
namespace Go.Proofs.YtjhlagpcbaodkaaDoor.PlainS
open Go Go.RowKit Go.Proofs.YtjhlagpcbaodkaaDoor.PSum Go.Proofs.YtjhlagpcbaodkaaDoorW.PrintWords Go.Proofs.YtjhlagpcbaodkaaDoorW.PrintLast Go.Proofs.YtjhlagpcbaodkaaDoorW.PrintMore
set_option linter.unusedVariables false
def I64 (a : Int) : Prop := -9223372036854775808 ≤ a ∧ a < 9223372036854775808
theorem i64_of {a : Int} (h : (Lit.int .i64 a).wf = true) : I64 a := by have := bounds_i64 h; unfold I64; omega
def AllI (l : List Int) : Prop := ∀ x ∈ l, I64 x
theorem allI_of {l : List Int} (h : ∀ x ∈ l, (Lit.int .i64 x).wf = true) : AllI l := fun x hx => i64_of (h x hx)
theorem wrap_succ (i : Nat) (h : i < 9223372036854775807) : wrap64 ((i : Int) + 1) = ((i + 1 : Nat) : Int) := by unfold wrap64; omega
theorem wrap_id (x : Int) (h : -9223372036854775808 ≤ x ∧ x < 9223372036854775808) : wrap64 x = x := by unfold wrap64; omega
theorem rd_get (l : List Int) (i : Nat) (h : i < l.length) : rd l (i : Int) = l[i] := by
  unfold rd; rw [Int.toNat_natCast, List.getD_eq_getElem?_getD, List.getElem?_eq_getElem h]; rfl
theorem rdOf_get {α : Type} (d : α) (l : List α) (i : Nat) (h : i < l.length) : rdOf d l (i : Int) = l[i] := by
  unfold rdOf; rw [Int.toNat_natCast, List.getD_eq_getElem?_getD, List.getElem?_eq_getElem h]; rfl
theorem size_data (s : ByteArray) : s.size = s.data.toList.length := Lib.size_eq s
theorem bt_get (s : ByteArray) (i : Nat) (h : i < s.data.toList.length) : bt s (i : Int) = ((s.data.toList[i]'h).toNat : Int) := by
  have h' : i < s.size := by rw [size_data]; exact h
  unfold bt
  simp only [Int.toNat_natCast]
  rw [dif_pos h']
  rfl
theorem toList_eq_iff (s : ByteArray) (l : List UInt8) : s.toList = l ↔ s.data.toList = l := by rw [Lib.toList_data]
theorem getI {l : List Int} (h : AllI l) (i : Nat) (hi : i < l.length) : I64 l[i] := h _ (List.getElem_mem hi)
theorem drop_cons {α : Type} (l : List α) (i : Nat) (h : i < l.length) : l.drop i = l[i] :: l.drop (i + 1) := List.drop_eq_getElem_cons h
theorem drop_end {α : Type} (l : List α) (i : Nat) (h : l.length ≤ i) : l.drop i = [] := List.drop_eq_nil_of_le h
/-- The fuel is one more. -/
theorem fuel {n k : Nat} (h : n < k) : ∃ m, k = m + 1 := ⟨k - 1, by omega⟩
def mk (p : List UInt8) : ByteArray := ByteArray.mk p.toArray
theorem mk_extract (s : ByteArray) (f i : Nat) : s.extract f i = mk ((s.data.toList.drop f).take (i - f)) := Num.str_ext (by unfold mk; rw [Lib.extract_data, Num.data_mk])

/-! ### the example -/
theorem itoa1 : Lib.itoa 1 = [49] := by simp [Lib.itoa, Lib.decDigits]
theorem itoa2 : Lib.itoa 2 = [50] := by simp [Lib.itoa, Lib.decDigits]
theorem sItoa1 : strconv_Itoa.f 1 = some (⟨#[49]⟩ : ByteArray) := by unfold strconv_Itoa.f; rw [if_pos (by omega), itoa1]
theorem sItoa2 : strconv_Itoa.f 2 = some (⟨#[50]⟩ : ByteArray) := by unfold strconv_Itoa.f; rw [if_pos (by omega), itoa2]
theorem exCheck : colorset_Check.f (⟨#[99]⟩ : ByteArray) [(⟨#[97]⟩ : ByteArray), (⟨#[98]⟩ : ByteArray)] = some 0 := by decide
theorem w01 : wrap64 (0 + 1) = 1 := by unfold wrap64; omega
theorem w12 : wrap64 (1 + 1) = 2 := by unfold wrap64; omega
theorem exValid (k : Nat) (hk : 10 ≤ k) : colorset_valid.f k [[2, 1]] = some true := by
  unfold colorset_valid.f
  obtain ⟨k, rfl⟩ := fuel (show 0 < k by omega)
  simp only [colorset_valid.l0]
  rw [if_pos (by decide), if_pos (by decide), if_pos (by decide), show rd_L5 [[2, 1]] 0 = [2, 1] from rfl]
  obtain ⟨k, rfl⟩ := fuel (show 0 < k by omega)
  simp only [colorset_valid.l1]
  rw [if_pos (by decide), if_pos (by decide), if_pos (by decide), if_neg (by decide), if_neg (by decide), w01]
  obtain ⟨k, rfl⟩ := fuel (show 0 < k by omega)
  simp only [colorset_valid.l1]
  rw [if_pos (by decide), if_pos (by decide), if_pos (by decide), if_neg (by decide), if_neg (by decide), w12]
  obtain ⟨k, rfl⟩ := fuel (show 0 < k by omega)
  simp only [colorset_valid.l1]
  rw [if_neg (by decide), w01]
  obtain ⟨k, rfl⟩ := fuel (show 0 < k by omega)
  simp only [colorset_valid.l0]
  rw [if_neg (by decide)]
theorem exShift : colorset_Shift.f (⟨#[99]⟩ : ByteArray) [(⟨#[97]⟩ : ByteArray), (⟨#[98]⟩ : ByteArray)] 0 (-1) = some 1 := by
  unfold colorset_Shift.f wrap64
  decide
theorem exText (k : Nat) (hk : 20 ≤ k) : colorset_Text.f k (⟨#[99]⟩ : ByteArray) [(⟨#[97]⟩ : ByteArray), (⟨#[98]⟩ : ByteArray)] [2, 1] = some (⟨#[50, 39, 97, 32, 43, 32, 49, 39, 98]⟩ : ByteArray) := by
  unfold colorset_Text.f
  rw [exCheck, Option.bind_some, if_pos rfl, if_pos (by simp), exValid k (by omega), Option.bind_some]
  obtain ⟨k, rfl⟩ := fuel (show 0 < k by omega)
  simp only [colorset_Text.j0]
  rw [if_neg (by simp)]
  obtain ⟨k, rfl⟩ := fuel (show 0 < k by omega)
  simp only [colorset_Text.l0]
  rw [if_pos (by decide), if_pos (by decide), if_pos (by decide), if_neg (by decide), if_pos (by simp [Lib.toList_data]), show rd [2, 1] 0 = 2 from rfl, sItoa2, Option.bind_some, if_pos (by decide), if_pos (by decide), if_pos (by decide), if_pos (by decide), w01]
  obtain ⟨k, rfl⟩ := fuel (show 0 < k by omega)
  simp only [colorset_Text.l0]
  rw [if_pos (by decide), if_pos (by decide), if_pos (by decide), if_neg (by decide), if_neg (by rw [Lib.toList_data]; simp [rdOf]), if_pos (by decide), show rd [2, 1] 1 = 1 from rfl, sItoa1, Option.bind_some, if_pos (by decide), if_pos (by decide), if_pos (by decide), if_pos (by decide), w12]
  obtain ⟨k, rfl⟩ := fuel (show 0 < k by omega)
  simp only [colorset_Text.l0]
  rw [if_neg (by decide)]
  rw [if_neg (by rw [Lib.toList_data]; simp [rdOf])]
  refine congrArg some (Num.str_ext ?_)
  first | decide | simp [rdOf]
theorem ex_is (k : Nat) (hk : 40 ≤ k) : petrinetlaw39_exampleHolds.f k = some true := by
  unfold petrinetlaw39_exampleHolds.f
  rw [Option.bind_some, exText k (by omega), Option.bind_some, if_pos (by rw [Lib.toList_data]), exShift]
  rfl

/-! ### markings in bounds -/
def inB (l : List Int) : Bool := decide (∀ x ∈ l, 0 ≤ x ∧ x ≤ 1048576)
theorem inB_nil : inB [] = true := by simp [inB]
theorem inB_cons (x : Int) (l : List Int) : inB (x :: l) = (decide (0 ≤ x ∧ x ≤ 1048576) && inB l) := by simp [inB]
theorem inB_iff (l : List Int) : inB l = true ↔ ∀ x ∈ l, 0 ≤ x ∧ x ≤ 1048576 := by unfold inB; rw [decide_eq_true_iff]
def validB (l : List Int) (n : Int) : Bool := decide ((l.length : Int) = n) && inB l
theorem valid_self (l : List Int) : validB l (l.length : Int) = inB l := by unfold validB; rw [decide_eq_true rfl]; rfl

/-! ### petrinetref04.Same -/
theorem same_l (a b : List Int) (hab : a.length = b.length) (hl : a.length ≤ 4611686018427387904) (n : Nat) : ∀ (k i : Nat), a.length - i = n → i ≤ a.length → n < k → petrinetref04_Same.l0 k a b (i : Int) = some (decide (a.drop i = b.drop i)) := by
  induction n with
  | zero =>
    intro k i hn hi hk
    obtain ⟨k, rfl⟩ := fuel hk
    simp only [petrinetref04_Same.l0]
    rw [if_neg (by omega), drop_end a i (by omega), drop_end b i (by omega)]; simp
  | succ n ih =>
    intro k i hn hi hk
    obtain ⟨k, rfl⟩ := fuel hk
    have h1 : i < a.length := by omega
    have h2 : i < b.length := by omega
    simp only [petrinetref04_Same.l0]
    rw [if_pos (by omega), if_pos (by omega), if_pos (by omega), rd_get a i h1, rd_get b i h2]
    have hiff : (a.drop i = b.drop i) ↔ (a[i] = b[i] ∧ a.drop (i + 1) = b.drop (i + 1)) := by rw [drop_cons a i h1, drop_cons b i h2, List.cons.injEq]
    by_cases e : a[i] = b[i]
    · rw [if_pos e, wrap_succ i (by omega), ih k (i + 1) (by omega) (by omega) (by omega)]
      congr 1; rw [decide_eq_decide, hiff]; exact ⟨fun h => ⟨e, h⟩, fun h => h.2⟩
    · rw [if_neg e, decide_eq_false (fun h => e (hiff.mp h).1)]
theorem same_is (a b : List Int) (hl : a.length ≤ 4611686018427387904) (k : Nat) (hk : a.length < k) : petrinetref04_Same.f k a b = some (decide (a = b)) := by
  unfold petrinetref04_Same.f
  by_cases h : (a.length : Int) = (b.length : Int)
  · rw [if_pos h]
    have := same_l a b (by omega) hl a.length k 0 (by omega) (by omega) hk
    simpa using this
  · rw [if_neg h]
    have : a ≠ b := fun e => h (by rw [e])
    simp [this]

theorem rvalid_l (l : List Int) (m : Int) (hl : l.length ≤ 17592186044416) (n : Nat) : ∀ (k i : Nat), l.length - i = n → i ≤ l.length → n < k → petrinetref04_Valid.l0 k l m (i : Int) = some (inB (l.drop i) && decide ((l.length : Int) = m)) := by
  induction n with
  | zero =>
    intro k i hn hi hk
    obtain ⟨k, rfl⟩ := fuel hk
    simp only [petrinetref04_Valid.l0]
    rw [if_neg (by omega), drop_end l i (by omega), inB_nil, Bool.true_and]; rfl
  | succ n ih =>
    intro k i hn hi hk
    obtain ⟨k, rfl⟩ := fuel hk
    have h1 : i < l.length := by omega
    simp only [petrinetref04_Valid.l0]
    rw [if_pos (by omega), if_pos (by omega), rd_get l i h1, wrap_succ i (by omega), drop_cons l i h1, inB_cons]
    by_cases a : l[i] < 0
    · rw [if_pos a, decide_eq_false (by omega)]; rfl
    · rw [if_neg a]
      by_cases b : l[i] > 1048576
      · rw [if_pos b, decide_eq_false (by omega)]; rfl
      · rw [if_neg b, decide_eq_true (by omega), ih k (i + 1) (by omega) (by omega) (by omega)]; rfl
theorem rvalid_is (l : List Int) (n : Int) (hl : l.length ≤ 17592186044416) (k : Nat) (hk : l.length < k) : petrinetref04_Valid.f k l n = some (validB l n) := by
  unfold petrinetref04_Valid.f validB
  have := rvalid_l l n hl _ k 0 rfl (by omega) (by omega)
  rw [Bool.and_comm]
  simpa using this

/-! ### valid, Text -/
theorem rdL5_get (ll : List (List Int)) (i : Nat) (h : i < ll.length) : rd_L5 ll (i : Int) = ll[i] := by
  unfold rd_L5; rw [Int.toNat_natCast, List.getD_eq_getElem?_getD, List.getElem?_eq_getElem h]; rfl
theorem valid_row (ll : List (List Int)) (i : Nat) (hi : i < ll.length) (hl : ll.length ≤ 1000) (a : List Int) (ha : a.length ≤ 17592186044416) (n : Nat) : ∀ (k j : Nat), a.length - j = n → j ≤ a.length → n < k →
    colorset_valid.l1 k ll (ll.length : Int) (i : Int) a (a.length : Int) (j : Int) = if inB (a.drop j) = true then colorset_valid.l0 (k - (n + 1)) ll (ll.length : Int) ((i + 1 : Nat) : Int) else some false := by
  induction n with
  | zero =>
    intro k j hn hj hk
    obtain ⟨k, rfl⟩ := fuel hk
    simp only [colorset_valid.l1]
    rw [if_neg (by omega), drop_end a j (by omega), inB_nil, if_pos rfl, wrap_succ i (by omega)]; rfl
  | succ n ih =>
    intro k j hn hj hk
    obtain ⟨k, rfl⟩ := fuel hk
    have h1 : j < a.length := by omega
    simp only [colorset_valid.l1]
    rw [if_pos (by omega), if_pos (by omega), if_pos (by omega), rd_get a j h1, wrap_succ j (by omega), drop_cons a j h1, inB_cons]
    by_cases c : a[j] < 0
    · rw [if_pos c, decide_eq_false (by omega)]; rfl
    · rw [if_neg c]
      by_cases b : a[j] > 1048576
      · rw [if_pos b, decide_eq_false (by omega)]; rfl
      · rw [if_neg b, decide_eq_true (by omega), ih k (j + 1) (by omega) (by omega) (by omega), Bool.true_and, show k + 1 - (n + 1 + 1) = k - (n + 1) by omega]
def wtL : List (List Int) → Nat
  | [] => 1
  | a :: r => a.length + 2 + wtL r
theorem valid_l0 (ll : List (List Int)) (hl : ll.length ≤ 1000) (ha : ∀ a ∈ ll, a.length ≤ 17592186044416) (n : Nat) : ∀ (k i : Nat), ll.length - i = n → i ≤ ll.length → wtL (ll.drop i) ≤ k →
    colorset_valid.l0 k ll (ll.length : Int) (i : Int) = some ((ll.drop i).all inB) := by
  induction n with
  | zero =>
    intro k i hn hi hk
    rw [drop_end ll i (by omega), wtL] at hk
    obtain ⟨k, rfl⟩ := fuel (show 0 < k by omega)
    simp only [colorset_valid.l0]
    rw [if_neg (by omega), drop_end ll i (by omega)]; rfl
  | succ n ih =>
    intro k i hn hi hk
    have h1 : i < ll.length := by omega
    rw [drop_cons ll i h1, wtL] at hk
    obtain ⟨k, rfl⟩ := fuel (show 0 < k by omega)
    simp only [colorset_valid.l0]
    rw [if_pos (by omega), if_pos (by omega), if_pos (by omega), rdL5_get ll i h1]
    have hrow := valid_row ll i h1 hl ll[i] (ha _ (List.getElem_mem h1)) ll[i].length k 0 (by omega) (by omega) (by omega)
    rw [List.drop_zero] at hrow
    rw [show (0 : Int) = ((0 : Nat) : Int) from rfl, hrow, ih (k - (ll[i].length + 1)) (i + 1) (by omega) (by omega) (by omega), drop_cons ll i h1, List.all_cons]
    cases inB ll[i] <;> rfl
theorem cvalid_is (ll : List (List Int)) (hl : ll.length ≤ 1000) (ha : ∀ a ∈ ll, a.length ≤ 17592186044416) (k : Nat) (hk : wtL ll ≤ k) : colorset_valid.f k ll = some (ll.all inB) := by
  unfold colorset_valid.f
  have := valid_l0 ll hl ha _ k 0 rfl (by omega) (by simpa using hk)
  simpa using this
end Go.Proofs.YtjhlagpcbaodkaaDoor.PlainS
