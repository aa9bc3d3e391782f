/- Plain laws over the printed functions: what each comes to. No condition but the ones written. -/
import Derived.Test.YtoobmfofkeaibaaDoorNum
import Derived.Test.YtoobmfofkeaibaaDoorPMaxx2
import Derived.Test.YtoobmfofkeaibaaDoorPMaxx5
import Derived.Test.YtoobmfofkeaibaaDoorPMaxx7
import Derived.Test.YtoobmfofkeaibaaDoorPMaxx2
import Derived.Test.YtoobmfofkeaibaaDoorPMaxx3
import Derived.Lib.Strings
import Derived.OpenShut
namespace Go.Proofs.YtoobmfofkeaibaaDoor.Plain
open Go Go.RowKit Go.Proofs.YtoobmfofkeaibaaDoor.PMax Go.Proofs.YtoobmfofkeaibaaDoorW.PrintWords Go.Proofs.YtoobmfofkeaibaaDoorW.PrintLast Go.Proofs.YtoobmfofkeaibaaDoorW.PrintMore
set_option linter.unusedVariables false
def I64 (a : Int) : Prop := -9223372036854775808 ≤ a ∧ a < 9223372036854775808
theorem i64_of {a : Int} (h : (Lit.int .i64 a).wf = true) : I64 a := by have := bounds_i64 h; unfold I64; omega
def AllI (l : List Int) : Prop := ∀ x ∈ l, I64 x
theorem allI_of {l : List Int} (h : ∀ x ∈ l, (Lit.int .i64 x).wf = true) : AllI l := fun x hx => i64_of (h x hx)
theorem wrap_succ (i : Nat) (h : i < 9223372036854775807) : wrap64 ((i : Int) + 1) = ((i + 1 : Nat) : Int) := by unfold wrap64; omega
theorem wrap_id (x : Int) (h : -9223372036854775808 ≤ x ∧ x < 9223372036854775808) : wrap64 x = x := by unfold wrap64; omega
theorem rd_get (l : List Int) (i : Nat) (h : i < l.length) : rd l (i : Int) = l[i] := by
  unfold rd; rw [Int.toNat_natCast, List.getD_eq_getElem?_getD, List.getElem?_eq_getElem h]; rfl
theorem rdOf_get {α : Type} (d : α) (l : List α) (i : Nat) (h : i < l.length) : rdOf d l (i : Int) = l[i] := by
  unfold rdOf; rw [Int.toNat_natCast, List.getD_eq_getElem?_getD, List.getElem?_eq_getElem h]; rfl
theorem size_data (s : ByteArray) : s.size = s.data.toList.length := Lib.size_eq s
theorem bt_get (s : ByteArray) (i : Nat) (h : i < s.data.toList.length) : bt s (i : Int) = ((s.data.toList[i]'h).toNat : Int) := by
  have h' : i < s.size := by rw [size_data]; exact h
  unfold bt
  simp only [Int.toNat_natCast]
  rw [dif_pos h']
  rfl
theorem toList_eq_iff (s : ByteArray) (l : List UInt8) : s.toList = l ↔ s.data.toList = l := by rw [Lib.toList_data]
theorem getI {l : List Int} (h : AllI l) (i : Nat) (hi : i < l.length) : I64 l[i] := h _ (List.getElem_mem hi)
theorem drop_cons {α : Type} (l : List α) (i : Nat) (h : i < l.length) : l.drop i = l[i] :: l.drop (i + 1) := List.drop_eq_getElem_cons h
theorem drop_end {α : Type} (l : List α) (i : Nat) (h : l.length ≤ i) : l.drop i = [] := List.drop_eq_nil_of_le h
/-- The fuel is one more. -/
theorem fuel {n k : Nat} (h : n < k) : ∃ m, k = m + 1 := ⟨k - 1, by omega⟩
def mk (p : List UInt8) : ByteArray := ByteArray.mk p.toArray
theorem mk_extract (s : ByteArray) (f i : Nat) : s.extract f i = mk ((s.data.toList.drop f).take (i - f)) := Num.str_ext (by unfold mk; rw [Lib.extract_data, Num.data_mk])
/-! ### petrinetref04.Same -/
theorem same_l (a b : List Int) (hab : a.length = b.length) (hl : a.length ≤ 4611686018427387904) (n : Nat) : ∀ (k i : Nat), a.length - i = n → i ≤ a.length → n < k → petrinetref04_Same.l0 k a b (i : Int) = some (decide (a.drop i = b.drop i)) := by
  induction n with
  | zero =>
    intro k i hn hi hk
    obtain ⟨k, rfl⟩ := fuel hk
    simp only [petrinetref04_Same.l0]
    rw [if_neg (by omega), drop_end a i (by omega), drop_end b i (by omega)]; simp
  | succ n ih =>
    intro k i hn hi hk
    obtain ⟨k, rfl⟩ := fuel hk
    have h1 : i < a.length := by omega
    have h2 : i < b.length := by omega
    simp only [petrinetref04_Same.l0]
    rw [if_pos (by omega), if_pos (by omega), if_pos (by omega), rd_get a i h1, rd_get b i h2]
    have hiff : (a.drop i = b.drop i) ↔ (a[i] = b[i] ∧ a.drop (i + 1) = b.drop (i + 1)) := by rw [drop_cons a i h1, drop_cons b i h2, List.cons.injEq]
    by_cases e : a[i] = b[i]
    · rw [if_pos e, wrap_succ i (by omega), ih k (i + 1) (by omega) (by omega) (by omega)]
      congr 1; rw [decide_eq_decide, hiff]; exact ⟨fun h => ⟨e, h⟩, fun h => h.2⟩
    · rw [if_neg e, decide_eq_false (fun h => e (hiff.mp h).1)]
theorem same_is (a b : List Int) (hl : a.length ≤ 4611686018427387904) (k : Nat) (hk : a.length < k) : petrinetref04_Same.f k a b = some (decide (a = b)) := by
  unfold petrinetref04_Same.f
  by_cases h : (a.length : Int) = (b.length : Int)
  · rw [if_pos h]
    have := same_l a b (by omega) hl a.length k 0 (by omega) (by omega) hk
    simpa using this
  · rw [if_neg h]
    have : a ≠ b := fun e => h (by rw [e])
    simp [this]
/-! ### markings in bounds -/
def inB (l : List Int) : Bool := decide (∀ x ∈ l, 0 ≤ x ∧ x ≤ 1048576)
theorem inB_nil : inB [] = true := by simp [inB]
theorem inB_cons (x : Int) (l : List Int) : inB (x :: l) = (decide (0 ≤ x ∧ x ≤ 1048576) && inB l) := by simp [inB]
theorem inB_iff (l : List Int) : inB l = true ↔ ∀ x ∈ l, 0 ≤ x ∧ x ≤ 1048576 := by unfold inB; rw [decide_eq_true_iff]
def validB (l : List Int) (n : Int) : Bool := decide ((l.length : Int) = n) && inB l
theorem valid_self (l : List Int) : validB l (l.length : Int) = inB l := by unfold validB; rw [decide_eq_true rfl]; rfl
/-! ### Valid, Total -/
theorem valid_l (l : List Int) (hl : l.length ≤ 17592186044416) (n : Nat) : ∀ (k i : Nat), l.length - i = n → i ≤ l.length → n < k → marking_Valid.l0 k l (l.length : Int) (i : Int) = some (inB (l.drop i)) := by
  induction n with
  | zero =>
    intro k i hn hi hk
    obtain ⟨k, rfl⟩ := fuel hk
    simp only [marking_Valid.l0]
    rw [if_neg (by omega), drop_end l i (by omega), inB_nil]
  | succ n ih =>
    intro k i hn hi hk
    obtain ⟨k, rfl⟩ := fuel hk
    have h1 : i < l.length := by omega
    simp only [marking_Valid.l0]
    rw [if_pos (by omega), if_pos (by omega), if_pos (by omega), rd_get l i h1, wrap_succ i (by omega), drop_cons l i h1, inB_cons]
    by_cases a : l[i] < 0
    · rw [if_pos a, decide_eq_false (by omega)]; rfl
    · rw [if_neg a]
      by_cases b : l[i] > 1048576
      · rw [if_pos b, decide_eq_false (by omega)]; rfl
      · rw [if_neg b, decide_eq_true (by omega), ih k (i + 1) (by omega) (by omega) (by omega)]; rfl
theorem valid_is (l : List Int) (n : Int) (hl : l.length ≤ 17592186044416) (k : Nat) (hk : l.length < k) : marking_Valid.f k l n = some (validB l n) := by
  unfold marking_Valid.f validB
  by_cases h : (l.length : Int) = n
  · rw [if_pos h, decide_eq_true h]
    have := valid_l l hl _ k 0 rfl (by omega) (by omega)
    simpa using this
  · rw [if_neg h, decide_eq_false h]; rfl
/-! ### Leq, Max, Min, Compare, Unit -/
def leqL : List Int → List Int → Bool
  | [], [] => true
  | x :: a, y :: b => decide (x ≤ y) && leqL a b
  | _, _ => false
theorem leqL_len : ∀ a b : List Int, leqL a b = true → a.length = b.length
  | [], [], _ => rfl
  | x :: a, y :: b, h => by rw [leqL, Bool.and_eq_true] at h; simp only [List.length_cons]; rw [leqL_len a b h.2]
  | [], y :: b, h => by simp [leqL] at h
  | x :: a, [], h => by simp [leqL] at h
theorem leq_l (a b : List Int) (hab : a.length = b.length) (hl : a.length ≤ 17592186044416) (n : Nat) : ∀ (k i : Nat), a.length - i = n → i ≤ a.length → n < k → marking_Leq.l0 k a b (a.length : Int) (i : Int) = some (leqL (a.drop i) (b.drop i)) := by
  induction n with
  | zero =>
    intro k i hn hi hk
    obtain ⟨k, rfl⟩ := fuel hk
    simp only [marking_Leq.l0]
    rw [if_neg (by omega), drop_end a i (by omega), drop_end b i (by omega), leqL]
  | succ n ih =>
    intro k i hn hi hk
    obtain ⟨k, rfl⟩ := fuel hk
    have h1 : i < a.length := by omega
    have h2 : i < b.length := by omega
    simp only [marking_Leq.l0]
    rw [if_pos (by omega), if_pos (by omega), if_pos (by omega), if_pos (by omega), rd_get a i h1, rd_get b i h2, drop_cons a i h1, drop_cons b i h2, leqL]
    by_cases e : a[i] > b[i]
    · rw [if_pos e, decide_eq_false (by omega)]; rfl
    · rw [if_neg e, decide_eq_true (by omega), wrap_succ i (by omega), ih k (i + 1) (by omega) (by omega) (by omega)]; rfl
theorem leq_is (a b : List Int) (hl : a.length ≤ 17592186044416) (k : Nat) (hk : a.length < k) : marking_Leq.f k a b = some (leqL a b) := by
  unfold marking_Leq.f
  by_cases h : (a.length : Int) = (b.length : Int)
  · rw [if_pos h]
    have := leq_l a b (by omega) hl _ k 0 rfl (by omega) hk
    simpa using this
  · rw [if_neg h]
    cases e : leqL a b with
    | false => rfl
    | true => exact absurd (leqL_len a b e) (by omega)
theorem set_take {α : Type} (l : List α) (i : Nat) (v : α) (h : i < l.length) : (l.set i v).take (i + 1) = l.take i ++ [v] := by
  rw [List.take_succ_eq_append_getElem (by rw [List.length_set]; exact h), List.getElem_set_self, List.take_set, List.set_eq_of_length_le (by rw [List.length_take]; omega)]
/-! ### facts of the order -/
theorem leqL_refl : ∀ a : List Int, leqL a a = true
  | [] => rfl
  | x :: a => by rw [leqL, leqL_refl a, decide_eq_true (Int.le_refl x)]; rfl
theorem leqL_cons (x y : Int) (a b : List Int) : leqL (x :: a) (y :: b) = true ↔ x ≤ y ∧ leqL a b = true := by rw [leqL, Bool.and_eq_true, decide_eq_true_iff]
theorem leqL_anti : ∀ a b : List Int, leqL a b = true → leqL b a = true → a = b
  | [], [], _, _ => rfl
  | x :: a, y :: b, h, g => by
    rw [leqL_cons] at h g
    rw [leqL_anti a b h.2 g.2, show x = y by omega]
  | [], y :: b, h, _ => by simp [leqL] at h
  | x :: a, [], h, _ => by simp [leqL] at h
theorem leqL_trans : ∀ a b c : List Int, leqL a b = true → leqL b c = true → leqL a c = true
  | [], [], [], _, _ => rfl
  | x :: a, y :: b, z :: c, h, g => by
    rw [leqL_cons] at h g ⊢
    exact ⟨by omega, leqL_trans a b c h.2 g.2⟩
  | [], y :: b, _, h, _ => by simp [leqL] at h
  | x :: a, [], _, h, _ => by simp [leqL] at h
  | _, [], z :: c, _, g => by simp [leqL] at g
  | _, y :: b, [], _, g => by simp [leqL] at g
/-! ### extended markings: Valid, Leq, Covers, Accelerate -/
theorem drop_at {α : Type} {l : List α} {i : Nat} (h : i < l.length) : l.drop i = l[i] :: l.drop (i + 1) := drop_cons l i h
def inW (l : List Int) : Bool := decide (∀ x ∈ l, x = -1 ∨ (0 ≤ x ∧ x ≤ 1048576))
theorem inW_nil : inW [] = true := by simp [inW]
theorem inW_cons (x : Int) (l : List Int) : inW (x :: l) = (decide (x = -1 ∨ (0 ≤ x ∧ x ≤ 1048576)) && inW l) := by simp [inW]
theorem inW_iff (l : List Int) : inW l = true ↔ ∀ x ∈ l, x = -1 ∨ (0 ≤ x ∧ x ≤ 1048576) := by unfold inW; rw [decide_eq_true_iff]
theorem oneB (x : Int) : validB [x] 1 = decide (0 ≤ x ∧ x ≤ 1048576) := by
  unfold validB; rw [inB_cons, inB_nil]; simp
theorem ovalid_l (l : List Int) (hl : l.length ≤ 17592186044416) (n : Nat) : ∀ (k i : Nat), l.length - i = n → i ≤ l.length → n + 3 < k → omega_Valid.l0 k l (l.length : Int) (i : Int) = some (inW (l.drop i)) := by
  induction n with
  | zero =>
    intro k i hn hi hk
    obtain ⟨k, rfl⟩ := fuel hk
    simp only [omega_Valid.l0]
    rw [if_neg (by omega), drop_end l i (by omega), inW_nil]
  | succ n ih =>
    intro k i hn hi hk
    obtain ⟨k, rfl⟩ := fuel hk
    have h1 : i < l.length := by omega
    simp only [omega_Valid.l0]
    rw [if_pos (by omega), if_pos (by omega), if_pos (by omega), rd_get l i h1, wrap_succ i (by omega), drop_cons l i h1, inW_cons, ih k (i + 1) (by omega) (by omega) (by omega), valid_is [l[i]] 1 (by simp) k (by simp; omega), oneB, Option.bind_some]
    by_cases a : l[i] = -1
    · rw [if_pos a, decide_eq_true (Or.inl a)]; rfl
    · rw [if_neg a]
      by_cases b : 0 ≤ l[i] ∧ l[i] ≤ 1048576
      · rw [decide_eq_true b, if_pos rfl, decide_eq_true (Or.inr b)]; rfl
      · rw [decide_eq_false b, if_neg (by simp), decide_eq_false (by omega)]; rfl
def validW (l : List Int) (n : Int) : Bool := decide ((l.length : Int) = n) && inW l
theorem ovalid_is (l : List Int) (n : Int) (hl : l.length ≤ 17592186044416) (k : Nat) (hk : l.length + 3 < k) : omega_Valid.f k l n = some (validW l n) := by
  unfold omega_Valid.f validW
  by_cases h : (l.length : Int) = n
  · rw [if_pos h, decide_eq_true h]
    have := ovalid_l l hl _ k 0 rfl (by omega) (by omega)
    simpa using this
  · rw [if_neg h, decide_eq_false h]; rfl
theorem wvalid_l (l : List Int) (hl : l.length ≤ 17592186044416) (n : Nat) : ∀ (k i : Nat), l.length - i = n → i ≤ l.length → n < k → petrinetref05_Valid.l0 k l (i : Int) = some (inW (l.drop i)) := by
  induction n with
  | zero =>
    intro k i hn hi hk
    obtain ⟨k, rfl⟩ := fuel hk
    simp only [petrinetref05_Valid.l0]
    rw [if_neg (by omega), drop_end l i (by omega), inW_nil]
  | succ n ih =>
    intro k i hn hi hk
    obtain ⟨k, rfl⟩ := fuel hk
    have h1 : i < l.length := by omega
    simp only [petrinetref05_Valid.l0]
    rw [if_pos (by omega), if_pos (by omega), rd_get l i h1, wrap_succ i (by omega), drop_cons l i h1, inW_cons, ih k (i + 1) (by omega) (by omega) (by omega)]
    by_cases a : l[i] = -1
    · rw [if_pos a, decide_eq_true (Or.inl a)]; rfl
    · rw [if_neg a]
      by_cases b : l[i] < 0
      · rw [if_pos b, decide_eq_false (by omega)]; rfl
      · rw [if_neg b]
        by_cases c : l[i] > 1048576
        · rw [if_pos c, decide_eq_false (by omega)]; rfl
        · rw [if_neg c, decide_eq_true (by omega)]; rfl
theorem wvalid_is (l : List Int) (n : Int) (hl : l.length ≤ 17592186044416) (k : Nat) (hk : l.length < k) : petrinetref05_Valid.f k l n = some (validW l n) := by
  unfold petrinetref05_Valid.f validW
  by_cases h : (l.length : Int) = n
  · rw [if_pos h, decide_eq_true h]
    have := wvalid_l l hl _ k 0 rfl (by omega) (by omega)
    simpa using this
  · rw [if_neg h, decide_eq_false h]; rfl
def rankE (x : Int) : Int := if x = -1 then 1048577 else x
theorem rank_is (x : Int) : omega_rank.f x = some (rankE x) := by unfold omega_rank.f rankE; split <;> rfl
theorem ranks_l (l : List Int) (hl : l.length ≤ 17592186044416) (n : Nat) : ∀ (k i : Nat) (acc : List Int), l.length - i = n → i ≤ l.length → acc.length = l.length → n < k → omega_ranks.l0 k acc l (l.length : Int) (i : Int) = some (acc.take i ++ (l.drop i).map rankE) := by
  induction n with
  | zero =>
    intro k i acc hn hi ha hk
    obtain ⟨k, rfl⟩ := fuel hk
    simp only [omega_ranks.l0]
    rw [if_neg (by omega), drop_end l i (by omega), List.take_of_length_le (by omega)]; simp
  | succ n ih =>
    intro k i acc hn hi ha hk
    obtain ⟨k, rfl⟩ := fuel hk
    have h1 : i < l.length := by omega
    simp only [omega_ranks.l0]
    rw [if_pos (by omega), if_pos (by omega), if_pos (by omega), rd_get l i h1, rank_is, Option.bind_some, if_pos (by omega), wrap_succ i (by omega), Int.toNat_natCast, ih k (i + 1) _ (by omega) (by omega) (by rw [List.length_set]; exact ha) (by omega), set_take acc i _ (by omega), drop_cons l i h1, List.map_cons, List.append_assoc]; rfl
theorem ranks_is (l : List Int) (hl : l.length ≤ 17592186044416) (k : Nat) (hk : l.length < k) : omega_ranks.f k l = some (l.map rankE) := by
  unfold omega_ranks.f
  rw [if_pos (by omega), if_pos (by omega)]
  have := ranks_l l hl _ k 0 (List.replicate l.length 0) rfl (by omega) (by simp) hk
  simpa using this
def leqW (a b : List Int) : Bool := (validW a (b.length : Int) && inW b) && leqL (a.map rankE) (b.map rankE)
theorem validW_self (l : List Int) : validW l (l.length : Int) = inW l := by unfold validW; rw [decide_eq_true rfl]; rfl
theorem oleq_is (a b : List Int) (ha : a.length ≤ 17592186044416) (hb : b.length ≤ 17592186044416) (k : Nat) (hk : a.length + 3 < k) (hk' : b.length + 3 < k) : omega_Leq.f k a b = some (leqW a b) := by
  unfold omega_Leq.f leqW
  rw [ovalid_is a _ ha k hk, ovalid_is b _ hb k hk', validW_self, Option.bind_some, Option.bind_some]
  cases validW a (b.length : Int) with
  | false => rfl
  | true =>
    rw [if_pos rfl]
    cases inW b with
    | false => rfl
    | true =>
      rw [if_pos rfl, ranks_is a ha k (by omega), ranks_is b hb k (by omega), Option.bind_some, Option.bind_some, leq_is _ _ (by rw [List.length_map]; exact ha) k (by rw [List.length_map]; omega), Option.bind_some]; rfl
theorem more_is (a b : Int) (ha : a = -1 ∨ (0 ≤ a ∧ a ≤ 1048576)) (hb : b = -1 ∨ (0 ≤ b ∧ b ≤ 1048576)) : petrinetref05_more.f a b = some (decide (rankE b < rankE a)) := by
  unfold petrinetref05_more.f rankE
  by_cases h : a = -1
  · rw [if_pos h, if_pos h]
    by_cases g : b = -1
    · rw [if_pos g, g]; rfl
    · rw [if_neg g, decide_eq_true (by omega)]; simpa using g
  · rw [if_neg h, if_neg h]
    by_cases g : b = -1
    · rw [if_pos g, if_pos g, decide_eq_false (by omega)]
    · rw [if_neg g, if_neg g]
theorem wleq_l (a b : List Int) (hab : a.length = b.length) (ha : inW a = true) (hb : inW b = true) (hl : a.length ≤ 17592186044416) (n : Nat) : ∀ (k i : Nat), a.length - i = n → i ≤ a.length → n < k → petrinetref05_Leq.l0 k a b (i : Int) = some (leqL ((a.drop i).map rankE) ((b.drop i).map rankE)) := by
  induction n with
  | zero =>
    intro k i hn hi hk
    obtain ⟨k, rfl⟩ := fuel hk
    simp only [petrinetref05_Leq.l0]
    rw [if_neg (by omega), drop_end a i (by omega), drop_end b i (by omega)]; rfl
  | succ n ih =>
    intro k i hn hi hk
    obtain ⟨k, rfl⟩ := fuel hk
    have h1 : i < a.length := by omega
    have h2 : i < b.length := by omega
    simp only [petrinetref05_Leq.l0]
    rw [if_pos (by omega), if_pos (by omega), if_pos (by omega), rd_get a i h1, rd_get b i h2, more_is _ _ ((inW_iff a).mp ha _ (List.getElem_mem h1)) ((inW_iff b).mp hb _ (List.getElem_mem h2)), Option.bind_some, drop_cons a i h1, drop_cons b i h2, List.map_cons, List.map_cons, leqL, wrap_succ i (by omega), ih k (i + 1) (by omega) (by omega) (by omega)]
    by_cases e : rankE b[i] < rankE a[i]
    · rw [decide_eq_true e, if_pos rfl, decide_eq_false (by omega)]; rfl
    · rw [decide_eq_false e, if_neg (by simp), decide_eq_true (by omega)]; rfl
theorem wleq_is (a b : List Int) (ha : a.length ≤ 17592186044416) (hb : b.length ≤ 17592186044416) (k : Nat) (hk : a.length + 3 < k) (hk' : b.length + 3 < k) : petrinetref05_Leq.f k a b = some (leqW a b) := by
  obtain ⟨k, rfl⟩ := fuel (show 0 < k by omega)
  unfold petrinetref05_Leq.f leqW
  rw [wvalid_is a _ ha _ (by omega), wvalid_is b _ hb _ (by omega), validW_self, Option.bind_some, Option.bind_some]
  cases hv : validW a (b.length : Int) with
  | false => rfl
  | true =>
    rw [if_pos rfl]
    unfold validW at hv
    rw [Bool.and_eq_true, decide_eq_true_iff] at hv
    cases hw : inW b with
    | false => rfl
    | true =>
      have := wleq_l a b (by omega) hv.2 hw ha _ k 0 rfl (by omega) (by omega)
      simp only [Bool.not_true, petrinetref05_Leq.j0]
      rw [if_neg (by simp)]
      simpa using this
def noW (m : List Int) : Bool := decide (∀ x ∈ m, x ≠ -1)
theorem noW_nil : noW [] = true := by simp [noW]
theorem noW_cons (x : Int) (l : List Int) : noW (x :: l) = (decide (x ≠ -1) && noW l) := by simp [noW]
def coversW (a m : List Int) : Bool := noW m && leqW m a
theorem ocov_l (a m : List Int) (ha : a.length ≤ 17592186044416) (hm : m.length ≤ 17592186044416) (n : Nat) : ∀ (k i : Nat), m.length - i = n → i ≤ m.length → n + a.length + m.length + 4 < k → omega_Covers.l0 k a m m (m.length : Int) (i : Int) = some (noW (m.drop i) && leqW m a) := by
  induction n with
  | zero =>
    intro k i hn hi hk
    obtain ⟨k, rfl⟩ := fuel hk
    simp only [omega_Covers.l0]
    rw [if_neg (by omega), drop_end m i (by omega), noW_nil, oleq_is m a hm ha k (by omega) (by omega)]; rfl
  | succ n ih =>
    intro k i hn hi hk
    obtain ⟨k, rfl⟩ := fuel hk
    have h1 : i < m.length := by omega
    simp only [omega_Covers.l0]
    rw [if_pos (by omega), if_pos (by omega), if_pos (by omega), rd_get m i h1, drop_cons m i h1, noW_cons, wrap_succ i (by omega), ih k (i + 1) (by omega) (by omega) (by omega)]
    by_cases e : m[i] = -1
    · rw [if_pos e, decide_eq_false (by omega)]; rfl
    · rw [if_neg e, decide_eq_true e]; rfl
theorem ocov_is (a m : List Int) (ha : a.length ≤ 17592186044416) (hm : m.length ≤ 17592186044416) (k : Nat) (hk : a.length + 2 * m.length + 4 < k) : omega_Covers.f k a m = some (coversW a m) := by
  unfold omega_Covers.f coversW
  have := ocov_l a m ha hm _ k 0 rfl (by omega) (by omega)
  simpa using this
def finI : Nat → List Int → List Int
  | _, [] => []
  | i, x :: l => if x = -1 then finI (i + 1) l else (i : Int) :: finI (i + 1) l
theorem finI_len (l : List Int) : ∀ i, (finI i l).length ≤ l.length := by
  induction l with
  | nil => intro i; simp [finI]
  | cons x l ih =>
    intro i; have := ih (i + 1)
    rw [finI]; split <;> simp only [List.length_cons] <;> omega
theorem finI_all (l : List Int) : ∀ i, (finI i l).length = l.length ↔ noW l = true := by
  induction l with
  | nil => intro i; simp [finI, noW]
  | cons x l ih =>
    intro i
    have h1 := ih (i + 1); have h2 := finI_len l (i + 1)
    rw [finI, noW_cons]
    by_cases e : x = -1
    · rw [if_pos e, decide_eq_false (by omega)]; simp only [List.length_cons, Bool.false_and, Bool.false_eq_true, iff_false]; omega
    · rw [if_neg e, decide_eq_true e]; simp only [List.length_cons, Bool.true_and]; rw [← h1]; omega
def accE (l h : Int) : Int := if rankE l < rankE h then -1 else h
def accW (low high : List Int) : List Int := if leqW low high = true then List.zipWith accE low high else high
theorem leqW_len {a b : List Int} (h : leqW a b = true) : a.length = b.length := by
  unfold leqW validW at h
  simp only [Bool.and_eq_true, decide_eq_true_iff] at h
  omega
theorem cpy_zero (l : List Int) : CopyW.cpy (List.replicate l.length 0) l = l := by
  unfold CopyW.cpy
  rw [List.length_replicate, List.take_length, List.drop_eq_nil_of_le (by rw [List.length_replicate]; omega), List.append_nil]
theorem acc_l (low high : List Int) (hlh : low.length = high.length) (hl : high.length ≤ 17592186044416) (n : Nat) : ∀ (k i : Nat) (out : List Int), high.length - i = n → i ≤ high.length → out.length = high.length → out.drop i = high.drop i → n < k →
    omega_Accelerate.l0 k low out high (high.length : Int) (i : Int) = some (out.take i ++ List.zipWith accE (low.drop i) (high.drop i)) := by
  induction n with
  | zero =>
    intro k i out hn hi ho hd hk
    obtain ⟨k, rfl⟩ := fuel hk
    simp only [omega_Accelerate.l0]
    rw [if_neg (by omega), drop_end high i (by omega), List.take_of_length_le (by omega)]; simp
  | succ n ih =>
    intro k i out hn hi ho hd hk
    obtain ⟨k, rfl⟩ := fuel hk
    have h1 : i < high.length := by omega
    have h2 : i < low.length := by omega
    have h3 : i < out.length := by omega
    have hd' := hd
    rw [drop_cons out i h3, drop_cons high i h1, List.cons.injEq] at hd'
    simp only [omega_Accelerate.l0]
    rw [if_pos (by omega), if_pos (by omega), if_pos (by omega), rd_get high i h1, rd_get low i h2, rank_is, rank_is, Option.bind_some, if_pos (by omega), Option.bind_some, wrap_succ i (by omega), drop_cons low i h2, drop_cons high i h1, List.zipWith_cons_cons]
    by_cases e : rankE low[i] < rankE high[i]
    · rw [if_pos e, if_pos (by omega), Int.toNat_natCast, ih k (i + 1) _ (by omega) (by omega) (by rw [List.length_set]; exact ho) (by rw [List.drop_set_of_lt (by omega)]; exact hd'.2) (by omega), set_take out i _ h3, accE, if_pos e]
      simp
    · rw [if_neg e, ih k (i + 1) _ (by omega) (by omega) ho hd'.2 (by omega), accE, if_neg e, List.take_succ_eq_append_getElem h3, hd'.1]
      simp
theorem acc_is (low high : List Int) (hl : low.length ≤ 17592186044416) (hh : high.length ≤ 17592186044416) (k : Nat) (hk : low.length + high.length + 4 < k) : omega_Accelerate.f k low high = some (accW low high) := by
  unfold omega_Accelerate.f accW
  rw [if_pos (by omega), if_pos (by omega), Int.toNat_natCast, cpy_zero, Option.bind_some, oleq_is low high hl hh k (by omega) (by omega), Option.bind_some]
  cases e : leqW low high with
  | false => rfl
  | true =>
    rw [if_pos rfl, if_pos rfl]
    have := acc_l low high (leqW_len e) hh _ k 0 high rfl (by omega) rfl rfl (by omega)
    simpa using this
theorem rcopy_l (l : List Int) (hl : l.length ≤ 17592186044416) (n : Nat) : ∀ (k i : Nat) (out : List Int), l.length - i = n → i ≤ l.length → out.length ≤ i → n < k → petrinetref04_Copy.l0 k l out (i : Int) = some (out ++ l.drop i) := by
  induction n with
  | zero =>
    intro k i out hn hi ho hk
    obtain ⟨k, rfl⟩ := fuel hk
    simp only [petrinetref04_Copy.l0]
    rw [if_neg (by omega), drop_end l i (by omega), List.append_nil]
  | succ n ih =>
    intro k i out hn hi ho hk
    obtain ⟨k, rfl⟩ := fuel hk
    have h1 : i < l.length := by omega
    simp only [petrinetref04_Copy.l0]
    rw [if_pos (by omega), if_pos (by omega), if_pos (by omega), rd_get l i h1, wrap_succ i (by omega), ih k (i + 1) _ (by omega) (by omega) (by simp; omega) (by omega), drop_cons l i h1]
    simp
theorem rcopy_is (l : List Int) (hl : l.length ≤ 17592186044416) (k : Nat) (hk : l.length < k) : petrinetref04_Copy.f k l = some l := by
  unfold petrinetref04_Copy.f
  have := rcopy_l l hl _ k 0 [] rfl (by omega) (by simp) hk
  simpa using this
/-! ### facts -/
theorem leqW_iff (a b : List Int) : leqW a b = true ↔ a.length = b.length ∧ inW a = true ∧ inW b = true ∧ leqL (a.map rankE) (b.map rankE) = true := by
  unfold leqW validW
  simp only [Bool.and_eq_true, decide_eq_true_iff]
  constructor
  · rintro ⟨⟨⟨h1, h2⟩, h3⟩, h4⟩; exact ⟨by omega, h2, h3, h4⟩
  · rintro ⟨h1, h2, h3, h4⟩; exact ⟨⟨⟨by omega, h2⟩, h3⟩, h4⟩
theorem leqW_trans {a b c : List Int} (h : leqW a b = true) (g : leqW b c = true) : leqW a c = true := by
  rw [leqW_iff] at h g ⊢
  exact ⟨by omega, h.2.1, g.2.2.1, leqL_trans _ _ _ h.2.2.2 g.2.2.2⟩
theorem acc_in : ∀ low high : List Int, inW high = true → inW (List.zipWith accE low high) = true
  | [], _, _ => by simp [inW]
  | _ :: _, [], _ => by simp [inW]
  | l :: low, h :: high, e => by
    rw [inW_cons, Bool.and_eq_true, decide_eq_true_iff] at e
    rw [List.zipWith_cons_cons, inW_cons, Bool.and_eq_true, decide_eq_true_iff]
    refine ⟨?_, acc_in low high e.2⟩
    unfold accE; split
    · exact .inl rfl
    · exact e.1
theorem acc_ge : ∀ low high : List Int, low.length = high.length → inW high = true → leqL (high.map rankE) ((List.zipWith accE low high).map rankE) = true
  | [], [], _, _ => rfl
  | l :: low, h :: high, hl, e => by
    rw [inW_cons, Bool.and_eq_true, decide_eq_true_iff] at e
    rw [List.zipWith_cons_cons, List.map_cons, List.map_cons, leqL_cons]
    refine ⟨?_, acc_ge low high (by simpa using hl) e.2⟩
    unfold accE rankE; have := e.1; split <;> split <;> (try split) <;> omega
  | [], _ :: _, hl, _ => by simp at hl
  | _ :: _, [], hl, _ => by simp at hl
theorem accW_ge {low high : List Int} (h : leqW low high = true) : leqW high (accW low high) = true := by
  unfold accW; rw [if_pos h]
  rw [leqW_iff] at h ⊢
  exact ⟨by rw [List.length_zipWith]; omega, h.2.2.1, acc_in _ _ h.2.2.1, acc_ge _ _ h.1 h.2.2.1⟩
theorem acc_same : ∀ l : List Int, List.zipWith accE l l = l
  | [] => rfl
  | x :: l => by rw [List.zipWith_cons_cons, acc_same l, accE, if_neg (by omega)]
theorem accW_same (l : List Int) : accW l l = l := by unfold accW; split; exact acc_same l; rfl
theorem accW_len (low high : List Int) : (accW low high).length = high.length := by
  unfold accW; split
  · rename_i h; rw [List.length_zipWith, leqW_len h]; omega
  · rfl
theorem covers_up {a b m : List Int} (h : leqW a b = true) (g : coversW a m = true) : coversW b m = true := by
  unfold coversW at g ⊢
  rw [Bool.and_eq_true] at g ⊢
  exact ⟨g.1, leqW_trans g.2 h⟩
/-! ### petrinetref04.Number -/
theorem digits10 : (ByteArray.mk #[48, 49, 50, 51, 52, 53, 54, 55, 56, 57]).size = 10 := rfl
theorem digit_piece (d : Nat) (h : d < 10) : ((ByteArray.mk #[48, 49, 50, 51, 52, 53, 54, 55, 56, 57]).extract d (d + 1)).data.toList = [UInt8.ofNat (48 + d)] := by
  rw [Lib.extract_data]
  have : ∀ d : Fin 10, ((ByteArray.mk #[48, 49, 50, 51, 52, 53, 54, 55, 56, 57]).data.toList.drop d.val).take (d.val + 1 - d.val) = [UInt8.ofNat (48 + d.val)] := by decide +kernel
  exact this ⟨d, h⟩
/-- What the loop comes to: the digits of m ahead of what is there; none where m is 0 and something is there. -/
def numAcc (m : Nat) (s : List UInt8) : List UInt8 := if m = 0 ∧ s ≠ [] then s else Lib.decDigits m ++ s
theorem numAcc_step (m : Nat) (s : List UInt8) (h : ¬ (m = 0 ∧ s ≠ [])) : numAcc m s = numAcc (m / 10) (UInt8.ofNat (48 + m % 10) :: s) := by
  unfold numAcc
  rw [if_neg h]
  by_cases c : m < 10
  · rw [if_pos ⟨by omega, by simp⟩, Lib.decDigits_one c, Nat.mod_eq_of_lt c]; rfl
  · rw [if_neg (by omega)]
    conv => lhs; rw [Lib.decDigits, dif_neg c]
    simp
theorem tmod10 (n : Int) : Int.tmod n 10 = if n < 0 then -((n.natAbs % 10 : Nat) : Int) else ((n.natAbs % 10 : Nat) : Int) := by
  rw [Int.tmod_eq_emod]
  have e : (10 : Int).natAbs = 10 := rfl
  rw [e]
  split <;> split <;> omega
theorem tdiv10 (n : Int) : Int.tdiv n 10 = if n < 0 then -((n.natAbs / 10 : Nat) : Int) else ((n.natAbs / 10 : Nat) : Int) := by
  rw [Int.tdiv_eq_ediv]
  have e : (10 : Int).sign = 1 := rfl
  rw [e]
  split <;> split <;> omega
theorem decDigits_le (k : Nat) : ∀ u, u < 10 ^ (k + 1) → (Lib.decDigits u).length ≤ k + 1 := by
  induction k with
  | zero => intro u h; rw [Lib.decDigits, dif_pos (by simpa using h)]; simp
  | succ k ih =>
    intro u h
    rw [Lib.decDigits]
    split
    · simp
    · rw [List.length_append, List.length_singleton]
      have := ih (u / 10) (by rw [Nat.pow_succ] at h; omega)
      omega
/-! ### texts -/
theorem itoa_len {n : Int} (h : I64 n) : (Lib.itoa n).length ≤ 20 := by
  unfold I64 at h
  by_cases c : n < 0
  · rw [Num.itoa_neg' c, List.length_cons]
    have := decDigits_le 18 n.natAbs (by omega); omega
  · rw [Num.itoa_pos (by omega)]
    have := decDigits_le 18 n.toNat (by omega); omega
theorem strItoa_is {n : Int} (h : I64 n) : strconv_Itoa.f n = some (mk (Lib.itoa n)) := by
  unfold I64 at h; unfold strconv_Itoa.f mk; rw [if_pos (by omega)]
theorem mk_size (p : List UInt8) : (mk p).size = p.length := by rw [size_data]; unfold mk; rw [Num.data_mk]
theorem mk_data (p : List UInt8) : (mk p).data.toList = p := by unfold mk; rw [Num.data_mk]
theorem mk_self (s : ByteArray) : mk s.data.toList = s := Num.str_ext (mk_data _)
theorem app_eq {a b : ByteArray} {p q : List UInt8} (ha : a = mk p) (hb : b = mk q) : a ++ b = mk (p ++ q) := by subst ha hb; exact Num.str_ext (by rw [Num.data_append, mk_data, mk_data, mk_data])
theorem comma_eq : (⟨#[44]⟩ : ByteArray) = mk [44] := rfl
theorem wrap01 : wrap64 (0 + 1) = ((1 : Nat) : Int) := by unfold wrap64; omega
theorem empty_eq : (⟨#[]⟩ : ByteArray) = mk [] := rfl
/-! ### Text of an extended marking -/
def pieceW (x : Int) : List UInt8 := if x = -1 then [119] else Lib.itoa x
def tailW : List Int → List UInt8
  | [] => []
  | x :: l => 44 :: (pieceW x ++ tailW l)
def textW (l : List Int) : List UInt8 := if l = [] then [45] else Num.joinB 44 (l.map pieceW)
theorem textW_cons {l : List Int} (h : l ≠ []) : textW l = Num.joinB 44 (l.map pieceW) := by unfold textW; rw [if_neg h]
theorem joinW_tail (l : List Int) : ∀ x, Num.joinB 44 ((x :: l).map pieceW) = pieceW x ++ tailW l := by
  induction l with
  | nil => intro x; simp [Num.joinB, tailW]
  | cons y l ih =>
    intro x
    rw [List.map_cons, Num.joinB_cons _ _ _ (by simp), ih y, tailW]
theorem pieceW_len {n : Int} (h : I64 n) : (pieceW n).length ≤ 20 := by
  unfold pieceW; split
  · simp
  · exact itoa_len h
theorem w_eq : (⟨#[119]⟩ : ByteArray) = mk [119] := rfl
theorem tailW_drop {l : List Int} {i : Nat} (h : i < l.length) : tailW (l.drop i) = 44 :: (pieceW l[i] ++ tailW (l.drop (i + 1))) := by rw [drop_cons l i h, tailW]
theorem otext_l (l : List Int) (hl : l.length ≤ 1000000) (hin : AllI l) (n : Nat) : ∀ (k i : Nat) (s : List UInt8), l.length - i = n → 0 < i → i ≤ l.length → n < k → s.length ≤ 100 * i → omega_Text.l0 k (mk s) l (l.length : Int) (i : Int) = some (mk (s ++ tailW (l.drop i))) := by
  induction n with
  | zero =>
    intro k i s hn h0 hi hk _
    obtain ⟨k, rfl⟩ := fuel hk
    simp only [omega_Text.l0]
    rw [if_neg (by omega), drop_end l i (by omega), tailW, List.append_nil]
  | succ n ih =>
    intro k i s hn h0 hi hk hs
    obtain ⟨k, rfl⟩ := fuel hk
    have h1 : i < l.length := by omega
    have hz := itoa_len (hin _ (List.getElem_mem h1))
    simp only [omega_Text.l0]
    rw [if_pos (by omega), if_pos (by omega), if_pos (by omega), if_pos (by omega), if_pos (by rw [mk_size]; omega), rd_get l i h1, tailW_drop h1, pieceW, app_eq rfl comma_eq, wrap_succ i (by omega)]
    by_cases e : l[i] = -1
    · rw [if_pos e, if_pos e, if_pos (by rw [mk_size, List.length_append, List.length_singleton]; omega), w_eq, app_eq rfl rfl, ih k (i + 1) _ (by omega) (by omega) (by omega) (by omega) (by simp only [List.length_append, List.length_singleton]; omega)]
      congr 2; simp
    · rw [if_neg e, if_neg e, strItoa_is (hin _ (List.getElem_mem h1)), Option.bind_some]
      rw [if_pos (by rw [mk_size, mk_size, List.length_append, List.length_singleton]; omega), app_eq rfl rfl, ih k (i + 1) _ (by omega) (by omega) (by omega) (by omega) (by simp only [List.length_append, List.length_singleton]; omega)]
      congr 2; simp
theorem otext_is (l : List Int) (hl : l.length ≤ 1000000) (hin : AllI l) (k : Nat) (hk : l.length < k) : omega_Text.f k l = some (mk (textW l)) := by
  unfold omega_Text.f
  by_cases h : (l.length : Int) = 0
  · obtain rfl : l = [] := List.length_eq_zero_iff.mp (by omega)
    rfl
  · rw [if_neg h]
    have h1 : 0 < l.length := by omega
    have hne : l ≠ [] := by rintro rfl; simp at h1
    obtain ⟨x, r, rfl⟩ := List.exists_cons_of_ne_nil hne
    obtain ⟨k, rfl⟩ := fuel hk
    have hx := hin x (List.mem_cons_self ..)
    have hz := itoa_len hx
    have hz' := pieceW_len hx
    have := otext_l (x :: r) hl hin r.length k 1 (pieceW x) (by simp) (by omega) (by simp) (by simp at hk; omega) (by omega)
    have h00 : rd (x :: r) 0 = x := rfl
    rw [textW_cons hne, joinW_tail]
    simp only [omega_Text.l0]
    rw [if_pos (by omega), if_pos (by omega), if_pos (by omega), if_neg (by omega), h00, wrap01, empty_eq]
    by_cases e : x = -1
    · rw [if_pos e, if_pos (by rw [mk_size, List.length_nil]; omega), w_eq, app_eq rfl rfl, List.nil_append]
      rw [pieceW, if_pos e] at this ⊢
      rw [this]; rfl
    · rw [if_neg e, strItoa_is hx, Option.bind_some, if_pos (by rw [mk_size, mk_size, List.length_nil]; omega), app_eq rfl rfl, List.nil_append]
      rw [pieceW, if_neg e] at this ⊢
      rw [this]; rfl
/-! ### the examples, and three laws -/
theorem itoa1 : Lib.itoa 1 = [49] := by simp [Lib.itoa, Lib.decDigits]
theorem itoa2 : Lib.itoa 2 = [50] := by simp [Lib.itoa, Lib.decDigits]
theorem ex_acc : accW [1, 0, 2] [1, 1, 2] = [1, -1, 2] := by decide
theorem ex_text : textW [1, -1, 2] = [49, 44, 119, 44, 50] := by
  rw [textW_cons (by simp)]
  simp [pieceW, itoa1, itoa2, Num.joinB]
theorem ex_is (k : Nat) (hk : 2000 ≤ k) : petrinetlaw05_exampleHolds.f k = some true := by
  unfold petrinetlaw05_exampleHolds.f
  rw [acc_is _ _ (by simp) (by simp) k (by simp; omega), ex_acc, Option.bind_some, otext_is _ (by simp) (fun x hx => by simp at hx; unfold I64; omega) k (by simp; omega), Option.bind_some, ex_text, if_pos (by rw [Lib.toList_data, mk_data])]
  rw [ocov_is _ _ (by simp) (by simp) k (by simp; omega), ocov_is _ _ (by simp) (by simp) k (by simp; omega), Option.bind_some, if_pos (by decide), Option.bind_some]
  decide
theorem len_of {n : Nat} (h : n * 8 ≤ 140737488351232) : n ≤ 17592186044416 := by omega
/-! ### Compare, Unit -/
def cmpL : List Int → List Int → Int
  | [], [] => 0
  | [], _ :: _ => -1
  | _ :: _, [] => 1
  | x :: a, y :: b => if x < y then -1 else if x > y then 1 else cmpL a b
theorem mn_len (m n : Nat) : mn (m : Int) (n : Int) = ((min m n : Nat) : Int) := by unfold mn; split <;> omega
theorem cmp_end (a b : List Int) (i : Nat) (h : i = min a.length b.length) : (if (a.length : Int) < (b.length : Int) then some (-1) else (if (a.length : Int) > (b.length : Int) then some 1 else some 0)) = some (cmpL (a.drop i) (b.drop i)) := by
  by_cases c : a.length < b.length
  · rw [if_pos (by omega), drop_end a i (by omega), drop_cons b i (by omega), cmpL]
  · rw [if_neg (by omega)]
    by_cases d : a.length > b.length
    · rw [if_pos (by omega), drop_end b i (by omega), drop_cons a i (by omega), cmpL]
    · rw [if_neg (by omega), drop_end a i (by omega), drop_end b i (by omega), cmpL]
theorem cmp_l (a b : List Int) (hl : a.length ≤ 17592186044416) (n : Nat) : ∀ (k i : Nat), min a.length b.length - i = n → i ≤ min a.length b.length → n < k → marking_Compare.l0 k a b ((min a.length b.length : Nat) : Int) (i : Int) = some (cmpL (a.drop i) (b.drop i)) := by
  induction n with
  | zero =>
    intro k i hn hi hk
    obtain ⟨k, rfl⟩ := fuel hk
    simp only [marking_Compare.l0]
    rw [if_neg (by omega), cmp_end a b i (by omega)]
  | succ n ih =>
    intro k i hn hi hk
    obtain ⟨k, rfl⟩ := fuel hk
    have h1 : i < a.length := by omega
    have h2 : i < b.length := by omega
    simp only [marking_Compare.l0]
    rw [if_pos (by omega), if_pos (by omega), if_pos (by omega), if_pos (by omega), rd_get a i h1, rd_get b i h2, drop_cons a i h1, drop_cons b i h2, cmpL, wrap_succ i (by omega), ih k (i + 1) (by omega) (by omega) (by omega)]
    split
    · rfl
    · split <;> rfl
theorem cmp_is (a b : List Int) (hl : a.length ≤ 17592186044416) (k : Nat) (hk : a.length < k) : marking_Compare.f k a b = some (cmpL a b) := by
  unfold marking_Compare.f
  rw [mn_len]
  have := cmp_l a b hl _ k 0 rfl (by omega) (by omega)
  simpa using this
theorem cmpL_anti : ∀ a b : List Int, cmpL b a = -cmpL a b
  | [], [] => rfl
  | [], y :: b => rfl
  | x :: a, [] => rfl
  | x :: a, y :: b => by
    have := cmpL_anti a b
    rw [cmpL, cmpL]
    by_cases h : x < y
    · rw [if_neg (by omega), if_pos h, if_pos h]; rfl
    · by_cases g : y < x
      · rw [if_pos g, if_neg h, if_pos g]
      · rw [if_neg g, if_neg h, if_neg h, if_neg g, this]
theorem cmpL_range : ∀ a b : List Int, -1 ≤ cmpL a b ∧ cmpL a b ≤ 1
  | [], [] => by simp [cmpL]
  | [], y :: b => by simp [cmpL]
  | x :: a, [] => by simp [cmpL]
  | x :: a, y :: b => by
    have := cmpL_range a b
    rw [cmpL]
    split
    · omega
    · split <;> omega
theorem cmpL_zero : ∀ a b : List Int, cmpL a b = 0 ↔ a = b
  | [], [] => by simp [cmpL]
  | [], y :: b => by simp [cmpL]
  | x :: a, [] => by simp [cmpL]
  | x :: a, y :: b => by
    have := cmpL_zero a b
    rw [cmpL]
    by_cases h : x < y
    · rw [if_pos h]; refine ⟨fun e => absurd e (by omega), fun e => ?_⟩
      injection e with e1 _; omega
    · rw [if_neg h]
      by_cases g : x > y
      · rw [if_pos g]; refine ⟨fun e => absurd e (by omega), fun e => ?_⟩
        injection e with e1 _; omega
      · rw [if_neg g, this, List.cons.injEq]; exact ⟨fun e => ⟨by omega, e⟩, fun e => e.2⟩
theorem cmpL_trans : ∀ a b c : List Int, cmpL a b ≤ 0 → cmpL b c ≤ 0 → cmpL a c ≤ 0
  | [], _, [], _, _ => by simp [cmpL]
  | [], _, z :: c, _, _ => by simp [cmpL]
  | x :: a, [], _, h, _ => by simp [cmpL] at h
  | x :: a, y :: b, [], _, g => by simp [cmpL] at g
  | x :: a, y :: b, z :: c, h, g => by
    have ih := cmpL_trans a b c
    rw [cmpL] at h g ⊢
    by_cases h1 : x < y
    · by_cases g1 : y < z
      · rw [if_pos (by omega)]; omega
      · rw [if_neg g1] at g
        by_cases g2 : y > z
        · rw [if_pos g2] at g; omega
        · rw [if_pos (by omega)]; omega
    · rw [if_neg h1] at h
      by_cases h2 : x > y
      · rw [if_pos h2] at h; omega
      · rw [if_neg h2] at h
        by_cases g1 : y < z
        · rw [if_pos (by omega)]; omega
        · rw [if_neg g1] at g
          by_cases g2 : y > z
          · rw [if_pos g2] at g; omega
          · rw [if_neg g2] at g
            rw [if_neg (by omega), if_neg (by omega)]; exact ih h g
end Go.Proofs.YtoobmfofkeaibaaDoor.Plain
