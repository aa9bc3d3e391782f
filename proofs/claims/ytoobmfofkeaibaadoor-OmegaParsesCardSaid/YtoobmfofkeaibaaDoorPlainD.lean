/- Plain laws over the printed functions: what each comes to. No condition but the ones written. -/
import Derived.Test.YtoobmfofkeaibaaDoorPlainC
import Derived.Test.YtoobmfofkeaibaaDoorPAllx7
namespace Go.Proofs.YtoobmfofkeaibaaDoor.Plain
open Go Go.RowKit Go.Proofs.YtoobmfofkeaibaaDoor.PAll Go.Proofs.YtoobmfofkeaibaaDoorW.PrintWords Go.Proofs.YtoobmfofkeaibaaDoorW.PrintLast Go.Proofs.YtoobmfofkeaibaaDoorW.PrintMore
set_option linter.unusedVariables false
/-! ### markings as texts -/
theorem cur_step (L : List UInt8) (f i : Nat) (hf : f ≤ i) (hi : i < L.length) : (L.drop f).take (i + 1 - f) = (L.drop f).take (i - f) ++ [L[i]] := by
  have e : i + 1 - f = (i - f) + 1 := by omega
  have h : i - f < (L.drop f).length := by rw [List.length_drop]; omega
  rw [e, List.take_succ_eq_append_getElem h, List.getElem_drop]
  congr 3; omega
theorem cur_self (L : List UInt8) (i : Nat) : (L.drop i).take (i - i) = [] := by rw [Nat.sub_self]; rfl
def Good (m : List Int) (s : List UInt8) : Prop := m.length ≤ 24 ∧ (∀ x ∈ m, 0 ≤ x ∧ x ≤ 1048576) ∧ Num.textOf m = s
def Spec (R : List Int × Int) (s : List UInt8) : Prop := (∃ m, Good m s ∧ R = (m, 0)) ∨ ((∀ m, ¬ Good m s) ∧ R = ([], 11))
theorem good_unique {m n : List Int} {s : List UInt8} (h : Good m s) (h' : Good n s) : m = n :=
  Num.text_inj (fun x hx => (h.2.1 x hx).1) (fun x hx => (h'.2.1 x hx).1) (h.2.2.trans h'.2.2.symm)
theorem spec_unique {R R' : List Int × Int} {s : List UInt8} (h : Spec R s) (h' : Spec R' s) : R = R' := by
  rcases h with ⟨m, hm, rfl⟩ | ⟨hn, rfl⟩ <;> rcases h' with ⟨m', hm', rfl⟩ | ⟨hn', rfl⟩
  · rw [good_unique hm hm']
  · exact absurd hm (hn' m)
  · exact absurd hm' (hn m')
  · rfl
theorem good_nil : Good [] [45] := ⟨by simp, fun x hx => by simp at hx, rfl⟩
theorem good_split {m : List Int} {s : List UInt8} (h : Good m s) (hs : s ≠ [45]) : m ≠ [] ∧ Num.splitB 44 s = m.map Lib.itoa := by
  have hm : m ≠ [] := by rintro rfl; exact hs h.2.2.symm
  exact ⟨hm, by rw [← h.2.2, Num.split_text hm]⟩
theorem text_of_split {m : List Int} {s : List UInt8} (h : Num.splitB 44 s = m.map Lib.itoa) : Num.textOf m = s := by
  have hm : m ≠ [] := by rintro rfl; exact Num.splitB_ne 44 s h
  rw [Num.textOf_cons hm, ← h, Num.join_split]

/-! ### petrinetref04.Split -/
theorem split_l (s : ByteArray) (c : UInt8) (hs : s.size ≤ 1000000) (n : Nat) : ∀ (k f i : Nat) (out : List ByteArray), s.size - i = n → i ≤ s.size → f ≤ i → out.length ≤ i → n + 1 < k →
    petrinetref04_Split.l0 k s (c.toNat : Int) out (f : Int) (i : Int) = some (out ++ (Num.splitAcc c ((s.data.toList.drop f).take (i - f)) (s.data.toList.drop i)).map mk) := by
  have hsz := size_data s
  induction n with
  | zero =>
    intro k f i out hn hi hf ho hk
    obtain ⟨k, rfl⟩ : ∃ j, k = j + 2 := ⟨k - 2, by omega⟩
    obtain rfl : i = s.size := by omega
    show petrinetref04_Split.l0 ((k + 1) + 1) s _ out _ _ = _
    simp only [petrinetref04_Split.l0]
    rw [if_pos (by omega), if_pos trivial, if_pos (by omega), if_pos (by omega), if_pos (by omega), wrap_succ _ (by omega)]
    rw [if_neg (by omega), drop_end s.data.toList s.size (by omega)]
    simp only [Num.splitAcc, List.map_cons, List.map_nil, Int.toNat_natCast]
    rw [mk_extract]
  | succ n ih =>
    intro k f i out hn hi hf ho hk
    obtain ⟨k, rfl⟩ := fuel hk
    have hi' : i < s.data.toList.length := by omega
    simp only [petrinetref04_Split.l0]
    rw [if_pos (by omega), if_neg (by omega), if_pos (by omega), if_pos (by omega), bt_get s i hi', drop_cons _ _ hi', wrap_succ i (by omega)]
    by_cases e : s.data.toList[i] = c
    · rw [if_pos (by rw [e]), if_pos (by omega), if_pos (by omega), if_pos (by omega)]
      rw [ih k (i + 1) (i + 1) _ (by omega) (by omega) (Nat.le_refl _) (by simp; omega) (by omega), cur_self, Num.splitAcc, if_pos e]
      simp only [Int.toNat_natCast, List.map_cons]
      rw [mk_extract]; simp
    · rw [if_neg (fun h => e (UInt8.toNat_inj.mp (by omega)))]
      rw [ih k f (i + 1) _ (by omega) (by omega) (by omega) (by omega) (by omega), cur_step _ f i hf hi', Num.splitAcc, if_neg e]
theorem split_is (s : ByteArray) (c : UInt8) (hs : s.size ≤ 1000000) (k : Nat) (hk : s.size + 1 < k) : petrinetref04_Split.f k s (c.toNat : Int) = some ((Num.splitB c s.data.toList).map mk) := by
  unfold petrinetref04_Split.f
  have := split_l s c hs s.size k 0 0 [] (by omega) (by omega) (by omega) (by simp) hk
  simpa [Num.splitB] using this
/-! ### petrinetref04.Natural -/
def natR (l : List UInt8) (most : Int) : Int := if (∀ c ∈ l, Num.isDig c) ∧ l.length ≤ 10 ∧ Lib.decDigits (Num.dval 0 l) = l ∧ (Num.dval 0 l : Int) ≤ most then (Num.dval 0 l : Int) else -1
theorem dval_lt' (l : List UInt8) : ∀ a, (∀ c ∈ l, Num.isDig c) → Num.dval a l < (a + 1) * 10 ^ l.length := by
  induction l with
  | nil => intro a _; rw [Num.dval_nil]; simp
  | cons c l ih =>
    intro a h
    have hc := h c (List.mem_cons_self ..)
    unfold Num.isDig at hc
    have h1 := ih (a * 10 + (c.toNat - 48)) (fun d hd => h d (List.mem_cons_of_mem _ hd))
    rw [Num.dval_cons, List.length_cons, Nat.pow_succ]
    have h2 : (a * 10 + (c.toNat - 48) + 1) * 10 ^ l.length ≤ ((a + 1) * 10) * 10 ^ l.length := Nat.mul_le_mul_right _ (by omega)
    have h3 : (a + 1) * (10 ^ l.length * 10) = ((a + 1) * 10) * 10 ^ l.length := by rw [Nat.mul_assoc, Nat.mul_comm 10]
    omega
theorem dval_lt (l : List UInt8) (h : ∀ c ∈ l, Num.isDig c) : Num.dval 0 l < 10 ^ l.length := by
  have := dval_lt' l 0 h
  omega
theorem natural_end (s : ByteArray) (most : Int) (n k : Nat) (hk : 61 ≤ k) (hn : n < 10000000000) :
    ((petrinetref04_Number.f k (n : Int)).bind fun t => (if t.toList = s.toList then (if (n : Int) > most then (some (-1)) else (some (n : Int))) else (some (-1)))) = some (if Lib.decDigits n = s.data.toList ∧ (n : Int) ≤ most then (n : Int) else -1) := by
  rw [number_is (n : Int) (by unfold I64; omega) k (by omega)]
  simp only [Option.bind_some, Lib.toList_data, Num.itoa_nat]
  by_cases h : Lib.decDigits n = s.data.toList
  · rw [if_pos h]
    by_cases g : (n : Int) > most
    · rw [if_pos g, if_neg (by omega)]
    · rw [if_neg g, if_pos ⟨h, by omega⟩]
  · rw [if_neg h, if_neg (fun g => h g.1)]
theorem natural_l (s : ByteArray) (most : Int) (hs : s.size ≤ 1000000) (m : Nat) : ∀ (k i : Nat), s.size - i = m → i ≤ s.size → (∀ c ∈ s.data.toList.take i, Num.isDig c) → (0 < i → s.size ≤ 10) → m + 62 ≤ k →
    petrinetref04_Natural.l0 k s most (Num.dval 0 (s.data.toList.take i) : Nat) (i : Int) = some (natR s.data.toList most) := by
  have hsz := size_data s
  induction m with
  | zero =>
    intro k i hm hi hd h10 hk
    obtain ⟨k, rfl⟩ := fuel (show 0 < k by omega)
    have ht : s.data.toList.take i = s.data.toList := List.take_of_length_le (by omega)
    rw [ht] at hd ⊢
    have hlen : s.data.toList.length ≤ 10 := by omega
    have hv := dval_lt _ hd
    have hp : (10 : Nat) ^ s.data.toList.length ≤ 10 ^ 10 := Nat.pow_le_pow_right (by omega) hlen
    simp only [petrinetref04_Natural.l0]
    rw [if_neg (by omega), natural_end s most _ k (by omega) (by omega)]
    unfold natR
    congr 1
    by_cases c : Lib.decDigits (Num.dval 0 s.data.toList) = s.data.toList ∧ (Num.dval 0 s.data.toList : Int) ≤ most
    · rw [if_pos c, if_pos ⟨hd, hlen, c.1, c.2⟩]
    · rw [if_neg c, if_neg (fun h => c h.2.2)]
  | succ m ih =>
    intro k i hm hi hd h10 hk
    obtain ⟨k, rfl⟩ := fuel (show 0 < k by omega)
    have hi' : i < s.data.toList.length := by omega
    simp only [petrinetref04_Natural.l0]
    rw [if_pos (by omega), if_pos (by omega), bt_get s i hi']
    by_cases c1 : ((s.data.toList[i].toNat : Nat) : Int) < 48
    · rw [if_pos c1]; unfold natR; rw [if_neg (fun h => by have := h.1 _ (List.getElem_mem hi'); unfold Num.isDig at this; omega)]
    · rw [if_neg c1]
      by_cases c2 : ((s.data.toList[i].toNat : Nat) : Int) > 57
      · rw [if_pos c2]; unfold natR; rw [if_neg (fun h => by have := h.1 _ (List.getElem_mem hi'); unfold Num.isDig at this; omega)]
      · rw [if_neg c2]
        by_cases c3 : (s.size : Int) > 10
        · rw [if_pos c3]; unfold natR; rw [if_neg (fun h => by have := h.2.1; omega)]
        · rw [if_neg c3]
          have hv := dval_lt _ hd
          have hp : (10 : Nat) ^ (s.data.toList.take i).length ≤ 10 ^ 10 := Nat.pow_le_pow_right (by omega) (by rw [List.length_take]; omega)
          have ht : s.data.toList.take (i + 1) = s.data.toList.take i ++ [s.data.toList[i]] := List.take_succ_eq_append_getElem hi'
          have hstep : wrap64 (wrap64 (wrap64 (10 * ((Num.dval 0 (s.data.toList.take i) : Nat) : Int)) + wrap64 ((s.data.toList[i].toNat : Nat) : Int)) - 48) = ((Num.dval 0 (s.data.toList.take (i + 1)) : Nat) : Int) := by
            rw [ht, Num.dval_append, Num.dval_cons, Num.dval_nil]
            generalize Num.dval 0 (s.data.toList.take i) = v at *
            generalize s.data.toList[i].toNat = b at *
            have hv10 : v < 10000000000 := by omega
            clear hv hp ih hd ht hsz
            rw [wrap_id (10 * (v : Int)) (by omega), wrap_id ((b : Nat) : Int) (by omega), wrap_id (10 * (v : Int) + (b : Int)) (by omega), wrap_id (10 * (v : Int) + (b : Int) - 48) (by omega)]
            omega
          rw [hstep, wrap_succ i (by omega)]
          refine ih k (i + 1) (by omega) (by omega) ?_ (fun _ => by omega) (by omega)
          intro c hc
          rw [ht] at hc
          rcases List.mem_append.1 hc with hc | hc
          · exact hd c hc
          · rw [List.mem_singleton.1 hc]; unfold Num.isDig; omega
theorem natural_is (s : ByteArray) (most : Int) (hs : s.size ≤ 1000000) (k : Nat) (hk : s.size + 62 ≤ k) : petrinetref04_Natural.f k s most = some (natR s.data.toList most) := by
  unfold petrinetref04_Natural.f
  have := natural_l s most hs s.size k 0 (by omega) (by omega) (by simp) (fun h => by omega) hk
  simpa [Num.dval] using this
theorem natR_of (x most : Int) (h0 : 0 ≤ x) (h1 : x ≤ most) (hm : most < 10000000000) : natR (Lib.itoa x) most = x := by
  unfold natR
  rw [Num.itoa_pos h0, Num.dval_decDigits]
  have := decDigits_le 9 x.toNat (by omega)
  rw [if_pos ⟨Num.decDigits_dig _, this, rfl, by omega⟩]; omega
theorem natR_some (l : List UInt8) (most : Int) (h : ¬ natR l most < 0) : Lib.itoa (natR l most) = l ∧ 0 ≤ natR l most ∧ natR l most ≤ most := by
  unfold natR at *
  by_cases c : (∀ c ∈ l, Num.isDig c) ∧ l.length ≤ 10 ∧ Lib.decDigits (Num.dval 0 l) = l ∧ (Num.dval 0 l : Int) ≤ most
  · rw [if_pos c] at *
    exact ⟨by rw [Num.itoa_nat, c.2.2.1], by omega, c.2.2.2⟩
  · rw [if_neg c] at h; omega
/-! ### petrinetref04.Parse -/
theorem splitAcc_len (c : UInt8) (l : List UInt8) : ∀ acc, (∀ p ∈ Num.splitAcc c acc l, p.length ≤ acc.length + l.length) ∧ (Num.splitAcc c acc l).length ≤ l.length + 1 := by
  induction l with
  | nil => intro acc; simp [Num.splitAcc]
  | cons x r ih =>
    intro acc
    rw [Num.splitAcc]
    split
    · have := ih []
      refine ⟨fun p hp => ?_, by simp only [List.length_cons]; omega⟩
      rcases List.mem_cons.1 hp with rfl | hp
      · omega
      · have := this.1 p hp; simp at this ⊢; omega
    · have := ih (acc ++ [x])
      refine ⟨fun p hp => ?_, by simp only [List.length_cons]; omega⟩
      have := this.1 p hp; simp at this ⊢; omega

/-! ### Parse of an extended marking -/
theorem piece_notin (x : Int) : (44 : UInt8) ∉ pieceW x := by
  unfold pieceW; split
  · simp
  · exact Num.itoa_notin x 44 (by decide) (by decide)
theorem itoa_notw (x : Int) : Lib.itoa x ≠ [119] := by
  intro e
  exact Num.itoa_notin x 119 (by decide) (by decide) (by rw [e]; simp)
theorem piece_inj {x y : Int} (h : pieceW x = pieceW y) : x = y := by
  unfold pieceW at h
  by_cases a : x = -1
  · by_cases b : y = -1
    · rw [a, b]
    · rw [if_pos a, if_neg b] at h; exact absurd h.symm (itoa_notw y)
  · by_cases b : y = -1
    · rw [if_neg a, if_pos b] at h; exact absurd h (itoa_notw x)
    · rw [if_neg a, if_neg b] at h; exact Num.itoa_inj h
theorem piece_ne_dash (x : Int) : pieceW x ≠ [45] := by
  unfold pieceW
  by_cases a : x = -1
  · rw [if_pos a]; decide
  · rw [if_neg a]
    by_cases c : x < 0
    · rw [Num.itoa_neg' c]; intro h; injection h with _ h3; exact Num.decDigits_ne _ h3
    · exact Num.itoa_ne_dash (by omega)
theorem split_textW {m : List Int} (h : m ≠ []) : Num.splitB 44 (textW m) = m.map pieceW := by
  rw [textW_cons h, Num.split_join _ _ (by simpa using h)]
  intro p hp
  obtain ⟨x, _, rfl⟩ := List.mem_map.1 hp
  exact piece_notin x
theorem map_piece_inj {m n : List Int} (h : m.map pieceW = n.map pieceW) : m = n := by
  induction m generalizing n with
  | nil => cases n with
    | nil => rfl
    | cons y n => simp at h
  | cons x m ih =>
    cases n with
    | nil => simp at h
    | cons y n =>
      simp only [List.map_cons, List.cons.injEq] at h
      rw [piece_inj h.1, ih h.2]
theorem textW_ne_dash {m : List Int} (h : m ≠ []) : textW m ≠ [45] := by
  intro e
  have hs := split_textW h
  rw [e, show Num.splitB 44 [45] = [[45]] from rfl] at hs
  cases m with
  | nil => exact h rfl
  | cons x m =>
    simp only [List.map_cons, List.cons.injEq] at hs
    exact piece_ne_dash x hs.1.symm
theorem textW_inj {m n : List Int} (h : textW m = textW n) : m = n := by
  by_cases h1 : m = []
  · by_cases h2 : n = []
    · rw [h1, h2]
    · subst h1; exact absurd h.symm (textW_ne_dash h2)
  · by_cases h2 : n = []
    · subst h2; exact absurd h (textW_ne_dash h1)
    · exact map_piece_inj (by rw [← split_textW h1, ← split_textW h2, h])
def GoodW (m : List Int) (s : List UInt8) : Prop := m.length ≤ 24 ∧ inW m = true ∧ textW m = s
def SpecW (R : List Int × Int) (s : List UInt8) : Prop := (∃ m, GoodW m s ∧ R = (m, 0)) ∨ ((∀ m, ¬ GoodW m s) ∧ R = ([], 11))
theorem specW_unique {R R' : List Int × Int} {s : List UInt8} (h : SpecW R s) (h' : SpecW R' s) : R = R' := by
  rcases h with ⟨m, hm, rfl⟩ | ⟨hn, rfl⟩ <;> rcases h' with ⟨m', hm', rfl⟩ | ⟨hn', rfl⟩
  · rw [textW_inj (hm.2.2.trans hm'.2.2.symm)]
  · exact absurd hm (hn' m)
  · exact absurd hm' (hn m')
  · rfl
theorem goodW_nil : GoodW [] [45] := ⟨by simp, inW_nil, rfl⟩
theorem goodW_split {m : List Int} {s : List UInt8} (h : GoodW m s) (hs : s ≠ [45]) : m ≠ [] ∧ Num.splitB 44 s = m.map pieceW := by
  have hm : m ≠ [] := by rintro rfl; exact hs h.2.2.symm
  exact ⟨hm, by rw [← h.2.2, split_textW hm]⟩
def numB (p : List UInt8) : Int × Bool := if p = [119] then (-1, true) else match Lib.atoiAll p with
  | .ok n => (n, decide (n ≥ 0))
  | .range => (Lib.atoiSat p, false)
  | _ => (0, false)
theorem number_w (p : List UInt8) (hp : p.length ≤ 1000000) : omega_number.f (mk p) = some (numB p) := by
  unfold omega_number.f numB
  by_cases h : p = [119]
  · rw [if_pos (by rw [Lib.toList_data, mk_data]; exact h), if_pos h]
  · rw [if_neg (by rw [Lib.toList_data, mk_data]; exact h), if_neg h]
    unfold strconv_Atoi.f
    rw [if_pos (by rw [mk_size]; omega), mk_data]
    cases Lib.atoiAll p with
    | ok n => rfl
    | range => rfl
    | _ => rfl
theorem numB_piece (x : Int) (h : x = -1 ∨ (0 ≤ x ∧ x ≤ 1048576)) : numB (pieceW x) = (x, true) := by
  unfold numB pieceW
  by_cases a : x = -1
  · rw [if_pos a, if_pos rfl, a]
  · rw [if_neg a, if_neg (itoa_notw x), Num.atoi_itoa x (by omega) (by omega)]
    show (x, decide (x ≥ 0)) = _
    rw [decide_eq_true (by omega)]
def goW : List (List UInt8) → List Int → Option (List Int)
  | [], out => some out
  | p :: ps, out => if (numB p).2 = true then (if out.length = 24 then none else goW ps (out ++ [(numB p).1])) else none
def finW (s : List UInt8) : Option (List Int) → List Int × Int
  | none => ([], 11)
  | some m => if inW m = true ∧ textW m = s then (m, 0) else ([], 11)
theorem inW_i64 {l : List Int} (h : inW l = true) : AllI l := fun x hx => by have := (inW_iff l).mp h x hx; unfold I64; omega
theorem oparse_end (s : ByteArray) (hs : s.size ≤ 1000000) (out : List Int) (ho : out.length ≤ 24) (k f : Nat) (hk : 100 ≤ k) : omega_Parse.l0 k s out (f : Int) ((s.size + 1 : Nat) : Int) = some (finW s.data.toList (some out)) := by
  obtain ⟨k, rfl⟩ := fuel (show 0 < k by omega)
  simp only [omega_Parse.l0, finW]
  rw [if_neg (by omega), ovalid_is out _ (by omega) k (by omega), validW_self, Option.bind_some]
  cases e : inW out with
  | false => rw [if_neg (by simp), if_neg (by simp)]
  | true =>
    rw [if_pos rfl, otext_is out (by omega) (inW_i64 e) k (by omega), Option.bind_some]
    by_cases c : textW out = s.data.toList
    · rw [if_pos (by rw [toList_eq_iff, mk_data, Lib.toList_data]; exact c), if_pos ⟨rfl, c⟩]
    · rw [if_neg (by rw [toList_eq_iff, mk_data, Lib.toList_data]; exact c), if_neg (fun g => c g.2)]
theorem oparse_j (s : ByteArray) (hs : s.size ≤ 1000000) (out : List Int) (ho : out.length ≤ 24) (k f i : Nat) (hf : f ≤ i) (hi : i ≤ s.size) :
    omega_Parse.j1 (k + 1) s out (f : Int) (i : Int) false = if (numB ((s.data.toList.drop f).take (i - f))).2 = true then (if out.length = 24 then some ([], 11) else omega_Parse.l0 k s (out ++ [(numB ((s.data.toList.drop f).take (i - f))).1]) ((i + 1 : Nat) : Int) ((i + 1 : Nat) : Int)) else some ([], 11) := by
  have hsz := size_data s
  simp only [omega_Parse.j1]
  rw [if_neg (by simp), if_pos (by omega), if_pos (by omega), if_pos (by omega), wrap_succ i (by omega), Int.toNat_natCast, Int.toNat_natCast, mk_extract, number_w _ (by rw [List.length_take]; omega), Option.bind_some]
  by_cases d : (numB ((s.data.toList.drop f).take (i - f))).2 = true
  · rw [if_pos d, if_pos d]
    by_cases c : out.length = 24
    · rw [if_pos c, if_pos (by omega)]
    · rw [if_neg c, if_neg (by omega), if_pos (by omega)]
  · rw [if_neg d, if_neg d]
theorem oparse_l (s : ByteArray) (hs : s.size ≤ 1000000) (n : Nat) : ∀ (k f i : Nat) (out : List Int), s.size - i = n → i ≤ s.size → f ≤ i → out.length ≤ 24 → 2 * n + 200 ≤ k →
    omega_Parse.l0 k s out (f : Int) (i : Int) = some (finW s.data.toList (goW (Num.splitAcc 44 ((s.data.toList.drop f).take (i - f)) (s.data.toList.drop i)) out)) := by
  have hsz := size_data s
  induction n with
  | zero =>
    intro k f i out hn hi hf ho hk
    obtain ⟨k, rfl⟩ : ∃ j, k = j + 2 := ⟨k - 2, by omega⟩
    obtain rfl : i = s.size := by omega
    show omega_Parse.l0 ((k + 1) + 1) s _ _ _ = _
    simp only [omega_Parse.l0]
    rw [if_pos (by omega), if_neg (by omega), oparse_j s hs out ho k f s.size hf (by omega), drop_end s.data.toList s.size (by omega), Num.splitAcc, goW]
    by_cases d : (numB ((s.data.toList.drop f).take (s.size - f))).2 = true
    · rw [if_pos d, if_pos d]
      by_cases c : out.length = 24
      · rw [if_pos c, if_pos c]; rfl
      · rw [if_neg c, if_neg c, oparse_end s hs _ (by simp; omega) k _ (by omega)]; rfl
    · rw [if_neg d, if_neg d]; rfl
  | succ n ih =>
    intro k f i out hn hi hf ho hk
    obtain ⟨k, rfl⟩ : ∃ j, k = j + 2 := ⟨k - 2, by omega⟩
    have hi' : i < s.data.toList.length := by omega
    show omega_Parse.l0 ((k + 1) + 1) s _ _ _ = _
    simp only [omega_Parse.l0]
    rw [if_pos (by omega), if_pos (by omega), if_pos (by omega), bt_get s i hi', drop_cons _ _ hi', Num.splitAcc]
    have h44 : (44 : UInt8).toNat = 44 := rfl
    by_cases e : s.data.toList[i] = 44
    · rw [if_pos e, show (((s.data.toList[i]).toNat : Int) != 44) = false by rw [e]; rfl, oparse_j s hs out ho k f i hf (by omega), goW]
      by_cases d : (numB ((s.data.toList.drop f).take (i - f))).2 = true
      · rw [if_pos d, if_pos d]
        by_cases c : out.length = 24
        · rw [if_pos c, if_pos c]; rfl
        · rw [if_neg c, if_neg c, ih k (i + 1) (i + 1) _ (by omega) (by omega) (by omega) (by simp; omega) (by omega), cur_self]
      · rw [if_neg d, if_neg d]; rfl
    · have hne : (((s.data.toList[i]).toNat : Int) != 44) = true := by
        rw [bne_iff_ne]; intro g; exact e (UInt8.toNat_inj.mp (by omega))
      rw [if_neg e, hne]
      simp only [omega_Parse.j1]
      rw [if_pos trivial, wrap_succ i (by omega), ih k f (i + 1) _ (by omega) (by omega) (by omega) ho (by omega), cur_step _ f i hf hi']
def parseW (s : List UInt8) : List Int × Int := if s = [45] then ([], 0) else finW s (goW (Num.splitB 44 s) [])
theorem oparse_is (s : ByteArray) (hs : s.size ≤ 1000000) (k : Nat) (hk : 2 * s.size + 300 ≤ k) : omega_Parse.f k s = some (parseW s.data.toList) := by
  unfold omega_Parse.f parseW
  by_cases h : s.data.toList = [45]
  · rw [if_pos ((toList_eq_iff s _).mpr h), if_pos h]
  · rw [if_neg (fun g => h ((toList_eq_iff s _).mp g)), if_neg h]
    have := oparse_l s hs _ k 0 0 [] rfl (by omega) (by omega) (by simp) (by omega)
    simpa [Num.splitB] using this
theorem goW_len (ps : List (List UInt8)) : ∀ out m, out.length ≤ 24 → goW ps out = some m → m.length ≤ 24 := by
  induction ps with
  | nil => intro out m h e; simp only [goW, Option.some.injEq] at e; subst e; exact h
  | cons p ps ih =>
    intro out m h e
    rw [goW] at e
    split at e
    · split at e
      · simp at e
      · exact ih _ m (by simp; omega) e
    · simp at e
theorem goW_map (m : List Int) (hin : ∀ x ∈ m, x = -1 ∨ (0 ≤ x ∧ x ≤ 1048576)) : ∀ out : List Int, out.length + m.length ≤ 24 → goW (m.map pieceW) out = some (out ++ m) := by
  induction m with
  | nil => intro out _; simp [goW]
  | cons x m ih =>
    intro out h
    have hx := hin x (List.mem_cons_self ..)
    simp only [List.length_cons] at h
    rw [List.map_cons, goW, numB_piece x hx, if_pos rfl, if_neg (by omega), ih (fun y hy => hin y (List.mem_cons_of_mem _ hy)) _ (by simp; omega)]; simp
theorem parseW_spec (s : List UInt8) : SpecW (parseW s) s := by
  unfold parseW
  by_cases h : s = [45]
  · rw [if_pos h]; subst h; exact .inl ⟨[], goodW_nil, rfl⟩
  · rw [if_neg h]
    have hno : ∀ m, GoodW m s → finW s (goW (Num.splitB 44 s) []) = (m, 0) := by
      intro m hm
      obtain ⟨_, e⟩ := goodW_split hm h
      have hl := hm.1
      rw [e, goW_map m ((inW_iff m).mp hm.2.1) [] (by simp; omega), List.nil_append]
      simp only [finW]
      rw [if_pos ⟨hm.2.1, hm.2.2⟩]
    cases e : goW (Num.splitB 44 s) [] with
    | none =>
      refine .inr ⟨fun m hm => ?_, rfl⟩
      have := hno m hm; rw [e] at this; simp [finW] at this
    | some m =>
      by_cases c : inW m = true ∧ textW m = s
      · exact .inl ⟨m, ⟨goW_len _ [] m (by simp) e, c.1, c.2⟩, by simp only [finW]; rw [if_pos c]⟩
      · refine .inr ⟨fun m' hm => ?_, by simp only [finW]; rw [if_neg c]⟩
        have := hno m' hm; rw [e] at this; simp only [finW] at this; rw [if_neg c] at this; simp at this
def natW : List (List UInt8) → Option (List Int)
  | [] => some []
  | p :: ps => if p = [119] then (natW ps).map (-1 :: ·) else if natR p 1048576 < 0 then none else (natW ps).map (natR p 1048576 :: ·)
theorem natW_map (m : List Int) (h : ∀ x ∈ m, x = -1 ∨ (0 ≤ x ∧ x ≤ 1048576)) : natW (m.map pieceW) = some m := by
  induction m with
  | nil => rfl
  | cons x m ih =>
    have hx := h x (List.mem_cons_self ..)
    rw [List.map_cons, natW, ih (fun y hy => h y (List.mem_cons_of_mem _ hy))]
    unfold pieceW
    by_cases a : x = -1
    · rw [if_pos a, if_pos rfl, a]; rfl
    · rw [if_neg a, if_neg (itoa_notw x), natR_of x 1048576 (by omega) (by omega) (by omega), if_neg (by omega)]; rfl
theorem natW_in (ps : List (List UInt8)) : ∀ m, natW ps = some m → m.length = ps.length ∧ inW m = true := by
  induction ps with
  | nil => intro m h; simp only [natW, Option.some.injEq] at h; subst h; exact ⟨rfl, inW_nil⟩
  | cons p ps ih =>
    intro m h
    rw [natW] at h
    split at h
    · obtain ⟨m', hm', rfl⟩ := Option.map_eq_some_iff.1 h
      obtain ⟨h1, h2⟩ := ih m' hm'
      exact ⟨by simp [h1], by rw [inW_cons, h2]; rfl⟩
    · split at h
      · simp at h
      · rename_i hp
        obtain ⟨m', hm', rfl⟩ := Option.map_eq_some_iff.1 h
        obtain ⟨h1, h2⟩ := ih m' hm'
        have h3 := natR_some p 1048576 hp
        exact ⟨by simp [h1], by rw [inW_cons, h2, decide_eq_true (Or.inr h3.2)]; rfl⟩
def endW (s : List UInt8) (m : List Int) : List Int × Int := if textW m = s then (m, 0) else ([], 11)
def refW (s : List UInt8) : List Int × Int :=
  if s = [45] then ([], 0) else if (Num.splitB 44 s).length > 24 then ([], 11) else match natW (Num.splitB 44 s) with
    | none => ([], 11)
    | some m => endW s m
theorem refW_spec (s : List UInt8) : SpecW (refW s) s := by
  unfold refW
  by_cases h : s = [45]
  · rw [if_pos h]; subst h; exact .inl ⟨[], goodW_nil, rfl⟩
  · rw [if_neg h]
    by_cases h2 : (Num.splitB 44 s).length > 24
    · rw [if_pos h2]
      refine .inr ⟨fun m hm => ?_, rfl⟩
      obtain ⟨_, e⟩ := goodW_split hm h
      have := hm.1
      rw [e, List.length_map] at h2; omega
    · rw [if_neg h2]
      cases hc : natW (Num.splitB 44 s) with
      | none =>
        refine .inr ⟨fun m hm => ?_, rfl⟩
        obtain ⟨_, e⟩ := goodW_split hm h
        rw [e, natW_map m ((inW_iff m).mp hm.2.1)] at hc; simp at hc
      | some m =>
        obtain ⟨e1, e2⟩ := natW_in _ m hc
        dsimp only [endW]
        by_cases c : textW m = s
        · rw [if_pos c]; exact .inl ⟨m, ⟨by omega, e2, c⟩, rfl⟩
        · rw [if_neg c]
          refine .inr ⟨fun m' hm => c ?_, rfl⟩
          obtain ⟨_, e⟩ := goodW_split hm h
          rw [e, natW_map m' ((inW_iff m').mp hm.2.1)] at hc
          rw [← Option.some.inj hc]; exact hm.2.2
theorem inW_append {a b : List Int} (ha : inW a = true) (hb : inW b = true) : inW (a ++ b) = true := by
  rw [inW_iff] at *
  intro x hx
  rcases List.mem_append.1 hx with h | h
  · exact ha x h
  · exact hb x h
theorem wparse_l (s : ByteArray) (ps : List (List UInt8)) (hps : ∀ p ∈ ps, p.length ≤ 1000000) (hl : ps.length ≤ 1000) (n : Nat) : ∀ (k i : Nat) (out : List Int), ps.length - i = n → i ≤ ps.length → out.length ≤ i → inW out = true → n + 1002070 ≤ k →
    petrinetref05_Parse.l0 k s (ps.map mk) out (i : Int) = some (match natW (ps.drop i) with | none => ([], 11) | some m => endW s.data.toList (out ++ m)) := by
  induction n with
  | zero =>
    intro k i out hn hi ho hin hk
    obtain ⟨k, rfl⟩ := fuel (show 0 < k by omega)
    simp only [petrinetref05_Parse.l0, List.length_map]
    rw [if_neg (by omega), drop_end _ _ (by omega), natW, wtext_is out (by omega) (inW_i64 hin) k (by omega), Option.bind_some]
    simp only [List.append_nil, endW]
    by_cases c : textW out = s.data.toList
    · rw [if_pos (by rw [toList_eq_iff, mk_data, Lib.toList_data]; exact c), if_pos c]
    · rw [if_neg (by rw [toList_eq_iff, mk_data, Lib.toList_data]; exact c), if_neg c]
  | succ n ih =>
    intro k i out hn hi ho hin hk
    obtain ⟨k, rfl⟩ := fuel (show 0 < k by omega)
    have hi' : i < ps.length := by omega
    simp only [petrinetref05_Parse.l0, List.length_map]
    have hsz : (mk ps[i]).size = ps[i].length := mk_size _
    have hp := hps _ (List.getElem_mem hi')
    rw [if_pos (by omega), if_pos (by omega), rdOf_get _ _ i (by rw [List.length_map]; exact hi'), List.getElem_map, natural_is _ _ (by omega) k (by omega), mk_data, drop_cons _ _ hi', natW, wrap_succ i (by omega)]
    simp only [Option.bind_some]
    by_cases w : ps[i] = [119]
    · rw [if_pos (by rw [Lib.toList_data, mk_data]; exact w), if_pos w, if_pos (by omega), ih k (i + 1) _ (by omega) (by omega) (by simp; omega) (inW_append hin (by decide)) (by omega)]
      cases natW (ps.drop (i + 1)) with
      | none => rfl
      | some m => simp
    · rw [if_neg (by rw [Lib.toList_data, mk_data]; exact w), if_neg w]
      by_cases c : natR ps[i] 1048576 < 0
      · rw [if_pos c, if_pos c]
      · have h3 := natR_some ps[i] 1048576 c
        rw [if_neg c, if_neg c, if_pos (by omega), ih k (i + 1) _ (by omega) (by omega) (by simp; omega) (inW_append hin (by rw [inW_cons, inW_nil, decide_eq_true (Or.inr h3.2)]; rfl)) (by omega)]
        cases natW (ps.drop (i + 1)) with
        | none => rfl
        | some m => simp
theorem wparse_is (s : ByteArray) (hs : s.size ≤ 1000000) (k : Nat) (hk : 1003100 ≤ k) : petrinetref05_Parse.f k s = some (refW s.data.toList) := by
  have hsz := size_data s
  unfold petrinetref05_Parse.f refW
  by_cases h : s.data.toList = [45]
  · rw [if_pos ((toList_eq_iff s _).mpr h), if_pos h]
  · rw [if_neg (fun g => h ((toList_eq_iff s _).mp g)), if_neg h]
    have e : ((44 : UInt8).toNat : Int) = 44 := rfl
    have hsp := split_is s 44 hs k (by omega)
    rw [e] at hsp
    rw [hsp]
    simp only [Option.bind_some, List.length_map]
    by_cases h2 : (Num.splitB 44 s.data.toList).length > 24
    · rw [if_pos (by omega), if_pos h2]
    · rw [if_neg (by omega), if_neg h2]
      have hl := splitAcc_len 44 s.data.toList []
      have := wparse_l s (Num.splitB 44 s.data.toList) (fun p hp => by have := hl.1 p hp; simp at this; omega) (by omega) _ k 0 [] rfl (by omega) (by simp) inW_nil (by omega)
      simpa using this
theorem parseW_good {m : List Int} {s : List UInt8} (h : GoodW m s) : parseW s = (m, 0) := specW_unique (parseW_spec s) (.inl ⟨m, h, rfl⟩)
theorem parseW_len (s : List UInt8) : (parseW s).1.length ≤ 24 := by
  rcases parseW_spec s with ⟨m, hm, e⟩ | ⟨_, e⟩
  · rw [e]; exact hm.1
  · rw [e]; simp
theorem tailW_len : ∀ l : List Int, AllI l → (tailW l).length ≤ 21 * l.length
  | [], _ => by simp [tailW]
  | x :: l, h => by
    have h1 := tailW_len l (fun y hy => h y (List.mem_cons_of_mem _ hy))
    have h2 := pieceW_len (h x (List.mem_cons_self ..))
    simp only [tailW, List.length_cons, List.length_append]; omega
theorem textW_len (l : List Int) (h : AllI l) : (textW l).length ≤ 21 * l.length + 1 := by
  cases l with
  | nil => simp [textW]
  | cons x l =>
    have h1 := tailW_len l (fun y hy => h y (List.mem_cons_of_mem _ hy))
    have h2 := pieceW_len (h x (List.mem_cons_self ..))
    rw [textW_cons (by simp), joinW_tail]
    simp only [List.length_cons, List.length_append]; omega
theorem oparse_mk (p : List UInt8) (hp : p.length ≤ 1000000) (k : Nat) (hk : 2 * p.length + 300 ≤ k) : omega_Parse.f k (mk p) = some (parseW p) := by
  have := oparse_is (mk p) (by rw [mk_size]; exact hp) k (by rw [mk_size]; exact hk)
  rw [this, mk_data]
theorem parses_j1 (k : Nat) (hk : 1003200 ≤ k) (m : List Int) (hm : m.length ≤ 100) (hin : AllI m) : petrinetlaw05_OmegaParses.j1 (k + 2) m false = some true := by
  have hA := ex_is k (by omega)
  show petrinetlaw05_OmegaParses.j1 ((k + 1) + 1) m false = _
  have hlen := textW_len m hin
  simp only [petrinetlaw05_OmegaParses.j1]
  rw [if_neg (by simp), otext_is m (by omega) hin _ (by omega), Option.bind_some, oparse_mk _ (by omega) _ (by omega), Option.bind_some, wvalid_is m _ (by omega) _ (by omega), validW_self, Option.bind_some]
  by_cases g : inW m = true ∧ m.length ≤ 24
  · rw [if_pos g.1, decide_eq_true (by omega), parseW_good ⟨g.2, g.1, rfl⟩]
    simp only [petrinetlaw05_OmegaParses.j2]
    rw [if_pos trivial, same_is m m (by omega) k (by omega), Option.bind_some, if_pos (by simp), if_pos trivial, hA]; rfl
  · have hp : parseW (textW m) = ([], 11) := by
      rcases parseW_spec (textW m) with ⟨m', hm', e⟩ | ⟨_, e⟩
      · have := textW_inj hm'.2.2
        subst this
        exact absurd ⟨hm'.2.1, hm'.1⟩ g
      · exact e
    rw [hp]
    have J : petrinetlaw05_OmegaParses.j2 (k + 1) m [] 11 false = some true := by
      simp only [petrinetlaw05_OmegaParses.j2]
      rw [if_neg (by simp), if_pos trivial, if_pos (by simp), hA]; rfl
    by_cases c : inW m = true
    · rw [if_pos c, decide_eq_false (by have : ¬ m.length ≤ 24 := fun q => g ⟨c, q⟩; omega)]; exact J
    · rw [if_neg c]; exact J
theorem parses_law (k : Nat) (hk : 1003200 ≤ k) (s : ByteArray) (m : List Int) (hin : AllI m) : petrinetlaw05_OmegaParses.f (k + 3) s m = some true := by
  have hA := ex_is (k + 2) (by omega)
  have hT : petrinetlaw05_OmegaParses.j0 (k + 3) s m true = some true := by
    show petrinetlaw05_OmegaParses.j0 ((k + 2) + 1) _ _ _ = _
    simp only [petrinetlaw05_OmegaParses.j0]; rw [if_pos trivial, hA]; rfl
  unfold petrinetlaw05_OmegaParses.f
  by_cases h : (s.size : Int) > 2000
  · rw [if_pos h, hT]
  · rw [if_neg h]
    by_cases g : (m.length : Int) > 100
    · rw [decide_eq_true g, hT]
    · rw [decide_eq_false g]
      have J := parses_j1 k hk m (by omega) hin
      show petrinetlaw05_OmegaParses.j0 ((k + 2) + 1) _ _ _ = _
      simp only [petrinetlaw05_OmegaParses.j0]
      rw [if_neg (by simp), oparse_is s (by omega) _ (by omega), Option.bind_some, wparse_is s (by omega) _ (by omega), Option.bind_some, specW_unique (refW_spec s.data.toList) (parseW_spec s.data.toList)]
      have := parseW_len s.data.toList
      rw [same_is _ _ (by omega) _ (by omega), Option.bind_some, if_pos (by simp)]
      simpa using J
theorem OmegaParses_pure : petrinetlaw05_OmegaParses.Pure := fun s m _ _ _ hl => ⟨1003200 + 3, parses_law 1003200 (Nat.le_refl _) s m (allI_of hl)⟩
end Go.Proofs.YtoobmfofkeaibaaDoor.Plain
