/- Plain laws over the printed functions: what each comes to. No condition but the ones written. -/
import Derived.Test.YtjhlagpcbaodkaaDoorPlainF
import Derived.Test.YtjhlagpcbaodkaaDoorPAllx12
import Derived.Test.YtjhlagpcbaodkaaDoorPAllx13
namespace Go.Proofs.YtjhlagpcbaodkaaDoor.Plain
open Go Go.RowKit Go.Proofs.YtjhlagpcbaodkaaDoor.PAll Go.Proofs.YtjhlagpcbaodkaaDoorW.PrintWords Go.Proofs.YtjhlagpcbaodkaaDoorW.PrintLast Go.Proofs.YtjhlagpcbaodkaaDoorW.PrintMore
set_option linter.unusedVariables false
/-! ### markings as texts -/
theorem cur_step (L : List UInt8) (f i : Nat) (hf : f ≤ i) (hi : i < L.length) : (L.drop f).take (i + 1 - f) = (L.drop f).take (i - f) ++ [L[i]] := by
  have e : i + 1 - f = (i - f) + 1 := by omega
  have h : i - f < (L.drop f).length := by rw [List.length_drop]; omega
  rw [e, List.take_succ_eq_append_getElem h, List.getElem_drop]
  congr 3; omega
theorem cur_self (L : List UInt8) (i : Nat) : (L.drop i).take (i - i) = [] := by rw [Nat.sub_self]; rfl
def Good (m : List Int) (s : List UInt8) : Prop := m.length ≤ 24 ∧ (∀ x ∈ m, 0 ≤ x ∧ x ≤ 1048576) ∧ Num.textOf m = s
def Spec (R : List Int × Int) (s : List UInt8) : Prop := (∃ m, Good m s ∧ R = (m, 0)) ∨ ((∀ m, ¬ Good m s) ∧ R = ([], 11))
theorem good_unique {m n : List Int} {s : List UInt8} (h : Good m s) (h' : Good n s) : m = n :=
  Num.text_inj (fun x hx => (h.2.1 x hx).1) (fun x hx => (h'.2.1 x hx).1) (h.2.2.trans h'.2.2.symm)
theorem spec_unique {R R' : List Int × Int} {s : List UInt8} (h : Spec R s) (h' : Spec R' s) : R = R' := by
  rcases h with ⟨m, hm, rfl⟩ | ⟨hn, rfl⟩ <;> rcases h' with ⟨m', hm', rfl⟩ | ⟨hn', rfl⟩
  · rw [good_unique hm hm']
  · exact absurd hm (hn' m)
  · exact absurd hm' (hn m')
  · rfl
theorem good_nil : Good [] [45] := ⟨by simp, fun x hx => by simp at hx, rfl⟩
theorem good_split {m : List Int} {s : List UInt8} (h : Good m s) (hs : s ≠ [45]) : m ≠ [] ∧ Num.splitB 44 s = m.map Lib.itoa := by
  have hm : m ≠ [] := by rintro rfl; exact hs h.2.2.symm
  exact ⟨hm, by rw [← h.2.2, Num.split_text hm]⟩
theorem text_of_split {m : List Int} {s : List UInt8} (h : Num.splitB 44 s = m.map Lib.itoa) : Num.textOf m = s := by
  have hm : m ≠ [] := by rintro rfl; exact Num.splitB_ne 44 s h
  rw [Num.textOf_cons hm, ← h, Num.join_split]

/-! ### petrinetref04.Split -/
theorem split_l (s : ByteArray) (c : UInt8) (hs : s.size ≤ 1000000) (n : Nat) : ∀ (k f i : Nat) (out : List ByteArray), s.size - i = n → i ≤ s.size → f ≤ i → out.length ≤ i → n + 1 < k →
    petrinetref04_Split.l0 k s (c.toNat : Int) out (f : Int) (i : Int) = some (out ++ (Num.splitAcc c ((s.data.toList.drop f).take (i - f)) (s.data.toList.drop i)).map mk) := by
  have hsz := size_data s
  induction n with
  | zero =>
    intro k f i out hn hi hf ho hk
    obtain ⟨k, rfl⟩ : ∃ j, k = j + 2 := ⟨k - 2, by omega⟩
    obtain rfl : i = s.size := by omega
    show petrinetref04_Split.l0 ((k + 1) + 1) s _ out _ _ = _
    simp only [petrinetref04_Split.l0]
    rw [if_pos (by omega), if_pos trivial, if_pos (by omega), if_pos (by omega), if_pos (by omega), wrap_succ _ (by omega)]
    rw [if_neg (by omega), drop_end s.data.toList s.size (by omega)]
    simp only [Num.splitAcc, List.map_cons, List.map_nil, Int.toNat_natCast]
    rw [mk_extract]
  | succ n ih =>
    intro k f i out hn hi hf ho hk
    obtain ⟨k, rfl⟩ := fuel hk
    have hi' : i < s.data.toList.length := by omega
    simp only [petrinetref04_Split.l0]
    rw [if_pos (by omega), if_neg (by omega), if_pos (by omega), if_pos (by omega), bt_get s i hi', drop_cons _ _ hi', wrap_succ i (by omega)]
    by_cases e : s.data.toList[i] = c
    · rw [if_pos (by rw [e]), if_pos (by omega), if_pos (by omega), if_pos (by omega)]
      rw [ih k (i + 1) (i + 1) _ (by omega) (by omega) (Nat.le_refl _) (by simp; omega) (by omega), cur_self, Num.splitAcc, if_pos e]
      simp only [Int.toNat_natCast, List.map_cons]
      rw [mk_extract]; simp
    · rw [if_neg (fun h => e (UInt8.toNat_inj.mp (by omega)))]
      rw [ih k f (i + 1) _ (by omega) (by omega) (by omega) (by omega) (by omega), cur_step _ f i hf hi', Num.splitAcc, if_neg e]
theorem split_is (s : ByteArray) (c : UInt8) (hs : s.size ≤ 1000000) (k : Nat) (hk : s.size + 1 < k) : petrinetref04_Split.f k s (c.toNat : Int) = some ((Num.splitB c s.data.toList).map mk) := by
  unfold petrinetref04_Split.f
  have := split_l s c hs s.size k 0 0 [] (by omega) (by omega) (by omega) (by simp) hk
  simpa [Num.splitB] using this
/-! ### petrinetref04.Natural -/
def natR (l : List UInt8) (most : Int) : Int := if (∀ c ∈ l, Num.isDig c) ∧ l.length ≤ 10 ∧ Lib.decDigits (Num.dval 0 l) = l ∧ (Num.dval 0 l : Int) ≤ most then (Num.dval 0 l : Int) else -1
theorem dval_lt' (l : List UInt8) : ∀ a, (∀ c ∈ l, Num.isDig c) → Num.dval a l < (a + 1) * 10 ^ l.length := by
  induction l with
  | nil => intro a _; rw [Num.dval_nil]; simp
  | cons c l ih =>
    intro a h
    have hc := h c (List.mem_cons_self ..)
    unfold Num.isDig at hc
    have h1 := ih (a * 10 + (c.toNat - 48)) (fun d hd => h d (List.mem_cons_of_mem _ hd))
    rw [Num.dval_cons, List.length_cons, Nat.pow_succ]
    have h2 : (a * 10 + (c.toNat - 48) + 1) * 10 ^ l.length ≤ ((a + 1) * 10) * 10 ^ l.length := Nat.mul_le_mul_right _ (by omega)
    have h3 : (a + 1) * (10 ^ l.length * 10) = ((a + 1) * 10) * 10 ^ l.length := by rw [Nat.mul_assoc, Nat.mul_comm 10]
    omega
theorem dval_lt (l : List UInt8) (h : ∀ c ∈ l, Num.isDig c) : Num.dval 0 l < 10 ^ l.length := by
  have := dval_lt' l 0 h
  omega
theorem natural_end (s : ByteArray) (most : Int) (n k : Nat) (hk : 61 ≤ k) (hn : n < 10000000000) :
    ((petrinetref04_Number.f k (n : Int)).bind fun t => (if t.toList = s.toList then (if (n : Int) > most then (some (-1)) else (some (n : Int))) else (some (-1)))) = some (if Lib.decDigits n = s.data.toList ∧ (n : Int) ≤ most then (n : Int) else -1) := by
  rw [number_is (n : Int) (by unfold I64; omega) k (by omega)]
  simp only [Option.bind_some, Lib.toList_data, Num.itoa_nat]
  by_cases h : Lib.decDigits n = s.data.toList
  · rw [if_pos h]
    by_cases g : (n : Int) > most
    · rw [if_pos g, if_neg (by omega)]
    · rw [if_neg g, if_pos ⟨h, by omega⟩]
  · rw [if_neg h, if_neg (fun g => h g.1)]
theorem natural_l (s : ByteArray) (most : Int) (hs : s.size ≤ 1000000) (m : Nat) : ∀ (k i : Nat), s.size - i = m → i ≤ s.size → (∀ c ∈ s.data.toList.take i, Num.isDig c) → (0 < i → s.size ≤ 10) → m + 62 ≤ k →
    petrinetref04_Natural.l0 k s most (Num.dval 0 (s.data.toList.take i) : Nat) (i : Int) = some (natR s.data.toList most) := by
  have hsz := size_data s
  induction m with
  | zero =>
    intro k i hm hi hd h10 hk
    obtain ⟨k, rfl⟩ := fuel (show 0 < k by omega)
    have ht : s.data.toList.take i = s.data.toList := List.take_of_length_le (by omega)
    rw [ht] at hd ⊢
    have hlen : s.data.toList.length ≤ 10 := by omega
    have hv := dval_lt _ hd
    have hp : (10 : Nat) ^ s.data.toList.length ≤ 10 ^ 10 := Nat.pow_le_pow_right (by omega) hlen
    simp only [petrinetref04_Natural.l0]
    rw [if_neg (by omega), natural_end s most _ k (by omega) (by omega)]
    unfold natR
    congr 1
    by_cases c : Lib.decDigits (Num.dval 0 s.data.toList) = s.data.toList ∧ (Num.dval 0 s.data.toList : Int) ≤ most
    · rw [if_pos c, if_pos ⟨hd, hlen, c.1, c.2⟩]
    · rw [if_neg c, if_neg (fun h => c h.2.2)]
  | succ m ih =>
    intro k i hm hi hd h10 hk
    obtain ⟨k, rfl⟩ := fuel (show 0 < k by omega)
    have hi' : i < s.data.toList.length := by omega
    simp only [petrinetref04_Natural.l0]
    rw [if_pos (by omega), if_pos (by omega), bt_get s i hi']
    by_cases c1 : ((s.data.toList[i].toNat : Nat) : Int) < 48
    · rw [if_pos c1]; unfold natR; rw [if_neg (fun h => by have := h.1 _ (List.getElem_mem hi'); unfold Num.isDig at this; omega)]
    · rw [if_neg c1]
      by_cases c2 : ((s.data.toList[i].toNat : Nat) : Int) > 57
      · rw [if_pos c2]; unfold natR; rw [if_neg (fun h => by have := h.1 _ (List.getElem_mem hi'); unfold Num.isDig at this; omega)]
      · rw [if_neg c2]
        by_cases c3 : (s.size : Int) > 10
        · rw [if_pos c3]; unfold natR; rw [if_neg (fun h => by have := h.2.1; omega)]
        · rw [if_neg c3]
          have hv := dval_lt _ hd
          have hp : (10 : Nat) ^ (s.data.toList.take i).length ≤ 10 ^ 10 := Nat.pow_le_pow_right (by omega) (by rw [List.length_take]; omega)
          have ht : s.data.toList.take (i + 1) = s.data.toList.take i ++ [s.data.toList[i]] := List.take_succ_eq_append_getElem hi'
          have hstep : wrap64 (wrap64 (wrap64 (10 * ((Num.dval 0 (s.data.toList.take i) : Nat) : Int)) + wrap64 ((s.data.toList[i].toNat : Nat) : Int)) - 48) = ((Num.dval 0 (s.data.toList.take (i + 1)) : Nat) : Int) := by
            rw [ht, Num.dval_append, Num.dval_cons, Num.dval_nil]
            generalize Num.dval 0 (s.data.toList.take i) = v at *
            generalize s.data.toList[i].toNat = b at *
            have hv10 : v < 10000000000 := by omega
            clear hv hp ih hd ht hsz
            rw [wrap_id (10 * (v : Int)) (by omega), wrap_id ((b : Nat) : Int) (by omega), wrap_id (10 * (v : Int) + (b : Int)) (by omega), wrap_id (10 * (v : Int) + (b : Int) - 48) (by omega)]
            omega
          rw [hstep, wrap_succ i (by omega)]
          refine ih k (i + 1) (by omega) (by omega) ?_ (fun _ => by omega) (by omega)
          intro c hc
          rw [ht] at hc
          rcases List.mem_append.1 hc with hc | hc
          · exact hd c hc
          · rw [List.mem_singleton.1 hc]; unfold Num.isDig; omega
theorem natural_is (s : ByteArray) (most : Int) (hs : s.size ≤ 1000000) (k : Nat) (hk : s.size + 62 ≤ k) : petrinetref04_Natural.f k s most = some (natR s.data.toList most) := by
  unfold petrinetref04_Natural.f
  have := natural_l s most hs s.size k 0 (by omega) (by omega) (by simp) (fun h => by omega) hk
  simpa [Num.dval] using this
theorem natR_of (x most : Int) (h0 : 0 ≤ x) (h1 : x ≤ most) (hm : most < 10000000000) : natR (Lib.itoa x) most = x := by
  unfold natR
  rw [Num.itoa_pos h0, Num.dval_decDigits]
  have := decDigits_le 9 x.toNat (by omega)
  rw [if_pos ⟨Num.decDigits_dig _, this, rfl, by omega⟩]; omega
theorem natR_some (l : List UInt8) (most : Int) (h : ¬ natR l most < 0) : Lib.itoa (natR l most) = l ∧ 0 ≤ natR l most ∧ natR l most ≤ most := by
  unfold natR at *
  by_cases c : (∀ c ∈ l, Num.isDig c) ∧ l.length ≤ 10 ∧ Lib.decDigits (Num.dval 0 l) = l ∧ (Num.dval 0 l : Int) ≤ most
  · rw [if_pos c] at *
    exact ⟨by rw [Num.itoa_nat, c.2.2.1], by omega, c.2.2.2⟩
  · rw [if_neg c] at h; omega
/-! ### petrinetref04.Parse -/
theorem splitAcc_len (c : UInt8) (l : List UInt8) : ∀ acc, (∀ p ∈ Num.splitAcc c acc l, p.length ≤ acc.length + l.length) ∧ (Num.splitAcc c acc l).length ≤ l.length + 1 := by
  induction l with
  | nil => intro acc; simp [Num.splitAcc]
  | cons x r ih =>
    intro acc
    rw [Num.splitAcc]
    split
    · have := ih []
      refine ⟨fun p hp => ?_, by simp only [List.length_cons]; omega⟩
      rcases List.mem_cons.1 hp with rfl | hp
      · omega
      · have := this.1 p hp; simp at this ⊢; omega
    · have := ih (acc ++ [x])
      refine ⟨fun p hp => ?_, by simp only [List.length_cons]; omega⟩
      have := this.1 p hp; simp at this ⊢; omega

/-! ### petrinetref39.Parse -/
def wsP : List (List UInt8) → List (List UInt8)
  | [] => []
  | t :: ts => [43] :: t :: wsP ts
theorem join_ws (ts : List (List UInt8)) : ∀ t, Num.joinB 32 (t :: wsP ts) = t ++ tlP ts := by
  induction ts with
  | nil => intro t; simp [wsP, tlP, Num.joinB]
  | cons u us ih =>
    intro t
    rw [wsP, Num.joinB_cons _ _ _ (by simp), Num.joinB_cons _ _ _ (by simp), ih u, tlP]; rfl
theorem no32_ws (ts : List (List UInt8)) (h : ∀ t ∈ ts, (32 : UInt8) ∉ t) : ∀ p ∈ wsP ts, (32 : UInt8) ∉ p := by
  induction ts with
  | nil => intro p hp; simp [wsP] at hp
  | cons u us ih =>
    intro p hp
    rw [wsP] at hp
    rcases List.mem_cons.1 hp with rfl | hp
    · decide
    · rcases List.mem_cons.1 hp with rfl | hp
      · exact h _ (List.mem_cons_self ..)
      · exact ih (fun t ht => h t (List.mem_cons_of_mem _ ht)) p hp
theorem tms_no32 (l : List ByteArray) (ok : NamesOk l) (a : List Int) : ∀ (j : Nat), a.length + j = l.length → inB a = true → ∀ t ∈ tms a ((vls l).drop j), (32 : UInt8) ∉ t := by
  have hv := vls_len l
  induction a with
  | nil => intro j _ _ t ht; simp [tms] at ht
  | cons x xs ih =>
    intro j hal hb t ht
    simp only [List.length_cons] at hal
    have hj : j < l.length := by omega
    rw [inB_cons, Bool.and_eq_true, decide_eq_true_iff] at hb
    rw [drop_cons (vls l) j (by omega), tms] at ht
    by_cases h0 : x = 0
    · rw [if_pos h0] at ht; exact ih (j + 1) (by omega) hb.2 t ht
    · rw [if_neg h0] at ht
      rcases List.mem_cons.1 ht with rfl | ht
      · rw [vls_get l j hj]
        exact trm_no32 x hb.1.1 _ (name_bytes _ (ok.nm j hj)).2.2
      · exact ih (j + 1) (by omega) hb.2 t ht
theorem split_trm (x : Int) (hx : 0 ≤ x) (v : List UInt8) (hv : ∀ c ∈ v, c ≠ 32 ∧ c ≠ 39 ∧ c ≠ 10) : Num.splitB 39 (trm x v) = [Lib.itoa x, v] := by
  have := Num.split_join 39 [Lib.itoa x, v] (by simp) (fun p hp => by
    rcases List.mem_cons.1 hp with rfl | hp
    · exact Num.itoa_notin x 39 (.inl (by decide)) (by decide)
    · rw [List.mem_singleton.1 hp]; exact fun h => (hv _ h).2.1 rfl)
  rw [← this]; rfl
theorem e39 : ((39 : UInt8).toNat : Int) = 39 := rfl
theorem e32 : ((32 : UInt8).toNat : Int) = 32 := rfl
theorem r_end (c : ByteArray) (l : List ByteArray) (hl : l.length ≤ 1000) (s : List UInt8) (out : List Int) (ho : out.length = l.length) (W : List ByteArray) (k i : Nat) (hi : W.length ≤ i) (hk : 3001 ≤ k) :
    petrinetref39_Parse.l0 k (mk s) out W (i : Int) c l = some (if textV c l out = s then (out, 0) else ([], 11)) := by
  obtain ⟨k, rfl⟩ := fuel (show 0 < k by omega)
  simp only [petrinetref39_Parse.l0]
  rw [if_neg (by omega), rtext_is c l hl out (by omega) k (by omega), Option.bind_some, Lib.toList_data, Lib.toList_data, mk_data, mk_data]
  split <;> rfl
theorem rd0 (x y : ByteArray) : rdOf ByteArray.empty [x, y] 0 = x := rfl
theorem rd1 (x y : ByteArray) : rdOf ByteArray.empty [x, y] 1 = y := rfl
theorem w2 (i : Nat) (hi : i ≤ 10000000) : wrap64 ((i : Int) + 2) = ((i + 2 : Nat) : Int) := by rw [wrap_id _ (by omega)]; omega
theorem r_main (c : ByteArray) (l : List ByteArray) (ok : NamesOk l) (s : List UInt8) (W : List (List UInt8)) (hW : W.length ≤ 1000000) (a : List Int) : ∀ (j i : Nat) (out : List Int) (t : List UInt8) (ts : List (List UInt8)) (k : Nat), a.length + j = l.length → out.length = l.length → inB a = true →
    tms a ((vls l).drop j) = t :: ts → W.drop i = t :: wsP ts → 4000 + 10 * a.length ≤ k →
    petrinetref39_Parse.l0 k (mk s) out (W.map mk) (i : Int) c l = some (if textV c l (setAll j a out) = s then (setAll j a out, 0) else ([], 11)) := by
  have hv := vls_len l
  have h12 := ok.hi
  induction a with
  | nil => intro j i out t ts k _ _ _ h; simp [tms] at h
  | cons x xs ih =>
    intro j i out t ts k hal ho hb ht hd hk
    simp only [List.length_cons] at hal hk
    have hj : j < l.length := by omega
    rw [inB_cons, Bool.and_eq_true, decide_eq_true_iff] at hb
    rw [drop_cons (vls l) j (by omega), tms] at ht
    by_cases h0 : x = 0
    · rw [if_pos h0] at ht
      have := ih (j + 1) i out t ts k (by omega) ho hb.2 ht hd (by omega)
      rw [this, setAll, if_pos h0]
    · rw [if_neg h0, vls_get l j hj] at ht
      injection ht with ht hts
      have hnm := name_bytes _ (ok.nm j hj)
      have hz := itoa_len (n := x) (by unfold I64; omega)
      have hsz : l[j].data.toList.length ≤ 16 := by rw [← size_data]; exact hnm.1
      have hiW : i < W.length := by
        rcases Nat.lt_or_ge i W.length with h | h
        · exact h
        · rw [List.drop_eq_nil_of_le h] at hd; simp at hd
      have hWi : W[i] = t := by rw [drop_cons W i hiW] at hd; injection hd
      have hd1 : W.drop (i + 1) = wsP ts := by rw [drop_cons W i hiW] at hd; injection hd
      have hsp := split_is (mk t) 39 (by rw [mk_size, ← ht]; unfold trm; simp; omega) (k - 1) (by rw [mk_size, ← ht]; unfold trm; simp; omega)
      rw [e39, mk_data, ← ht, split_trm x hb.1.1 _ hnm.2.2] at hsp
      obtain ⟨k, rfl⟩ := fuel (show 0 < k by omega)
      rw [show k + 1 - 1 = k by omega] at hsp
      have hf := fd_at (vls l) j (by omega) (by rw [vls_get l j hj]; exact ok.fresh j hj)
      rw [vls_get l j hj] at hf
      simp only [petrinetref39_Parse.l0, List.length_map]
      rw [if_pos (by omega), if_pos (by omega), rdOf_get _ _ i (by rw [List.length_map]; exact hiW), List.getElem_map, hWi, ← ht, hsp, Option.bind_some]
      simp only [List.map_cons, List.map_nil, List.length_cons, List.length_nil, rd0, rd1]
      rw [if_pos (by omega), if_pos (by omega), natural_is _ _ (by rw [mk_size]; omega) k (by rw [mk_size]; omega), Option.bind_some, if_pos (by omega), rfind_is _ c l (by omega) k (by omega), Option.bind_some, mk_data, mk_data, hf, natR_of x _ hb.1.1 hb.1.2 (by omega), if_neg (by omega), if_neg (by omega), if_pos (by omega), if_pos (by omega), Int.toNat_natCast, w2 i (by omega), setAll, if_neg h0]
      cases ts with
      | nil =>
        have hz : setAll (j + 1) xs (out.set j x) = out.set j x := setAll_zero xs ((vls l).drop (j + 1)) _ _ (by rw [List.length_drop]; omega) hts
        rw [hz]
        have : W.length ≤ i + 1 := by
          rw [wsP] at hd1; exact List.drop_eq_nil_iff.mp hd1
        exact r_end c l (by omega) s _ (by simp [ho]) _ k (i + 2) (by rw [List.length_map]; omega) (by omega)
      | cons u us =>
        have hd2 : W.drop (i + 2) = u :: wsP us := by
          rw [show i + 2 = (i + 1) + 1 by omega, ← List.drop_drop, hd1, wsP]; rfl
        exact ih (j + 1) (i + 2) (out.set j x) u us k (by omega) (by simp [ho]) hb.2 hts hd2 (by omega)
theorem r_total (c : ByteArray) (l : List ByteArray) (hl : l.length ≤ 1000) (s : List UInt8) (W : List (List UInt8)) (hW : W.length ≤ 2000000) (hWs : ∀ p ∈ W, p.length ≤ 1000000) (n : Nat) : ∀ (k i : Nat) (out : List Int), W.length - i ≤ n → out.length = l.length → i ≤ W.length + 2 → n + 1010000 ≤ k →
    ∃ R, petrinetref39_Parse.l0 k (mk s) out (W.map mk) (i : Int) c l = some R ∧ (R = ([], 11) ∨ ∃ out', out'.length = l.length ∧ R = (out', 0) ∧ textV c l out' = s) := by
  have hv := vls_len l
  have fin : ∀ (k i : Nat) (out : List Int), W.length ≤ i → out.length = l.length → 3001 ≤ k → ∃ R, petrinetref39_Parse.l0 k (mk s) out (W.map mk) (i : Int) c l = some R ∧ (R = ([], 11) ∨ ∃ out', out'.length = l.length ∧ R = (out', 0) ∧ textV c l out' = s) := by
    intro k i out hi ho hk
    refine ⟨_, r_end c l hl s out ho (W.map mk) k i (by rw [List.length_map]; exact hi) hk, ?_⟩
    by_cases g : textV c l out = s
    · rw [if_pos g]; exact .inr ⟨out, ho, rfl, g⟩
    · rw [if_neg g]; exact .inl rfl
  induction n with
  | zero => intro k i out hn ho hi hk; exact fin k i out (by omega) ho (by omega)
  | succ n ih =>
    intro k i out hn ho hi hk
    by_cases hiW : W.length ≤ i
    · exact fin k i out hiW ho (by omega)
    · have hiW : i < W.length := by omega
      obtain ⟨k, rfl⟩ := fuel (show 0 < k by omega)
      have hp := hWs _ (List.getElem_mem hiW)
      have hsp := split_is (mk W[i]) 39 (by rw [mk_size]; exact hp) k (by rw [mk_size]; omega)
      rw [e39, mk_data] at hsp
      have hlen := splitAcc_len 39 W[i] []
      simp only [petrinetref39_Parse.l0, List.length_map]
      rw [if_pos (by omega), if_pos (by omega), rdOf_get _ _ i (by rw [List.length_map]; exact hiW), List.getElem_map, hsp, Option.bind_some, List.length_map]
      change (∀ p ∈ Num.splitB 39 W[i], _) ∧ _ at hlen
      generalize Num.splitB 39 W[i] = parts at *
      by_cases h2 : parts.length = 2
      · match parts, h2, hlen with
        | [x, y], _, hlen =>
          have hx := hlen.1 x (by simp)
          simp only [List.length_nil, Nat.zero_add] at hx
          simp only [List.map_cons, List.map_nil, List.length_cons, List.length_nil, rd0, rd1]
          rw [if_pos (by omega), if_pos (by omega), natural_is _ _ (by rw [mk_size]; omega) k (by rw [mk_size]; omega), Option.bind_some, if_pos (by omega), rfind_is _ c l (by omega) k (by omega), Option.bind_some, mk_data, mk_data]
          by_cases h3 : natR x 1048576 < 0
          · rw [if_pos h3]; exact ⟨_, rfl, .inl rfl⟩
          · rw [if_neg h3]
            by_cases h4 : fd y (vls l) 0 < 0
            · rw [if_pos h4]; exact ⟨_, rfl, .inl rfl⟩
            · obtain ⟨b1, b2⟩ := fd_bound y (vls l) h4
              rw [if_neg h4, if_pos b1, if_pos (by omega), w2 i (by omega)]
              exact ih k (i + 2) _ (by omega) (by simp [ho]) (by omega) (by omega)
      · rw [if_neg (by omega)]; exact ⟨_, rfl, .inl rfl⟩
theorem r_empty (c : ByteArray) (l : List ByteArray) (out : List Int) (k : Nat) (hk : 2000 ≤ k) : petrinetref39_Parse.l0 k (mk []) out ([([] : List UInt8)].map mk) 0 c l = some ([], 11) := by
  obtain ⟨k, rfl⟩ := fuel (show 0 < k by omega)
  have hsp := split_is (mk []) 39 (by rw [mk_size]; simp) k (by rw [mk_size]; simp; omega)
  rw [e39, mk_data] at hsp
  simp only [petrinetref39_Parse.l0, List.map_cons, List.map_nil, List.length_cons, List.length_nil]
  rw [if_pos (by omega), if_pos (by omega), show rdOf ByteArray.empty [mk []] 0 = mk [] from rfl, hsp, Option.bind_some]
  rfl
theorem rparse_spec (c : ByteArray) (l : List ByteArray) (hl : l.length ≤ 1000) (s : List UInt8) (hs : s.length ≤ 900000) (k : Nat) (hk : 5000000 ≤ k) : ∃ R, petrinetref39_Parse.f k c l (mk s) = some R ∧ PSpec c l s R := by
  unfold petrinetref39_Parse.f
  rw [rcheck_is c l hl k (by omega), Option.bind_some]
  by_cases h : ckV c l = 0
  · have ok := namesOk_of h
    have h12 := ok.hi
    rw [if_pos h, if_pos (by omega), if_pos (by omega), Option.bind_some, Int.toNat_natCast, Lib.toList_data, mk_data]
    by_cases h48 : s = [48]
    · rw [if_pos h48]
      exact ⟨_, rfl, .inr (.inl ⟨h, _, (okA_iff _ _).mpr ⟨by simp, inB_zero _⟩, by rw [txtA_nil _ _ (tms_zero _ _), h48], rfl⟩)⟩
    · have hsp := split_is (mk s) 32 (by rw [mk_size]; omega) k (by rw [mk_size]; omega)
      rw [e32, mk_data] at hsp
      rw [if_neg h48, hsp, Option.bind_some]
      have hlen := splitAcc_len 32 s []
      change (∀ p ∈ Num.splitB 32 s, _) ∧ (Num.splitB 32 s).length ≤ _ at hlen
      refine pspec_of h h48 _ (fun e => ?_) (fun a ha ht => ?_) (r_total c l hl s (Num.splitB 32 s) (by omega) (fun p hp => by have := hlen.1 p hp; simp at this; omega) _ k 0 _ (Nat.sub_le _ _) (by simp) (by omega) (by omega))
      · subst e
        exact r_empty c l _ k (by omega)
      · obtain ⟨hal, hb⟩ := (okA_iff l a).mp ha
        cases e : tms a (vls l) with
        | nil => exact absurd (ht ▸ txtA_nil l a e) h48
        | cons t ts =>
          have hne := (cons_ne48 l a t ts e).1
          have hset := setAll_is a 0 [] rfl
          rw [List.nil_append, List.nil_append, hal] at hset
          have h32 := tms_no32 l ok a 0 (by omega) hb
          rw [List.drop_zero, e] at h32
          have hW : Num.splitB 32 s = t :: wsP ts := by
            rw [← ht, txtA_cons l a t ts e hne, ← join_ws ts t]
            refine Num.split_join 32 _ (by simp) (fun p hp => ?_)
            rcases List.mem_cons.1 hp with rfl | hp
            · exact h32 _ (List.mem_cons_self ..)
            · exact no32_ws ts (fun u hu => h32 u (List.mem_cons_of_mem _ hu)) p hp
          have := r_main c l ok s (Num.splitB 32 s) (by omega) a 0 0 (List.replicate l.length 0) t ts k (by omega) (by simp) hb (by simpa using e) (by rw [List.drop_zero]; exact hW) (by omega)
          rw [hset, if_pos (by rw [textV_ok h ha, ht])] at this
          exact this
  · rw [if_neg h]
    exact ⟨_, rfl, .inl ⟨h, rfl⟩⟩
end Go.Proofs.YtjhlagpcbaodkaaDoor.Plain
