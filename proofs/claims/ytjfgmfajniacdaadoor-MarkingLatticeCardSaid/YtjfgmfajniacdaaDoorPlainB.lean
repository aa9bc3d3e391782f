/- Plain laws over the printed functions: what each comes to. No condition but the ones written. -/
import Derived.Test.YtjfgmfajniacdaaDoorPlainA
import Derived.Test.YtjfgmfajniacdaaDoorPAllx3
namespace Go.Proofs.YtjfgmfajniacdaaDoor.Plain
open Go Go.RowKit Go.Proofs.YtjfgmfajniacdaaDoor.PAll Go.Proofs.YtjfgmfajniacdaaDoorW.PrintWords Go.Proofs.YtjfgmfajniacdaaDoorW.PrintLast Go.Proofs.YtjfgmfajniacdaaDoorW.PrintMore
set_option linter.unusedVariables false
/-! ### markings as texts -/
theorem cur_step (L : List UInt8) (f i : Nat) (hf : f ≤ i) (hi : i < L.length) : (L.drop f).take (i + 1 - f) = (L.drop f).take (i - f) ++ [L[i]] := by
  have e : i + 1 - f = (i - f) + 1 := by omega
  have h : i - f < (L.drop f).length := by rw [List.length_drop]; omega
  rw [e, List.take_succ_eq_append_getElem h, List.getElem_drop]
  congr 3; omega
theorem cur_self (L : List UInt8) (i : Nat) : (L.drop i).take (i - i) = [] := by rw [Nat.sub_self]; rfl
def Good (m : List Int) (s : List UInt8) : Prop := m.length ≤ 24 ∧ (∀ x ∈ m, 0 ≤ x ∧ x ≤ 1048576) ∧ Num.textOf m = s
def Spec (R : List Int × Int) (s : List UInt8) : Prop := (∃ m, Good m s ∧ R = (m, 0)) ∨ ((∀ m, ¬ Good m s) ∧ R = ([], 11))
theorem good_unique {m n : List Int} {s : List UInt8} (h : Good m s) (h' : Good n s) : m = n :=
  Num.text_inj (fun x hx => (h.2.1 x hx).1) (fun x hx => (h'.2.1 x hx).1) (h.2.2.trans h'.2.2.symm)
theorem spec_unique {R R' : List Int × Int} {s : List UInt8} (h : Spec R s) (h' : Spec R' s) : R = R' := by
  rcases h with ⟨m, hm, rfl⟩ | ⟨hn, rfl⟩ <;> rcases h' with ⟨m', hm', rfl⟩ | ⟨hn', rfl⟩
  · rw [good_unique hm hm']
  · exact absurd hm (hn' m)
  · exact absurd hm' (hn m')
  · rfl
theorem good_nil : Good [] [45] := ⟨by simp, fun x hx => by simp at hx, rfl⟩
theorem good_split {m : List Int} {s : List UInt8} (h : Good m s) (hs : s ≠ [45]) : m ≠ [] ∧ Num.splitB 44 s = m.map Lib.itoa := by
  have hm : m ≠ [] := by rintro rfl; exact hs h.2.2.symm
  exact ⟨hm, by rw [← h.2.2, Num.split_text hm]⟩
theorem text_of_split {m : List Int} {s : List UInt8} (h : Num.splitB 44 s = m.map Lib.itoa) : Num.textOf m = s := by
  have hm : m ≠ [] := by rintro rfl; exact Num.splitB_ne 44 s h
  rw [Num.textOf_cons hm, ← h, Num.join_split]

/-! ### petrinetref04.Split -/
def mk (p : List UInt8) : ByteArray := ByteArray.mk p.toArray
theorem mk_extract (s : ByteArray) (f i : Nat) : s.extract f i = mk ((s.data.toList.drop f).take (i - f)) := Num.str_ext (by unfold mk; rw [Lib.extract_data, Num.data_mk])
theorem split_l (s : ByteArray) (c : UInt8) (hs : s.size ≤ 1000000) (n : Nat) : ∀ (k f i : Nat) (out : List ByteArray), s.size - i = n → i ≤ s.size → f ≤ i → out.length ≤ i → n + 1 < k →
    petrinetref04_Split.l0 k s (c.toNat : Int) out (f : Int) (i : Int) = some (out ++ (Num.splitAcc c ((s.data.toList.drop f).take (i - f)) (s.data.toList.drop i)).map mk) := by
  have hsz := size_data s
  induction n with
  | zero =>
    intro k f i out hn hi hf ho hk
    obtain ⟨k, rfl⟩ : ∃ j, k = j + 2 := ⟨k - 2, by omega⟩
    obtain rfl : i = s.size := by omega
    show petrinetref04_Split.l0 ((k + 1) + 1) s _ out _ _ = _
    simp only [petrinetref04_Split.l0]
    rw [if_pos (by omega), if_pos trivial, if_pos (by omega), if_pos (by omega), if_pos (by omega), wrap_succ _ (by omega)]
    rw [if_neg (by omega), drop_end s.data.toList s.size (by omega)]
    simp only [Num.splitAcc, List.map_cons, List.map_nil, Int.toNat_natCast]
    rw [mk_extract]
  | succ n ih =>
    intro k f i out hn hi hf ho hk
    obtain ⟨k, rfl⟩ := fuel hk
    have hi' : i < s.data.toList.length := by omega
    simp only [petrinetref04_Split.l0]
    rw [if_pos (by omega), if_neg (by omega), if_pos (by omega), if_pos (by omega), bt_get s i hi', drop_cons _ _ hi', wrap_succ i (by omega)]
    by_cases e : s.data.toList[i] = c
    · rw [if_pos (by rw [e]), if_pos (by omega), if_pos (by omega), if_pos (by omega)]
      rw [ih k (i + 1) (i + 1) _ (by omega) (by omega) (Nat.le_refl _) (by simp; omega) (by omega), cur_self, Num.splitAcc, if_pos e]
      simp only [Int.toNat_natCast, List.map_cons]
      rw [mk_extract]; simp
    · rw [if_neg (fun h => e (UInt8.toNat_inj.mp (by omega)))]
      rw [ih k f (i + 1) _ (by omega) (by omega) (by omega) (by omega) (by omega), cur_step _ f i hf hi', Num.splitAcc, if_neg e]
theorem split_is (s : ByteArray) (c : UInt8) (hs : s.size ≤ 1000000) (k : Nat) (hk : s.size + 1 < k) : petrinetref04_Split.f k s (c.toNat : Int) = some ((Num.splitB c s.data.toList).map mk) := by
  unfold petrinetref04_Split.f
  have := split_l s c hs s.size k 0 0 [] (by omega) (by omega) (by omega) (by simp) hk
  simpa [Num.splitB] using this
/-! ### petrinetref04.Natural -/
def natR (l : List UInt8) (most : Int) : Int := if (∀ c ∈ l, Num.isDig c) ∧ l.length ≤ 10 ∧ Lib.decDigits (Num.dval 0 l) = l ∧ (Num.dval 0 l : Int) ≤ most then (Num.dval 0 l : Int) else -1
theorem dval_lt' (l : List UInt8) : ∀ a, (∀ c ∈ l, Num.isDig c) → Num.dval a l < (a + 1) * 10 ^ l.length := by
  induction l with
  | nil => intro a _; rw [Num.dval_nil]; simp
  | cons c l ih =>
    intro a h
    have hc := h c (List.mem_cons_self ..)
    unfold Num.isDig at hc
    have h1 := ih (a * 10 + (c.toNat - 48)) (fun d hd => h d (List.mem_cons_of_mem _ hd))
    rw [Num.dval_cons, List.length_cons, Nat.pow_succ]
    have h2 : (a * 10 + (c.toNat - 48) + 1) * 10 ^ l.length ≤ ((a + 1) * 10) * 10 ^ l.length := Nat.mul_le_mul_right _ (by omega)
    have h3 : (a + 1) * (10 ^ l.length * 10) = ((a + 1) * 10) * 10 ^ l.length := by rw [Nat.mul_assoc, Nat.mul_comm 10]
    omega
theorem dval_lt (l : List UInt8) (h : ∀ c ∈ l, Num.isDig c) : Num.dval 0 l < 10 ^ l.length := by
  have := dval_lt' l 0 h
  omega
theorem natural_end (s : ByteArray) (most : Int) (n k : Nat) (hk : 61 ≤ k) (hn : n < 10000000000) :
    ((petrinetref04_Number.f k (n : Int)).bind fun t => (if t.toList = s.toList then (if (n : Int) > most then (some (-1)) else (some (n : Int))) else (some (-1)))) = some (if Lib.decDigits n = s.data.toList ∧ (n : Int) ≤ most then (n : Int) else -1) := by
  rw [number_is (n : Int) (by unfold I64; omega) k (by omega)]
  simp only [Option.bind_some, Lib.toList_data, Num.itoa_nat]
  by_cases h : Lib.decDigits n = s.data.toList
  · rw [if_pos h]
    by_cases g : (n : Int) > most
    · rw [if_pos g, if_neg (by omega)]
    · rw [if_neg g, if_pos ⟨h, by omega⟩]
  · rw [if_neg h, if_neg (fun g => h g.1)]
theorem natural_l (s : ByteArray) (most : Int) (hs : s.size ≤ 1000000) (m : Nat) : ∀ (k i : Nat), s.size - i = m → i ≤ s.size → (∀ c ∈ s.data.toList.take i, Num.isDig c) → (0 < i → s.size ≤ 10) → m + 62 ≤ k →
    petrinetref04_Natural.l0 k s most (Num.dval 0 (s.data.toList.take i) : Nat) (i : Int) = some (natR s.data.toList most) := by
  have hsz := size_data s
  induction m with
  | zero =>
    intro k i hm hi hd h10 hk
    obtain ⟨k, rfl⟩ := fuel (show 0 < k by omega)
    have ht : s.data.toList.take i = s.data.toList := List.take_of_length_le (by omega)
    rw [ht] at hd ⊢
    have hlen : s.data.toList.length ≤ 10 := by omega
    have hv := dval_lt _ hd
    have hp : (10 : Nat) ^ s.data.toList.length ≤ 10 ^ 10 := Nat.pow_le_pow_right (by omega) hlen
    simp only [petrinetref04_Natural.l0]
    rw [if_neg (by omega), natural_end s most _ k (by omega) (by omega)]
    unfold natR
    congr 1
    by_cases c : Lib.decDigits (Num.dval 0 s.data.toList) = s.data.toList ∧ (Num.dval 0 s.data.toList : Int) ≤ most
    · rw [if_pos c, if_pos ⟨hd, hlen, c.1, c.2⟩]
    · rw [if_neg c, if_neg (fun h => c h.2.2)]
  | succ m ih =>
    intro k i hm hi hd h10 hk
    obtain ⟨k, rfl⟩ := fuel (show 0 < k by omega)
    have hi' : i < s.data.toList.length := by omega
    simp only [petrinetref04_Natural.l0]
    rw [if_pos (by omega), if_pos (by omega), bt_get s i hi']
    by_cases c1 : ((s.data.toList[i].toNat : Nat) : Int) < 48
    · rw [if_pos c1]; unfold natR; rw [if_neg (fun h => by have := h.1 _ (List.getElem_mem hi'); unfold Num.isDig at this; omega)]
    · rw [if_neg c1]
      by_cases c2 : ((s.data.toList[i].toNat : Nat) : Int) > 57
      · rw [if_pos c2]; unfold natR; rw [if_neg (fun h => by have := h.1 _ (List.getElem_mem hi'); unfold Num.isDig at this; omega)]
      · rw [if_neg c2]
        by_cases c3 : (s.size : Int) > 10
        · rw [if_pos c3]; unfold natR; rw [if_neg (fun h => by have := h.2.1; omega)]
        · rw [if_neg c3]
          have hv := dval_lt _ hd
          have hp : (10 : Nat) ^ (s.data.toList.take i).length ≤ 10 ^ 10 := Nat.pow_le_pow_right (by omega) (by rw [List.length_take]; omega)
          have ht : s.data.toList.take (i + 1) = s.data.toList.take i ++ [s.data.toList[i]] := List.take_succ_eq_append_getElem hi'
          have hstep : wrap64 (wrap64 (wrap64 (10 * ((Num.dval 0 (s.data.toList.take i) : Nat) : Int)) + wrap64 ((s.data.toList[i].toNat : Nat) : Int)) - 48) = ((Num.dval 0 (s.data.toList.take (i + 1)) : Nat) : Int) := by
            rw [ht, Num.dval_append, Num.dval_cons, Num.dval_nil]
            generalize Num.dval 0 (s.data.toList.take i) = v at *
            generalize s.data.toList[i].toNat = b at *
            have hv10 : v < 10000000000 := by omega
            clear hv hp ih hd ht hsz
            rw [wrap_id (10 * (v : Int)) (by omega), wrap_id ((b : Nat) : Int) (by omega), wrap_id (10 * (v : Int) + (b : Int)) (by omega), wrap_id (10 * (v : Int) + (b : Int) - 48) (by omega)]
            omega
          rw [hstep, wrap_succ i (by omega)]
          refine ih k (i + 1) (by omega) (by omega) ?_ (fun _ => by omega) (by omega)
          intro c hc
          rw [ht] at hc
          rcases List.mem_append.1 hc with hc | hc
          · exact hd c hc
          · rw [List.mem_singleton.1 hc]; unfold Num.isDig; omega
theorem natural_is (s : ByteArray) (most : Int) (hs : s.size ≤ 1000000) (k : Nat) (hk : s.size + 62 ≤ k) : petrinetref04_Natural.f k s most = some (natR s.data.toList most) := by
  unfold petrinetref04_Natural.f
  have := natural_l s most hs s.size k 0 (by omega) (by omega) (by simp) (fun h => by omega) hk
  simpa [Num.dval] using this
theorem decDigits_le (k : Nat) : ∀ u, u < 10 ^ (k + 1) → (Lib.decDigits u).length ≤ k + 1 := by
  induction k with
  | zero => intro u h; rw [Lib.decDigits, dif_pos (by simpa using h)]; simp
  | succ k ih =>
    intro u h
    rw [Lib.decDigits]
    split
    · simp
    · rw [List.length_append, List.length_singleton]
      have := ih (u / 10) (by rw [Nat.pow_succ] at h; omega)
      omega
theorem natR_of (x most : Int) (h0 : 0 ≤ x) (h1 : x ≤ most) (hm : most < 10000000000) : natR (Lib.itoa x) most = x := by
  unfold natR
  rw [Num.itoa_pos h0, Num.dval_decDigits]
  have := decDigits_le 9 x.toNat (by omega)
  rw [if_pos ⟨Num.decDigits_dig _, this, rfl, by omega⟩]; omega
theorem natR_some (l : List UInt8) (most : Int) (h : ¬ natR l most < 0) : Lib.itoa (natR l most) = l ∧ 0 ≤ natR l most ∧ natR l most ≤ most := by
  unfold natR at *
  by_cases c : (∀ c ∈ l, Num.isDig c) ∧ l.length ≤ 10 ∧ Lib.decDigits (Num.dval 0 l) = l ∧ (Num.dval 0 l : Int) ≤ most
  · rw [if_pos c] at *
    exact ⟨by rw [Num.itoa_nat, c.2.2.1], by omega, c.2.2.2⟩
  · rw [if_neg c] at h; omega
/-! ### petrinetref04.Parse -/
def natAll : List (List UInt8) → Option (List Int)
  | [] => some []
  | p :: ps => if natR p 1048576 < 0 then none else (natAll ps).map (natR p 1048576 :: ·)
theorem natAll_some (ps : List (List UInt8)) : ∀ m, natAll ps = some m → m.map Lib.itoa = ps ∧ ∀ x ∈ m, 0 ≤ x ∧ x ≤ 1048576 := by
  induction ps with
  | nil => intro m h; simp only [natAll, Option.some.injEq] at h; subst h; exact ⟨rfl, fun x hx => by simp at hx⟩
  | cons p ps ih =>
    intro m h
    rw [natAll] at h
    split at h
    · simp at h
    · rename_i hp
      obtain ⟨m', hm', rfl⟩ := Option.map_eq_some_iff.1 h
      obtain ⟨h1, h2⟩ := ih m' hm'
      have h3 := natR_some p 1048576 hp
      refine ⟨by rw [List.map_cons, h1, h3.1], fun x hx => ?_⟩
      rcases List.mem_cons.1 hx with rfl | hx
      · exact h3.2
      · exact h2 x hx
theorem natAll_map (m : List Int) (h : ∀ x ∈ m, 0 ≤ x ∧ x ≤ 1048576) : natAll (m.map Lib.itoa) = some m := by
  induction m with
  | nil => rfl
  | cons x m ih =>
    have hx := h x (List.mem_cons_self ..)
    rw [List.map_cons, natAll, natR_of x 1048576 hx.1 hx.2 (by omega), if_neg (by omega), ih (fun y hy => h y (List.mem_cons_of_mem _ hy))]; rfl
def parseRef (s : List UInt8) : List Int × Int :=
  if s = [45] then ([], 0) else if (Num.splitB 44 s).length > 24 then ([], 11) else match natAll (Num.splitB 44 s) with
    | none => ([], 11)
    | some m => (m, 0)
theorem parseRef_spec (s : List UInt8) : Spec (parseRef s) s := by
  unfold parseRef
  by_cases h : s = [45]
  · rw [if_pos h]; subst h; exact .inl ⟨[], good_nil, rfl⟩
  · rw [if_neg h]
    by_cases h2 : (Num.splitB 44 s).length > 24
    · rw [if_pos h2]
      refine .inr ⟨fun m hm => ?_, rfl⟩
      obtain ⟨_, e⟩ := good_split hm h
      have := hm.1
      rw [e, List.length_map] at h2; omega
    · rw [if_neg h2]
      cases hc : natAll (Num.splitB 44 s) with
      | none =>
        refine .inr ⟨fun m hm => ?_, rfl⟩
        obtain ⟨_, e⟩ := good_split hm h
        rw [e, natAll_map m hm.2.1] at hc; simp at hc
      | some m =>
        obtain ⟨e1, e2⟩ := natAll_some _ m hc
        refine .inl ⟨m, ⟨?_, e2, text_of_split e1.symm⟩, rfl⟩
        rw [← e1, List.length_map] at h2; omega
theorem refParse_l (ps : List (List UInt8)) (hps : ∀ p ∈ ps, p.length ≤ 1000000) (hl : ps.length ≤ 1000) (n : Nat) : ∀ (k i : Nat) (out : List Int), ps.length - i = n → i ≤ ps.length → out.length ≤ i → n + 1000070 ≤ k →
    petrinetref04_Parse.l0 k (ps.map mk) out (i : Int) = some (match natAll (ps.drop i) with | none => ([], 11) | some m => (out ++ m, 0)) := by
  induction n with
  | zero =>
    intro k i out hn hi ho hk
    obtain ⟨k, rfl⟩ := fuel (show 0 < k by omega)
    simp only [petrinetref04_Parse.l0, List.length_map]
    rw [if_neg (by omega), drop_end _ _ (by omega)]; simp [natAll]
  | succ n ih =>
    intro k i out hn hi ho hk
    obtain ⟨k, rfl⟩ := fuel (show 0 < k by omega)
    have hi' : i < ps.length := by omega
    simp only [petrinetref04_Parse.l0, List.length_map]
    have hsz : (mk ps[i]).size = ps[i].length := by rw [size_data]; unfold mk; rw [Num.data_mk]
    have hp := hps _ (List.getElem_mem hi')
    rw [if_pos (by omega), if_pos (by omega), rdOf_get _ _ i (by rw [List.length_map]; exact hi'), List.getElem_map, natural_is _ _ (by omega) k (by omega)]
    simp only [Option.bind_some]
    have hd : (mk ps[i]).data.toList = ps[i] := by unfold mk; rw [Num.data_mk]
    rw [hd, drop_cons _ _ hi', natAll]
    by_cases c : natR ps[i] 1048576 < 0
    · rw [if_pos c, if_pos c]
    · rw [if_neg c, if_neg c, if_pos (by omega), wrap_succ i (by omega), ih k (i + 1) _ (by omega) (by omega) (by simp; omega) (by omega)]
      cases natAll (ps.drop (i + 1)) with
      | none => rfl
      | some m => simp
theorem splitAcc_len (c : UInt8) (l : List UInt8) : ∀ acc, (∀ p ∈ Num.splitAcc c acc l, p.length ≤ acc.length + l.length) ∧ (Num.splitAcc c acc l).length ≤ l.length + 1 := by
  induction l with
  | nil => intro acc; simp [Num.splitAcc]
  | cons x r ih =>
    intro acc
    rw [Num.splitAcc]
    split
    · have := ih []
      refine ⟨fun p hp => ?_, by simp only [List.length_cons]; omega⟩
      rcases List.mem_cons.1 hp with rfl | hp
      · omega
      · have := this.1 p hp; simp at this ⊢; omega
    · have := ih (acc ++ [x])
      refine ⟨fun p hp => ?_, by simp only [List.length_cons]; omega⟩
      have := this.1 p hp; simp at this ⊢; omega
theorem refParse_is (s : ByteArray) (hs : s.size ≤ 1000000) (k : Nat) (hk : 1000100 ≤ k) : petrinetref04_Parse.f k s = some (parseRef s.data.toList) := by
  have hsz := size_data s
  unfold petrinetref04_Parse.f parseRef
  by_cases h : s.data.toList = [45]
  · rw [if_pos ((toList_eq_iff s _).mpr h), if_pos h]
  · rw [if_neg (fun g => h ((toList_eq_iff s _).mp g)), if_neg h]
    have e : ((44 : UInt8).toNat : Int) = 44 := rfl
    have hsp := split_is s 44 hs k (by omega)
    rw [e] at hsp
    rw [hsp]
    simp only [Option.bind_some, List.length_map]
    by_cases h2 : (Num.splitB 44 s.data.toList).length > 24
    · rw [if_pos (by omega), if_pos h2]
    · rw [if_neg (by omega), if_neg h2]
      have hl := splitAcc_len 44 s.data.toList []
      have := refParse_l (Num.splitB 44 s.data.toList) (fun p hp => by have := hl.1 p hp; simp at this; omega) (by omega) _ k 0 [] rfl (by omega) (by simp) (by omega)
      simpa using this
end Go.Proofs.YtjfgmfajniacdaaDoor.Plain
