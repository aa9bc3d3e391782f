/- Plain laws over the printed functions: what each comes to. No condition but the ones written. -/
import Derived.Test.YtdkfnhcegafliaaDoorPlainA
import Derived.Test.YtdkfnhcegafliaaDoorPAllx3
import Derived.Test.YtdkfnhcegafliaaDoorPAllx3
import Derived.Test.YtdkfnhcegafliaaDoorPAllx6
namespace Go.Proofs.YtdkfnhcegafliaaDoor.Plain
open Go Go.RowKit Go.Proofs.YtdkfnhcegafliaaDoor.PAll Go.Proofs.YtdkfnhcegafliaaDoorW.PrintWords Go.Proofs.YtdkfnhcegafliaaDoorW.PrintLast Go.Proofs.YtdkfnhcegafliaaDoorW.PrintMore
set_option linter.unusedVariables false
/-! ### numbers out of texts -/
theorem uintM_eq (l : List UInt8) : ∀ acc, Lib.parseUintM 18446744073709551615 acc l = Lib.parseUint10 acc l := by
  induction l with
  | nil => intro acc; rfl
  | cons c r ih =>
    intro acc
    rw [Lib.parseUintM, Lib.parseUint10]
    by_cases h1 : 48 ≤ c.toNat ∧ c.toNat ≤ 57
    · rw [if_pos h1, if_pos h1]
      by_cases h2 : 1844674407370955162 ≤ acc
      · rw [if_pos h2, if_pos h2]
      · rw [if_neg h2, if_neg h2]
        by_cases h3 : 18446744073709551616 ≤ acc * 10 + (c.toNat - 48)
        · rw [if_pos (by omega), if_pos h3]
        · rw [if_neg (by omega), if_neg h3, ih]
    · rw [if_neg h1, if_neg h1]
theorem uintB_eq (l : List UInt8) : Lib.parseUintB 64 l = Lib.parseMag l := by
  unfold Lib.parseUintB Lib.parseMag
  split
  · rfl
  · exact uintM_eq l 0
theorem intB_eq (l : List UInt8) : Lib.parseIntB 64 l = Lib.atoiAll l := by
  unfold Lib.parseIntB Lib.atoiAll
  cases l with
  | nil => rfl
  | cons c r =>
    simp only [uintB_eq]
    generalize Lib.parseMag _ = m
    cases m with
    | ok u => rfl
    | _ => rfl
theorem intB_itoa {n : Int} (h : I64 n) : Lib.parseIntB 64 (Lib.itoa n) = .ok n := by rw [intB_eq]; unfold I64 at h; exact Num.atoi_itoa n (by omega) (by omega)
theorem atoi_range {l : List UInt8} {n : Int} (h : Lib.atoiAll l = .ok n) : I64 n := by
  unfold Lib.atoiAll at h
  cases l with
  | nil => simp at h
  | cons c r =>
    simp only at h
    generalize Lib.parseMag _ = m at h
    cases m with
    | ok u =>
      simp only at h
      by_cases a : ¬ (c.toNat = 45) ∧ 9223372036854775808 ≤ u
      · rw [if_pos a] at h; simp at h
      · rw [if_neg a] at h
        by_cases b : c.toNat = 45 ∧ 9223372036854775808 < u
        · rw [if_pos b] at h; simp at h
        · rw [if_neg b] at h
          injection h with h
          subst h
          unfold I64
          split <;> omega
    | _ => simp at h
theorem first47 (s : List UInt8) (h : (47 : UInt8) ∈ s) : ∃ p q, s = p ++ 47 :: q ∧ (47 : UInt8) ∉ p := by
  induction s with
  | nil => simp at h
  | cons x s ih =>
    by_cases c : x = 47
    · exact ⟨[], s, by rw [c]; rfl, by simp⟩
    · have h' : (47 : UInt8) ∈ s := by
        rcases List.mem_cons.1 h with g | g
        · exact absurd g.symm c
        · exact g
      obtain ⟨p, q, e, hp⟩ := ih h'
      refine ⟨x :: p, q, by rw [e]; rfl, ?_⟩
      rw [List.mem_cons]; rintro (g | g)
      · exact c g.symm
      · exact hp g
theorem no47_itoa (n : Int) : (47 : UInt8) ∉ Lib.itoa n := Num.itoa_notin n 47 (.inl (by decide)) (by decide)
/-! ### frac.Parse -/
/-- What the program makes of the two halves. -/
def pairP (s p q : List UInt8) : Int × Int × Int := match Lib.atoiAll p with
  | .ok a => (match Lib.atoiAll q with
    | .ok b => if okF a b = true then (if textL a b = s then (a, b, 0) else (0, 0, 11)) else (0, 0, 11)
    | _ => (0, 0, 11))
  | _ => (0, 0, 11)
theorem pj1_is (s p q : List UInt8) (hp : p.length ≤ 140737488351232) (hq : q.length ≤ 140737488351232) (k : Nat) (hk : 9223372036854776208 < k) : frac_Parse.j1 k (mk s) (mk p) (mk q) = some (pairP s p q) := by
  obtain ⟨k, rfl⟩ := fuel (show 0 < k by omega)
  simp only [frac_Parse.j1]
  unfold strconv_ParseInt.f pairP
  rw [if_pos ⟨by rw [mk_size]; omega, rfl, rfl⟩, if_pos ⟨by rw [mk_size]; omega, rfl, rfl⟩, mk_data, mk_data, intB_eq, intB_eq, Option.bind_some, Option.bind_some]
  cases ea : Lib.atoiAll p with
  | ok a =>
    cases eb : Lib.atoiAll q with
    | ok b =>
      have ha := atoi_range ea
      have hb := atoi_range eb
      have hB := abs_lt hb
      simp only [Option.isNone_none, if_true]
      rw [pvalid_is a b ha hb k (by omega), Option.bind_some]
      by_cases c : okF a b = true
      · rw [if_pos c, if_pos c, ptext_is a b ha hb k (by omega), Option.bind_some, Lib.toList_data, Lib.toList_data, mk_data, mk_data]
        split <;> rfl
      · rw [if_neg c, if_neg c]
    | range => rfl
    | _ => rfl
  | range => cases Lib.atoiAll q <;> rfl
  | _ => cases Lib.atoiAll q <;> rfl
theorem pl_hit (p q : List UInt8) (hs : p.length + q.length + 1 ≤ 140737488351232) (h47 : (47 : UInt8) ∉ p) (d : ByteArray) (n : Nat) : ∀ (k i : Nat), p.length - i = n → i ≤ p.length → n + 9223372036854776300 < k →
    frac_Parse.l0 k (mk (p ++ 47 :: q)) (mk (p ++ 47 :: q)) d (i : Int) = some (pairP (p ++ 47 :: q) p q) := by
  have hz : (mk (p ++ 47 :: q)).size = p.length + 1 + q.length := by rw [mk_size]; simp; omega
  have hd : (mk (p ++ 47 :: q)).data.toList = p ++ 47 :: q := mk_data _
  induction n with
  | zero =>
    intro k i hn hi hk
    obtain ⟨k, rfl⟩ := fuel (show 0 < k by omega)
    obtain rfl : i = p.length := by omega
    have hb : bt (mk (p ++ 47 :: q)) (p.length : Int) = 47 := by
      rw [bt_get _ p.length (by rw [hd]; simp)]
      simp only [hd]
      rw [List.getElem_append_right (Nat.le_refl _)]; simp
    have e1 : ((mk (p ++ 47 :: q)).extract 0 (Int.toNat (p.length : Int))) = mk p := by
      rw [mk_extract, hd, Int.toNat_natCast, Nat.sub_zero, List.drop_zero, List.take_left]
    have e2 : ((mk (p ++ 47 :: q)).extract (Int.toNat ((p.length + 1 : Nat) : Int)) (mk (p ++ 47 :: q)).size) = mk q := by
      rw [mk_extract, hd, Int.toNat_natCast, hz]
      congr 1
      rw [show p ++ 47 :: q = (p ++ [47]) ++ q by simp, List.drop_left' (by simp), List.take_of_length_le (by omega)]
    simp only [frac_Parse.l0]
    rw [if_pos (by omega), if_pos (by omega), if_pos hb, if_pos (by omega), wrap_succ _ (by omega), if_pos (by omega), if_pos (by omega), e1, e2]
    exact pj1_is _ p q (by omega) (by omega) k (by omega)
  | succ n ih =>
    intro k i hn hi hk
    obtain ⟨k, rfl⟩ := fuel (show 0 < k by omega)
    have h1 : i < p.length := by omega
    have hb : ¬ bt (mk (p ++ 47 :: q)) (i : Int) = 47 := by
      rw [bt_get _ i (by rw [hd]; simp; omega)]
      simp only [hd]
      rw [List.getElem_append_left h1]
      intro h
      have h47' : (47 : UInt8).toNat = 47 := rfl
      have : p[i] = 47 := UInt8.toNat_inj.mp (by omega)
      exact h47 (this ▸ List.getElem_mem h1)
    simp only [frac_Parse.l0]
    rw [if_pos (by omega), if_pos (by omega), if_neg hb, wrap_succ _ (by omega), ih k (i + 1) (by omega) (by omega) (by omega)]
theorem pl_miss (s : List UInt8) (hs : s.length ≤ 140737488351232) (h47 : (47 : UInt8) ∉ s) (n : Nat) : ∀ (k i : Nat), s.length - i = n → i ≤ s.length → n + 9223372036854776300 < k →
    frac_Parse.l0 k (mk s) (mk s) (mk [49]) (i : Int) = some (pairP s s [49]) := by
  have hz := mk_size s
  induction n with
  | zero =>
    intro k i hn hi hk
    obtain ⟨k, rfl⟩ := fuel (show 0 < k by omega)
    simp only [frac_Parse.l0]
    rw [if_neg (by omega)]
    exact pj1_is s s [49] hs (by simp) k (by omega)
  | succ n ih =>
    intro k i hn hi hk
    obtain ⟨k, rfl⟩ := fuel (show 0 < k by omega)
    have h1 : i < s.length := by omega
    have hb : ¬ bt (mk s) (i : Int) = 47 := by
      rw [bt_get _ i (by rw [mk_data]; exact h1)]
      simp only [mk_data]
      intro h
      have h47' : (47 : UInt8).toNat = 47 := rfl
      have : s[i] = 47 := UInt8.toNat_inj.mp (by omega)
      exact h47 (this ▸ List.getElem_mem h1)
    simp only [frac_Parse.l0]
    rw [if_pos (by omega), if_pos (by omega), if_neg hb, wrap_succ _ (by omega), ih k (i + 1) (by omega) (by omega) (by omega)]
theorem pparse_hit (p q : List UInt8) (hs : p.length + q.length + 1 ≤ 140737488351232) (h47 : (47 : UInt8) ∉ p) (k : Nat) (hk : 9223512774343128000 ≤ k) : frac_Parse.f k (mk (p ++ 47 :: q)) = some (pairP (p ++ 47 :: q) p q) := by
  unfold frac_Parse.f
  exact pl_hit p q hs h47 _ _ k 0 rfl (by omega) (by omega)
theorem pparse_miss (s : List UInt8) (hs : s.length ≤ 140737488351232) (h47 : (47 : UInt8) ∉ s) (k : Nat) (hk : 9223512774343128000 ≤ k) : frac_Parse.f k (mk s) = some (pairP s s [49]) := by
  unfold frac_Parse.f
  exact pl_miss s hs h47 _ k 0 rfl (by omega) (by omega)
/-! ### what both answer -/
def FSpec (s : List UInt8) (R : Int × Int × Int) : Prop := (∃ a b, I64 a ∧ I64 b ∧ okF a b = true ∧ textL a b = s ∧ R = (a, b, 0)) ∨ ((∀ a b, I64 a → I64 b → okF a b = true → textL a b ≠ s) ∧ R = (0, 0, 11))
theorem itoa_one : Lib.itoa 1 = [49] := by simp [Lib.itoa, Lib.decDigits]
theorem text_cases {a b : Int} (h : okF a b = true) : (b = 1 ∧ textL a b = Lib.itoa a ∧ (47 : UInt8) ∉ textL a b) ∨ (b ≠ 1 ∧ textL a b = Lib.itoa a ++ 47 :: Lib.itoa b) := by
  unfold textL
  rw [if_pos h]
  by_cases c : b = 1
  · rw [if_pos c]; exact .inl ⟨c, rfl, no47_itoa a⟩
  · rw [if_neg c]; exact .inr ⟨c, rfl⟩
theorem split47_inj {p q p' q' : List UInt8} (h : p ++ 47 :: q = p' ++ 47 :: q') (hp : (47 : UInt8) ∉ p) (hp' : (47 : UInt8) ∉ p') : p = p' ∧ q = q' := by
  induction p generalizing p' with
  | nil =>
    cases p' with
    | nil => simpa using h
    | cons x p' => simp at h; exact absurd (List.mem_cons_self ..) (h.1 ▸ hp')
  | cons y p ih =>
    cases p' with
    | nil => simp at h; exact absurd (List.mem_cons_self ..) (h.1.symm ▸ hp)
    | cons x p' =>
      simp only [List.cons_append, List.cons.injEq] at h
      obtain ⟨e1, e2⟩ := ih h.2 (fun g => hp (List.mem_cons_of_mem _ g)) (fun g => hp' (List.mem_cons_of_mem _ g))
      exact ⟨by rw [h.1, e1], e2⟩
theorem itoa_inj' {a b : Int} (h : Lib.itoa a = Lib.itoa b) : a = b := Num.itoa_inj h
theorem textL_inj {a b c d : Int} (h1 : okF a b = true) (h2 : okF c d = true) (h : textL a b = textL c d) : a = c ∧ b = d := by
  rcases text_cases h1 with ⟨e1, t1, n1⟩ | ⟨e1, t1⟩ <;> rcases text_cases h2 with ⟨e2, t2, n2⟩ | ⟨e2, t2⟩
  · rw [t1, t2] at h; exact ⟨itoa_inj' h, by omega⟩
  · rw [h, t2] at n1; exact absurd (by simp) n1
  · rw [← h, t1] at n2; exact absurd (by simp) n2
  · rw [t1, t2] at h
    obtain ⟨g1, g2⟩ := split47_inj h (no47_itoa a) (no47_itoa c)
    exact ⟨itoa_inj' g1, itoa_inj' g2⟩
theorem fspec_unique {s : List UInt8} {R R' : Int × Int × Int} (h : FSpec s R) (h' : FSpec s R') : R = R' := by
  rcases h with ⟨a, b, ha, hb, ho, ht, rfl⟩ | ⟨hn, rfl⟩ <;> rcases h' with ⟨c, d, hc, hd, ho', ht', rfl⟩ | ⟨hn', rfl⟩
  · obtain ⟨rfl, rfl⟩ := textL_inj ho ho' (ht.trans ht'.symm); rfl
  · exact absurd ht (hn' a b ha hb ho)
  · exact absurd ht' (hn c d hc hd ho')
  · rfl
/-- A checked guess: right, or there is none. -/
theorem fspec_of (s : List UInt8) (R : Int × Int × Int) (hR : R = (0, 0, 11) ∨ ∃ a b, I64 a ∧ I64 b ∧ okF a b = true ∧ textL a b = s ∧ R = (a, b, 0)) (hc : ∀ a b, I64 a → I64 b → okF a b = true → textL a b = s → R = (a, b, 0)) : FSpec s R := by
  by_cases q : ∃ a b, I64 a ∧ I64 b ∧ okF a b = true ∧ textL a b = s
  · obtain ⟨a, b, ha, hb, ho, ht⟩ := q
    exact .inl ⟨a, b, ha, hb, ho, ht, hc a b ha hb ho ht⟩
  · rcases hR with rfl | ⟨a, b, ha, hb, ho, ht, _⟩
    · exact .inr ⟨fun a b ha hb ho ht => q ⟨a, b, ha, hb, ho, ht⟩, rfl⟩
    · exact absurd ⟨a, b, ha, hb, ho, ht⟩ q
theorem pairP_sound (s p q : List UInt8) : pairP s p q = (0, 0, 11) ∨ ∃ a b, I64 a ∧ I64 b ∧ okF a b = true ∧ textL a b = s ∧ pairP s p q = (a, b, 0) := by
  unfold pairP
  cases ea : Lib.atoiAll p with
  | ok a =>
    cases eb : Lib.atoiAll q with
    | ok b =>
      dsimp only
      by_cases c : okF a b = true
      · rw [if_pos c]
        by_cases d : textL a b = s
        · rw [if_pos d]; exact .inr ⟨a, b, atoi_range ea, atoi_range eb, c, d, rfl⟩
        · rw [if_neg d]; exact .inl rfl
      · rw [if_neg c]; exact .inl rfl
    | range => exact .inl rfl
    | _ => exact .inl rfl
  | range => exact .inl rfl
  | _ => exact .inl rfl
theorem pairP_at {a b : Int} (ha : I64 a) (hb : I64 b) (h : okF a b = true) : pairP (textL a b) (Lib.itoa a) (Lib.itoa b) = (a, b, 0) := by
  unfold pairP
  rw [← intB_eq, ← intB_eq, intB_itoa ha, intB_itoa hb]
  dsimp only
  rw [if_pos h, if_pos rfl]
theorem pparse_spec (s : List UInt8) (hs : s.length ≤ 140737488351232) (k : Nat) (hk : 9223512774343128000 ≤ k) : ∃ R, frac_Parse.f k (mk s) = some R ∧ FSpec s R := by
  by_cases h47 : (47 : UInt8) ∈ s
  · obtain ⟨p, q, rfl, hp⟩ := first47 s h47
    refine ⟨_, pparse_hit p q (by simp at hs; omega) hp k hk, fspec_of _ _ (pairP_sound _ p q) (fun a b ha hb ho ht => ?_)⟩
    rcases text_cases ho with ⟨_, t1, n1⟩ | ⟨_, t1⟩
    · rw [ht] at n1; exact absurd h47 n1
    · rw [t1] at ht
      obtain ⟨rfl, rfl⟩ := split47_inj ht (no47_itoa a) hp
      rw [← t1]
      exact pairP_at ha hb ho
  · refine ⟨_, pparse_miss s hs h47 k hk, fspec_of _ _ (pairP_sound _ s [49]) (fun a b ha hb ho ht => ?_)⟩
    rcases text_cases ho with ⟨e1, t1, n1⟩ | ⟨_, t1⟩
    · subst e1
      have := pairP_at ha hb ho
      rw [itoa_one] at this
      rw [← ht]
      rw [t1] at this ⊢
      exact this
    · rw [← ht, t1] at h47; exact absurd (by simp) h47
/-! ### the reference's number -/
def numV (l : List UInt8) : Int × Bool := if (∀ c ∈ l, Num.isDig c) ∧ Num.dval 0 l ≤ 9223372036854775807 then ((Num.dval 0 l : Int), decide (l ≠ [])) else (0, false)
theorem number_l (l : List UInt8) (hl : l.length ≤ 140737488351232) (m : Nat) : ∀ (k i n : Nat), l.length - i = m → i ≤ l.length → n ≤ 9223372036854775807 → 2 * m + 1 < k →
    petrinetref02_number.l0 k (mk l) (n : Int) (i : Int) = some (if (∀ c ∈ l.drop i, Num.isDig c) ∧ Num.dval n (l.drop i) ≤ 9223372036854775807 then ((Num.dval n (l.drop i) : Int), decide (l ≠ [])) else (0, false)) := by
  have hz := mk_size l
  induction m with
  | zero =>
    intro k i n hm hi hn hk
    obtain ⟨k, rfl⟩ := fuel (show 0 < k by omega)
    simp only [petrinetref02_number.l0]
    rw [if_neg (by omega), drop_end l i (by omega), Num.dval_nil, if_pos ⟨by simp, hn⟩, wrap_id _ (by omega)]
    congr 2
    refine decide_eq_decide.mpr ?_
    rw [hz, ne_eq, ← List.length_eq_zero_iff]; omega
  | succ m ih =>
    intro k i n hm hi hn hk
    obtain ⟨k, rfl⟩ : ∃ j, k = j + 2 := ⟨k - 2, by omega⟩
    have h1 : i < l.length := by omega
    show petrinetref02_number.l0 ((k + 1) + 1) _ _ _ = _
    simp only [petrinetref02_number.l0]
    have hb : bt (mk l) (i : Int) = ((l[i].toNat : Nat) : Int) := by
      rw [bt_get _ i (by rw [mk_data]; exact h1)]; simp only [mk_data]
    rw [if_pos (by omega), if_pos (by omega), hb, drop_cons l i h1]
    simp only [petrinetref02_number.j1, hb]
    have hc0 : ∀ P : Prop, (∀ c ∈ l[i] :: l.drop (i + 1), Num.isDig c) ∧ P ↔ Num.isDig l[i] ∧ (∀ c ∈ l.drop (i + 1), Num.isDig c) ∧ P := fun P => by rw [List.forall_mem_cons]; exact and_assoc
    have hv := Num.dval_cons n l[i] (l.drop (i + 1))
    have hge := Num.dval_le (l.drop (i + 1)) (n * 10 + (l[i].toNat - 48))
    rw [hv]
    simp only [hc0]
    generalize hB : l[i].toNat = B at *
    have hdig : Num.isDig l[i] ↔ 48 ≤ B ∧ B ≤ 57 := by unfold Num.isDig; rw [hB]
    by_cases c1 : (B : Int) < 48
    · rw [if_pos c1, if_pos trivial, if_neg (fun h => by have := hdig.mp h.1; omega)]
    · rw [if_neg c1]
      by_cases c2 : (B : Int) > 57
      · rw [decide_eq_true c2, if_pos rfl, if_neg (fun h => by have := hdig.mp h.1; omega)]
      · rw [decide_eq_false c2, if_neg (by simp), if_pos (by omega), if_pos (by omega)]
        have hd : ((B : Int) - 48) % 256 = ((B - 48 : Nat) : Int) := by omega
        rw [hd]
        by_cases c3 : (n : Int) > (9223372036854775807 - ((B - 48 : Nat) : Int)) / 10
        · rw [if_pos c3, if_neg (fun h => by have := h.2.2; omega)]
        · rw [if_neg c3]
          have e : IntKind.u64.wrap (IntKind.u64.wrap ((n : Int) * 10) + ((B - 48 : Nat) : Int)) = ((n * 10 + (B - 48) : Nat) : Int) := by rw [uw, uw]; omega
          rw [e, wrap_succ i (by omega), ih k (i + 1) (n * 10 + (B - 48)) (by omega) (by omega) (by omega) (by omega)]
          congr 1
          have hi' : Num.isDig l[i] := hdig.mpr (by omega)
          by_cases q : (∀ c ∈ l.drop (i + 1), Num.isDig c) ∧ Num.dval (n * 10 + (B - 48)) (l.drop (i + 1)) ≤ 9223372036854775807
          · rw [if_pos q, if_pos ⟨hi', q⟩]
          · rw [if_neg q, if_neg (fun h => q h.2)]
theorem number_is (l : List UInt8) (hl : l.length ≤ 140737488351232) (k : Nat) (hk : 2 * l.length + 2 ≤ k) : petrinetref02_number.f k (mk l) = some (numV l) := by
  unfold petrinetref02_number.f numV
  have := number_l l hl _ k 0 0 rfl (by omega) (by omega) (by omega)
  simpa using this
theorem numV_bound (l : List UInt8) : 0 ≤ (numV l).1 ∧ (numV l).1 ≤ 9223372036854775807 := by
  unfold numV
  by_cases h : (∀ c ∈ l, Num.isDig c) ∧ Num.dval 0 l ≤ 9223372036854775807
  · rw [if_pos h]; have := h.2; dsimp only; omega
  · rw [if_neg h]; dsimp only; omega
theorem numV_dec (u : Nat) (hu : u ≤ 9223372036854775807) : numV (Lib.decDigits u) = ((u : Int), true) := by
  unfold numV
  rw [Num.dval_decDigits, if_pos ⟨Num.decDigits_dig u, hu⟩, decide_eq_true (Num.decDigits_ne u)]
/-! ### petrinetref02.Parse -/
def cutSign (p : List UInt8) : Bool × List UInt8 := match p with
  | c :: r => if c = 45 then (true, r) else (false, p)
  | [] => (false, [])
theorem cutSign_cons (c : UInt8) (r : List UInt8) : cutSign (c :: r) = if c = 45 then (true, r) else (false, c :: r) := rfl
def pairR (s p q : List UInt8) : Int × Int × Int :=
  if (numV (cutSign p).2).2 = true then (if (numV q).2 = true then (if okF (if (cutSign p).1 = true then -(numV (cutSign p).2).1 else (numV (cutSign p).2).1) (numV q).1 = true then (if textL (if (cutSign p).1 = true then -(numV (cutSign p).2).1 else (numV (cutSign p).2).1) (numV q).1 = s then ((if (cutSign p).1 = true then -(numV (cutSign p).2).1 else (numV (cutSign p).2).1), (numV q).1, 0) else (0, 0, 11)) else (0, 0, 11)) else (0, 0, 11)) else (0, 0, 11)
theorem rj4_is (s : List UInt8) (x y : Bool) (a b : Int) (ha : I64 a) (hb : I64 b) (k : Nat) (hk : 9223372036854776300 < k) : petrinetref02_Parse.j4 k (mk s) x y a b = some (if x = true then (if y = true then (if okF a b = true then (if textL a b = s then (a, b, 0) else (0, 0, 11)) else (0, 0, 11)) else (0, 0, 11)) else (0, 0, 11)) := by
  obtain ⟨k, rfl⟩ := fuel (show 0 < k by omega)
  have hB := abs_lt hb
  simp only [petrinetref02_Parse.j4]
  rw [rvalid_is a b ha hb k (by omega), Option.bind_some, rtext_is a b ha hb k (by omega), Option.bind_some, Lib.toList_data, Lib.toList_data, mk_data, mk_data]
  cases x with
  | false => rfl
  | true =>
    cases y with
    | false => rfl
    | true =>
      rw [if_pos rfl, if_pos rfl, if_pos rfl, if_pos rfl]
      by_cases c : okF a b = true
      · rw [if_pos c, if_pos c]; split <;> rfl
      · rw [if_neg c, if_neg c]
theorem rj3_is (s p q : List UInt8) (neg : Bool) (hp : p.length ≤ 140737488351232) (hq : q.length ≤ 140737488351232) (k : Nat) (hk : 9223653511831480000 ≤ k) : petrinetref02_Parse.j3 k (mk s) (mk p) (mk q) neg = petrinetref02_Parse.j4 (k - 1) (mk s) (numV p).2 (numV q).2 (if neg = true then -(numV p).1 else (numV p).1) (numV q).1 := by
  obtain ⟨k, rfl⟩ := fuel (show 0 < k by omega)
  have hb := numV_bound p
  simp only [petrinetref02_Parse.j3]
  rw [number_is p hp k (by omega), number_is q hq k (by omega), Option.bind_some, Option.bind_some, wrap_id _ (by omega)]
  cases neg <;> rfl
theorem rj1_is (s p q : List UInt8) (hp : p.length ≤ 140737488351232) (hq : q.length ≤ 140737488351232) (k : Nat) (hk : 9223653511831481000 ≤ k) : petrinetref02_Parse.j1 k (mk s) (mk p) (mk q) = some (pairR s p q) := by
  obtain ⟨k, rfl⟩ : ∃ j, k = j + 2 := ⟨k - 2, by omega⟩
  have hbq := numV_bound q
  have fin : ∀ neg (r : List UInt8), r.length ≤ 140737488351232 → cutSign p = (neg, r) → petrinetref02_Parse.j3 k (mk s) (mk r) (mk q) neg = some (pairR s p q) := by
    intro neg r hr hc
    have hbr := numV_bound r
    rw [rj3_is s r q neg hr hq k (by omega), rj4_is _ _ _ _ _ (by unfold I64; split <;> omega) (by unfold I64; omega) (k - 1) (by omega)]
    unfold pairR; rw [hc]
  show petrinetref02_Parse.j1 ((k + 1) + 1) _ _ _ = _
  simp only [petrinetref02_Parse.j1, petrinetref02_Parse.j2, mk_size]
  cases p with
  | nil =>
    rw [if_neg (by simp), if_neg (by simp)]
    exact fin false [] (by simp) rfl
  | cons c r =>
    have hb : bt (mk (c :: r)) 0 = ((c.toNat : Nat) : Int) := by
      have := bt_get (mk (c :: r)) 0 (by rw [mk_data]; simp)
      simp only [mk_data] at this
      exact this
    have h45 : (45 : UInt8).toNat = 45 := rfl
    rw [if_pos (by simp only [List.length_cons]; omega), if_pos (by simp only [List.length_cons]; omega), hb]
    by_cases e : c = 45
    · have hx : (((c.toNat : Nat) : Int) == 45) = true := by rw [beq_iff_eq, e]; rfl
      have ee : (mk (c :: r)).extract 1 (c :: r).length = mk r := by
        rw [mk_extract, mk_data]; congr 1; simp
      rw [hx, if_pos rfl, if_pos (by simp only [List.length_cons]; omega), ee]
      exact fin true r (by simp at hp; omega) (by rw [cutSign_cons, if_pos e])
    · have hx : (((c.toNat : Nat) : Int) == 45) = false := by
        rw [beq_eq_false_iff_ne]; intro g; exact e (UInt8.toNat_inj.mp (by omega))
      rw [hx, if_neg (by simp)]
      exact fin false (c :: r) hp (by rw [cutSign_cons, if_neg e])
theorem rl_end (s : List UInt8) (hs : s.length ≤ 140737488351232) (p q : List UInt8) (hp : p.length ≤ 140737488351232) (hq : q.length ≤ 140737488351232) (at_ : Nat)
    (h : (at_ = s.length ∧ p = s ∧ q = [49]) ∨ (at_ < s.length ∧ p = s.take at_ ∧ q = s.drop (at_ + 1))) (k i : Nat) (hi : s.length ≤ i) (hk : 9223653511831482000 ≤ k) : petrinetref02_Parse.l0 k (mk s) (at_ : Int) (i : Int) = some (pairR s p q) := by
  obtain ⟨k, rfl⟩ := fuel (show 0 < k by omega)
  have hz := mk_size s
  simp only [petrinetref02_Parse.l0]
  have e1 : (mk s).extract 0 (Int.toNat (at_ : Int)) = mk (s.take at_) := by rw [mk_extract, mk_data, Int.toNat_natCast, Nat.sub_zero, List.drop_zero]
  rw [if_neg (by omega), if_pos (by omega), if_pos (by omega), e1]
  rcases h with ⟨rfl, rfl, rfl⟩ | ⟨h1, rfl, rfl⟩
  · rw [if_neg (by omega), List.take_of_length_le (Nat.le_refl _)]
    exact rj1_is _ _ [49] hp (by simp) k (by omega)
  · have e2 : (mk s).extract (Int.toNat ((at_ + 1 : Nat) : Int)) (mk s).size = mk (s.drop (at_ + 1)) := by
      rw [mk_extract, mk_data, Int.toNat_natCast, hz, List.take_of_length_le (by rw [List.length_drop]; omega)]
    rw [if_pos (by omega), wrap_succ _ (by omega), if_pos (by omega), if_pos (by omega), e2]
    exact rj1_is _ _ _ hp hq k (by omega)
theorem rl_found (s : List UInt8) (hs : s.length ≤ 140737488351232) (at_ : Nat) (ha : at_ < s.length) (n : Nat) : ∀ (k i : Nat), s.length - i = n → i ≤ s.length → n + 9223653511831482000 < k → petrinetref02_Parse.l0 k (mk s) (at_ : Int) (i : Int) = some (pairR s (s.take at_) (s.drop (at_ + 1))) := by
  have hz := mk_size s
  induction n with
  | zero =>
    intro k i hn hi hk
    exact rl_end s hs _ _ (by rw [List.length_take]; omega) (by rw [List.length_drop]; omega) at_ (.inr ⟨ha, rfl, rfl⟩) k i (by omega) (by omega)
  | succ n ih =>
    intro k i hn hi hk
    obtain ⟨k, rfl⟩ := fuel (show 0 < k by omega)
    simp only [petrinetref02_Parse.l0]
    rw [if_pos (by omega), if_pos (by omega), if_neg (show ¬ ((at_ : Int) = ((mk s).size : Int)) by omega), wrap_succ i (by omega), ih k (i + 1) (by omega) (by omega) (by omega)]
    simp
theorem rl_hit (p q : List UInt8) (hs : p.length + q.length + 1 ≤ 140737488351232) (h47 : (47 : UInt8) ∉ p) (n : Nat) : ∀ (k i : Nat), p.length - i = n → i ≤ p.length → n + (p.length + q.length) + 9223653511831482010 < k →
    petrinetref02_Parse.l0 k (mk (p ++ 47 :: q)) ((p.length + 1 + q.length : Nat) : Int) (i : Int) = some (pairR (p ++ 47 :: q) p q) := by
  have hz : (mk (p ++ 47 :: q)).size = p.length + 1 + q.length := by rw [mk_size]; simp; omega
  have hd : (mk (p ++ 47 :: q)).data.toList = p ++ 47 :: q := mk_data _
  have hl : (p ++ 47 :: q).length = p.length + 1 + q.length := by simp; omega
  induction n with
  | zero =>
    intro k i hn hi hk
    obtain ⟨k, rfl⟩ := fuel (show 0 < k by omega)
    obtain rfl : i = p.length := by omega
    have hb : bt (mk (p ++ 47 :: q)) (p.length : Int) = 47 := by
      rw [bt_get _ p.length (by rw [hd]; simp)]
      simp only [hd]
      rw [List.getElem_append_right (Nat.le_refl _)]; simp
    have := rl_found (p ++ 47 :: q) (by omega) p.length (by omega) _ k (p.length + 1) rfl (by omega) (by omega)
    rw [List.take_left, show p ++ 47 :: q = (p ++ [47]) ++ q by simp, List.drop_left' (by simp)] at this
    rw [show (p ++ [47]) ++ q = p ++ 47 :: q by simp] at this
    simp only [petrinetref02_Parse.l0]
    rw [if_pos (by omega), if_pos (by omega), if_pos hb, if_pos (by omega), wrap_succ _ (by omega), this]
  | succ n ih =>
    intro k i hn hi hk
    obtain ⟨k, rfl⟩ := fuel (show 0 < k by omega)
    have h1 : i < p.length := by omega
    have hb : ¬ bt (mk (p ++ 47 :: q)) (i : Int) = 47 := by
      rw [bt_get _ i (by rw [hd]; simp; omega)]
      simp only [hd]
      rw [List.getElem_append_left h1]
      intro h
      have h47' : (47 : UInt8).toNat = 47 := rfl
      have : p[i] = 47 := UInt8.toNat_inj.mp (by omega)
      exact h47 (this ▸ List.getElem_mem h1)
    simp only [petrinetref02_Parse.l0]
    rw [if_pos (by omega), if_pos (by omega), if_neg hb, wrap_succ _ (by omega), ih k (i + 1) (by omega) (by omega) (by omega)]
theorem rl_miss (s : List UInt8) (hs : s.length ≤ 140737488351232) (h47 : (47 : UInt8) ∉ s) (n : Nat) : ∀ (k i : Nat), s.length - i = n → i ≤ s.length → n + 9223653511831482010 < k →
    petrinetref02_Parse.l0 k (mk s) (s.length : Int) (i : Int) = some (pairR s s [49]) := by
  have hz := mk_size s
  induction n with
  | zero =>
    intro k i hn hi hk
    exact rl_end s hs s [49] hs (by simp) s.length (.inl ⟨rfl, rfl, rfl⟩) k i (by omega) (by omega)
  | succ n ih =>
    intro k i hn hi hk
    obtain ⟨k, rfl⟩ := fuel (show 0 < k by omega)
    have h1 : i < s.length := by omega
    have hb : ¬ bt (mk s) (i : Int) = 47 := by
      rw [bt_get _ i (by rw [mk_data]; exact h1)]
      simp only [mk_data]
      intro h
      have h47' : (47 : UInt8).toNat = 47 := rfl
      have : s[i] = 47 := UInt8.toNat_inj.mp (by omega)
      exact h47 (this ▸ List.getElem_mem h1)
    simp only [petrinetref02_Parse.l0]
    rw [if_pos (by omega), if_pos (by omega), if_neg hb, wrap_succ _ (by omega), ih k (i + 1) (by omega) (by omega) (by omega)]
theorem pairR_sound (s p q : List UInt8) : pairR s p q = (0, 0, 11) ∨ ∃ a b, I64 a ∧ I64 b ∧ okF a b = true ∧ textL a b = s ∧ pairR s p q = (a, b, 0) := by
  have h1 := numV_bound (cutSign p).2
  have h2 := numV_bound q
  unfold pairR
  generalize hA : (if (cutSign p).1 = true then -(numV (cutSign p).2).1 else (numV (cutSign p).2).1) = A
  have hAb : I64 A := by rw [← hA]; unfold I64; split <;> omega
  by_cases c1 : (numV (cutSign p).2).2 = true
  · rw [if_pos c1]
    by_cases c2 : (numV q).2 = true
    · rw [if_pos c2]
      by_cases c3 : okF A (numV q).1 = true
      · rw [if_pos c3]
        by_cases c4 : textL A (numV q).1 = s
        · rw [if_pos c4]; exact .inr ⟨A, _, hAb, by unfold I64; omega, c3, c4, rfl⟩
        · rw [if_neg c4]; exact .inl rfl
      · rw [if_neg c3]; exact .inl rfl
    · rw [if_neg c2]; exact .inl rfl
  · rw [if_neg c1]; exact .inl rfl
theorem cut_itoa {a : Int} (ha : I64 a) (h : a ≠ -9223372036854775808) : ((if (cutSign (Lib.itoa a)).1 = true then -(numV (cutSign (Lib.itoa a)).2).1 else (numV (cutSign (Lib.itoa a)).2).1) = a) ∧ (numV (cutSign (Lib.itoa a)).2).2 = true := by
  unfold I64 at ha
  by_cases c : a < 0
  · rw [Num.itoa_neg' c]
    rw [cutSign_cons, if_pos rfl]
    dsimp only
    rw [numV_dec _ (by omega)]
    refine ⟨?_, rfl⟩
    rw [if_pos rfl]; dsimp only; omega
  · rw [Num.itoa_pos (by omega)]
    obtain ⟨x, r, e, hx⟩ := Num.head_dig (Num.decDigits_dig a.toNat) (Num.decDigits_ne _)
    have hc : cutSign (Lib.decDigits a.toNat) = (false, Lib.decDigits a.toNat) := by
      rw [e, cutSign_cons, if_neg (fun g => by rw [g] at hx; unfold Num.isDig at hx; revert hx; decide)]
    rw [hc]
    dsimp only
    rw [numV_dec _ (by omega)]
    refine ⟨?_, rfl⟩
    rw [if_neg (by simp)]; dsimp only; omega
theorem pairR_at {a b : Int} (ha : I64 a) (hb : I64 b) (h : okF a b = true) : pairR (textL a b) (Lib.itoa a) (Lib.itoa b) = (a, b, 0) := by
  obtain ⟨h1, h2, _⟩ := okF_facts h
  obtain ⟨c1, c2⟩ := cut_itoa ha h2
  have c3 : numV (Lib.itoa b) = (b, true) := by
    unfold I64 at hb
    rw [Num.itoa_pos (by omega), numV_dec _ (by omega)]; congr 1; omega
  unfold pairR
  rw [c1, c2, c3, if_pos rfl, if_pos rfl, if_pos h, if_pos rfl]
theorem rparse_spec (s : List UInt8) (hs : s.length ≤ 140737488351232) (k : Nat) (hk : 9224000000000000000 ≤ k) : ∃ R, petrinetref02_Parse.f k (mk s) = some R ∧ FSpec s R := by
  unfold petrinetref02_Parse.f
  rw [mk_size]
  by_cases h47 : (47 : UInt8) ∈ s
  · obtain ⟨p, q, rfl, hp⟩ := first47 s h47
    have hl : (p ++ 47 :: q).length = p.length + 1 + q.length := by simp; omega
    rw [hl] at hs ⊢
    refine ⟨_, rl_hit p q (by omega) hp _ k 0 rfl (by omega) (by omega), fspec_of _ _ (pairR_sound _ p q) (fun a b ha hb ho ht => ?_)⟩
    rcases text_cases ho with ⟨_, t1, n1⟩ | ⟨_, t1⟩
    · rw [ht] at n1; exact absurd h47 n1
    · rw [t1] at ht
      obtain ⟨rfl, rfl⟩ := split47_inj ht (no47_itoa a) hp
      rw [← t1]
      exact pairR_at ha hb ho
  · refine ⟨_, rl_miss s hs h47 _ k 0 rfl (by omega) (by omega), fspec_of _ _ (pairR_sound _ s [49]) (fun a b ha hb ho ht => ?_)⟩
    rcases text_cases ho with ⟨e1, t1, n1⟩ | ⟨_, t1⟩
    · subst e1
      have := pairR_at ha hb ho
      rw [itoa_one] at this
      rw [← ht]
      rw [t1] at this ⊢
      exact this
    · rw [← ht, t1] at h47; exact absurd (by simp) h47
end Go.Proofs.YtdkfnhcegafliaaDoor.Plain
