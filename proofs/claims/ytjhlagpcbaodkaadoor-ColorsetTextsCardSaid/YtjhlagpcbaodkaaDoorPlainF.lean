/- Plain laws over the printed functions: what each comes to. No condition but the ones written. -/
import Derived.Test.YtjhlagpcbaodkaaDoorPlainE
import Derived.Test.YtjhlagpcbaodkaaDoorPAllx11
namespace Go.Proofs.YtjhlagpcbaodkaaDoor.Plain
open Go Go.RowKit Go.Proofs.YtjhlagpcbaodkaaDoor.PAll Go.Proofs.YtjhlagpcbaodkaaDoorW.PrintWords Go.Proofs.YtjhlagpcbaodkaaDoorW.PrintLast Go.Proofs.YtjhlagpcbaodkaaDoorW.PrintMore
set_option linter.unusedVariables false
/-! ### colorset.Parse -/
theorem p_end (c : ByteArray) (l : List ByteArray) (s : List UInt8) (hs : s.length ≤ 1000000) (out : List Int) (k f i : Nat) (hi : s.length < i) (hi2 : i ≤ s.length + 3) (hk : 200 ≤ k) :
    colorset_Parse.l0 k (mk s) out (f : Int) (i : Int) c l = some (if textV c l out = s then (out, 0) else ([], 11)) := by
  obtain ⟨k, rfl⟩ := fuel (show 0 < k by omega)
  simp only [colorset_Parse.l0, mk_size]
  rw [if_neg (by omega), ptext_is c l out k (by omega), Option.bind_some, Lib.toList_data, Lib.toList_data, mk_data, mk_data]
  split <;> rfl
theorem p_j (c : ByteArray) (l : List ByteArray) (s : List UInt8) (hs : s.length ≤ 1000000) (out : List Int) (k f i : Nat) (hf : f ≤ i) (hi : i ≤ s.length) :
    colorset_Parse.j1 (k + 1) (mk s) out (f : Int) (i : Int) false c l = (colorset_term.f k c l out (mk ((s.drop f).take (i - f)))).bind fun bt => if bt.1 = true then colorset_Parse.l0 k (mk s) bt.2 ((i + 3 : Nat) : Int) ((i + 3 : Nat) : Int) c l else some ([], 11) := by
  simp only [colorset_Parse.j1, mk_size]
  have e1 : wrap64 ((i : Int) + 3) = ((i + 3 : Nat) : Int) := by rw [wrap_id _ (by omega)]; omega
  have e2 : wrap64 ((i : Int) + 2) = ((i + 2 : Nat) : Int) := by rw [wrap_id _ (by omega)]; omega
  have e3 : wrap64 (((i + 2 : Nat) : Int) + 1) = ((i + 3 : Nat) : Int) := by rw [wrap_id _ (by omega)]; omega
  rw [if_neg (by simp), if_pos (by omega), if_pos (by omega), if_pos (by omega), e1, e2, e3, Int.toNat_natCast, Int.toNat_natCast, mk_extract, mk_data]
def sepAt (s : List UInt8) (i : Nat) : Prop := (s.drop i).take 3 = [32, 43, 32]
instance (s : List UInt8) (i : Nat) : Decidable (sepAt s i) := by unfold sepAt; infer_instance
theorem p_step (c : ByteArray) (l : List ByteArray) (s : List UInt8) (hs : s.length ≤ 1000000) (out : List Int) (k f i : Nat) (hi : i ≤ s.length) :
    colorset_Parse.l0 (k + 2) (mk s) out (f : Int) (i : Int) c l = if i < s.length ∧ ¬ sepAt s i then colorset_Parse.l0 k (mk s) out (f : Int) ((i + 1 : Nat) : Int) c l else colorset_Parse.j1 (k + 1) (mk s) out (f : Int) (i : Int) false c l := by
  have hj : colorset_Parse.j1 (k + 1) (mk s) out (f : Int) (i : Int) true c l = colorset_Parse.l0 k (mk s) out (f : Int) ((i + 1 : Nat) : Int) c l := by
    simp only [colorset_Parse.j1]
    rw [if_pos trivial, wrap_succ i (by omega)]
  show colorset_Parse.l0 ((k + 1) + 1) _ _ _ _ _ _ = _
  have e1 : wrap64 ((i : Int) + 3) = ((i + 3 : Nat) : Int) := by rw [wrap_id _ (by omega)]; omega
  simp only [colorset_Parse.l0, mk_size, e1]
  rw [if_pos (by omega)]
  by_cases h : i < s.length
  · rw [if_pos (by omega)]
    by_cases g : i + 3 > s.length
    · have hn : ¬ sepAt s i := by
        intro q; unfold sepAt at q
        have := congrArg List.length q
        rw [List.length_take, List.length_drop] at this
        simp at this; omega
      rw [if_pos (by omega), if_pos ⟨h, hn⟩, hj]
    · rw [if_neg (by omega), if_pos (by omega), if_pos (by omega), if_pos (by omega), Int.toNat_natCast, Int.toNat_natCast, mk_extract, mk_data, Lib.toList_data, mk_data, show i + 3 - i = 3 by omega]
      by_cases q : sepAt s i
      · rw [if_neg (fun r => r.2 q)]
        unfold sepAt at q
        rw [q]; rfl
      · rw [if_pos ⟨h, q⟩]
        have : ((s.drop i).take 3 != [32, 43, 32]) = true := by rw [bne_iff_ne]; exact q
        rw [this, hj]
  · rw [if_neg (by omega), if_neg (fun r => h r.1)]
theorem p_scan (c : ByteArray) (l : List ByteArray) (s : List UInt8) (hs : s.length ≤ 1000000) (out : List Int) (f : Nat) (t rest : List UInt8) (hd : s.drop f = t ++ rest) (hf : f ≤ s.length) (h32 : (32 : UInt8) ∉ t) (hr : rest = [] ∨ rest.take 3 = [32, 43, 32]) (kk : Nat) (n : Nat) :
    ∀ m, t.length - m = n → m ≤ t.length → colorset_Parse.l0 (kk + 2 + 2 * n) (mk s) out (f : Int) ((f + m : Nat) : Int) c l = colorset_Parse.j1 (kk + 1) (mk s) out (f : Int) ((f + t.length : Nat) : Int) false c l := by
  have hlen : s.length = f + t.length + rest.length := by
    have := congrArg List.length hd
    rw [List.length_drop, List.length_append] at this; omega
  induction n with
  | zero =>
    intro m hn hm
    obtain rfl : m = t.length := by omega
    rw [Nat.mul_zero, Nat.add_zero, p_step c l s hs out kk f _ (by omega), if_neg]
    rintro ⟨h1, h2⟩
    rcases hr with rfl | hr
    · simp at hlen; omega
    · apply h2; unfold sepAt
      rw [← List.drop_drop, hd, List.drop_left]; exact hr
  | succ n ih =>
    intro m hn hm
    rw [show kk + 2 + 2 * (n + 1) = (kk + 2 + 2 * n) + 2 by omega, p_step c l s hs out _ f _ (by omega), if_pos, show f + m + 1 = f + (m + 1) by omega, ih (m + 1) (by omega) (by omega)]
    refine ⟨by omega, fun q => ?_⟩
    unfold sepAt at q
    rw [← List.drop_drop, hd, List.drop_append_of_le_length (by omega), drop_cons t m (by omega)] at q
    simp only [List.cons_append, List.take_succ_cons] at q
    injection q with q _
    exact h32 (q ▸ List.getElem_mem (show m < t.length by omega))
theorem trm_no32 (x : Int) (hx : 0 ≤ x) (v : List UInt8) (hv : ∀ c ∈ v, c ≠ 32 ∧ c ≠ 39 ∧ c ≠ 10) : (32 : UInt8) ∉ trm x v := by
  unfold trm
  rw [List.mem_append, List.mem_cons]
  rintro (h | h | h)
  · exact Num.itoa_notin x 32 (.inl (by decide)) (by decide) h
  · exact absurd h (by decide)
  · exact (hv _ h).1 rfl
theorem p_main (c : ByteArray) (l : List ByteArray) (ok : NamesOk l) (s : List UInt8) (hs : s.length ≤ 1000000) (a : List Int) : ∀ (j f : Nat) (out : List Int) (t : List UInt8) (ts : List (List UInt8)) (k : Nat), a.length + j = l.length → out.length = l.length → inB a = true →
    tms a ((vls l).drop j) = t :: ts → s.drop f = t ++ tlP ts → f ≤ s.length → 2 * (s.length - f) + 3000 + 10 * a.length ≤ k →
    colorset_Parse.l0 k (mk s) out (f : Int) (f : Int) c l = some (if textV c l (setAll j a out) = s then (setAll j a out, 0) else ([], 11)) := by
  have hv := vls_len l
  have h12 := ok.hi
  induction a with
  | nil => intro j f out t ts k _ _ _ h; simp [tms] at h
  | cons x xs ih =>
    intro j f out t ts k hal ho hb ht hd hf hk
    simp only [List.length_cons] at hal hk
    have hj : j < l.length := by omega
    rw [inB_cons, Bool.and_eq_true, decide_eq_true_iff] at hb
    rw [drop_cons (vls l) j (by omega), tms] at ht
    by_cases h0 : x = 0
    · rw [if_pos h0] at ht
      have := ih (j + 1) f out t ts k (by omega) ho hb.2 ht hd hf (by omega)
      rw [this, setAll, if_pos h0]
    · rw [if_neg h0, vls_get l j hj] at ht
      injection ht with ht hts
      have hnm := name_bytes _ (ok.nm j hj)
      have h32 := trm_no32 x hb.1.1 _ hnm.2.2
      rw [ht] at h32
      have hlen : s.length = f + t.length + (tlP ts).length := by
        have := congrArg List.length hd
        rw [List.length_drop, List.length_append] at this; omega
      obtain ⟨kk, hkk⟩ : ∃ kk, k = kk + 2 + 2 * t.length := ⟨k - 2 - 2 * t.length, by omega⟩
      have hr : tlP ts = [] ∨ (tlP ts).take 3 = [32, 43, 32] := by
        cases ts with
        | nil => exact .inl rfl
        | cons u us => exact .inr (by rw [tlP]; rfl)
      have hsc := p_scan c l s hs out f t (tlP ts) hd hf h32 hr kk t.length 0 (by omega) (by omega)
      simp only [Nat.add_zero] at hsc
      rw [hkk, hsc, p_j c l s hs out kk f _ (by omega) (by omega), show f + t.length - f = t.length by omega, hd, List.take_left, ← ht, term_trm c l ok out ho j hj x hb.1 kk (by omega), Option.bind_some, if_pos rfl, ht, setAll, if_neg h0]
      cases ts with
      | nil =>
        have hz : setAll (j + 1) xs (out.set j x) = out.set j x := setAll_zero xs ((vls l).drop (j + 1)) _ _ (by rw [List.length_drop]; omega) hts
        rw [hz]
        simp only [tlP, List.length_nil] at hlen
        exact p_end c l s hs _ kk _ _ (by omega) (by omega) (by omega)
      | cons u us =>
        have hd2 : s.drop (f + t.length + 3) = u ++ tlP us := by
          rw [← List.drop_drop, ← List.drop_drop, hd, List.drop_left, tlP]; rfl
        have h3 : (tlP (u :: us)).length = 3 + (u.length + (tlP us).length) := by rw [tlP]; simp; omega
        exact ih (j + 1) _ (out.set j x) u us kk (by omega) (by simp [ho]) hb.2 hts hd2 (by omega) (by omega)
theorem p_total (c : ByteArray) (l : List ByteArray) (hl : l.length ≤ 1000) (s : List UInt8) (hs : s.length ≤ 1000000) (n : Nat) : ∀ (k f i : Nat) (out : List Int), s.length + 4 - i ≤ n → f ≤ i → i ≤ s.length + 3 → out.length = l.length → 3 * n + s.length + 1500 ≤ k →
    ∃ R, colorset_Parse.l0 k (mk s) out (f : Int) (i : Int) c l = some R ∧ (R = ([], 11) ∨ ∃ out', out'.length = l.length ∧ R = (out', 0) ∧ textV c l out' = s) := by
  induction n with
  | zero => intro k f i out hn hf hi; omega
  | succ n ih =>
    intro k f i out hn hf hi ho hk
    by_cases h : s.length < i
    · refine ⟨_, p_end c l s hs out k f i h hi (by omega), ?_⟩
      by_cases g : textV c l out = s
      · rw [if_pos g]; exact .inr ⟨out, ho, rfl, g⟩
      · rw [if_neg g]; exact .inl rfl
    · obtain ⟨k, rfl⟩ : ∃ j, k = j + 2 := ⟨k - 2, by omega⟩
      rw [p_step c l s hs out k f i (by omega)]
      by_cases g : i < s.length ∧ ¬ sepAt s i
      · rw [if_pos g]
        exact ih k f (i + 1) out (by omega) (by omega) (by omega) ho (by omega)
      · rw [if_neg g, p_j c l s hs out k f i hf (by omega)]
        obtain ⟨r, out', h1, h2, _⟩ := term_total c l hl out ho ((s.drop f).take (i - f)) (by rw [List.length_take, List.length_drop]; omega) k (by rw [List.length_take, List.length_drop]; omega)
        rw [h1, Option.bind_some]
        cases r with
        | false => exact ⟨_, by rw [if_neg (by simp)], .inl rfl⟩
        | true =>
          simp only [if_true]
          exact ih k (i + 3) (i + 3) out' (by omega) (by omega) (by omega) h2 (by omega)
theorem p_empty (c : ByteArray) (l : List ByteArray) (hl : l.length ≤ 1000) (out : List Int) (ho : out.length = l.length) (k : Nat) (hk : 2000 ≤ k) : colorset_Parse.l0 k (mk []) out 0 0 c l = some ([], 11) := by
  obtain ⟨k, rfl⟩ : ∃ j, k = j + 2 := ⟨k - 2, by omega⟩
  have h1 := p_step c l [] (by simp) out k 0 0 (by simp)
  have h2 := p_j c l [] (by simp) out k 0 0 (by omega) (by simp)
  obtain ⟨r, out', h3, _, h5⟩ := term_total c l hl out ho [] (by simp) k (by simp; omega)
  have h6 := h5 rfl
  subst h6
  simp only [List.drop_nil, List.take_nil] at h2
  rw [h3, Option.bind_some, if_neg (by simp)] at h2
  rw [if_neg (by simp)] at h1
  exact h1.trans h2
/-! ### what both answer -/
def txtA (l : List ByteArray) (a : List Int) : List UInt8 := finT (txF [] a (vls l))
theorem txtA_nil (l : List ByteArray) (a : List Int) (h : tms a (vls l) = []) : txtA l a = [48] := by unfold txtA; rw [txF_nil, h]; rfl
theorem txtA_cons (l : List ByteArray) (a : List Int) (t : List UInt8) (ts : List (List UInt8)) (h : tms a (vls l) = t :: ts) (ht : t ≠ []) : txtA l a = t ++ tlP ts := by
  unfold txtA; rw [txF_nil, h, joinP]; unfold finT; rw [if_neg (by simp [ht])]
theorem tms_mem (a : List Int) : ∀ (vs : List (List UInt8)) (t : List UInt8), t ∈ tms a vs → ∃ x v, t = trm x v := by
  induction a with
  | nil => intro vs t h; simp [tms] at h
  | cons x xs ih =>
    intro vs t h
    match vs with
    | [] => simp [tms] at h
    | v :: vs =>
      rw [tms] at h
      by_cases c : x = 0
      · rw [if_pos c] at h; exact ih vs t h
      · rw [if_neg c] at h
        rcases List.mem_cons.1 h with h | h
        · exact ⟨x, v, h⟩
        · exact ih vs t h
theorem txtA_ne (l : List ByteArray) (a : List Int) : txtA l a ≠ [] := by unfold txtA finT; split <;> simp_all
theorem cons_ne48 (l : List ByteArray) (a : List Int) (t : List UInt8) (ts : List (List UInt8)) (h : tms a (vls l) = t :: ts) : t ≠ [] ∧ txtA l a ≠ [48] := by
  obtain ⟨x, v, e⟩ := tms_mem a (vls l) t (by rw [h]; exact List.mem_cons_self ..)
  have hne : t ≠ [] := by rw [e]; exact trm_ne x v
  refine ⟨hne, fun g => ?_⟩
  rw [txtA_cons l a t ts h hne] at g
  have : (39 : UInt8) ∈ t ++ tlP ts := by rw [e]; unfold trm; simp
  rw [g] at this; simp at this
theorem okA_iff (l : List ByteArray) (a : List Int) : okA l a = true ↔ a.length = l.length ∧ inB a = true := by unfold okA; rw [Bool.and_eq_true, decide_eq_true_iff]
theorem zero_of_tms {l : List ByteArray} {a : List Int} (h : a.length = l.length) (ht : tms a (vls l) = []) : a = List.replicate l.length 0 := by
  have h1 := setAll_is a 0 [] rfl
  have h2 := setAll_zero a (vls l) 0 ([] ++ List.replicate a.length 0) (by rw [vls_len]; exact h) ht
  rw [h1] at h2
  rw [h] at h2
  simpa using h2
theorem inB_zero (n : Nat) : inB (List.replicate n 0) = true := by
  rw [inB_iff]; intro x hx; rw [(List.mem_replicate.1 hx).2]; omega
theorem tms_zero (n : Nat) : ∀ vs, tms (List.replicate n 0) vs = [] := by
  induction n with
  | zero => intro vs; simp [tms]
  | succ n ih =>
    intro vs
    match vs with
    | [] => simp [List.replicate_succ, tms]
    | v :: vs => rw [List.replicate_succ, tms, if_pos rfl]; exact ih vs
theorem textV_ok {c : ByteArray} {l : List ByteArray} {a : List Int} (h : ckV c l = 0) (g : okA l a = true) : textV c l a = txtA l a := by unfold textV txtA; rw [if_pos h, if_pos g]
theorem textV_some {c : ByteArray} {l : List ByteArray} {a : List Int} {s : List UInt8} (h : ckV c l = 0) (hs : s ≠ []) (g : textV c l a = s) : okA l a = true ∧ txtA l a = s := by
  unfold textV at g
  rw [if_pos h] at g
  by_cases q : okA l a = true
  · rw [if_pos q] at g; exact ⟨q, g⟩
  · rw [if_neg q] at g; exact absurd g.symm hs
theorem p_complete {c : ByteArray} {l : List ByteArray} (h : ckV c l = 0) {s : List UInt8} (hs : s.length ≤ 1000000) {a : List Int} (ha : okA l a = true) (ht : txtA l a = s) (h48 : s ≠ [48]) (k : Nat) (hk : 2010000 ≤ k) :
    colorset_Parse.l0 k (mk s) (List.replicate l.length 0) 0 0 c l = some (a, 0) := by
  have ok := namesOk_of h
  have h12 := ok.hi
  obtain ⟨hl, hb⟩ := (okA_iff l a).mp ha
  cases e : tms a (vls l) with
  | nil => exact absurd (ht ▸ txtA_nil l a e) h48
  | cons t ts =>
    have hne := (cons_ne48 l a t ts e).1
    have hset := setAll_is a 0 [] rfl
    rw [List.nil_append, List.nil_append, hl] at hset
    have := p_main c l ok s hs a 0 0 (List.replicate l.length 0) t ts k (by omega) (by simp) hb (by simpa using e) (by rw [List.drop_zero, ← ht, txtA_cons l a t ts e hne]) (by omega) (by omega)
    rw [hset, if_pos (by rw [textV_ok h ha, ht])] at this
    exact this
theorem txt_inj {c : ByteArray} {l : List ByteArray} (h : ckV c l = 0) {s : List UInt8} (hs : s.length ≤ 1000000) {a b : List Int} (ha : okA l a = true) (hb : okA l b = true) (ht : txtA l a = s) (hu : txtA l b = s) : a = b := by
  by_cases h48 : s = [48]
  · have hz : ∀ d, okA l d = true → txtA l d = s → d = List.replicate l.length 0 := fun d hd he => by
      cases e : tms d (vls l) with
      | nil => exact zero_of_tms ((okA_iff l d).mp hd).1 e
      | cons t ts => exact absurd (he.trans h48) (cons_ne48 l d t ts e).2
    rw [hz a ha ht, hz b hb hu]
  · have h1 := p_complete h hs ha ht h48 2010000 (by omega)
    have h2 := p_complete h hs hb hu h48 2010000 (by omega)
    rw [h1] at h2
    injection h2 with h2
    injection h2
def PSpec (c : ByteArray) (l : List ByteArray) (s : List UInt8) (R : List Int × Int) : Prop :=
  (ckV c l ≠ 0 ∧ R = ([], ckV c l)) ∨ (ckV c l = 0 ∧ ∃ a, okA l a = true ∧ txtA l a = s ∧ R = (a, 0)) ∨ (ckV c l = 0 ∧ (∀ a, okA l a = true → txtA l a ≠ s) ∧ R = ([], 11))
theorem pspec_unique {c : ByteArray} {l : List ByteArray} {s : List UInt8} (hs : s.length ≤ 1000000) {R R' : List Int × Int} (h : PSpec c l s R) (h' : PSpec c l s R') : R = R' := by
  rcases h with ⟨h0, rfl⟩ | ⟨h0, a, ha, ht, rfl⟩ | ⟨h0, hn, rfl⟩ <;> rcases h' with ⟨h0', rfl⟩ | ⟨h0', a', ha', ht', rfl⟩ | ⟨h0', hn', rfl⟩
  · rfl
  · exact absurd h0' h0
  · exact absurd h0' h0
  · exact absurd h0 h0'
  · rw [txt_inj h0 hs ha ha' ht ht']
  · exact absurd ht (hn' a ha)
  · exact absurd h0 h0'
  · exact absurd ht' (hn a' ha')
  · rfl
/-- What both parsers do ahead of their loops. -/
theorem pspec_of {c : ByteArray} {l : List ByteArray} {s : List UInt8} (h : ckV c l = 0) (h48 : s ≠ [48]) (run : Option (List Int × Int)) (he : s = [] → run = some ([], 11)) (hc : ∀ a, okA l a = true → txtA l a = s → run = some (a, 0))
    (ht : ∃ R, run = some R ∧ (R = ([], 11) ∨ ∃ out', out'.length = l.length ∧ R = (out', 0) ∧ textV c l out' = s)) : ∃ R, run = some R ∧ PSpec c l s R := by
  by_cases q : ∃ a, okA l a = true ∧ txtA l a = s
  · obtain ⟨a, ha, hta⟩ := q
    exact ⟨_, hc a ha hta, .inr (.inl ⟨h, a, ha, hta, rfl⟩)⟩
  · have hno : ∀ a, okA l a = true → txtA l a ≠ s := fun a ha g => q ⟨a, ha, g⟩
    obtain ⟨R, hR, hR'⟩ := ht
    refine ⟨R, hR, .inr (.inr ⟨h, hno, ?_⟩)⟩
    rcases hR' with e | ⟨o, _, e, ho⟩
    · exact e
    · by_cases hs : s = []
      · have := he hs
        rw [hR] at this; exact Option.some.inj this
      · obtain ⟨h1, h2⟩ := textV_some h hs ho
        exact absurd h2 (hno o h1)
theorem pparse_spec (c : ByteArray) (l : List ByteArray) (s : List UInt8) (hs : s.length ≤ 1000000) (k : Nat) (hk : 5000000 ≤ k) : ∃ R, colorset_Parse.f k c l (mk s) = some R ∧ PSpec c l s R := by
  unfold colorset_Parse.f
  rw [pcheck_is, Option.bind_some]
  by_cases h : ckV c l = 0
  · have ok := namesOk_of h
    have h12 := ok.hi
    rw [if_pos h, if_pos (by omega), if_pos (by omega), Option.bind_some, Int.toNat_natCast, Lib.toList_data, mk_data]
    by_cases h48 : s = [48]
    · rw [if_pos h48]
      exact ⟨_, rfl, .inr (.inl ⟨h, _, (okA_iff _ _).mpr ⟨by simp, inB_zero _⟩, by rw [txtA_nil _ _ (tms_zero _ _), h48], rfl⟩)⟩
    · rw [if_neg h48]
      refine pspec_of h h48 _ (fun e => ?_) (fun a ha ht => p_complete h hs ha ht h48 k (by omega)) (p_total c l (by omega) s hs (s.length + 4) k 0 0 _ (by omega) (by omega) (by omega) (by simp) (by omega))
      subst e
      exact p_empty c l (by omega) _ (by simp) k (by omega)
  · rw [if_neg h]
    exact ⟨_, rfl, .inl ⟨h, rfl⟩⟩
end Go.Proofs.YtjhlagpcbaodkaaDoor.Plain
