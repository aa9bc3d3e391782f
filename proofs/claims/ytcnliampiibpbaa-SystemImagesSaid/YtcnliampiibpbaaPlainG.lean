/- Plain laws over the printed functions: what each comes to. No condition but the ones written. -/
import Derived.Test.YtcnliampiibpbaaPlainD
import Derived.Test.YtcnliampiibpbaaPAllx21
import Derived.Test.YtcnliampiibpbaaPAllx23
namespace Go.Proofs.Ytcnliampiibpbaa.Plain
open Go Go.RowKit Go.Proofs.Ytcnliampiibpbaa.PAll Go.Proofs.YtcnliampiibpbaaW.PrintWords Go.Proofs.YtcnliampiibpbaaW.PrintLast Go.Proofs.YtcnliampiibpbaaW.PrintMore
set_option linter.unusedVariables false
/-! ### Traces: one event more -/
def hitB (st : List Bool) (e : Int) (x : S44) : Bool := decide (x.f1 = e) && gB st x.f0.toNat
def stepO (st : List Bool) (e : Int) (o : List Bool) (x : S44) : List Bool := if hitB st e x = true then o.set x.f2.toNat true else o
def nextS (n : Nat) (l2 : List S44) (st : List Bool) (e : Int) : List Bool := l2.foldl (stepO st e) (List.replicate n false)
def anyS (l2 : List S44) (st : List Bool) (e : Int) : Bool := l2.any (hitB st e)
theorem stepO_len (st : List Bool) (e : Int) (o : List Bool) (x : S44) : (stepO st e o x).length = o.length := by
  unfold stepO; split
  · rw [List.length_set]
  · rfl
theorem foldO_len (st : List Bool) (e : Int) : ∀ (l2 : List S44) (o : List Bool), (l2.foldl (stepO st e) o).length = o.length
  | [], o => rfl
  | x :: r, o => by rw [List.foldl_cons, foldO_len st e r, stepO_len]
theorem nextS_len (n : Nat) (l2 : List S44) (st : List Bool) (e : Int) : (nextS n l2 st e).length = n := by unfold nextS; rw [foldO_len, List.length_replicate]
theorem any_gB (o : List Bool) : o.any id = true ↔ ∃ j, gB o j = true := by
  rw [List.any_eq_true]
  constructor
  · rintro ⟨x, hx, h⟩
    obtain ⟨j, hj, rfl⟩ := List.getElem_of_mem hx
    exact ⟨j, by unfold gB; rw [List.getD_eq_getElem?_getD, List.getElem?_eq_getElem hj]; exact h⟩
  · rintro ⟨j, h⟩
    have hj := gB_lt h
    unfold gB at h
    rw [List.getD_eq_getElem?_getD, List.getElem?_eq_getElem hj] at h
    exact ⟨o[j], List.getElem_mem hj, h⟩
theorem foldO_any (st : List Bool) (e : Int) : ∀ (l2 : List S44) (o : List Bool), (∀ x ∈ l2, x.f2.toNat < o.length) → (l2.foldl (stepO st e) o).any id = (o.any id || l2.any (hitB st e))
  | [], o, _ => by rw [List.foldl_nil, List.any_nil, Bool.or_false]
  | x :: r, o, h => by
    rw [List.foldl_cons, foldO_any st e r _ (fun y hy => by rw [stepO_len]; exact h y (List.mem_cons_of_mem _ hy)), List.any_cons]
    unfold stepO
    by_cases c : hitB st e x = true
    · rw [if_pos c, c, Bool.true_or, Bool.or_true]
      have : (o.set x.f2.toNat true).any id = true := by
        rw [any_gB]
        exact ⟨x.f2.toNat, by rw [gB_set, if_pos ⟨rfl, h x List.mem_cons_self⟩]⟩
      rw [this, Bool.true_or]
    · rw [if_neg c, Bool.eq_false_iff.mpr c, Bool.false_or]
theorem nextS_any (n : Nat) (l2 : List S44) (st : List Bool) (e : Int) (h : ∀ x ∈ l2, x.f2.toNat < n) : (nextS n l2 st e).any id = anyS l2 st e := by
  unfold nextS anyS
  rw [foldO_any st e l2 _ (fun x hx => by rw [List.length_replicate]; exact h x hx)]
  have : (List.replicate n false).any id = false := by
    rw [Bool.eq_false_iff]
    intro q
    rw [any_gB] at q
    obtain ⟨j, q⟩ := q
    rw [gB_repl] at q
    simp at q
  rw [this, Bool.false_or]
theorem after_l0 (n : Nat) (l2 : List S44) (hl : l2.length ≤ 1000000) (st : List Bool) (hst : st.length = n) (e : Int) (harc : ∀ x ∈ l2, 0 ≤ x.f0 ∧ x.f0 < (n : Int) ∧ 0 ≤ x.f2 ∧ x.f2 < (n : Int)) (m : Nat) : ∀ (o : List Bool) (b : Bool) (i : Nat), l2.length - i = m → i ≤ l2.length → o.length = n →
    Ev (fun k => system_after.l0 k st e o b l2 (l2.length : Int) (i : Int)) ((l2.drop i).foldl (stepO st e) o, b || (l2.drop i).any (hitB st e)) := by
  induction m with
  | zero =>
    intro o b i hm hi ho
    rw [drop_end l2 i (by omega), List.foldl_nil, List.any_nil, Bool.or_false]
    exact Ev.step (f := fun _ => some (o, b)) (fun k => by rw [system_after.l0, if_neg (by omega)]) (Ev.now _)
  | succ m ih =>
    intro o b i hm hi ho
    have h : i < l2.length := by omega
    have ha := harc l2[i] (List.getElem_mem h)
    obtain ⟨f0, hf0⟩ := Int.eq_ofNat_of_zero_le ha.1
    obtain ⟨f2, hf2⟩ := Int.eq_ofNat_of_zero_le ha.2.2.1
    have e0 : l2[i].f0.toNat = f0 := by omega
    have e2 : l2[i].f2.toNat = f2 := by omega
    rw [drop_cons l2 i h, List.foldl_cons, List.any_cons]
    refine Ev.step (f := fun k => system_after.l0 k st e (stepO st e o l2[i]) (b || hitB st e l2[i]) l2 (l2.length : Int) ((i + 1 : Nat) : Int)) (fun k => ?_) ?_
    · rw [system_after.l0, if_pos (by omega), if_pos (by omega), if_pos (by omega), rdT_get l2 i h, wrap_succ i (by omega)]
      unfold stepO hitB
      by_cases c : l2[i].f1 = e
      · rw [if_pos c, hf0, if_pos (by omega), if_pos (by omega), rdB, hf2, decide_eq_true c, Bool.true_and, Int.toNat_natCast, Int.toNat_natCast]
        by_cases d : gB st f0 = true
        · rw [if_pos d, if_pos d, if_pos (by omega), if_pos (by omega), d, Bool.or_true]
        · rw [if_neg d, if_neg d, Bool.eq_false_iff.mpr d, Bool.or_false]
      · rw [if_neg c, decide_eq_false c, Bool.false_and, Bool.or_false, if_neg (by simp)]
    · have := ih (stepO st e o l2[i]) (b || hitB st e l2[i]) (i + 1) (by omega) (by omega) (by rw [stepO_len, ho])
      rw [Bool.or_assoc] at this
      exact this
theorem after_ev (a : Int) (l : List ByteArray) (l2 : List S44) (n : Nat) (ha : a = (n : Int)) (hn : n ≤ 1000000) (hl : l2.length ≤ 1000000) (st : List Bool) (hst : st.length = n) (e : Int) (harc : ∀ x ∈ l2, 0 ≤ x.f0 ∧ x.f0 < (n : Int) ∧ 0 ≤ x.f2 ∧ x.f2 < (n : Int)) :
    Ev (fun k => system_after.f k a l l2 st e) (nextS n l2 st e, anyS l2 st e) := by
  have en : a.toNat = n := by omega
  unfold system_after.f
  simp only [if_pos (show (0 : Int) ≤ a by omega), en, if_pos (show n ≤ 281474976710656 by omega)]
  have := after_l0 n l2 hl st hst e harc _ (List.replicate n false) false 0 rfl (by omega) List.length_replicate
  rw [List.drop_zero, Bool.false_or] at this
  exact this
/-! ### the states that a sequence can lead to -/
def st0 (n : Nat) : List Bool := (List.replicate n false).set 0 true
def fol (n : Nat) (l2 : List S44) (seq : List Int) : List Bool := seq.foldl (nextS n l2) (st0 n)
theorem st0_len (n : Nat) : (st0 n).length = n := by unfold st0; rw [List.length_set, List.length_replicate]
theorem fol_len' (n : Nat) (l2 : List S44) : ∀ (seq : List Int) (st : List Bool), st.length = n → (seq.foldl (nextS n l2) st).length = n
  | [], st, h => h
  | e :: r, st, h => by rw [List.foldl_cons]; exact fol_len' n l2 r _ (nextS_len n l2 st e)
theorem fol_len (n : Nat) (l2 : List S44) (seq : List Int) : (fol n l2 seq).length = n := fol_len' n l2 seq _ (st0_len n)
theorem fol_snoc (n : Nat) (l2 : List S44) (seq : List Int) (e : Int) : fol n l2 (seq ++ [e]) = nextS n l2 (fol n l2 seq) e := by unfold fol; rw [List.foldl_append]; rfl
theorem follow_l1 (a : Int) (l : List ByteArray) (l2 : List S44) (n : Nat) (hl : l2.length ≤ 1000000) (seq : List Int) (i : Nat) (hi : i < seq.length) (hseq : seq.length ≤ 1000000) (st : List Bool) (hst : st.length = n) (harc : ∀ x ∈ l2, 0 ≤ x.f0 ∧ x.f0 < (n : Int) ∧ 0 ≤ x.f2 ∧ x.f2 < (n : Int)) (R : List Bool) (m : Nat) :
    ∀ (o : List Bool) (j : Nat), l2.length - j = m → j ≤ l2.length → o.length = n → Ev (fun k => petrinetref45_Follow.l0 k seq ((l2.drop j).foldl (stepO st seq[i]) o) ((i + 1 : Nat) : Int) a l l2) R → Ev (fun k => petrinetref45_Follow.l1 k seq st (i : Int) o (j : Int) a l l2) R := by
  induction m with
  | zero =>
    intro o j hm hj ho h
    rw [drop_end l2 j (by omega), List.foldl_nil] at h
    exact Ev.step (f := fun k => petrinetref45_Follow.l0 k seq o ((i + 1 : Nat) : Int) a l l2) (fun k => by rw [petrinetref45_Follow.l1, if_neg (by omega), wrap_succ i (by omega)]) h
  | succ m ih =>
    intro o j hm hj ho h
    have hj' : j < l2.length := by omega
    have ha := harc l2[j] (List.getElem_mem hj')
    obtain ⟨f0, hf0⟩ := Int.eq_ofNat_of_zero_le ha.1
    obtain ⟨f2, hf2⟩ := Int.eq_ofNat_of_zero_le ha.2.2.1
    have e0 : l2[j].f0.toNat = f0 := by omega
    have e2 : l2[j].f2.toNat = f2 := by omega
    rw [drop_cons l2 j hj', List.foldl_cons] at h
    refine Ev.step (f := fun k => petrinetref45_Follow.l1 k seq st (i : Int) (stepO st seq[i] o l2[j]) ((j + 1 : Nat) : Int) a l l2) (fun k => ?_) (ih (stepO st seq[i] o l2[j]) (j + 1) (by omega) (by omega) (by rw [stepO_len, ho]) h)
    rw [petrinetref45_Follow.l1, if_pos (by omega), if_pos (by omega), if_pos (by omega), if_pos (by omega), rdT_get l2 j hj', rd_get seq i hi, wrap_succ j (by omega)]
    unfold stepO hitB
    by_cases c : l2[j].f1 = seq[i]
    · rw [if_pos c, hf0, if_pos (by omega), if_pos (by omega), rdB, hf2, decide_eq_true c, Bool.true_and, Int.toNat_natCast, Int.toNat_natCast]
      by_cases d : gB st f0 = true
      · rw [if_pos d, if_pos d, if_pos (by omega), if_pos (by omega)]
      · rw [if_neg d, if_neg d]
    · rw [if_neg c, decide_eq_false c, Bool.false_and, if_neg (by simp)]
theorem follow_l0 (a : Int) (l : List ByteArray) (l2 : List S44) (n : Nat) (ha : a = (n : Int)) (hn : n ≤ 1000000) (hl : l2.length ≤ 1000000) (seq : List Int) (hseq : seq.length ≤ 1000000) (harc : ∀ x ∈ l2, 0 ≤ x.f0 ∧ x.f0 < (n : Int) ∧ 0 ≤ x.f2 ∧ x.f2 < (n : Int)) (m : Nat) :
    ∀ (st : List Bool) (i : Nat), seq.length - i = m → i ≤ seq.length → st.length = n → Ev (fun k => petrinetref45_Follow.l0 k seq st (i : Int) a l l2) ((seq.drop i).foldl (nextS n l2) st) := by
  induction m with
  | zero =>
    intro st i hm hi hst
    rw [drop_end seq i (by omega), List.foldl_nil]
    exact Ev.step (f := fun _ => some st) (fun k => by rw [petrinetref45_Follow.l0, if_neg (by omega)]) (Ev.now _)
  | succ m ih =>
    intro st i hm hi hst
    have h : i < seq.length := by omega
    have en : a.toNat = n := by omega
    rw [drop_cons seq i h, List.foldl_cons]
    refine Ev.step (f := fun k => petrinetref45_Follow.l1 k seq st (i : Int) (List.replicate n false) 0 a l l2) (fun k => by rw [petrinetref45_Follow.l0, if_pos (by omega), if_pos (by omega), en, if_pos (by omega)]) ?_
    refine follow_l1 a l l2 n hl seq i h hseq st hst harc _ _ (List.replicate n false) 0 rfl (by omega) List.length_replicate ?_
    rw [List.drop_zero]
    exact ih (nextS n l2 st seq[i]) (i + 1) (by omega) (by omega) (nextS_len _ _ _ _)
theorem follow_ev (a : Int) (l : List ByteArray) (l2 : List S44) (n : Nat) (ha : a = (n : Int)) (hn0 : 0 < n) (hn : n ≤ 1000000) (hl : l2.length ≤ 1000000) (seq : List Int) (hseq : seq.length ≤ 1000000) (harc : ∀ x ∈ l2, 0 ≤ x.f0 ∧ x.f0 < (n : Int) ∧ 0 ≤ x.f2 ∧ x.f2 < (n : Int)) : Ev (fun k => petrinetref45_Follow.f k a l l2 seq) (fol n l2 seq) := by
  have en : a.toNat = n := by omega
  unfold petrinetref45_Follow.f
  simp only [if_pos (show (0 : Int) ≤ a by omega), en, if_pos (show n ≤ 281474976710656 by omega), Option.bind_some, List.length_replicate, if_pos (show (0 : Int) < (n : Int) by omega)]
  have := follow_l0 a l l2 n ha hn hl seq hseq harc _ (st0 n) 0 rfl (by omega) (st0_len n)
  rw [List.drop_zero] at this
  exact this
theorem can_l (o : List Bool) (ho : o.length ≤ 1000000) (m : Nat) : ∀ i : Nat, o.length - i = m → i ≤ o.length → Ev (fun k => petrinetref45_can.l0 k o (i : Int)) ((o.drop i).any id) := by
  induction m with
  | zero =>
    intro i hm hi
    rw [drop_end o i (by omega)]
    exact Ev.step (f := fun _ => some false) (fun k => by rw [petrinetref45_can.l0, if_neg (by omega)]) (Ev.now _)
  | succ m ih =>
    intro i hm hi
    have h : i < o.length := by omega
    rw [drop_cons o i h, List.any_cons]
    by_cases c : o[i] = true
    · rw [c, id, Bool.true_or]
      exact Ev.step (f := fun _ => some true) (fun k => by rw [petrinetref45_can.l0, if_pos (by omega), if_pos (by omega), rdOf_get _ o i h, if_pos c]) (Ev.now _)
    · rw [Bool.eq_false_iff.mpr c, id, Bool.false_or]
      exact Ev.step (f := fun k => petrinetref45_can.l0 k o ((i + 1 : Nat) : Int)) (fun k => by rw [petrinetref45_can.l0, if_pos (by omega), if_pos (by omega), rdOf_get _ o i h, if_neg c, wrap_succ i (by omega)]) (ih (i + 1) (by omega) (by omega))
theorem can_ev (a : Int) (l : List ByteArray) (l2 : List S44) (n : Nat) (ha : a = (n : Int)) (hn0 : 0 < n) (hn : n ≤ 1000000) (hl : l2.length ≤ 1000000) (seq : List Int) (hseq : seq.length ≤ 1000000) (harc : ∀ x ∈ l2, 0 ≤ x.f0 ∧ x.f0 < (n : Int) ∧ 0 ≤ x.f2 ∧ x.f2 < (n : Int)) : Ev (fun k => petrinetref45_can.f k a l l2 seq) ((fol n l2 seq).any id) := by
  unfold petrinetref45_can.f
  refine Ev.bind (follow_ev a l l2 n ha hn0 hn hl seq hseq harc) ?_
  simpa using can_l (fol n l2 seq) (by rw [fol_len]; exact hn) _ 0 rfl (by omega)
theorem copy_l (x : List Int) (hx : x.length ≤ 1000000) (m : Nat) : ∀ (i : Nat), x.length - i = m → i ≤ x.length → Ev (fun k => petrinetref04_Copy.l0 k x (x.take i) (i : Int)) x := by
  induction m with
  | zero =>
    intro i hm hi
    refine Ev.step (f := fun _ => some x) (fun k => ?_) (Ev.now _)
    rw [petrinetref04_Copy.l0, if_neg (by omega), List.take_of_length_le (by omega)]
  | succ m ih =>
    intro i hm hi
    have h : i < x.length := by omega
    refine Ev.step (f := fun k => petrinetref04_Copy.l0 k x (x.take (i + 1)) ((i + 1 : Nat) : Int)) (fun k => ?_) (ih (i + 1) (by omega) (by omega))
    rw [petrinetref04_Copy.l0, if_pos (by omega), if_pos (by omega), if_pos (by rw [List.length_take]; omega), rd_get x i h, wrap_succ i (by omega), List.take_succ_eq_append_getElem h]
theorem copy_ev (x : List Int) (hx : x.length ≤ 1000000) : Ev (fun k => petrinetref04_Copy.f k x) x := by
  unfold petrinetref04_Copy.f
  simpa using copy_l x hx _ 0 rfl (by omega)

/-! ### Traces: level by level -/
def extF (n : Nat) (l2 : List S44) (seq : List Int) : Nat → Nat → List (List Int)
  | 0, _ => []
  | c + 1, j => if anyS l2 (fol n l2 seq) (j : Int) = true then (seq ++ [(j : Int)]) :: extF n l2 seq c (j + 1) else extF n l2 seq c (j + 1)
def lev (n : Nat) (l2 : List S44) (m : Nat) : Nat → List (List Int)
  | 0 => [[]]
  | t + 1 => (lev n l2 m t).flatMap (fun s => extF n l2 s m 0)
def pre (n : Nat) (l2 : List S44) (m : Nat) : Nat → List (List Int)
  | 0 => []
  | t + 1 => pre n l2 m t ++ lev n l2 m t
theorem extF_len (n : Nat) (l2 : List S44) (seq : List Int) : ∀ c j, (extF n l2 seq c j).length ≤ c
  | 0, _ => Nat.le_refl _
  | c + 1, j => by
    rw [extF]; split
    · rw [List.length_cons]; have := extF_len n l2 seq c (j + 1); omega
    · have := extF_len n l2 seq c (j + 1); omega
theorem extF_seq (n : Nat) (l2 : List S44) (seq : List Int) : ∀ c j s, s ∈ extF n l2 seq c j → s.length = seq.length + 1
  | 0, _, s, h => by simp [extF] at h
  | c + 1, j, s, h => by
    rw [extF] at h
    split at h
    · rcases List.mem_cons.1 h with rfl | h
      · rw [List.length_append, List.length_singleton]
      · exact extF_seq n l2 seq c (j + 1) s h
    · exact extF_seq n l2 seq c (j + 1) s h
theorem flat_len {α β : Type} (f : α → List β) (m : Nat) (h : ∀ x, (f x).length ≤ m) : ∀ l : List α, (l.flatMap f).length ≤ m * l.length
  | [] => by simp
  | x :: r => by
    rw [List.flatMap_cons, List.length_append, List.length_cons, Nat.mul_add]
    have := flat_len f m h r
    have := h x
    omega
theorem lev_len (n : Nat) (l2 : List S44) (m : Nat) (hm : m ≤ 4) : ∀ t, (lev n l2 m t).length ≤ 4 ^ t
  | 0 => by simp [lev]
  | t + 1 => by
    have h1 := flat_len (fun s => extF n l2 s m 0) m (fun s => extF_len n l2 s m 0) (lev n l2 m t)
    have h2 := lev_len n l2 m hm t
    have h3 : m * (lev n l2 m t).length ≤ 4 * 4 ^ t := Nat.mul_le_mul hm h2
    rw [lev, Nat.pow_succ]
    omega
theorem lev_le (n : Nat) (l2 : List S44) (m : Nat) (hm : m ≤ 4) (t : Nat) (ht : t ≤ 6) : (lev n l2 m t).length ≤ 4096 :=
  Nat.le_trans (lev_len n l2 m hm t) (Nat.le_trans (Nat.pow_le_pow_right (by omega) ht) (by decide))
theorem lev_seq (n : Nat) (l2 : List S44) (m : Nat) : ∀ t s, s ∈ lev n l2 m t → s.length = t
  | 0, s, h => by
    rw [lev, List.mem_singleton] at h
    rw [h]; rfl
  | t + 1, s, h => by
    rw [lev, List.mem_flatMap] at h
    obtain ⟨q, h1, h2⟩ := h
    rw [extF_seq n l2 q m 0 s h2, lev_seq n l2 m t q h1]
theorem pre_seq (n : Nat) (l2 : List S44) (m : Nat) : ∀ t s, s ∈ pre n l2 m t → s.length ≤ t
  | 0, s, h => by simp [pre] at h
  | t + 1, s, h => by
    rw [pre, List.mem_append] at h
    rcases h with h | h
    · have := pre_seq n l2 m t s h; omega
    · rw [lev_seq n l2 m t s h]; omega
theorem pre_succ (n : Nat) (l2 : List S44) (m t : Nat) : pre n l2 m (t + 1) = pre n l2 m t ++ lev n l2 m t := rfl
theorem pre_more (n : Nat) (l2 : List S44) (m : Nat) (t : Nat) : ∀ d, ∃ z, pre n l2 m (t + d) = pre n l2 m t ++ z
  | 0 => ⟨[], by rw [List.append_nil]; rfl⟩
  | d + 1 => by
    obtain ⟨z, h⟩ := pre_more n l2 m t d
    exact ⟨z ++ lev n l2 m (t + d), by rw [show t + (d + 1) = (t + d) + 1 by omega, pre, h, List.append_assoc]⟩
theorem pre_take (n : Nat) (l2 : List S44) (m : Nat) (t s : Nat) (h : t ≤ s) (hl : 5000 ≤ (pre n l2 m t).length) : (pre n l2 m s).take 5000 = (pre n l2 m t).take 5000 := by
  obtain ⟨z, e⟩ := pre_more n l2 m t (s - t)
  rw [show t + (s - t) = s by omega] at e
  rw [e, List.take_append_of_le_length hl]
def mkS (n : Nat) (l2 : List S44) (s : List Int) : S55 := ⟨s, fol n l2 s⟩
theorem rdT55 (l : List S55) (i : Nat) (h : i < l.length) : rd_T55 l (i : Int) = l[i] := by
  unfold rd_T55; rw [Int.toNat_natCast, List.getD_eq_getElem?_getD, List.getElem?_eq_getElem h]; rfl
section
variable (a : Int) (l : List ByteArray) (l2 : List S44) (n : Nat)
theorem sTr_l2 (ha : a = (n : Int)) (hn : n ≤ 1000000) (hl : l2.length ≤ 1000000) (harc : ∀ x ∈ l2, 0 ≤ x.f0 ∧ x.f0 < (n : Int) ∧ 0 ≤ x.f2 ∧ x.f2 < (n : Int)) (hlm : l.length ≤ 1000) (K nn : Int) (out : List (List Int)) (level : List S55) (i : Nat) (hi : i < 1000000) (seq : List Int) (hseq : seq.length ≤ 1000) (R : List (List Int)) (c : Nat) :
    ∀ (more : List S55) (j : Nat), l.length - j = c → j ≤ l.length → more.length + c ≤ 1000000 → Ev (fun k => system_Traces.l1 k K out nn (more ++ (if nn < K then (extF n l2 seq c j).map (mkS n l2) else [])) level (level.length : Int) ((i + 1 : Nat) : Int) a l l2) R →
    Ev (fun k => system_Traces.l2 k K out nn more level (level.length : Int) (i : Int) (l.length : Int) (j : Int) a l l2 seq (fol n l2 seq)) R := by
  induction c with
  | zero =>
    intro more j hc hj hm h
    have e : (more ++ (if nn < K then (extF n l2 seq 0 j).map (mkS n l2) else [])) = more := by rw [extF]; split <;> simp
    rw [e] at h
    exact Ev.step (f := fun k => system_Traces.l1 k K out nn more level (level.length : Int) ((i + 1 : Nat) : Int) a l l2) (fun k => by rw [system_Traces.l2, if_neg (by omega), wrap_succ i (by omega)]) h
  | succ c ih =>
    intro more j hc hj hm h
    have hlt : j < l.length := by omega
    have c1 : (0 : Int) ≤ ((seq.length + 1 : Nat) : Int) := Int.natCast_nonneg _
    have c2 : seq.length + 1 ≤ 35184372088832 := by omega
    have c3 : 0 + seq.length < 17592186044416 := by omega
    have c4 : seq.length < 17592186044416 := by omega
    have c5 : more.length < 2932031007402 := by omega
    have haf := after_ev a l l2 n ha hn hl (fol n l2 seq) (fol_len n l2 seq) (j : Int) harc
    refine Ev.step (f := fun k => (system_after.f k a l l2 (fol n l2 seq) (j : Int)).bind fun bt239 => if bt239.2 = true then (if nn < K then system_Traces.l2 k K out nn (more ++ [(⟨seq ++ [(j : Int)], bt239.1⟩ : S55)]) level (level.length : Int) (i : Int) (l.length : Int) ((j + 1 : Nat) : Int) a l l2 seq (fol n l2 seq) else system_Traces.l2 k K out nn more level (level.length : Int) (i : Int) (l.length : Int) ((j + 1 : Nat) : Int) a l l2 seq (fol n l2 seq)) else system_Traces.l2 k K out nn more level (level.length : Int) (i : Int) (l.length : Int) ((j + 1 : Nat) : Int) a l l2 seq (fol n l2 seq)) (fun k => ?_) (Ev.bind haf ?_)
    · have w1 : wrap64 ((seq.length : Int) + 1) = ((seq.length + 1 : Nat) : Int) := wrap_succ _ (by omega)
      rw [system_Traces.l2, if_pos (by omega), wrap_succ j (by omega), w1]
      congr 1
      funext bt
      by_cases q1 : bt.2 = true
      · rw [if_pos q1, if_pos q1]
        by_cases q2 : nn < K
        · rw [if_pos q2, if_pos q2, if_pos c1, Int.toNat_natCast, if_pos c2, Option.bind_some, List.replicate_zero, List.length_nil, List.nil_append, Option.bind_some, if_pos c3, if_pos c4, if_pos c5]
        · rw [if_neg q2, if_neg q2]
      · rw [if_neg q1, if_neg q1]
    · rw [extF] at h
      by_cases d : anyS l2 (fol n l2 seq) (j : Int) = true
      · simp only [if_pos d]
        rw [if_pos d] at h
        by_cases g : nn < K
        · simp only [if_pos g] at h ⊢
          have e : (⟨seq ++ [(j : Int)], nextS n l2 (fol n l2 seq) (j : Int)⟩ : S55) = mkS n l2 (seq ++ [(j : Int)]) := by unfold mkS; rw [fol_snoc]
          rw [e]
          refine ih _ (j + 1) (by omega) (by omega) (by rw [List.length_append, List.length_singleton]; omega) ?_
          rw [if_pos g]
          rw [List.map_cons] at h
          simpa using h
        · simp only [if_neg g] at h ⊢
          refine ih more (j + 1) (by omega) (by omega) (by omega) ?_
          rw [if_neg g]; exact h
      · simp only [if_neg d]
        rw [if_neg d] at h
        exact ih more (j + 1) (by omega) (by omega) (by omega) h
theorem sTr_l1 (ha : a = (n : Int)) (hn : n ≤ 1000000) (hl : l2.length ≤ 1000000) (harc : ∀ x ∈ l2, 0 ≤ x.f0 ∧ x.f0 < (n : Int) ∧ 0 ≤ x.f2 ∧ x.f2 < (n : Int)) (hlm : l.length ≤ 4) (K nn : Int) (hnn : wrap64 (nn + 1) = nn + 1) (ts : List (List Int)) (hts : ts.length ≤ 100000) (hseq : ∀ s ∈ ts, s.length ≤ 1000) (R : List (List Int)) (c : Nat) :
    ∀ (out : List (List Int)) (more : List S55) (i : Nat), ts.length - i = c → i ≤ ts.length → out.length ≤ 5000 → more.length + 4 * c ≤ 1000000 →
    (out.length + c ≤ 5000 → Ev (fun k => system_Traces.l0 k K (more ++ (if nn < K then ((ts.drop i).flatMap (fun s => extF n l2 s l.length 0)).map (mkS n l2) else [])) (out ++ ts.drop i) (nn + 1) a l l2) R) → (¬ out.length + c ≤ 5000 → R = (out ++ ts.drop i).take 5000) →
    Ev (fun k => system_Traces.l1 k K out nn more (ts.map (mkS n l2)) ((ts.map (mkS n l2)).length : Int) (i : Int) a l l2) R := by
  have hlen : (ts.map (mkS n l2)).length = ts.length := List.length_map _
  induction c with
  | zero =>
    intro out more i hc hi ho hm h1 _
    have h := h1 (by omega)
    rw [drop_end ts i (by omega)] at h
    have e : (more ++ (if nn < K then (([] : List (List Int)).flatMap (fun s => extF n l2 s l.length 0)).map (mkS n l2) else [])) = more := by split <;> simp
    rw [e, List.append_nil] at h
    exact Ev.step (f := fun k => system_Traces.l0 k K more out (nn + 1) a l l2) (fun k => by rw [system_Traces.l1, if_neg (by omega), hnn]) h
  | succ c ih =>
    intro out more i hc hi ho hm h1 h2
    have hlt : i < ts.length := by omega
    rw [drop_cons ts i hlt] at h1 h2
    by_cases g : out.length = 5000
    · have := h2 (by omega)
      rw [List.take_append_of_le_length (by omega), List.take_of_length_le (by omega)] at this
      subst this
      exact Ev.step (f := fun _ => some R) (fun k => by
        have c4 : (R.length : Int) = 5000 := by omega
        have c3 : (i : Int) < ((ts.map (mkS n l2)).length : Int) := by omega
        rw [system_Traces.l1, if_pos c3, if_pos (Int.natCast_nonneg i), if_pos c3, if_pos c4]) (Ev.now _)
    · refine Ev.step (f := fun k => system_Traces.l2 k K (out ++ [ts[i]]) nn more (ts.map (mkS n l2)) ((ts.map (mkS n l2)).length : Int) (i : Int) (l.length : Int) 0 a l l2 ts[i] (fol n l2 ts[i])) (fun k => ?_) ?_
      · have e : rd_T55 (ts.map (mkS n l2)) (i : Int) = mkS n l2 ts[i] := by rw [rdT55 _ i (by omega), List.getElem_map]
        have c5 : out.length < 5864062014805 := by omega
        have c4 : ¬ (out.length : Int) = 5000 := by omega
        have c3 : (i : Int) < ((ts.map (mkS n l2)).length : Int) := by omega
        rw [system_Traces.l1, if_pos c3, if_pos (Int.natCast_nonneg i), if_pos c3, if_neg c4, if_pos c5, e]
        rfl
      · refine sTr_l2 a l l2 n ha hn hl harc (by omega) K nn (out ++ [ts[i]]) (ts.map (mkS n l2)) i (by omega) ts[i] (hseq _ (List.getElem_mem hlt)) R l.length more 0 rfl (by omega) (by omega) ?_
        have hx := extF_len n l2 ts[i] l.length 0
        refine ih (out ++ [ts[i]]) _ (i + 1) (by omega) (by omega) (by rw [List.length_append, List.length_singleton]; omega) ?_ (fun q => ?_) (fun q => ?_)
        · rw [List.length_append]
          split
          · rw [List.length_map]; omega
          · simp; omega
        · have h := h1 (by rw [List.length_append, List.length_singleton] at q; omega)
          rw [List.flatMap_cons, List.map_append] at h
          by_cases d : nn < K
          · simp only [if_pos d] at h ⊢
            simpa using h
          · simp only [if_neg d] at h ⊢
            simpa using h
        · have h := h2 (by rw [List.length_append, List.length_singleton] at q; omega)
          rw [h, List.append_assoc]; rfl
theorem sTr_l0 (ha : a = (n : Int)) (hn : n ≤ 1000000) (hl : l2.length ≤ 1000000) (harc : ∀ x ∈ l2, 0 ≤ x.f0 ∧ x.f0 < (n : Int) ∧ 0 ≤ x.f2 ∧ x.f2 < (n : Int)) (hlm : l.length ≤ 4) (K : Nat) (hK : K ≤ 6) (d : Nat) :
    ∀ nn : Nat, K + 1 - nn = d → nn ≤ K + 1 → (pre n l2 l.length nn).length ≤ 5000 → Ev (fun k => system_Traces.l0 k (K : Int) (if nn ≤ K then (lev n l2 l.length nn).map (mkS n l2) else []) (pre n l2 l.length nn) (nn : Int) a l l2) ((pre n l2 l.length (K + 1)).take 5000) := by
  induction d with
  | zero =>
    intro nn hd hnn hp
    have e : nn = K + 1 := by omega
    subst e
    rw [List.take_of_length_le hp]
    exact Ev.step (f := fun _ => some (pre n l2 l.length (K + 1))) (fun k => by rw [system_Traces.l0, if_neg (by omega)]) (Ev.now _)
  | succ d ih =>
    intro nn hd hnn hp
    have hk : nn ≤ K := by clear hp ih; omega
    have hk6 : nn ≤ 6 := by clear hp ih; omega
    have hk1 : nn ≤ 1000 := by clear hp ih; omega
    have hd' : K + 1 - (nn + 1) = d := by clear hp ih; omega
    have hle : nn + 1 ≤ K + 1 := by clear hp ih; omega
    have hki : (nn : Int) ≤ (K : Int) := by clear hp ih; omega
    have hw : wrap64 ((nn : Int) + 1) = (nn : Int) + 1 := by clear hp ih; unfold wrap64; omega
    have e1 : ((nn : Int) + 1) = ((nn + 1 : Nat) : Int) := by clear hp ih; omega
    have hlv := lev_le n l2 l.length hlm nn hk6
    rw [if_pos hk]
    refine Ev.step (f := fun k => system_Traces.l1 k (K : Int) (pre n l2 l.length nn) (nn : Int) [] ((lev n l2 l.length nn).map (mkS n l2)) (((lev n l2 l.length nn).map (mkS n l2)).length : Int) 0 a l l2) (fun k => by rw [system_Traces.l0, if_pos hki]) ?_
    have hm0 : ([] : List S55).length + 4 * (lev n l2 l.length nn).length ≤ 1000000 := by
      rw [List.length_nil, Nat.zero_add]
      exact Nat.le_trans (Nat.mul_le_mul_left 4 hlv) (by decide)
    have hsq : ∀ s ∈ lev n l2 l.length nn, s.length ≤ 1000 := fun s hs => by rw [lev_seq n l2 l.length nn s hs]; exact hk1
    refine sTr_l1 a l l2 n ha hn hl harc hlm (K : Int) (nn : Int) hw (lev n l2 l.length nn) (Nat.le_trans hlv (by decide)) hsq ((pre n l2 l.length (K + 1)).take 5000) (lev n l2 l.length nn).length (pre n l2 l.length nn) [] 0 (Nat.sub_zero _) (Nat.zero_le _) hp hm0 (fun q => ?_) (fun q => ?_)
    · have h := ih (nn + 1) hd' hle (by rw [pre_succ, List.length_append]; exact q)
      rw [List.drop_zero, List.nil_append, e1]
      rw [pre_succ] at h
      by_cases g : nn < K
      · rw [if_pos (Int.ofNat_lt.mpr g)]
        rw [if_pos (Nat.succ_le_of_lt g)] at h
        exact h
      · rw [if_neg (fun z => g (Int.ofNat_lt.mp z))]
        rw [if_neg (fun z => g (Nat.lt_of_succ_le z))] at h
        exact h
    · have hbig : 5000 ≤ (pre n l2 l.length (nn + 1)).length := by
        rw [pre_succ, List.length_append]
        exact Nat.le_of_lt (Nat.lt_of_not_le q)
      rw [List.drop_zero, pre_take n l2 l.length (nn + 1) (K + 1) hle hbig, pre_succ]
end
end Go.Proofs.Ytcnliampiibpbaa.Plain
