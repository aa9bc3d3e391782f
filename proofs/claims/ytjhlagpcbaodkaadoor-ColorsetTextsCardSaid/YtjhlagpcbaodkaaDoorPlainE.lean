/- Plain laws over the printed functions: what each comes to. No condition but the ones written. -/
import Derived.Test.YtjhlagpcbaodkaaDoorPlainD
import Derived.Test.YtjhlagpcbaodkaaDoorPAllx10
namespace Go.Proofs.YtjhlagpcbaodkaaDoor.Plain
open Go Go.RowKit Go.Proofs.YtjhlagpcbaodkaaDoor.PAll Go.Proofs.YtjhlagpcbaodkaaDoorW.PrintWords Go.Proofs.YtjhlagpcbaodkaaDoorW.PrintLast Go.Proofs.YtjhlagpcbaodkaaDoorW.PrintMore
set_option linter.unusedVariables false
/-! ### term, Parse: what a text is made of -/
def tms : List Int → List (List UInt8) → List (List UInt8)
  | x :: xs, v :: vs => if x = 0 then tms xs vs else trm x v :: tms xs vs
  | _, _ => []
def tlP : List (List UInt8) → List UInt8
  | [] => []
  | t :: ts => 32 :: 43 :: 32 :: (t ++ tlP ts)
def joinP : List (List UInt8) → List UInt8
  | [] => []
  | t :: ts => t ++ tlP ts
theorem txF_ne (a : List Int) : ∀ (vs : List (List UInt8)) (out : List UInt8), out ≠ [] → txF out a vs = out ++ tlP (tms a vs) := by
  induction a with
  | nil => intro vs out _; simp [txF, tms, tlP]
  | cons x xs ih =>
    intro vs out h
    match vs with
    | [] => simp [txF, tms, tlP]
    | v :: vs =>
      rw [txF, tms]
      by_cases c : x = 0
      · rw [if_pos c, if_pos c]; exact ih vs out h
      · rw [if_neg c, if_neg c, if_neg h, ih vs _ (by simp [h]), tlP]; simp
theorem trm_ne (x : Int) (v : List UInt8) : trm x v ≠ [] := by unfold trm; simp
theorem txF_nil (a : List Int) : ∀ (vs : List (List UInt8)), txF [] a vs = joinP (tms a vs) := by
  induction a with
  | nil => intro vs; simp [txF, tms, joinP]
  | cons x xs ih =>
    intro vs
    match vs with
    | [] => simp [txF, tms, joinP]
    | v :: vs =>
      rw [txF, tms]
      by_cases c : x = 0
      · rw [if_pos c, if_pos c]; exact ih vs
      · rw [if_neg c, if_neg c, if_pos rfl, List.nil_append, txF_ne xs vs _ (trm_ne x v), joinP]
def setAll : Nat → List Int → List Int → List Int
  | _, [], out => out
  | j, x :: xs, out => setAll (j + 1) xs (if x = 0 then out else out.set j x)
theorem setAll_is (a : List Int) : ∀ (j : Nat) (d : List Int), d.length = j → setAll j a (d ++ List.replicate a.length 0) = d ++ a := by
  induction a with
  | nil => intro j d _; simp [setAll]
  | cons x xs ih =>
    intro j d h
    rw [setAll]
    have e : (if x = 0 then d ++ List.replicate (x :: xs).length 0 else (d ++ List.replicate (x :: xs).length 0).set j x) = (d ++ [x]) ++ List.replicate xs.length 0 := by
      rw [List.length_cons, List.replicate_succ]
      by_cases c : x = 0
      · rw [if_pos c, c]; simp
      · rw [if_neg c, List.set_append_right _ _ (by omega), h, Nat.sub_self]; simp
    rw [e, ih (j + 1) (d ++ [x]) (by simp [h])]; simp
theorem fd_at (vs : List (List UInt8)) (j : Nat) (hj : j < vs.length) (hf : vs[j] ∉ vs.take j) : fd vs[j] vs 0 = (j : Int) := by
  rcases fd_spec vs[j] vs 0 with ⟨_, h⟩ | ⟨m, h0, h1, h2, h3⟩
  · exact absurd (List.getElem_mem hj) h
  · rw [h1]
    have : m = j := by
      rcases Nat.lt_trichotomy m j with c | c | c
      · exact absurd (List.mem_take_iff_getElem.mpr ⟨m, by omega, h2⟩) hf
      · exact c
      · exact absurd (List.mem_take_iff_getElem.mpr ⟨j, by omega, rfl⟩) h3
    omega
theorem fd_bound (s : List UInt8) (vs : List (List UInt8)) (h : ¬ fd s vs 0 < 0) : 0 ≤ fd s vs 0 ∧ fd s vs 0 < vs.length := by
  rcases fd_spec s vs 0 with ⟨h1, _⟩ | ⟨m, h0, h1, _, _⟩
  · rw [h1] at h; omega
  · rw [h1] at h ⊢; omega
theorem setAll_zero (a : List Int) : ∀ (vs : List (List UInt8)) (j : Nat) (out : List Int), a.length = vs.length → tms a vs = [] → setAll j a out = out := by
  induction a with
  | nil => intro vs j out _ _; rfl
  | cons x xs ih =>
    intro vs j out hl h
    match vs, hl with
    | v :: vs, hl =>
      rw [tms] at h
      by_cases c : x = 0
      · rw [if_pos c] at h; rw [setAll, if_pos c]; exact ih vs _ _ (by simpa using hl) h
      · rw [if_neg c] at h; simp at h
/-! one term -/
def tmV (vs : List (List UInt8)) (p q : List UInt8) (out : List Int) : Bool × List Int := match Lib.atoiAll p with
  | .ok n => if fd q vs 0 < 0 then (false, out) else (true, out.set (fd q vs 0).toNat n)
  | _ => (false, out)
theorem term_hit (c : ByteArray) (l : List ByteArray) (hl : l.length ≤ 1000) (out : List Int) (ho : out.length = l.length) (p q : List UInt8) (hpq : p.length + q.length ≤ 1000000) (hp : (39 : UInt8) ∉ p) (n : Nat) : ∀ (k i : Nat), p.length - i = n → i ≤ p.length → n + 1100 < k →
    colorset_term.l0 k out (mk (p ++ 39 :: q)) (i : Int) c l = some (tmV (vls l) p q out) := by
  have hs : (mk (p ++ 39 :: q)).size = p.length + 1 + q.length := by rw [mk_size]; simp; omega
  have hd : (mk (p ++ 39 :: q)).data.toList = p ++ 39 :: q := mk_data _
  have hv := vls_len l
  induction n with
  | zero =>
    intro k i hn hi hk
    obtain ⟨k, rfl⟩ := fuel (show 0 < k by omega)
    obtain rfl : i = p.length := by omega
    have h39 : bt (mk (p ++ 39 :: q)) (p.length : Int) = 39 := by
      rw [bt_get _ p.length (by rw [hd]; simp)]
      simp only [hd]
      rw [List.getElem_append_right (Nat.le_refl _)]; simp
    have e1 : ((mk (p ++ 39 :: q)).extract 0 (Int.toNat (p.length : Int))) = mk p := by
      rw [mk_extract, hd, Int.toNat_natCast, Nat.sub_zero, List.drop_zero, List.take_left]
    have e2 : ((mk (p ++ 39 :: q)).extract (Int.toNat ((p.length + 1 : Nat) : Int)) (mk (p ++ 39 :: q)).size) = mk q := by
      rw [mk_extract, hd, Int.toNat_natCast, hs]
      congr 1
      rw [show p ++ 39 :: q = (p ++ [39]) ++ q by simp, List.drop_left' (by simp), List.take_of_length_le (by omega)]
    simp only [colorset_term.l0]
    rw [if_pos (by omega), if_pos (by omega), if_pos h39, if_pos (by omega), wrap_succ _ (by omega), e1, e2]
    unfold strconv_Atoi.f tmV
    rw [if_pos (by rw [mk_size]; omega), mk_data, Option.bind_some, if_pos (by omega), if_pos (by omega), pfind_is _ c l (by omega) k (by omega), mk_data, Option.bind_some]
    cases Lib.atoiAll p with
    | ok n =>
      simp only [Option.isNone_none, if_true]
      by_cases g : fd q (vls l) 0 < 0
      · rw [if_pos g, if_pos g]
      · obtain ⟨b1, b2⟩ := fd_bound q (vls l) g
        rw [if_neg g, if_neg g, if_pos b1, if_pos (by omega)]
    | range => rfl
    | _ => rfl
  | succ n ih =>
    intro k i hn hi hk
    obtain ⟨k, rfl⟩ := fuel (show 0 < k by omega)
    have h1 : i < p.length := by omega
    have hb : ¬ bt (mk (p ++ 39 :: q)) (i : Int) = 39 := by
      rw [bt_get _ i (by rw [hd]; simp; omega)]
      simp only [hd]
      rw [List.getElem_append_left h1]
      intro h
      have h39 : (39 : UInt8).toNat = 39 := rfl
      have : p[i] = 39 := UInt8.toNat_inj.mp (by omega)
      exact hp (this ▸ List.getElem_mem h1)
    simp only [colorset_term.l0]
    rw [if_pos (by omega), if_pos (by omega), if_neg hb, wrap_succ _ (by omega), ih k (i + 1) (by omega) (by omega) (by omega)]
theorem term_miss (c : ByteArray) (l : List ByteArray) (out : List Int) (s : List UInt8) (hs : s.length ≤ 1000000) (h39 : (39 : UInt8) ∉ s) (n : Nat) : ∀ (k i : Nat), s.length - i = n → i ≤ s.length → n < k →
    colorset_term.l0 k out (mk s) (i : Int) c l = some (false, out) := by
  have hz := mk_size s
  induction n with
  | zero =>
    intro k i hn hi hk
    obtain ⟨k, rfl⟩ := fuel (show 0 < k by omega)
    simp only [colorset_term.l0]
    rw [if_neg (by omega)]
  | succ n ih =>
    intro k i hn hi hk
    obtain ⟨k, rfl⟩ := fuel (show 0 < k by omega)
    have h1 : i < s.length := by omega
    have hb : ¬ bt (mk s) (i : Int) = 39 := by
      rw [bt_get _ i (by rw [mk_data]; exact h1)]
      simp only [mk_data]
      intro h
      have h39' : (39 : UInt8).toNat = 39 := rfl
      have : s[i] = 39 := UInt8.toNat_inj.mp (by omega)
      exact h39 (this ▸ List.getElem_mem h1)
    simp only [colorset_term.l0]
    rw [if_pos (by omega), if_pos (by omega), if_neg hb, wrap_succ _ (by omega), ih k (i + 1) (by omega) (by omega) (by omega)]
theorem first39 (s : List UInt8) (h : (39 : UInt8) ∈ s) : ∃ p q, s = p ++ 39 :: q ∧ (39 : UInt8) ∉ p := by
  induction s with
  | nil => simp at h
  | cons x s ih =>
    by_cases c : x = 39
    · exact ⟨[], s, by rw [c]; rfl, by simp⟩
    · have h' : (39 : UInt8) ∈ s := by
        rcases List.mem_cons.1 h with g | g
        · exact absurd g.symm c
        · exact g
      obtain ⟨p, q, e, hp⟩ := ih h'
      refine ⟨x :: p, q, by rw [e]; rfl, ?_⟩
      rw [List.mem_cons]; rintro (g | g)
      · exact c g.symm
      · exact hp g
theorem tmV_len (vs : List (List UInt8)) (p q : List UInt8) (out : List Int) : (tmV vs p q out).2.length = out.length := by
  unfold tmV
  cases Lib.atoiAll p with
  | ok n =>
    dsimp only
    split <;> simp
  | range => rfl
  | _ => rfl
theorem term_total (c : ByteArray) (l : List ByteArray) (hl : l.length ≤ 1000) (out : List Int) (ho : out.length = l.length) (s : List UInt8) (hs : s.length ≤ 1000000) (k : Nat) (hk : s.length + 1200 ≤ k) :
    ∃ r out', colorset_term.f k c l out (mk s) = some (r, out') ∧ out'.length = l.length ∧ (s = [] → r = false) := by
  unfold colorset_term.f
  by_cases h : (39 : UInt8) ∈ s
  · obtain ⟨p, q, rfl, hp⟩ := first39 s h
    simp only [List.length_append, List.length_cons] at hs hk
    have := term_hit c l hl out ho p q (by omega) hp _ k 0 rfl (by omega) (by omega)
    exact ⟨(tmV (vls l) p q out).1, (tmV (vls l) p q out).2, this, by rw [tmV_len, ho], fun g => by simp at g⟩
  · have := term_miss c l out s hs h _ k 0 rfl (by omega) (by omega)
    exact ⟨_, _, this, ho, fun _ => rfl⟩
theorem term_trm (c : ByteArray) (l : List ByteArray) (ok : NamesOk l) (out : List Int) (ho : out.length = l.length) (j : Nat) (hj : j < l.length) (x : Int) (hx : 0 ≤ x ∧ x ≤ 1048576) (k : Nat) (hk : 1300 ≤ k) :
    colorset_term.f k c l out (mk (trm x l[j].data.toList)) = some (true, out.set j x) := by
  have h12 := ok.hi
  have hv := vls_len l
  have hnm := name_bytes _ (ok.nm j hj)
  have hz := itoa_len (n := x) (by unfold I64; omega)
  unfold colorset_term.f trm
  have := term_hit c l (by omega) out ho (Lib.itoa x) l[j].data.toList (by rw [← size_data]; omega) (Num.itoa_notin x 39 (.inl (by decide)) (by decide)) _ k 0 rfl (by omega) (by omega)
  refine this.trans ?_
  unfold tmV
  rw [Num.atoi_itoa x (by omega) (by omega)]
  dsimp only
  have hf := fd_at (vls l) j (by omega) (by rw [vls_get l j hj]; exact ok.fresh j hj)
  rw [vls_get l j hj] at hf
  rw [hf, if_neg (by omega), Int.toNat_natCast]
end Go.Proofs.YtjhlagpcbaodkaaDoor.Plain
