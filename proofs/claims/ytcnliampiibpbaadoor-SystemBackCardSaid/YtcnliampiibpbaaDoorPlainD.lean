/- Plain laws over the printed functions: what each comes to. No condition but the ones written. -/
import Derived.Test.YtcnliampiibpbaaDoorPlainC
namespace Go.Proofs.YtcnliampiibpbaaDoor.Plain
open Go Go.RowKit Go.Proofs.YtcnliampiibpbaaDoor.PAll Go.Proofs.YtcnliampiibpbaaDoorW.PrintWords Go.Proofs.YtcnliampiibpbaaDoorW.PrintLast Go.Proofs.YtcnliampiibpbaaDoorW.PrintMore
set_option linter.unusedVariables false
/-! ### a text that is parsed is printed so again -/
theorem ws_join (x : ByteArray) : Num.joinB 32 ((ws32 x).map dl) = dl x := by
  unfold ws32
  rw [List.map_map, show (dl ∘ mk) = id from funext (fun p => dl_mk p), List.map_id, Num.join_split]
theorem line_text {s s' : St44} {x : ByteArray} (h : lnS s false (ws32 x) = some s') : linesS s' = linesS s ++ [dl x] := by
  have hj := ws_join x
  generalize ws32 x = ws at h hj
  match ws, h, hj with
  | [], h, _ => simp [lnS] at h
  | [_], h, _ => simp [lnS] at h
  | [a, b], h, hj =>
    rw [lnS, if_neg (by simp)] at h
    split at h
    · rename_i c
      obtain rfl := Option.some.inj h
      have e : dl x = evL b := by rw [← hj]; simp only [List.map_cons, List.map_nil, Num.joinB]; rw [c.1]; rfl
      unfold linesS
      simp [c.2.2, e]
    · cases h
  | [a, b, c], h, hj =>
    rw [lnS, if_neg (by simp)] at h
    split at h
    · rename_i d
      split at h
      · rename_i i hi
        obtain rfl := Option.some.inj h
        obtain ⟨m, rfl, hm, hmb⟩ := fnd_spec _ _ _ _ hi
        have e1 := (natR_some (dl a) 1048576 (by omega)).1
        have e2 := (natR_some (dl c) 1048576 (by omega)).1
        have e : dl x = arL s.2.1 ⟨natR (dl a) 1048576, ((0 + m : Nat) : Int), natR (dl c) 1048576⟩ := by
          unfold arL
          simp only
          rw [e1, e2, ← hj, show ((0 + m : Nat) : Int) = ((m : Nat) : Int) by omega, rdOf_get _ _ m hm, hmb]
          simp [Num.joinB]
        unfold linesS
        simp [e]
      · cases h
    · cases h
  | _ :: _ :: _ :: _ :: _, h, _ => simp [lnS] at h
theorem first_text {s' : St44} {x : ByteArray} (h : lnS (0, [], []) true (ws32 x) = some s') : linesS s' = [dl x] := by
  have hj := ws_join x
  generalize ws32 x = ws at h hj
  match ws, h, hj with
  | [], h, _ => simp [lnS] at h
  | [_], h, _ => simp [lnS] at h
  | [a, b], h, hj =>
    rw [lnS, if_pos rfl] at h
    split at h
    · rename_i c
      obtain rfl := Option.some.inj h
      have e1 := (natR_some (dl b) 1048576 (by omega)).1
      unfold linesS stL
      simp only [e1, List.map_nil, List.append_nil]
      rw [← hj]
      simp only [List.map_cons, List.map_nil, Num.joinB]
      rw [c.1]; rfl
    · cases h
  | [_, _, _], h, _ => simp [lnS] at h
  | _ :: _ :: _ :: _ :: _, h, _ => simp [lnS] at h
theorem prL_text (n : Nat) : ∀ (l : List ByteArray) (i : Nat) (s s' : St44), 0 < i → i + l.length = n → l ≠ [] → prL n l i s = .inr s' → ∃ m, l = m ++ [tNone] ∧ linesS s' = linesS s ++ m.map dl
  | [], _, _, _, _, _, h, _ => absurd rfl h
  | x :: l, i, s, s', hi, hn, _, h => by
    rw [prL] at h
    simp only [List.length_cons] at hn
    by_cases c : i + 1 = n
    · rw [if_pos c] at h
      obtain rfl : l = [] := List.eq_nil_of_length_eq_zero (by omega)
      split at h
      · rename_i d
        injection h with h
        subst h
        exact ⟨[], by rw [d.2]; rfl, by simp⟩
      · cases h
    · rw [if_neg c, decide_eq_false (by omega)] at h
      split at h
      · rename_i s1 h1
        obtain ⟨m, e1, e2⟩ := prL_text n l (i + 1) s1 s' (by omega) (by omega) (fun e => by subst e; simp at hn; omega) h
        refine ⟨x :: m, by rw [e1]; rfl, ?_⟩
        rw [e2, line_text h1]
        simp
      · cases h
theorem lns_dl (t : ByteArray) : (lns10 t).map dl = Num.splitB 10 (dl t) := by
  unfold lns10
  rw [List.map_map, show (dl ∘ mk) = id from funext (fun p => dl_mk p), List.map_id]
theorem parS_inr {t : ByteArray} {s : St44} (h : prL (lns10 t).length (lns10 t) 0 (0, [], []) = .inr s) : sysT s = dl t := by
  have h0 := lns_dl t
  have hne := Num.splitB_ne 10 (dl t)
  have hj := Num.join_split 10 (dl t)
  rw [← h0] at hne hj
  generalize lns10 t = ls at *
  match ls, hne, h, hj with
  | [], hne, _, _ => exact absurd rfl hne
  | x :: l, _, h, hj =>
    rw [prL] at h
    simp only [List.length_cons] at h
    by_cases c : l.length = 0
    · rw [if_pos (by omega), if_neg (by simp)] at h; cases h
    · rw [if_neg (by omega)] at h
      split at h
      · rename_i s1 h1
        simp only [decide_true] at h1
        obtain ⟨m, rfl, e2⟩ := prL_text _ l 1 s1 s (by omega) (by omega) (fun e => c (by rw [e]; rfl)) h
        rw [first_text h1] at e2
        unfold sysT
        rw [jn_join, e2, ← hj]
        congr 1
        simp
        rfl
      · cases h
theorem parS_ok (t : ByteArray) (h1 : (parS t).2.2.2.1 = 0) : (ckS (parS t).1 (parS t).2.1 (parS t).2.2.1).1 = 0 ∧ sysT ((parS t).1, (parS t).2.1, (parS t).2.2.1) = dl t := by
  revert h1
  unfold parS
  split
  · intro h; simp at h
  · cases e : prL (lns10 t).length (lns10 t) 0 (0, [], []) with
    | inl j => intro h; simp [endS] at h
    | inr s =>
      intro h
      simp only [endS] at h ⊢
      unfold finS at h ⊢
      split
      · rename_i c; exact ⟨c, parS_inr e⟩
      · rename_i c; rw [if_neg c] at h; exact absurd h c
/-! ### a printed text is parsed so again -/
theorem nmFrom_all (s : ByteArray) (n : Nat) : ∀ i, s.size - i = n → nmFrom s n i = true → ∀ j, i ≤ j → ∀ h : j < s.size, nmByte (s[j]'h).toNat j = true := by
  induction n with
  | zero => intro i hn _ j hj h; omega
  | succ n ih =>
    intro i hn h j hj hs
    rw [nmFrom] at h
    split at h
    · rw [Bool.and_eq_true] at h
      by_cases e : j = i
      · subst e; exact h.1
      · exact ih (i + 1) (by omega) h.2 j (by omega) hs
    · omega
theorem nm_bytes {y : ByteArray} (h : nmB y = true) : ∀ c ∈ dl y, c ≠ 32 ∧ c ≠ 10 := by
  unfold nmB at h
  rw [Bool.and_eq_true, decide_eq_true_iff] at h
  have h2 := nmFrom_all y y.size 0 (by omega) h.2
  intro c hc
  unfold dl at hc
  obtain ⟨j, hj, rfl⟩ := List.getElem_of_mem hc
  have hj' : j < y.size := by rw [size_data]; exact hj
  have h3 := h2 j (by omega) hj'
  have e : (y[j]'hj') = y.data.toList[j] := rfl
  rw [e] at h3
  unfold nmByte at h3
  constructor <;> (intro q; rw [q] at h3; simp at h3)
theorem it32 (n : Int) : (32 : UInt8) ∉ Lib.itoa n := Num.itoa_notin n 32 (.inl (by decide)) (by decide)
theorem it10 (n : Int) : (10 : UInt8) ∉ Lib.itoa n := Num.itoa_notin n 10 (.inl (by decide)) (by decide)
theorem ws_of (ps : List (List UInt8)) (hne : ps ≠ []) (h : ∀ p ∈ ps, (32 : UInt8) ∉ p) : ws32 (mk (Num.joinB 32 ps)) = ps.map mk := by
  unfold ws32
  rw [dl_mk, Num.split_join 32 ps hne h]
theorem ln_st (a : Int) (h0 : 0 ≤ a) (h1 : a ≤ 1000) : lnS (0, [], []) true (ws32 (mk (stL a))) = some (a, [], []) := by
  have e : stL a = Num.joinB 32 [[115, 116, 97, 116, 101, 115], Lib.itoa a] := by simp [stL, Num.joinB]
  rw [e, ws_of _ (by simp) (by intro p hp; simp at hp; rcases hp with rfl | rfl; decide; exact it32 a)]
  simp only [List.map_cons, List.map_nil]
  rw [lnS, if_pos rfl, dl_mk, natR_of a 1048576 h0 (by omega) (by omega), if_pos ⟨rfl, h0⟩]
theorem ln_ev (a : Int) (l : List ByteArray) (e : ByteArray) (h : nmB e = true) : lnS (a, l, []) false (ws32 (mk (evL e))) = some (a, l ++ [e], []) := by
  have hb := nm_bytes h
  have hs := nmB_size h
  have q : evL e = Num.joinB 32 [[101, 118, 101, 110, 116], dl e] := by simp [evL, Num.joinB]
  rw [q, ws_of _ (by simp) (by intro p hp; simp at hp; rcases hp with rfl | rfl; decide; exact fun g => (hb _ g).1 rfl)]
  simp only [List.map_cons, List.map_nil]
  have he : mk (dl e) = e := mk_self e
  rw [he]
  have hne : e ≠ tNone := by
    rintro rfl
    have : tNone.size = 0 := rfl
    omega
  rw [lnS, if_neg (by simp), if_pos ⟨rfl, hne, rfl⟩]
theorem ln_ar (a : Int) (l : List ByteArray) (l2 : List S46) (hnm : ∀ y ∈ l, nmB y = true) (hd : ∀ m (hm : m < l.length) j (hj : j < m), l[j]'(by omega) ≠ l[m]) (x : S46) (hx : ArcIn l x) : lnS (a, l, l2) false (ws32 (mk (arL l x))) = some (a, l, l2 ++ [x]) := by
  obtain ⟨h0, h0', h2, h2', h1, h1'⟩ := hx
  obtain ⟨m, hm1⟩ : ∃ m : Nat, x.f1 = (m : Int) := ⟨x.f1.toNat, by omega⟩
  have hm : m < l.length := by omega
  have hr : rdOf ByteArray.empty l x.f1 = l[m] := by rw [hm1, rdOf_get _ l m hm]
  have hb := nm_bytes (hnm _ (List.getElem_mem hm))
  have q : arL l x = Num.joinB 32 [Lib.itoa x.f0, dl l[m], Lib.itoa x.f2] := by unfold arL; rw [hr]; simp [Num.joinB]
  rw [q, ws_of _ (by simp) (by
    intro p hp
    simp at hp
    rcases hp with rfl | rfl | rfl
    · exact it32 _
    · exact fun g => (hb _ g).1 rfl
    · exact it32 _)]
  simp only [List.map_cons, List.map_nil]
  rw [lnS, if_neg (by simp), dl_mk, dl_mk, natR_of x.f0 1048576 h0 (by omega) (by omega), natR_of x.f2 1048576 h2 (by omega) (by omega), if_pos ⟨h0, h2⟩, show mk (dl l[m]) = l[m] from mk_self _]
  simp only [fnd_at l m 0 hm (hd m hm)]
  rw [show ((0 + m : Nat) : Int) = x.f1 by omega]
theorem prL_arcs (n : Nat) (a : Int) (l : List ByteArray) (hnm : ∀ y ∈ l, nmB y = true) (hd : ∀ m (hm : m < l.length) j (hj : j < m), l[j]'(by omega) ≠ l[m]) : ∀ (rest : List S46) (done : List S46) (i : Nat), (∀ x ∈ rest, ArcIn l x) → 0 < i → i + rest.length + 1 = n → prL n ((rest.map (arL l)).map mk ++ [tNone]) i (a, l, done) = .inr (a, l, done ++ rest)
  | [], done, i, _, hi, hn => by
    simp only [List.map_nil, List.nil_append, List.append_nil]
    rw [prL, if_pos (by simpa using hn), if_pos ⟨hi, rfl⟩]
  | x :: rest, done, i, hx, hi, hn => by
    simp only [List.length_cons] at hn
    simp only [List.map_cons, List.cons_append]
    rw [prL, if_neg (by omega), decide_eq_false (by omega), ln_ar a l done hnm hd x (hx x (by simp))]
    simp only
    rw [prL_arcs n a l hnm hd rest (done ++ [x]) (i + 1) (fun y hy => hx y (List.mem_cons_of_mem _ hy)) (by omega) (by omega)]
    simp
theorem prL_evs (n : Nat) (a : Int) (tail : List ByteArray) (R : Nat ⊕ St44) : ∀ (rest done : List ByteArray) (i : Nat), (∀ y ∈ rest, nmB y = true) → 0 < i → i + rest.length + tail.length = n → tail ≠ [] → prL n tail (i + rest.length) (a, done ++ rest, []) = R → prL n ((rest.map evL).map mk ++ tail) i (a, done, []) = R
  | [], done, i, _, hi, hn, ht, h => by simpa using h
  | x :: rest, done, i, hx, hi, hn, ht, h => by
    have := List.length_pos_iff.mpr ht
    simp only [List.length_cons] at hn h
    simp only [List.map_cons, List.cons_append]
    rw [prL, if_neg (by omega), decide_eq_false (by omega), ln_ev a done x (hx x (by simp))]
    simp only
    exact prL_evs n a tail R rest (done ++ [x]) (i + 1) (fun y hy => hx y (List.mem_cons_of_mem _ hy)) (by omega) (by omega) ht (by rw [show i + 1 + rest.length = i + (rest.length + 1) by omega]; simpa using h)
theorem distinct_of {a : Int} {l : List ByteArray} {l2 : List S46} (h : VaP a l l2) : ∀ m (hm : m < l.length) j (hj : j < m), l[j]'(by omega) ≠ l[m] := by
  intro m hm j hj e
  have h1 := (ckNames_none l _ 0 h.nm m hm (by omega) (by omega)).2
  apply h1
  rw [← e]
  exact List.mem_take_iff_getElem.mpr ⟨j, by rw [vls_len]; omega, vls_get l j (by omega)⟩
theorem lines_mem {a : Int} {l : List ByteArray} {l2 : List S46} (h : VaP a l l2) : ∀ p ∈ linesS (a, l, l2), (10 : UInt8) ∉ p ∧ p.length ≤ 100 := by
  intro p hp
  have h1 := h.lo
  have h2 := h.hi
  unfold linesS at hp
  simp only [List.mem_cons, List.mem_append, List.mem_map] at hp
  rcases hp with rfl | ⟨y, hy, rfl⟩ | ⟨x, hx, rfl⟩
  · have e := itoa_len (small_I64 (show 0 ≤ a by omega) (show a ≤ 1000 by omega))
    unfold stL
    refine ⟨?_, by simp; omega⟩
    rw [List.mem_append]
    rintro (g | g)
    · revert g; decide
    · exact it10 _ g
  · have hn := va_nm h y hy
    have hs := nmB_size hn
    have hb := nm_bytes hn
    have hl : (dl y).length = y.size := (size_data y).symm
    unfold evL
    refine ⟨?_, by simp; omega⟩
    rw [List.mem_append]
    rintro (g | g)
    · revert g; decide
    · exact (hb _ g).2 rfl
  · obtain ⟨h0, h0', h2, h2', h1, h1'⟩ := va_arc h x hx
    obtain ⟨q, hq, hq2, hql⟩ := name_of l (fun y hy => (nmB_size (va_nm h y hy)).2) x.f1 h1 h1'
    have e0 := itoa_len (small_I64 h0 h0')
    have e2 := itoa_len (small_I64 h2 h2')
    obtain ⟨m, hm1⟩ : ∃ m : Nat, x.f1 = (m : Int) := ⟨x.f1.toNat, by omega⟩
    have hm : m < l.length := by omega
    have hb := nm_bytes (va_nm h _ (List.getElem_mem hm))
    rw [hm1, rdOf_get _ l m hm] at hq2
    rw [hq2] at hb
    unfold arL
    rw [hm1, rdOf_get _ l m hm, hq2]
    refine ⟨?_, by simp; omega⟩
    simp only [List.mem_append, List.mem_cons]
    rintro (g | g | g | g | g)
    · exact it10 _ g
    · exact absurd g (by decide)
    · exact (hb _ g).2 rfl
    · exact absurd g (by decide)
    · exact it10 _ g
theorem jn_len : ∀ (ls : List (List UInt8)), (∀ p ∈ ls, p.length ≤ 100) → (jn ls).length ≤ 101 * ls.length
  | [], _ => by simp [jn]
  | p :: ls, h => by
    have h1 := h p (by simp)
    have h2 := jn_len ls (fun q hq => h q (List.mem_cons_of_mem _ hq))
    simp only [jn, List.length_append, List.length_cons]; omega
theorem parS_print (a : Int) (l : List ByteArray) (l2 : List S46) (hc : (ckS a l l2).1 = 0) (hl2 : l2.length ≤ 500) : parS (mk (sysT (a, l, l2))) = (a, l, l2, 0, 0) := by
  have h := va0 hc
  have h1 := h.lo
  have h2 := h.hi
  have h3 := h.ev
  have hm := lines_mem h
  have hlen : (sysT (a, l, l2)).length ≤ 65536 := by
    have := jn_len _ (fun p hp => (hm p hp).2)
    have e : (linesS (a, l, l2)).length = 1 + l.length + l2.length := by simp [linesS]; omega
    unfold sysT; omega
  have hsp : lns10 (mk (sysT (a, l, l2))) = mk (stL a) :: ((l.map evL).map mk ++ ((l2.map (arL l)).map mk ++ [tNone])) := by
    unfold lns10
    rw [dl_mk]
    unfold sysT
    rw [jn_join, Num.split_join 10 _ (by simp) (fun p hp => by
      rcases List.mem_append.1 hp with g | g
      · exact (hm p g).1
      · simp at g; subst g; simp)]
    unfold linesS
    simp
    rfl
  unfold parS
  rw [if_neg (by rw [mk_size]; omega), hsp]
  have key : prL (mk (stL a) :: ((l.map evL).map mk ++ ((l2.map (arL l)).map mk ++ [tNone]))).length (mk (stL a) :: ((l.map evL).map mk ++ ((l2.map (arL l)).map mk ++ [tNone]))) 0 (0, [], []) = .inr (a, l, l2) := by
    generalize hn : (mk (stL a) :: ((l.map evL).map mk ++ ((l2.map (arL l)).map mk ++ [tNone]))).length = n
    simp only [List.length_cons, List.length_append, List.length_map, List.length_nil] at hn
    rw [prL, if_neg (by omega), decide_eq_true rfl, ln_st a (by omega) (by omega)]
    simp only
    refine prL_evs n a _ _ l [] 1 (va_nm h) (by omega) (by simp; omega) (by simp) ?_
    rw [List.nil_append]
    have := prL_arcs n a l (va_nm h) (distinct_of h) l2 [] (1 + l.length) (va_arc h) (by omega) (by omega)
    simpa using this
  rw [key]
  show finS (a, l, l2) = _
  unfold finS
  rw [if_pos hc]
end Go.Proofs.YtcnliampiibpbaaDoor.Plain
