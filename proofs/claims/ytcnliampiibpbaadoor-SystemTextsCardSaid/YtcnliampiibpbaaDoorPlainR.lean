/- Plain laws over the printed functions: what each comes to. No condition but the ones written. -/
import Derived.Test.YtcnliampiibpbaaDoorPlainC
import Derived.Test.YtcnliampiibpbaaDoorPAllx16
import Derived.Test.YtcnliampiibpbaaDoorPAllx19
import Derived.Test.YtcnliampiibpbaaDoorPAllx20
namespace Go.Proofs.YtcnliampiibpbaaDoor.Plain
open Go Go.RowKit Go.Proofs.YtcnliampiibpbaaDoor.PAll Go.Proofs.YtcnliampiibpbaaDoorW.PrintWords Go.Proofs.YtcnliampiibpbaaDoorW.PrintLast Go.Proofs.YtcnliampiibpbaaDoorW.PrintMore
set_option linter.unusedVariables false
/-! ### Parse of the specification -/
theorem tl_eq (a : ByteArray) (l : List UInt8) : a.toList = l ↔ a = mk l := by
  rw [Lib.toList_data]
  exact ⟨fun h => Num.str_ext (by rw [mk_data]; exact h), fun h => by rw [h, mk_data]⟩
theorem rj_false (ws : List ByteArray) (st : Int) (ev : List ByteArray) (av : List S46) (h : ws.length ≠ 3) : Ev (fun k => petrinetref45_line.j0 k ws false st ev av) (st, ev, av, false) :=
  Ev.step (f := fun _ => some (st, ev, av, false)) (fun k => by rw [petrinetref45_line.j0, if_neg (by simp), if_neg (by omega)]) (Ev.now _)
theorem rj_true (a b : ByteArray) (st : Int) (ev : List ByteArray) (av : List S46) (h : ev.length ≤ 1000000) : Ev (fun k => petrinetref45_line.j0 k [a, b] true st ev av) (st, ev ++ [b], av, true) :=
  Ev.step (f := fun _ => some (st, ev ++ [b], av, true)) (fun k => by rw [petrinetref45_line.j0, if_pos rfl, if_pos (by simp), if_pos (by omega)]; rfl) (Ev.now _)
theorem rj_three (a b c : ByteArray) (st : Int) (ev : List ByteArray) (av : List S46) (ha : a.size ≤ 1000000) (hc : c.size ≤ 1000000) (hv : av.length ≤ 1000000) (he : ev.length ≤ 1000000) :
    ∃ r, Ev (fun k => petrinetref45_line.j0 k [a, b, c] false st ev av) r ∧ (r.2.2.2 = true → lnS (st, ev, av) false [a, b, c] = some (r.1, r.2.1, r.2.2.1)) ∧ (r.2.2.2 = false → lnS (st, ev, av) false [a, b, c] = none) := by
  have hfd := fnd_fd b ev 0
  have key : ∀ (R : Int × List ByteArray × List S46 × Bool), ((some (av ++ [(⟨natR (dl a) 1048576, fd (dl b) (vls ev) 0, natR (dl c) 1048576⟩ : S46)])).bind fun y => (if natR (dl a) 1048576 ≥ 0 then (if fd (dl b) (vls ev) 0 ≥ 0 then (some (st, ev, y, decide (natR (dl c) 1048576 ≥ 0))) else (some (st, ev, y, false))) else (some (st, ev, y, false)))) = some R → Ev (fun k => petrinetref45_line.j0 k [a, b, c] false st ev av) R := by
    intro R hR
    refine Ev.step (f := fun k => (petrinetref04_Natural.f k a 1048576).bind fun t288 => (petrinetref45_at.f k ev b).bind fun t290 => (petrinetref04_Natural.f k c 1048576).bind fun t292 => (some (av ++ [(⟨t288, t290, t292⟩ : S46)])).bind fun y => (if t288 ≥ 0 then (if t290 ≥ 0 then (some (st, ev, y, decide (t292 ≥ 0))) else (some (st, ev, y, false))) else (some (st, ev, y, false)))) (fun k => ?_) ?_
    · have c1 : (1 : Int) < (([a, b, c] : List ByteArray).length : Int) := by show (1 : Int) < ((3 : Nat) : Int); omega
      have c2 : (2 : Int) < (([a, b, c] : List ByteArray).length : Int) := by show (2 : Int) < ((3 : Nat) : Int); omega
      have c3 : av.length < 5864062014805 := by omega
      rw [petrinetref45_line.j0, if_neg (by simp), if_pos (by simp), if_pos (by simp)]
      simp only [if_pos c1, if_pos c2, if_pos c3]
      rfl
    · refine Ev.bind (rnat_ev a ha) (Ev.bind (⟨ev.length + 1, fun k hk => at_is b ev he k (by omega)⟩) (Ev.bind (rnat_ev c hc) ?_))
      exact ⟨0, fun k _ => hR⟩
  rw [hfd] at key
  unfold lnS
  simp only [Bool.false_eq_true, if_false]
  by_cases h1 : 0 ≤ natR (dl a) 1048576
  · cases hf : fnd b ev 0 with
    | none =>
      simp only [hf] at key
      refine ⟨_, key _ (by rw [Option.bind_some, if_pos h1, if_neg (by omega)]), by simp, fun _ => ?_⟩
      split <;> rfl
    | some i =>
      simp only [hf] at key
      refine ⟨_, key _ (by rw [Option.bind_some, if_pos h1, if_pos (Int.natCast_nonneg i)]), fun h => ?_, fun h => ?_⟩
      · rw [if_pos ⟨h1, of_decide_eq_true h⟩]
      · rw [if_neg (fun q => of_decide_eq_false h q.2)]
  · refine ⟨_, key _ (by rw [Option.bind_some, if_neg h1]), by simp, fun _ => ?_⟩
    rw [if_neg (fun q => h1 q.1)]
theorem rline_ev (st : Int) (ev : List ByteArray) (av : List S46) (first : Bool) (ws : List ByteArray) (hw : ∀ y ∈ ws, y.size ≤ 1000000) (hv : av.length ≤ 1000000) (he : ev.length ≤ 1000000) :
    ∃ r, Ev (fun k => petrinetref45_line.f k st ev av first ws) r ∧ (r.2.2.2 = true → lnS (st, ev, av) first ws = some (r.1, r.2.1, r.2.2.1)) ∧ (r.2.2.2 = false → lnS (st, ev, av) first ws = none) := by
  unfold petrinetref45_line.f
  cases first with
  | true =>
    simp only [if_true]
    by_cases h2 : ws.length = 2
    · obtain ⟨a, b, rfl⟩ : ∃ a b, ws = [a, b] := by
        match ws, h2 with
        | [a, b], _ => exact ⟨a, b, rfl⟩
      have ra : rdOf ByteArray.empty [a, b] 0 = a := rfl
      have rb : rdOf ByteArray.empty [a, b] 1 = b := rfl
      simp only [ra, rb]
      by_cases c : a = tStates
      · refine ⟨(natR (dl b) 1048576, ev, av, decide (natR (dl b) 1048576 ≥ 0)), ?_, fun h => ?_, fun h => ?_⟩
        · refine Ev.congr (f := fun k => (petrinetref04_Natural.f k b 1048576).bind fun t280 => (some (t280, ev, av, decide (t280 ≥ 0)))) (fun k => ?_) (Ev.bind (rnat_ev b (hw b (by simp))) (Ev.now _))
          rw [if_pos (by simp), if_pos (by simp), if_pos ((tl_eq a _).mpr c), if_pos (by simp)]
        · rw [lnS, if_pos rfl, if_pos ⟨c, of_decide_eq_true h⟩]
        · rw [lnS, if_pos rfl, if_neg (fun q => of_decide_eq_false h q.2)]
      · refine ⟨(-1, ev, av, decide ((-1 : Int) ≥ 0)), Ev.congr (f := fun _ => some (-1, ev, av, decide ((-1 : Int) ≥ 0))) (fun k => ?_) (Ev.now _), fun h => ?_, fun _ => ?_⟩
        · rw [if_pos (by simp), if_pos (by simp), if_neg (fun q => c ((tl_eq a _).mp q))]
        · simp at h
        · rw [lnS, if_pos rfl, if_neg (fun q => c q.1)]
    · refine ⟨(-1, ev, av, decide ((-1 : Int) ≥ 0)), Ev.congr (f := fun _ => some (-1, ev, av, decide ((-1 : Int) ≥ 0))) (fun k => ?_) (Ev.now _), fun h => ?_, fun _ => ?_⟩
      · rw [if_neg (by omega)]
      · simp at h
      · match ws, h2 with
        | [], _ => rfl
        | [_], _ => rfl
        | [_, _], h2 => exact absurd rfl h2
        | [_, _, _], _ => rfl
        | _ :: _ :: _ :: _ :: _, _ => rfl
  | false =>
    simp only [Bool.false_eq_true, if_false]
    by_cases h2 : ws.length = 2
    · obtain ⟨a, b, rfl⟩ : ∃ a b, ws = [a, b] := by
        match ws, h2 with
        | [a, b], _ => exact ⟨a, b, rfl⟩
      have ra : rdOf ByteArray.empty [a, b] 0 = a := rfl
      have rb : rdOf ByteArray.empty [a, b] 1 = b := rfl
      simp only [ra, rb]
      have no : ¬ (a = tEvent ∧ b ≠ tNone ∧ av = []) → lnS (st, ev, av) false [a, b] = none := fun q => by rw [lnS, if_neg (by simp), if_neg q]
      have bad : ∀ (f : Nat → Option (Int × List ByteArray × List S46 × Bool)), (∀ k, f k = petrinetref45_line.j0 k [a, b] false st ev av) → ¬ (a = tEvent ∧ b ≠ tNone ∧ av = []) → ∃ r, Ev f r ∧ (r.2.2.2 = true → lnS (st, ev, av) false [a, b] = some (r.1, r.2.1, r.2.2.1)) ∧ (r.2.2.2 = false → lnS (st, ev, av) false [a, b] = none) :=
        fun f hf q => ⟨_, Ev.congr hf (rj_false _ st ev av (by simp)), by simp, fun _ => no q⟩
      by_cases c : a = tEvent
      · by_cases d : b = tNone
        · exact bad _ (fun k => by rw [if_pos (by simp), if_pos (by simp), if_pos ((tl_eq a _).mpr c), if_pos (by simp), if_pos ((tl_eq b _).mpr d)]) (fun q => q.2.1 d)
        · by_cases e : av = []
          · refine ⟨_, Ev.congr (f := fun k => petrinetref45_line.j0 k [a, b] true st ev av) (fun k => ?_) (rj_true a b st ev av he), fun _ => ?_, by simp⟩
            · rw [if_pos (by simp), if_pos (by simp), if_pos ((tl_eq a _).mpr c), if_pos (by simp), if_neg (fun q => d ((tl_eq b _).mp q))]
              subst e; rfl
            · rw [lnS, if_neg (by simp), if_pos ⟨c, d, e⟩]
          · refine bad _ (fun k => ?_) (fun q => e q.2.2)
            rw [if_pos (by simp), if_pos (by simp), if_pos ((tl_eq a _).mpr c), if_pos (by simp), if_neg (fun q => d ((tl_eq b _).mp q)), beq_eq_false_iff_ne.mpr (by have := List.length_pos_iff.mpr e; omega)]
      · exact bad _ (fun k => by rw [if_pos (by simp), if_pos (by simp), if_neg (fun q => c ((tl_eq a _).mp q))]) (fun q => c q.1)
    · by_cases h3 : ws.length = 3
      · obtain ⟨a, b, c, rfl⟩ : ∃ a b c, ws = [a, b, c] := by
          match ws, h3 with
          | [a, b, c], _ => exact ⟨a, b, c, rfl⟩
        obtain ⟨r, k1, k2, k3⟩ := rj_three a b c st ev av (hw a (by simp)) (hw c (by simp)) hv he
        exact ⟨r, Ev.congr (fun k => by rw [if_neg (by simp)]) k1, k2, k3⟩
      · refine ⟨_, Ev.congr (fun k => by rw [if_neg (by omega)]) (rj_false ws st ev av h3), by simp, fun _ => ?_⟩
        match ws, h2, h3 with
        | [], _, _ => rfl
        | [_], _, _ => rfl
        | [_, _], h2, _ => exact absurd rfl h2
        | [_, _, _], _, h3 => exact absurd rfl h3
        | _ :: _ :: _ :: _ :: _, _, _ => rfl
theorem rvalid2_ev (s : St44) (hs : s.2.2.length ≤ 1000000) : Ev (fun k => petrinetref45_Valid.f k s.1 s.2.1 s.2.2) ((ckS s.1 s.2.1 s.2.2).1 == 0) := by
  unfold petrinetref45_Valid.f
  exact Ev.bind ⟨3000000, fun k hk => rck_is s.1 s.2.1 s.2.2 hs k hk⟩ (Ev.now _)
theorem rfin_ev (ls : List ByteArray) (i : Nat) (hi : ls.length ≤ i) (s : St44) (hs : s.2.2.length ≤ 1000000) : Ev (fun k => petrinetref45_Parse.l0 k ls (i : Int) s.1 s.2.1 s.2.2) (finS s) := by
  refine Ev.step (f := fun k => (petrinetref45_Valid.f k s.1 s.2.1 s.2.2).bind fun t317 => (if t317 = true then (some (s.1, s.2.1, s.2.2, 0, 0)) else ((petrinetref45_Check.f k s.1 s.2.1 s.2.2).bind fun bt318 => (some (0, ([] : List ByteArray), ([] : List S46), bt318.1, bt318.2))))) (fun k => ?_) (Ev.bind (rvalid2_ev s hs) ?_)
  · rw [petrinetref45_Parse.l0, if_neg (by omega)]
  · unfold finS
    by_cases c : (ckS s.1 s.2.1 s.2.2).1 = 0
    · simp only [c, beq_self_eq_true, if_true]; exact Ev.now _
    · simp only [beq_eq_false_iff_ne.mpr c, Bool.false_eq_true, if_false, if_neg c]
      exact Ev.bind ⟨3000000, fun k hk => rck_is s.1 s.2.1 s.2.2 hs k hk⟩ (Ev.now _)
theorem rgo_ev (ls : List ByteArray) (hn : ls.length ≤ 70000) (hx : ∀ x ∈ ls, x.size ≤ 1000000) (n : Nat) : ∀ (i : Nat) (s : St44), ls.length - i = n → i ≤ ls.length → s.2.1.length ≤ i → s.2.2.length ≤ i → Ev (fun k => petrinetref45_Parse.l0 k ls (i : Int) s.1 s.2.1 s.2.2) (endS (prL ls.length (ls.drop i) i s)) := by
  induction n with
  | zero =>
    intro i s hn2 hi h1 h2
    rw [List.drop_eq_nil_of_le (by omega)]
    exact rfin_ev ls i (by omega) s (by omega)
  | succ n ih =>
    intro i s hn2 hi h1 h2
    have hil : i < ls.length := by omega
    rw [List.drop_eq_getElem_cons hil]
    have hrd := rdOf_get ByteArray.empty ls i hil
    have hw1 : wrap64 ((ls.length : Int) - 1) = (ls.length : Int) - 1 := wrap_id _ (by omega)
    have hw2 := wrap_succ i (by omega)
    have hxi := hx _ (List.getElem_mem hil)
    have go : ∀ (b : Bool), Ev (fun k => petrinetref45_Parse.l0 k ls (i : Int) s.1 s.2.1 s.2.2) (endS (prL ls.length (ls[i] :: ls.drop (i + 1)) i s)) := by
      intro _
      by_cases sk : i + 1 = ls.length ∧ 0 < i ∧ ls[i] = tNone
      · refine Ev.step (f := fun k => petrinetref45_Parse.j1 k ls (i : Int) true s.1 s.2.1 s.2.2) (fun k => ?_) (Ev.step (f := fun k => petrinetref45_Parse.l0 k ls ((i + 1 : Nat) : Int) s.1 s.2.1 s.2.2) (fun k => ?_) ?_)
        · rw [petrinetref45_Parse.l0, if_pos (by omega), if_pos (by omega), hw1, if_pos (by omega), if_pos (by omega), hrd, sk.2.2]
          rw [show (tNone.toList == ([] : List UInt8)) = true from by rw [Lib.toList_data]; rfl]
        · rw [petrinetref45_Parse.j1, if_pos rfl, hw2]
        · rw [prL, if_pos sk.1, if_pos sk.2]
          exact rfin_ev ls (i + 1) (by omega) s (by omega)
      · refine Ev.step (f := fun k => petrinetref45_Parse.j1 k ls (i : Int) false s.1 s.2.1 s.2.2) (fun k => ?_) (Ev.step (f := fun k => (petrinetref04_Split.f k ls[i] 32).bind fun t305 => ((petrinetref45_line.f k s.1 s.2.1 s.2.2 (decide (i = 0)) t305).bind fun bt308 => (if bt308.2.2.2 = true then (if (i : Int) = (ls.length : Int) - 1 then (some (0, ([] : List ByteArray), ([] : List S46), 11, ((i + 1 : Nat) : Int))) else (petrinetref45_Parse.l0 k ls ((i + 1 : Nat) : Int) bt308.1 bt308.2.1 bt308.2.2.1)) else (some (0, ([] : List ByteArray), ([] : List S46), 11, ((i + 1 : Nat) : Int)))))) (fun k => ?_) ?_)
        · rw [petrinetref45_Parse.l0, if_pos (by omega)]
          by_cases g : 0 < i
          · rw [if_pos (by omega), hw1]
            by_cases q : i + 1 = ls.length
            · rw [if_pos (by omega), if_pos (by omega), hrd]
              congr 1
              rw [beq_eq_false_iff_ne]
              exact fun h => sk ⟨q, g, (tl_eq _ _).mp h⟩
            · rw [if_neg (by omega)]
          · rw [if_neg (by omega)]
        · rw [petrinetref45_Parse.j1, if_neg (by simp), if_pos (by omega), if_pos (by omega), hrd, hw2, hw1]
          have : ((i : Int) == 0) = decide (i = 0) := by
            by_cases q : i = 0
            · subst q; rfl
            · rw [decide_eq_false q, beq_eq_false_iff_ne]; omega
          rw [this]
        · have hsp : Ev (fun k => petrinetref04_Split.f k ls[i] 32) (ws32 ls[i]) := ⟨ls[i].size + 2, fun k hk => split_is ls[i] 32 hxi k (by omega)⟩
          obtain ⟨r, k1, k2, k3⟩ := rline_ev s.1 s.2.1 s.2.2 (decide (i = 0)) (ws32 ls[i]) (fun y hy => by have := ws_len _ y hy; omega) (by omega) (by omega)
          refine Ev.bind hsp (Ev.bind k1 ?_)
          rw [prL]
          by_cases q : i + 1 = ls.length
          · rw [if_pos q, if_neg (fun h => sk ⟨q, h⟩)]
            simp only [if_pos (show (i : Int) = (ls.length : Int) - 1 by omega), ite_self]
            exact Ev.now _
          · rw [if_neg q]
            simp only [if_neg (show ¬ (i : Int) = (ls.length : Int) - 1 by omega)]
            cases hr : r.2.2.2 with
            | false =>
              rw [show lnS s (decide (i = 0)) (ws32 ls[i]) = none from k3 hr]
              simp only [Bool.false_eq_true, if_false]; exact Ev.now _
            | true =>
              have k4 : lnS s (decide (i = 0)) (ws32 ls[i]) = some (r.1, r.2.1, r.2.2.1) := k2 hr
              have k5 := lnS_len k4
              rw [k4]
              simp only [if_true]
              exact ih (i + 1) (r.1, r.2.1, r.2.2.1) (by omega) (by omega) (by have := k5.1; simp only at this ⊢; omega) (by have := k5.2; simp only at this ⊢; omega)
    exact go true
theorem rparse_ev (t : ByteArray) : Ev (fun k => petrinetref45_Parse.f k t) (parS t) := by
  unfold petrinetref45_Parse.f parS
  by_cases c : t.size > 65536
  · simp only [if_pos c, if_pos (show (t.size : Int) > 65536 by omega)]; exact Ev.now _
  · simp only [if_neg c, if_neg (show ¬ (t.size : Int) > 65536 by omega)]
    obtain ⟨h1, h2⟩ := lns_len t
    have hsp : Ev (fun k => petrinetref04_Split.f k t 10) (lns10 t) := ⟨t.size + 2, fun k hk => split_is t 10 (by omega) k (by omega)⟩
    refine Ev.bind hsp ?_
    simpa using rgo_ev (lns10 t) (by omega) (fun x hx => by have := h2 x hx; omega) _ 0 (0, [], []) rfl (by omega) (by simp) (by simp)

/-! ### the specification's text of a system -/
theorem rtext_l1 (a : Int) (l : List ByteArray) (l2 : List S46) (hl2 : l2.length ≤ 1000000) (hnm : ∀ y ∈ l, y.size ≤ 16) (harc : ∀ x ∈ l2, ArcIn l x) (n : Nat) : ∀ (k j : Nat) (p : List UInt8), l2.length - j = n → j ≤ l2.length → p.length ≤ 10000 + 100 * j → n + 100 < k →
    petrinetref45_Text.l1 k (mk p) (j : Int) a l l2 = some (mk (p ++ jn ((l2.drop j).map (arL l))), 0, 0) := by
  induction n with
  | zero =>
    intro k j p hn hj hp hk
    obtain ⟨k, rfl⟩ := fuel hk
    rw [petrinetref45_Text.l1, if_neg (by omega), List.drop_eq_nil_of_le (by omega)]
    simp [jn]
  | succ n ih =>
    intro k j p hn hj hp hk
    obtain ⟨k, rfl⟩ := fuel hk
    have hjl : j < l2.length := by omega
    rw [petrinetref45_Text.l1, rdT_get l2 j hjl, List.drop_eq_getElem_cons hjl, List.map_cons]
    have hx := harc _ (List.getElem_mem hjl)
    generalize l2[j] = x at hx ⊢
    obtain ⟨h0, h0', h2, h2', h1, h1'⟩ := hx
    obtain ⟨q, hq, hq2, hql⟩ := name_of l hnm x.f1 h1 h1'
    have e0 := itoa_len (small_I64 h0 h0')
    have e2 := itoa_len (small_I64 h2 h2')
    rw [if_pos (by omega), if_pos (by omega), number_mk (small_I64 h0 h0') k (by omega), Option.bind_some, hq, sp_eq, nl_eq, if_pos (by rw [mk_size]; omega), if_pos h1, if_pos h1']
    simp only [app_mk, mk_size]
    rw [if_pos (by simp; omega), if_pos (by simp; omega), number_mk (small_I64 h2 h2') k (by omega), Option.bind_some]
    simp only [app_mk, mk_size]
    rw [if_pos (by simp; omega), if_pos (by simp; omega), if_pos (by simp; omega), wrap_succ j (by omega), ih k (j + 1) _ (by omega) (by omega) (by simp; omega) (by omega)]
    have : arL l x = Lib.itoa x.f0 ++ 32 :: (q ++ 32 :: Lib.itoa x.f2) := by unfold arL; rw [hq2]
    rw [jn, this]
    simp
theorem rtext_l0 (a : Int) (l : List ByteArray) (l2 : List S46) (hl : l.length ≤ 100) (hl2 : l2.length ≤ 1000000) (hnm : ∀ y ∈ l, y.size ≤ 16) (harc : ∀ x ∈ l2, ArcIn l x) (n : Nat) : ∀ (k j : Nat) (p : List UInt8), l.length - j = n → j ≤ l.length → p.length ≤ 100 + 50 * j → n + 1000102 < k →
    petrinetref45_Text.l0 k (mk p) (j : Int) a l l2 = some (mk (p ++ jn ((l.drop j).map evL ++ l2.map (arL l))), 0, 0) := by
  induction n with
  | zero =>
    intro k j p hn hj hp hk
    obtain ⟨k, rfl⟩ := fuel hk
    rw [petrinetref45_Text.l0, if_neg (by omega), List.drop_eq_nil_of_le (by omega)]
    have := rtext_l1 a l l2 hl2 hnm harc l2.length k 0 p (by omega) (by omega) (by omega) (by omega)
    simpa using this
  | succ n ih =>
    intro k j p hn hj hp hk
    obtain ⟨k, rfl⟩ := fuel hk
    have hjl : j < l.length := by omega
    obtain ⟨q, hq, hq2, hql⟩ := name_of l hnm (j : Int) (by omega) (by omega)
    rw [petrinetref45_Text.l0, List.drop_eq_getElem_cons hjl, List.map_cons, List.cons_append]
    rw [if_pos (by omega), if_pos (by omega), hq, evw_eq, nl_eq]
    simp only [app_mk, mk_size]
    rw [if_pos (by omega), if_pos (by simp; omega), if_pos (by simp; omega), wrap_succ j (by omega), ih k (j + 1) _ (by omega) (by omega) (by simp; omega) (by omega)]
    rw [rdOf_get _ l j hjl] at hq2
    have : evL l[j] = [101, 118, 101, 110, 116, 32] ++ q := by unfold evL; rw [hq2]
    rw [jn, this]
    simp
theorem rtext_ev (s : St44) (hs : s.2.2.length ≤ 1000000) : Ev (fun k => petrinetref45_Text.f k s.1 s.2.1 s.2.2) (txS s) := by
  have h0 := rvalid2_ev s hs
  obtain ⟨a, l, l2⟩ := s
  simp only at hs
  unfold petrinetref45_Text.f txS
  refine Ev.bind h0 ?_
  by_cases c : (ckS a l l2).1 = 0
  · have hv := va0 c
    have h1 := hv.lo
    have h2 := hv.hi
    have h3 := hv.ev
    have e := itoa_len (small_I64 (show 0 ≤ a by omega) (show a ≤ 1000 by omega))
    simp only [c, beq_self_eq_true, if_true]
    refine ⟨1000300, fun k hk => ?_⟩
    dsimp only
    rw [number_mk (small_I64 (by omega) (by omega)) k (by omega), Option.bind_some, stw_eq, nl_eq]
    simp only [app_mk, mk_size]
    rw [if_pos (by omega), if_pos (by simp; omega)]
    have := rtext_l0 a l l2 (by omega) hs (fun y hy => (nmB_size (va_nm hv y hy)).2) (va_arc hv) l.length k 0 (([115, 116, 97, 116, 101, 115, 32] ++ Lib.itoa a) ++ [10]) (by omega) (by omega) (by simp; omega) (by omega)
    rw [show ((0 : Nat) : Int) = 0 from rfl] at this
    rw [this]
    unfold sysT linesS stL
    simp [jn]
  · simp only [beq_eq_false_iff_ne.mpr c, Bool.false_eq_true, if_false, if_neg c]
    exact Ev.bind (rcheck_ev a l l2 hs) (Ev.now _)
end Go.Proofs.YtcnliampiibpbaaDoor.Plain
