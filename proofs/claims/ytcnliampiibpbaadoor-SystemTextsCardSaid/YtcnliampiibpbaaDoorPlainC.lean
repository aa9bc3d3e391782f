/- Plain laws over the printed functions: what each comes to. No condition but the ones written. -/
import Derived.Test.YtcnliampiibpbaaDoorPlainB
import Derived.Test.YtcnliampiibpbaaDoorPAllx12
import Derived.Test.YtcnliampiibpbaaDoorPAllx17
import Derived.Test.YtcnliampiibpbaaDoorPAllx21
namespace Go.Proofs.YtcnliampiibpbaaDoor.Plain
open Go Go.RowKit Go.Proofs.YtcnliampiibpbaaDoor.PAll Go.Proofs.YtcnliampiibpbaaDoorW.PrintWords Go.Proofs.YtcnliampiibpbaaDoorW.PrintLast Go.Proofs.YtcnliampiibpbaaDoorW.PrintMore
set_option linter.unusedVariables false
/-! ### Parse of the program -/
def prL (n : Nat) : List ByteArray → Nat → St44 → Nat ⊕ St44
  | [], _, s => .inr s
  | x :: l, i, s => if i + 1 = n then (if 0 < i ∧ x = tNone then .inr s else .inl (i + 1)) else match lnS s (decide (i = 0)) (ws32 x) with
    | some s' => prL n l (i + 1) s'
    | none => .inl (i + 1)
def finS (s : St44) : Int × List ByteArray × List S46 × Int × Int := if (ckS s.1 s.2.1 s.2.2).1 = 0 then (s.1, s.2.1, s.2.2, 0, 0) else (0, [], [], (ckS s.1 s.2.1 s.2.2).1, (ckS s.1 s.2.1 s.2.2).2)
def endS : Nat ⊕ St44 → Int × List ByteArray × List S46 × Int × Int
  | .inl j => (0, [], [], 11, (j : Int))
  | .inr s => finS s
def lns10 (t : ByteArray) : List ByteArray := (Num.splitB 10 (dl t)).map mk
def parS (t : ByteArray) : Int × List ByteArray × List S46 × Int × Int := if t.size > 65536 then (0, [], [], 2, 0) else endS (prL (lns10 t).length (lns10 t) 0 (0, [], []))
theorem lnS_len {s s' : St44} {f : Bool} {ws : List ByteArray} (h : lnS s f ws = some s') : s'.2.1.length ≤ s.2.1.length + 1 ∧ s'.2.2.length ≤ s.2.2.length + 1 := by
  unfold lnS at h
  repeat' split at h
  all_goals first | cases h; done | (simp only [Option.some.injEq] at h; subst h; simp)
theorem sfin_ev (s : St44) (hs : s.2.2.length ≤ 1000000) : Ev (fun k => system_Parse.fin k s.1 s.2.1 s.2.2) (finS s) := by
  unfold system_Parse.fin finS
  refine Ev.bind ⟨3000000, fun k hk => sck_is s.1 s.2.1 s.2.2 hs k hk⟩ ?_
  by_cases c : (ckS s.1 s.2.1 s.2.2).1 = 0
  · simp only [if_pos c]; exact Ev.now _
  · simp only [if_neg c]; exact Ev.now _
theorem sgo_ev (n : Nat) (hn : n ≤ 70000) : ∀ (l : List ByteArray) (i : Nat) (s : St44), i + l.length = n → (∀ x ∈ l, x.size ≤ 1000000) → s.2.1.length ≤ i → s.2.2.length ≤ i → Ev (fun k => system_Parse.go k n l i s.1 s.2.1 s.2.2) (endS (prL n l i s))
  | [], i, s, hi, hx, h1, h2 => sfin_ev s (by simp at hi; omega)
  | x :: l, i, s, hi, hx, h1, h2 => by
    simp only [List.length_cons] at hi
    simp only [system_Parse.go, prL]
    by_cases c : i + 1 = n
    · simp only [if_pos c]
      by_cases d : 0 < i ∧ x = tNone
      · simp only [if_pos d]; exact sfin_ev s (by omega)
      · simp only [if_neg d]; exact Ev.now _
    · simp only [if_neg c]
      obtain ⟨r, k1, k2, k3⟩ := sline_is s.1 s.2.1 s.2.2 x (decide (i = 0)) (hx x (by simp)) (by omega) (by omega)
      simp only [k1, Option.bind_some]
      cases hr : r.1 with
      | false =>
        rw [show lnS s (decide (i = 0)) (ws32 x) = none from k3 hr]
        simp only [Bool.false_eq_true, if_false]; exact Ev.now _
      | true =>
        have k4 : lnS s (decide (i = 0)) (ws32 x) = some r.2 := k2 hr
        have k5 := lnS_len k4
        rw [k4]
        simp only [if_true]
        exact sgo_ev n hn l (i + 1) r.2 (by omega) (fun y hy => hx y (List.mem_cons_of_mem _ hy)) (by omega) (by omega)
theorem lns_len (t : ByteArray) : (lns10 t).length ≤ t.size + 1 ∧ ∀ y ∈ lns10 t, y.size ≤ t.size := by
  have h := splitAcc_len 10 (dl t) []
  have h2 := size_data t
  have h3 : (dl t).length = t.size := h2.symm
  refine ⟨?_, fun y hy => ?_⟩
  · unfold lns10; rw [List.length_map]; have := h.2; unfold Num.splitB; omega
  · unfold lns10 at hy
    obtain ⟨p, hp, rfl⟩ := List.mem_map.1 hy
    have := h.1 p hp
    rw [mk_size]; simp only [List.length_nil] at this; omega
theorem sparse_ev (t : ByteArray) : Ev (fun k => system_Parse.f k t) (parS t) := by
  unfold system_Parse.f parS
  by_cases c : t.size > 65536
  · simp only [if_pos c]; exact Ev.now _
  · simp only [if_neg c]
    have e10 : ((10 : UInt8).toNat : Int) = 10 := rfl
    have hs := syssplit_is t 10 (by decide) (by omega)
    rw [e10] at hs
    simp only [hs, Option.bind_some]
    obtain ⟨h1, h2⟩ := lns_len t
    exact sgo_ev (lns10 t).length (by omega) (lns10 t) 0 (0, [], []) (Nat.zero_add _) (fun x hx => by have := h2 x hx; omega) (by simp) (by simp)

/-! ### the text of a system -/
def jn : List (List UInt8) → List UInt8
  | [] => []
  | l :: ls => l ++ 10 :: jn ls
theorem jn_join (ls : List (List UInt8)) : jn ls = Num.joinB 10 (ls ++ [[]]) := by
  induction ls with
  | nil => rfl
  | cons x r ih => rw [List.cons_append, Num.joinB_cons _ _ _ (by simp), jn, ih]
def evL (e : ByteArray) : List UInt8 := [101, 118, 101, 110, 116, 32] ++ dl e
def arL (ev : List ByteArray) (x : S46) : List UInt8 := Lib.itoa x.f0 ++ 32 :: (dl (rdOf ByteArray.empty ev x.f1) ++ 32 :: Lib.itoa x.f2)
def stL (a : Int) : List UInt8 := [115, 116, 97, 116, 101, 115, 32] ++ Lib.itoa a
def linesS (s : St44) : List (List UInt8) := stL s.1 :: (s.2.1.map evL ++ s.2.2.map (arL s.2.1))
def sysT (s : St44) : List UInt8 := jn (linesS s)
def txS (s : St44) : ByteArray × Int × Int := if (ckS s.1 s.2.1 s.2.2).1 = 0 then (mk (sysT s), 0, 0) else (⟨#[]⟩, (ckS s.1 s.2.1 s.2.2).1, (ckS s.1 s.2.1 s.2.2).2)
theorem app_mk (p q : List UInt8) : mk p ++ mk q = mk (p ++ q) := app_eq rfl rfl
theorem sp_eq : (⟨#[32]⟩ : ByteArray) = mk [32] := rfl
theorem nl_eq : (⟨#[10]⟩ : ByteArray) = mk [10] := rfl
theorem evw_eq : (⟨#[101, 118, 101, 110, 116, 32]⟩ : ByteArray) = mk [101, 118, 101, 110, 116, 32] := rfl
theorem stw_eq : (⟨#[115, 116, 97, 116, 101, 115, 32]⟩ : ByteArray) = mk [115, 116, 97, 116, 101, 115, 32] := rfl
def ArcIn (l : List ByteArray) (x : S46) : Prop := 0 ≤ x.f0 ∧ x.f0 ≤ 1000 ∧ 0 ≤ x.f2 ∧ x.f2 ≤ 1000 ∧ 0 ≤ x.f1 ∧ x.f1 < (l.length : Int)
theorem name_of (l : List ByteArray) (hnm : ∀ y ∈ l, y.size ≤ 16) (i : Int) (h0 : 0 ≤ i) (h1 : i < (l.length : Int)) : ∃ q : List UInt8, rdOf ByteArray.empty l i = mk q ∧ dl (rdOf ByteArray.empty l i) = q ∧ q.length ≤ 16 := by
  refine ⟨dl (rdOf ByteArray.empty l i), (mk_self _).symm, rfl, ?_⟩
  obtain ⟨m, rfl⟩ : ∃ m : Nat, i = (m : Int) := ⟨i.toNat, by omega⟩
  have hm : m < l.length := by omega
  rw [rdOf_get _ l m hm]
  have := hnm _ (List.getElem_mem hm)
  rw [size_data] at this
  exact this
theorem small_I64 {x : Int} (h0 : 0 ≤ x) (h1 : x ≤ 1000) : I64 x := by unfold I64; omega
theorem stext_l1 (a : Int) (l : List ByteArray) (l2 : List S46) (hl2 : l2.length ≤ 1000000) (hnm : ∀ y ∈ l, y.size ≤ 16) (harc : ∀ x ∈ l2, ArcIn l x) (n : Nat) : ∀ (k j : Nat) (p : List UInt8), l2.length - j = n → j ≤ l2.length → p.length ≤ 10000 + 100 * j → n < k →
    system_Text.l1 k (mk p) l2 (l2.length : Int) (j : Int) a l l2 = some (mk (p ++ jn ((l2.drop j).map (arL l))), 0, 0) := by
  induction n with
  | zero =>
    intro k j p hn hj hp hk
    obtain ⟨k, rfl⟩ := fuel hk
    rw [system_Text.l1, if_neg (by omega), List.drop_eq_nil_of_le (by omega)]
    simp [jn]
  | succ n ih =>
    intro k j p hn hj hp hk
    obtain ⟨k, rfl⟩ := fuel hk
    have hjl : j < l2.length := by omega
    rw [system_Text.l1, rdT_get l2 j hjl, List.drop_eq_getElem_cons hjl, List.map_cons]
    have hx := harc _ (List.getElem_mem hjl)
    generalize l2[j] = x at hx ⊢
    obtain ⟨h0, h0', h2, h2', h1, h1'⟩ := hx
    obtain ⟨q, hq, hq2, hql⟩ := name_of l hnm x.f1 h1 h1'
    have e0 := itoa_len (small_I64 h0 h0')
    have e2 := itoa_len (small_I64 h2 h2')
    rw [if_pos (by omega), if_pos (by omega), if_pos (by omega), strItoa_is (small_I64 h0 h0'), Option.bind_some, hq, sp_eq, nl_eq, if_pos (by rw [mk_size]; omega), if_pos h1, if_pos h1']
    simp only [app_mk, mk_size]
    rw [if_pos (by simp; omega), if_pos (by simp; omega), strItoa_is (small_I64 h2 h2'), Option.bind_some]
    simp only [app_mk, mk_size]
    rw [if_pos (by simp; omega), if_pos (by simp; omega), if_pos (by simp; omega), wrap_succ j (by omega), ih k (j + 1) _ (by omega) (by omega) (by simp; omega) (by omega)]
    have : arL l x = Lib.itoa x.f0 ++ 32 :: (q ++ 32 :: Lib.itoa x.f2) := by unfold arL; rw [hq2]
    rw [jn, this]
    simp
theorem stext_l0 (a : Int) (l : List ByteArray) (l2 : List S46) (hl : l.length ≤ 100) (hl2 : l2.length ≤ 1000000) (hnm : ∀ y ∈ l, y.size ≤ 16) (harc : ∀ x ∈ l2, ArcIn l x) (n : Nat) : ∀ (k j : Nat) (p : List UInt8), l.length - j = n → j ≤ l.length → p.length ≤ 100 + 50 * j → n + 1000002 < k →
    system_Text.l0 k (mk p) l (l.length : Int) (j : Int) a l l2 = some (mk (p ++ jn ((l.drop j).map evL ++ l2.map (arL l))), 0, 0) := by
  induction n with
  | zero =>
    intro k j p hn hj hp hk
    obtain ⟨k, rfl⟩ := fuel hk
    rw [system_Text.l0, if_neg (by omega), List.drop_eq_nil_of_le (by omega)]
    have := stext_l1 a l l2 hl2 hnm harc l2.length k 0 p (by omega) (by omega) (by omega) (by omega)
    simpa using this
  | succ n ih =>
    intro k j p hn hj hp hk
    obtain ⟨k, rfl⟩ := fuel hk
    have hjl : j < l.length := by omega
    obtain ⟨q, hq, hq2, hql⟩ := name_of l hnm (j : Int) (by omega) (by omega)
    rw [system_Text.l0, List.drop_eq_getElem_cons hjl, List.map_cons, List.cons_append]
    rw [if_pos (by omega), if_pos (by omega), if_pos (by omega), hq, evw_eq, nl_eq]
    simp only [app_mk, mk_size]
    rw [if_pos (by omega), if_pos (by simp; omega), if_pos (by simp; omega), wrap_succ j (by omega), ih k (j + 1) _ (by omega) (by omega) (by simp; omega) (by omega)]
    rw [rdOf_get _ l j hjl] at hq2
    have : evL l[j] = [101, 118, 101, 110, 116, 32] ++ q := by unfold evL; rw [hq2]
    rw [jn, this]
    simp
theorem nmB_size {y : ByteArray} (h : nmB y = true) : 1 ≤ y.size ∧ y.size ≤ 16 := by
  unfold nmB at h
  rw [Bool.and_eq_true, decide_eq_true_iff] at h
  exact h.1
theorem va_nm {a : Int} {l : List ByteArray} {l2 : List S46} (h : VaP a l l2) : ∀ y ∈ l, nmB y = true := by
  intro y hy
  obtain ⟨j, hj, rfl⟩ := List.getElem_of_mem hy
  exact (ckNames_none l _ 0 h.nm j hj (by omega) (by omega)).1
theorem va_arc {a : Int} {l : List ByteArray} {l2 : List S46} (h : VaP a l l2) : ∀ x ∈ l2, ArcIn l x := by
  intro x hx
  have := h.arcs x hx
  have := h.hi
  unfold ArcIn; omega
theorem va0 {a : Int} {l : List ByteArray} {l2 : List S46} (h : (ckS a l l2).1 = 0) : VaP a l l2 := va_of (by unfold vaB; exact beq_iff_eq.mpr h)
theorem stext_ev (s : St44) (hs : s.2.2.length ≤ 1000000) : Ev (fun k => system_Text.f k s.1 s.2.1 s.2.2) (txS s) := by
  obtain ⟨a, l, l2⟩ := s
  simp only at hs
  unfold system_Text.f txS
  refine Ev.bind (scheck_ev a l l2 hs) ?_
  by_cases c : (ckS a l l2).1 = 0
  · have hv := va0 c
    have h1 := hv.lo
    have h2 := hv.hi
    have h3 := hv.ev
    have e := itoa_len (small_I64 (show 0 ≤ a by omega) (show a ≤ 1000 by omega))
    simp only [if_pos c]
    refine ⟨1000200, fun k hk => ?_⟩
    dsimp only
    rw [strItoa_is (small_I64 (by omega) (by omega)), Option.bind_some, stw_eq, nl_eq]
    simp only [app_mk, mk_size]
    rw [if_pos (by omega), if_pos (by simp; omega)]
    have := stext_l0 a l l2 (by omega) hs (fun y hy => (nmB_size (va_nm hv y hy)).2) (va_arc hv) l.length k 0 (([115, 116, 97, 116, 101, 115, 32] ++ Lib.itoa a) ++ [10]) (by omega) (by omega) (by simp; omega) (by omega)
    rw [show ((0 : Nat) : Int) = 0 from rfl] at this
    rw [this]
    unfold sysT linesS stL
    simp [jn]
  · simp only [if_neg c]; exact Ev.now _

/-! ### a system is the same as itself -/
theorem samesys_l1 (a : Int) (l : List ByteArray) (l2 : List S46) (hl2 : l2.length ≤ 1000000) (n : Nat) : ∀ j : Nat, l2.length - j = n → j ≤ l2.length → Ev (fun k => petrinetref45_Same.l1 k (j : Int) a l l2 a l l2) true := by
  induction n with
  | zero =>
    intro j hn hj
    exact Ev.step (f := fun _ => some true) (fun k => by rw [petrinetref45_Same.l1, if_neg (by omega)]) (Ev.now _)
  | succ n ih =>
    intro j hn hj
    exact Ev.step (f := fun k => petrinetref45_Same.l1 k ((j + 1 : Nat) : Int) a l l2 a l l2) (fun k => by rw [petrinetref45_Same.l1, if_pos (by omega), if_pos (by omega), if_pos (by omega), if_neg (by simp), wrap_succ j (by omega)]) (ih (j + 1) (by omega) (by omega))
theorem samesys_l0 (a : Int) (l : List ByteArray) (l2 : List S46) (hl : l.length ≤ 1000000) (hl2 : l2.length ≤ 1000000) (n : Nat) : ∀ j : Nat, l.length - j = n → j ≤ l.length → Ev (fun k => petrinetref45_Same.l0 k (j : Int) a l l2 a l l2) true := by
  induction n with
  | zero =>
    intro j hn hj
    exact Ev.step (f := fun k => petrinetref45_Same.l1 k 0 a l l2 a l l2) (fun k => by rw [petrinetref45_Same.l0, if_neg (by omega)]) (samesys_l1 a l l2 hl2 _ 0 rfl (by omega))
  | succ n ih =>
    intro j hn hj
    exact Ev.step (f := fun k => petrinetref45_Same.l0 k ((j + 1 : Nat) : Int) a l l2 a l l2) (fun k => by rw [petrinetref45_Same.l0, if_pos (by omega), if_pos (by omega), if_pos (by omega), if_pos rfl, wrap_succ j (by omega)]) (ih (j + 1) (by omega) (by omega))
theorem samesys_ev (a : Int) (l : List ByteArray) (l2 : List S46) (hl : l.length ≤ 1000000) (hl2 : l2.length ≤ 1000000) : Ev (fun k => petrinetref45_Same.f k a l l2 a l l2) true := by
  unfold petrinetref45_Same.f
  simp only [if_true]
  refine Ev.step (f := fun k => petrinetref45_Same.l0 k 0 a l l2 a l l2) (fun k => ?_) (samesys_l0 a l l2 hl hl2 _ 0 rfl (by omega))
  rw [petrinetref45_Same.j0, if_neg (by simp)]
theorem prL_len (n : Nat) : ∀ (l : List ByteArray) (i : Nat) (s s' : St44), prL n l i s = .inr s' → s'.2.1.length ≤ s.2.1.length + l.length ∧ s'.2.2.length ≤ s.2.2.length + l.length
  | [], i, s, s', h => by rw [prL] at h; injection h with h; subst h; simp
  | x :: l, i, s, s', h => by
    rw [prL] at h
    split at h
    · split at h
      · injection h with h; subst h; simp
      · cases h
    · split at h
      · rename_i s2 h2
        have h3 := lnS_len h2
        have h4 := prL_len n l (i + 1) s2 s' h
        simp only [List.length_cons]; omega
      · cases h
theorem parS_len (t : ByteArray) : (parS t).2.1.length ≤ 1000000 ∧ (parS t).2.2.1.length ≤ 1000000 := by
  unfold parS
  split
  · simp
  · rename_i c
    have h1 := lns_len t
    cases e : prL (lns10 t).length (lns10 t) 0 (0, [], []) with
    | inl j => simp [endS]
    | inr s =>
      have h2 := prL_len _ _ _ _ _ e
      simp only [endS]
      unfold finS
      split
      · simp only [List.length_nil] at h2 ⊢; omega
      · simp
end Go.Proofs.YtcnliampiibpbaaDoor.Plain
