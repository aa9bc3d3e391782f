/- Plain laws over the printed functions: what each comes to. No condition but the ones written. -/
import Derived.Test.YtcnliampiibpbaaPlainC
import Derived.Test.YtcnliampiibpbaaPAllx7
import Derived.Test.YtcnliampiibpbaaPAllx16
namespace Go.Proofs.Ytcnliampiibpbaa.Plain
open Go Go.RowKit Go.Proofs.Ytcnliampiibpbaa.PAll Go.Proofs.YtcnliampiibpbaaW.PrintWords Go.Proofs.YtcnliampiibpbaaW.PrintLast Go.Proofs.YtcnliampiibpbaaW.PrintMore
set_option linter.unusedVariables false
/-! ### Deterministic -/
def gA (l2 : List S44) (i : Nat) : S44 := rd_T44 l2 (i : Int)
def adj (x y : S44) : Bool := decide (x.f0 = y.f0 ∧ x.f1 = y.f1)
def detL (l2 : List S44) : Nat → Nat → Bool
  | 0, _ => true
  | n + 1, i => if adj (gA l2 (i - 1)) (gA l2 i) = true then false else detL l2 n (i + 1)
theorem sdet_l0 (a : Int) (l : List ByteArray) (l2 : List S44) (hl : l2.length ≤ 1000000) (n : Nat) : ∀ (i : Nat), l2.length - i = n → 1 ≤ i → i ≤ l2.length + 1 → Ev (fun k => system_Deterministic.l0 k (i : Int) a l l2) (detL l2 n i) := by
  induction n with
  | zero =>
    intro i hn h1 hi
    refine Ev.step (f := fun _ => some true) (fun k => ?_) (Ev.now _)
    rw [system_Deterministic.l0, if_neg (by omega)]
  | succ n ih =>
    intro i hn h1 hi
    have step : ∀ k, system_Deterministic.l0 (k + 1) (i : Int) a l l2 = if adj (gA l2 (i - 1)) (gA l2 i) = true then some false else system_Deterministic.l0 k ((i + 1 : Nat) : Int) a l l2 := by
      intro k
      rw [system_Deterministic.l0, if_pos (by omega), wrap_pred i (by omega) (by omega), if_pos (by omega), if_pos (by omega), if_pos (by omega), wrap_succ i (by omega)]
      unfold adj gA
      by_cases c0 : (rd_T44 l2 ((i - 1 : Nat) : Int)).f0 = (rd_T44 l2 (i : Int)).f0
      · rw [if_pos c0]
        by_cases c1 : (rd_T44 l2 ((i - 1 : Nat) : Int)).f1 = (rd_T44 l2 (i : Int)).f1
        · rw [if_pos c1, if_pos (decide_eq_true ⟨c0, c1⟩)]
        · rw [if_neg c1, if_neg (fun q => c1 (of_decide_eq_true q).2)]
      · rw [if_neg c0, if_neg (fun q => c0 (of_decide_eq_true q).1)]
    rw [detL]
    by_cases c : adj (gA l2 (i - 1)) (gA l2 i) = true
    · rw [if_pos c]
      exact Ev.step (f := fun _ => some false) (fun k => by rw [step, if_pos c]) (Ev.now _)
    · rw [if_neg c]
      exact Ev.step (f := fun k => system_Deterministic.l0 k ((i + 1 : Nat) : Int) a l l2) (fun k => by rw [step, if_neg c]) (ih (i + 1) (by omega) (by omega) (by omega))
def dtB (a : Int) (l : List ByteArray) (l2 : List S44) : Bool := vaB a l l2 && detL l2 (l2.length - 1) 1
theorem sdet_ev (a : Int) (l : List ByteArray) (l2 : List S44) (hl : l2.length ≤ 1000000) : Ev (fun k => system_Deterministic.f k a l l2) (dtB a l l2) := by
  unfold system_Deterministic.f dtB
  refine Ev.bind (svalid_ev a l l2 hl) ?_
  by_cases c : vaB a l l2 = true
  · simp only [if_pos c]
    rw [c, Bool.true_and]
    exact sdet_l0 a l l2 hl _ 1 rfl (by omega) (by omega)
  · simp only [if_neg c]
    rw [Bool.eq_false_iff.mpr c, Bool.false_and]
    exact Ev.now _
theorem rdet_l0 (a : Int) (l : List ByteArray) (l2 : List S44) (hl : l2.length ≤ 1000000) (n : Nat) : ∀ (i : Nat), l2.length - i = n → 1 ≤ i → i ≤ l2.length + 1 → Ev (fun k => petrinetref45_Deterministic.l0 k (i : Int) a l l2) (detL l2 n i && vaB a l l2) := by
  induction n with
  | zero =>
    intro i hn h1 hi
    refine Ev.step (f := fun k => (petrinetref45_Valid.f k a l l2).bind fun t => some t) (fun k => ?_) ?_
    · rw [petrinetref45_Deterministic.l0, if_neg (by omega)]
    · rw [detL, Bool.true_and]
      exact Ev.bind (rvalid_ev a l l2 hl) (Ev.now _)
  | succ n ih =>
    intro i hn h1 hi
    have step : ∀ k, petrinetref45_Deterministic.l0 (k + 1) (i : Int) a l l2 = if adj (gA l2 (i - 1)) (gA l2 i) = true then some false else petrinetref45_Deterministic.l0 k ((i + 1 : Nat) : Int) a l l2 := by
      intro k
      rw [petrinetref45_Deterministic.l0, if_pos (by omega), if_pos (by omega), wrap_pred i (by omega) (by omega), if_pos (by omega), if_pos (by omega), wrap_succ i (by omega)]
      unfold adj gA
      by_cases c0 : (rd_T44 l2 (i : Int)).f0 = (rd_T44 l2 ((i - 1 : Nat) : Int)).f0
      · rw [if_pos c0]
        by_cases c1 : (rd_T44 l2 (i : Int)).f1 = (rd_T44 l2 ((i - 1 : Nat) : Int)).f1
        · rw [if_pos c1, if_pos (decide_eq_true ⟨c0.symm, c1.symm⟩)]
        · rw [if_neg c1, if_neg (fun q => c1 (of_decide_eq_true q).2.symm)]
      · rw [if_neg c0, if_neg (fun q => c0 (of_decide_eq_true q).1.symm)]
    rw [detL]
    by_cases c : adj (gA l2 (i - 1)) (gA l2 i) = true
    · rw [if_pos c]
      exact Ev.step (f := fun _ => some false) (fun k => by rw [step, if_pos c]) (Ev.now _)
    · rw [if_neg c]
      exact Ev.step (f := fun k => petrinetref45_Deterministic.l0 k ((i + 1 : Nat) : Int) a l l2) (fun k => by rw [step, if_neg c]) (ih (i + 1) (by omega) (by omega) (by omega))
theorem rdet_ev (a : Int) (l : List ByteArray) (l2 : List S44) (hl : l2.length ≤ 1000000) : Ev (fun k => petrinetref45_Deterministic.f k a l l2) (dtB a l l2) := by
  unfold petrinetref45_Deterministic.f dtB
  rw [Bool.and_comm]
  exact rdet_l0 a l l2 hl _ 1 rfl (by omega) (by omega)

/-! ### digraph.Reach: which vertices are marked in the end -/
/-- What can be reached from a list. -/
inductive RC (g : List (List Int)) (fr : List Int) : Nat → Prop
  | base {v : Nat} : (v : Int) ∈ fr → v < g.length → RC g fr v
  | step {u v : Nat} : RC g fr u → (v : Int) ∈ g.getD u [] → v < g.length → RC g fr v
def gB (o : List Bool) (j : Nat) : Bool := o.getD j false
theorem gB_lt {o : List Bool} {j : Nat} (h : gB o j = true) : j < o.length := by
  unfold gB at h
  rcases Nat.lt_or_ge j o.length with c | c
  · exact c
  · rw [List.getD_eq_getElem?_getD, List.getElem?_eq_none c] at h; simp at h
theorem gB_set (o : List Bool) (i j : Nat) (b : Bool) : gB (o.set i b) j = if i = j ∧ j < o.length then b else gB o j := by
  unfold gB
  rw [List.getD_eq_getElem?_getD, List.getD_eq_getElem?_getD, List.getElem?_set]
  by_cases e : i = j
  · subst e
    by_cases h : i < o.length
    · rw [if_pos rfl, if_pos h, if_pos ⟨rfl, h⟩]; rfl
    · rw [if_pos rfl, if_neg h, if_neg (fun q => h q.2), List.getElem?_eq_none (by omega)]
  · rw [if_neg e, if_neg (fun q => e q.1)]
def cnt (o : List Bool) : Nat := o.countP (fun b => !b)
theorem cnt_set (o : List Bool) (i : Nat) (h : i < o.length) (hf : gB o i = false) : cnt (o.set i true) + 1 = cnt o := by
  induction o generalizing i with
  | nil => simp at h
  | cons x o ih =>
    cases i with
    | zero =>
      have hx : x = false := hf
      subst hx
      unfold cnt
      rw [List.set_cons_zero, List.countP_cons, List.countP_cons]
      simp
    | succ i =>
      have h' : i < o.length := by simpa using h
      have hf' : gB o i = false := by
        unfold gB at hf ⊢
        simpa using hf
      have := ih i h' hf'
      unfold cnt at this ⊢
      rw [List.set_cons_succ, List.countP_cons, List.countP_cons]
      omega
theorem cnt_le (o : List Bool) : cnt o ≤ o.length := List.countP_le_length
/-- What a visit, or several, do to the marks and to the list of those to come. -/
structure RV (g : List (List Int)) (vs : List Int) (o : List Bool) (t : List Int) (o' : List Bool) (t' : List Int) : Prop where
  len : o'.length = o.length
  mono : ∀ j, gB o j = true → gB o' j = true
  new : ∀ j, gB o' j = true → gB o j = true ∨ ((j : Int) ∈ vs ∧ j < g.length ∧ (j : Int) ∈ t')
  keep : ∀ x ∈ t, x ∈ t'
  from_ : ∀ x ∈ t', x ∈ t ∨ (∃ j : Nat, x = (j : Int) ∧ gB o' j = true)
  hit : ∀ j : Nat, (j : Int) ∈ vs → j < g.length → gB o' j = true
  sum : t'.length + cnt o' = t.length + cnt o
  less : cnt o' ≤ cnt o
theorem rvis_spec (g : List (List Int)) (o : List Bool) (t : List Int) (v : Int) (hl : o.length = g.length) (hs : t.length + cnt o ≤ 1000000000) : ∃ o' t', rvis g o t v = some (o', t') ∧ RV g [v] o t o' t' := by
  unfold rvis
  by_cases c : 0 ≤ v ∧ v < (g.length : Int)
  · rw [if_pos c, if_pos (by omega)]
    obtain ⟨n, rfl⟩ := Int.eq_ofNat_of_zero_le c.1
    have hn : n < o.length := by omega
    have e : rdOf false o (n : Int) = gB o n := by unfold rdOf gB; rw [Int.toNat_natCast]
    rw [e]
    by_cases m : gB o n = true
    · rw [if_pos m]
      exact ⟨o, t, rfl, rfl, fun j h => h, fun j h => .inl h, fun x h => h, fun x h => .inl h, fun j h _ => by
        have : j = n := by have := List.mem_singleton.1 h; omega
        rw [this]; exact m, rfl, Nat.le_refl _⟩
    · have m' : gB o n = false := Bool.eq_false_iff.mpr m
      rw [if_neg m, if_pos (by omega), Int.toNat_natCast]
      have hc := cnt_set o n hn m'
      refine ⟨_, _, rfl, by rw [List.length_set], fun j h => ?_, fun j h => ?_, fun x h => List.mem_append_left _ h, fun x h => ?_, fun j h hj => ?_, ?_, by omega⟩
      · rw [gB_set]; split
        · rfl
        · exact h
      · rw [gB_set] at h
        by_cases q : n = j ∧ j < o.length
        · rw [← q.1]; exact .inr ⟨List.mem_singleton.2 rfl, by omega, List.mem_append_right _ (List.mem_singleton.2 rfl)⟩
        · rw [if_neg q] at h; exact .inl h
      · rcases List.mem_append.1 h with h | h
        · exact .inl h
        · exact .inr ⟨n, List.mem_singleton.1 h, by rw [gB_set, if_pos ⟨rfl, hn⟩]⟩
      · have : j = n := by have := List.mem_singleton.1 h; omega
        rw [this, gB_set, if_pos ⟨rfl, hn⟩]
      · rw [List.length_append, List.length_singleton]; omega
  · rw [if_neg c]
    exact ⟨o, t, rfl, rfl, fun j h => h, fun j h => .inl h, fun x h => h, fun x h => .inl h, fun j h hj => by
      have := List.mem_singleton.1 h
      exact absurd ⟨by omega, by omega⟩ c, rfl, Nat.le_refl _⟩
theorem rall_spec (g : List (List Int)) : ∀ (vs : List Int) (o : List Bool) (t : List Int), o.length = g.length → t.length + cnt o ≤ 1000000000 → ∃ o' t', rall g vs o t = some (o', t') ∧ RV g vs o t o' t'
  | [], o, t, _, _ => ⟨o, t, rfl, rfl, fun j h => h, fun j h => .inl h, fun x h => h, fun x h => .inl h, fun j h _ => absurd h (by simp), rfl, Nat.le_refl _⟩
  | v :: vs, o, t, hl, hs => by
    obtain ⟨o1, t1, e1, r1⟩ := rvis_spec g o t v hl hs
    obtain ⟨o2, t2, e2, r2⟩ := rall_spec g vs o1 t1 (by rw [r1.len, hl]) (by rw [r1.sum]; exact hs)
    refine ⟨o2, t2, by rw [rall, e1, Option.bind_some, e2], by rw [r2.len, r1.len], fun j h => r2.mono j (r1.mono j h), fun j h => ?_, fun x h => r2.keep x (r1.keep x h), fun x h => ?_, fun j h hj => ?_, by rw [r2.sum, r1.sum], Nat.le_trans r2.less r1.less⟩
    · rcases r2.new j h with h | ⟨h1, h2, h3⟩
      · rcases r1.new j h with h | ⟨h1, h2, h3⟩
        · exact .inl h
        · exact .inr ⟨by rw [List.mem_singleton.1 h1]; exact List.mem_cons_self, h2, r2.keep _ h3⟩
      · exact .inr ⟨List.mem_cons_of_mem _ h1, h2, h3⟩
    · rcases r2.from_ x h with h | h
      · rcases r1.from_ x h with h | ⟨j, h1, h2⟩
        · exact .inl h
        · exact .inr ⟨j, h1, r2.mono j h2⟩
      · exact .inr h
    · rcases List.mem_cons.1 h with h | h
      · exact r2.mono j (r1.hit j (List.mem_singleton.2 h) hj)
      · exact r2.hit j h hj
/-- The marks in the course of the search. -/
structure DI (g : List (List Int)) (fr : List Int) (o : List Bool) (t : List Int) : Prop where
  len : o.length = g.length
  todo : ∀ x ∈ t, ∃ j : Nat, x = (j : Int) ∧ gB o j = true
  sound : ∀ j, gB o j = true → RC g fr j
  shut : ∀ j, gB o j = true → (j : Int) ∈ t ∨ ∀ w : Nat, (w : Int) ∈ g.getD j [] → w < g.length → gB o w = true
  start : ∀ j : Nat, (j : Int) ∈ fr → j < g.length → gB o j = true
theorem DI.all {g : List (List Int)} {fr : List Int} {o : List Bool} (h : DI g fr o []) (j : Nat) : gB o j = true ↔ RC g fr j := by
  refine ⟨h.sound j, fun q => ?_⟩
  induction q with
  | base h1 h2 => exact h.start _ h1 h2
  | step _ h2 h3 ih =>
    rcases h.shut _ ih with c | c
    · simp at c
    · exact c _ h2 h3
theorem dfs_l (g : List (List Int)) (fr : List Int) (m : Nat) : ∀ (o : List Bool) (t : List Int), DI g fr o t → t.length + cnt o ≤ 1000000000 → 2 * cnt o + t.length = m → ∃ o', Ev (fun k => digraph_Reach.l0 k g o t) o' ∧ DI g fr o' [] := by
  induction m using Nat.strongRecOn with
  | _ m ih =>
    intro o t hd hs hm
    by_cases c : t.length = 0
    · obtain rfl := List.eq_nil_of_length_eq_zero c
      exact ⟨o, Ev.step (f := fun _ => some o) (fun k => by rw [digraph_Reach.l0, if_pos (show ([] : List Int).length = 0 from rfl)]) (Ev.now _), hd⟩
    · have e1 : ((t.length : Int) - 1) = ((t.length - 1 : Nat) : Int) := by omega
      have hlast : t.length - 1 < t.length := by omega
      obtain ⟨j, hj, hjo⟩ := hd.todo t[t.length - 1] (List.getElem_mem hlast)
      have hjl : j < g.length := by have := gB_lt hjo; rw [hd.len] at this; exact this
      obtain ⟨o', t', e2, r⟩ := rall_spec g (g.getD j []) o (t.take (t.length - 1)) hd.len (by rw [List.length_take]; omega)
      have hlen : (t.take (t.length - 1)).length = t.length - 1 := by rw [List.length_take]; omega
      have hsum := r.sum
      have hless := r.less
      rw [hlen] at hsum
      have htk : t = t.take (t.length - 1) ++ [(j : Int)] := by
        conv => lhs; rw [← List.take_append_drop (t.length - 1) t, List.drop_eq_getElem_cons hlast, hj, List.drop_eq_nil_of_le (by omega)]
      have hd' : DI g fr o' t' := by
        refine ⟨by rw [r.len, hd.len], fun x hx => ?_, fun i hi => ?_, fun i hi => ?_, fun i h3 h4 => r.mono i (hd.start i h3 h4)⟩
        · rcases r.from_ x hx with h | h
          · obtain ⟨i, h1, h2⟩ := hd.todo x (List.mem_of_mem_take h)
            exact ⟨i, h1, r.mono i h2⟩
          · exact h
        · rcases r.new i hi with h | ⟨h1, h2, _⟩
          · exact hd.sound i h
          · exact .step (hd.sound j hjo) h1 h2
        · rcases r.new i hi with h | ⟨_, _, h3⟩
          · rcases hd.shut i h with h | h
            · rw [htk] at h
              rcases List.mem_append.1 h with h | h
              · exact .inl (r.keep _ h)
              · have : i = j := by have := List.mem_singleton.1 h; omega
                subst this
                exact .inr (fun w h4 h5 => r.hit w h4 h5)
            · exact .inr (fun w h4 h5 => r.mono w (h w h4 h5))
          · exact .inl h3
      obtain ⟨o2, h1, h2⟩ := ih (2 * cnt o' + t'.length) (by omega) o' t' hd' (by omega) rfl
      refine ⟨o2, Ev.step (f := fun k => digraph_Reach.l0 k g o' t') (fun k => ?_) h1, h2⟩
      have e3 : rd t ((t.length : Int) - 1) = (j : Int) := by rw [e1, rd_get t _ hlast, hj]
      rw [digraph_Reach.l0, if_neg c, e3, if_pos ⟨by omega, by rw [Int.toNat_natCast]; exact hjl⟩, Int.toNat_natCast, e2, Option.bind_some]
theorem gB_repl (n j : Nat) : gB (List.replicate n false) j = false := by
  unfold gB
  rw [List.getD_eq_getElem?_getD, List.getElem?_replicate]
  split <;> rfl
theorem dfs_ev (g : List (List Int)) (fr : List Int) (hg : g.length ≤ 1000000) : ∃ o, Ev (fun k => digraph_Reach.f k g fr) o ∧ o.length = g.length ∧ ∀ j, gB o j = true ↔ RC g fr j := by
  have h0 : (List.replicate g.length false).length = g.length := List.length_replicate
  obtain ⟨o, t, e, r⟩ := rall_spec g fr (List.replicate g.length false) [] h0 (by have := cnt_le (List.replicate g.length false); rw [h0] at this; simp; omega)
  have hc := cnt_le (List.replicate g.length false)
  rw [h0] at hc
  have hsum := r.sum
  have hd : DI g fr o t := by
    refine ⟨by rw [r.len, h0], fun x hx => ?_, fun j hj => ?_, fun j hj => ?_, r.hit⟩
    · rcases r.from_ x hx with h | ⟨j, h1, h2⟩
      · simp at h
      · exact ⟨j, h1, h2⟩
    · rcases r.new j hj with h | ⟨h1, h2, _⟩
      · rw [gB_repl] at h; simp at h
      · exact .base h1 h2
    · rcases r.new j hj with h | ⟨_, _, h3⟩
      · rw [gB_repl] at h; simp at h
      · exact .inl h3
  obtain ⟨o', h1, h2⟩ := dfs_l g fr _ o t hd (by simp at hsum; omega) rfl
  refine ⟨o', ?_, h2.len, h2.all⟩
  unfold digraph_Reach.f
  simp only [if_pos (show g.length ≤ 140737488355328 by omega), e, Option.bind_some]
  exact h1

/-! ### petrinetref07.Reach: the same vertices -/
def tg (t : List (List Bool)) (u v : Nat) : Bool := gB (t.getD u []) v
inductive TC (E : Nat → Nat → Prop) (u : Nat) : Nat → Prop
  | one {v : Nat} : E u v → TC E u v
  | more {v w : Nat} : TC E u v → E v w → TC E u w
theorem TC.trans {E : Nat → Nat → Prop} {u v w : Nat} (h : TC E u v) (k : TC E v w) : TC E u w := by
  induction k with
  | one e => exact .more h e
  | more _ e ih => exact .more ih e
/-- A path of length one or more through vertices below k. -/
def PW (E : Nat → Nat → Prop) : Nat → Nat → Nat → Prop
  | 0, u, v => E u v
  | k + 1, u, v => PW E k u v ∨ (PW E k u k ∧ PW E k k v)
theorem PW.up {E : Nat → Nat → Prop} {k u v : Nat} (h : PW E k u v) : PW E (k + 1) u v := .inl h
theorem PW.of {E : Nat → Nat → Prop} {u v : Nat} (h : E u v) : ∀ k, PW E k u v
  | 0 => h
  | k + 1 => .inl (PW.of h k)
theorem PW.via {E : Nat → Nat → Prop} : ∀ (k m u v : Nat), m < k → PW E k u m → PW E k m v → PW E k u v
  | 0, m, u, v, h, _, _ => absurd h (by omega)
  | k + 1, m, u, v, h, a, b => by
    by_cases e : m = k
    · subst e
      have a' : PW E m u m := a.elim id (fun q => q.1)
      have b' : PW E m m v := b.elim id (fun q => q.2)
      exact .inr ⟨a', b'⟩
    · have hm : m < k := by omega
      rcases a with a | ⟨a1, a2⟩
      · rcases b with b | ⟨b1, b2⟩
        · exact .inl (PW.via k m u v hm a b)
        · exact .inr ⟨PW.via k m u k hm a b1, b2⟩
      · rcases b with b | ⟨b1, b2⟩
        · exact .inr ⟨a1, PW.via k m k v hm a2 b⟩
        · exact .inr ⟨a1, b2⟩
theorem PW.all {E : Nat → Nat → Prop} {n u v : Nat} (hE : ∀ a b, E a b → a < n ∧ b < n) (h : TC E u v) : PW E n u v := by
  induction h with
  | one e => exact PW.of e n
  | more _ e ih => exact PW.via n _ _ _ (hE _ _ e).1 ih (PW.of e n)
/-- The matrix in the course of round kk: what it had at the round's begin is t0; 'done' is what has been gone through. -/
structure WS (E : Nat → Nat → Prop) (n kk : Nat) (t0 t : List (List Bool)) (done : Nat → Nat → Prop) : Prop where
  rows : t.length = n
  cols : ∀ u, u < n → (t.getD u []).length = n
  sound : ∀ u v, tg t u v = true → TC E u v
  mono : ∀ u v, tg t0 u v = true → tg t u v = true
  did : ∀ u v, u < n → v < n → done u v → (tg t0 u v = true ∨ (tg t0 u kk = true ∧ tg t0 kk v = true)) → tg t u v = true
/-- The matrix behind k rounds. -/
structure WK (E : Nat → Nat → Prop) (n kk : Nat) (t : List (List Bool)) : Prop where
  rows : t.length = n
  cols : ∀ u, u < n → (t.getD u []).length = n
  sound : ∀ u v, tg t u v = true → TC E u v
  full : ∀ u v, u < n → v < n → PW E kk u v → tg t u v = true
theorem getD_set_ {α : Type} (d : α) (l : List α) (i j : Nat) (x : α) : (l.set i x).getD j d = if i = j ∧ j < l.length then x else l.getD j d := by
  rw [List.getD_eq_getElem?_getD, List.getD_eq_getElem?_getD, List.getElem?_set]
  by_cases e : i = j
  · subst e
    by_cases h : i < l.length
    · rw [if_pos rfl, if_pos h, if_pos ⟨rfl, h⟩]; rfl
    · rw [if_pos rfl, if_neg h, if_neg (fun q => h q.2), List.getElem?_eq_none (by omega)]
  · rw [if_neg e, if_neg (fun q => e q.1)]
theorem tg_set (t : List (List Bool)) (u v a b : Nat) (c : Bool) (hu : u < t.length) (hv : v < (t.getD u []).length) : tg (t.set u ((t.getD u []).set v c)) a b = if a = u ∧ b = v then c else tg t a b := by
  unfold tg
  rw [getD_set_]
  by_cases e : u = a
  · subst e
    rw [if_pos ⟨rfl, hu⟩, gB_set]
    by_cases g : v = b
    · subst g; rw [if_pos ⟨rfl, hv⟩, if_pos ⟨rfl, rfl⟩]
    · rw [if_neg (fun q => g q.1), if_neg (fun q => g q.2.symm)]
  · rw [if_neg (fun q => e q.1), if_neg (fun q => e q.1.symm)]
theorem WS.put {E : Nat → Nat → Prop} {n kk u v : Nat} {t0 t : List (List Bool)} (h : WS E n kk t0 t (fun a b => a < u ∨ a = u ∧ b < v)) (hu : u < n) (hv : v < n) :
    WS E n kk t0 (t.set u ((t.getD u []).set v (tg t u v || (tg t u kk && tg t kk v)))) (fun a b => a < u ∨ a = u ∧ b < v + 1) := by
  have hu' : u < t.length := by rw [h.rows]; exact hu
  have hv' : v < (t.getD u []).length := by rw [h.cols u hu]; exact hv
  refine ⟨by rw [List.length_set, h.rows], fun a ha => ?_, fun a b q => ?_, fun a b q => ?_, fun a b ha hb hd q => ?_⟩
  · rw [getD_set_]
    by_cases e : u = a ∧ a < t.length
    · rw [if_pos e, List.length_set, h.cols u hu]
    · rw [if_neg e, h.cols a ha]
  · rw [tg_set t u v a b _ hu' hv'] at q
    by_cases e : a = u ∧ b = v
    · rw [if_pos e] at q
      obtain ⟨rfl, rfl⟩ := e
      rcases Bool.or_eq_true_iff.mp q with q | q
      · exact h.sound _ _ q
      · have := Bool.and_eq_true_iff.mp q
        exact TC.trans (h.sound _ _ this.1) (h.sound _ _ this.2)
    · rw [if_neg e] at q
      exact h.sound _ _ q
  · rw [tg_set t u v a b _ hu' hv']
    by_cases e : a = u ∧ b = v
    · rw [if_pos e]
      obtain ⟨rfl, rfl⟩ := e
      rw [h.mono _ _ q]; rfl
    · rw [if_neg e]; exact h.mono _ _ q
  · rw [tg_set t u v a b _ hu' hv']
    by_cases e : a = u ∧ b = v
    · rw [if_pos e]
      obtain ⟨rfl, rfl⟩ := e
      rcases q with q | ⟨q1, q2⟩
      · rw [h.mono _ _ q]; rfl
      · rw [h.mono _ _ q1, h.mono _ _ q2, Bool.true_and, Bool.or_true]
    · rw [if_neg e]
      refine h.did a b ha hb ?_ q
      rcases hd with hd | ⟨hd1, hd2⟩
      · exact .inl hd
      · exact .inr ⟨hd1, by have : b ≠ v := fun q => e ⟨hd1, q⟩; omega⟩
theorem rdL6 (t : List (List Bool)) (u : Nat) : rd_L6 t (u : Int) = t.getD u [] := by unfold rd_L6; rw [Int.toNat_natCast]
theorem rdB (o : List Bool) (j : Nat) : rdOf false o (j : Int) = gB o j := by unfold rdOf gB; rw [Int.toNat_natCast]
theorem paths_l2 (E : Nat → Nat → Prop) (g : List (List Int)) (n kk u : Nat) (hn : g.length = n) (hb : n ≤ 1000000) (hk : kk < n) (hu : u < n) (t0 : List (List Bool)) (Post : List (List Bool) → Prop)
    (hc : ∀ t, WS E n kk t0 t (fun a b => a < u + 1 ∨ a = u + 1 ∧ b < 0) → ∃ r, Ev (fun k => petrinetref07_Paths.l1 k g t (kk : Int) ((u + 1 : Nat) : Int)) r ∧ Post r) (m : Nat) :
    ∀ (t : List (List Bool)) (v : Nat), n - v = m → v ≤ n → WS E n kk t0 t (fun a b => a < u ∨ a = u ∧ b < v) → ∃ r, Ev (fun k => petrinetref07_Paths.l2 k g t (kk : Int) (u : Int) (v : Int)) r ∧ Post r := by
  induction m with
  | zero =>
    intro t v hm hv h
    obtain ⟨r, h1, h2⟩ := hc t ⟨h.rows, h.cols, h.sound, h.mono, fun a b ha hb' hd q => h.did a b ha hb' (by
      rcases hd with hd | hd
      · by_cases e : a = u
        · exact .inr ⟨e, by omega⟩
        · exact .inl (by omega)
      · omega) q⟩
    refine ⟨r, Ev.step (f := fun k => petrinetref07_Paths.l1 k g t (kk : Int) ((u + 1 : Nat) : Int)) (fun k => ?_) h1, h2⟩
    rw [petrinetref07_Paths.l2, if_neg (by omega), wrap_succ u (by omega)]
  | succ m ih =>
    intro t v hm hv h
    have hv' : v < n := by omega
    obtain ⟨r, h1, h2⟩ := ih _ (v + 1) (by omega) (by omega) (h.put hu hv')
    refine ⟨r, Ev.step (f := fun k => petrinetref07_Paths.l2 k g (t.set u ((t.getD u []).set v (tg t u v || (tg t u kk && tg t kk v)))) (kk : Int) (u : Int) ((v + 1 : Nat) : Int)) (fun k => ?_) h1, h2⟩
    have c1 := h.cols u hu
    have c2 := h.cols kk hk
    have c3 := h.rows
    rw [petrinetref07_Paths.l2, if_pos (by omega), if_pos (by omega), if_pos (by omega), if_pos (by omega), rdL6, rdL6, if_pos (by omega), rdB, rdB, rdB, wrap_succ v (by omega), Int.toNat_natCast, Int.toNat_natCast]
    have e1 : gB (t.getD u []) v = tg t u v := rfl
    have e2 : gB (t.getD u []) kk = tg t u kk := rfl
    have e3 : gB (t.getD kk []) v = tg t kk v := rfl
    rw [e1, e2, e3]
    by_cases q : tg t u v = true
    · rw [if_pos q, q, Bool.true_or]
    · rw [if_neg q, Bool.eq_false_iff.mpr q, Bool.false_or, if_pos (by omega), if_pos (by omega)]
      by_cases q2 : tg t u kk = true
      · rw [if_pos q2, q2, Bool.true_and, if_pos (by omega), if_pos (by omega)]
      · rw [if_neg q2, Bool.eq_false_iff.mpr q2, Bool.false_and]
theorem paths_l1 (E : Nat → Nat → Prop) (g : List (List Int)) (n kk : Nat) (hn : g.length = n) (hb : n ≤ 1000000) (hk : kk < n) (t0 : List (List Bool)) (Post : List (List Bool) → Prop)
    (hc : ∀ t, WS E n kk t0 t (fun _ _ => True) → ∃ r, Ev (fun k => petrinetref07_Paths.l0 k g t ((kk + 1 : Nat) : Int)) r ∧ Post r) (m : Nat) :
    ∀ (t : List (List Bool)) (u : Nat), n - u = m → u ≤ n → WS E n kk t0 t (fun a b => a < u ∨ a = u ∧ b < 0) → ∃ r, Ev (fun k => petrinetref07_Paths.l1 k g t (kk : Int) (u : Int)) r ∧ Post r := by
  induction m with
  | zero =>
    intro t u hm hu h
    obtain ⟨r, h1, h2⟩ := hc t ⟨h.rows, h.cols, h.sound, h.mono, fun a b ha hb' _ q => h.did a b ha hb' (.inl (by omega)) q⟩
    refine ⟨r, Ev.step (f := fun k => petrinetref07_Paths.l0 k g t ((kk + 1 : Nat) : Int)) (fun k => ?_) h1, h2⟩
    rw [petrinetref07_Paths.l1, if_neg (by omega), wrap_succ kk (by omega)]
  | succ m ih =>
    intro t u hm hu h
    obtain ⟨r, h1, h2⟩ := paths_l2 E g n kk u hn hb hk (by omega) t0 Post (fun t' h' => ih t' (u + 1) (by omega) (by omega) h') n t 0 rfl (by omega) h
    refine ⟨r, Ev.step (f := fun k => petrinetref07_Paths.l2 k g t (kk : Int) (u : Int) 0) (fun k => ?_) h1, h2⟩
    rw [petrinetref07_Paths.l1, if_pos (by omega)]
theorem paths_l0 (E : Nat → Nat → Prop) (g : List (List Int)) (n : Nat) (hn : g.length = n) (hb : n ≤ 1000000) (m : Nat) :
    ∀ (t : List (List Bool)) (kk : Nat), n - kk = m → kk ≤ n → WK E n kk t → ∃ r, Ev (fun k => petrinetref07_Paths.l0 k g t (kk : Int)) r ∧ WK E n n r := by
  induction m with
  | zero =>
    intro t kk hm hk h
    have e : kk = n := by omega
    subst e
    exact ⟨t, Ev.step (f := fun _ => some t) (fun k => by rw [petrinetref07_Paths.l0, if_neg (by omega)]) (Ev.now _), h⟩
  | succ m ih =>
    intro t kk hm hk h
    obtain ⟨r, h1, h2⟩ := paths_l1 E g n kk hn hb (by omega) t (WK E n n) (fun t' h' => ih t' (kk + 1) (by omega) (by omega) ⟨h'.rows, h'.cols, h'.sound, fun u v hu hv q => h'.did u v hu hv trivial (by
      rcases q with q | ⟨q1, q2⟩
      · exact .inl (h.full u v hu hv q)
      · exact .inr ⟨h.full u kk hu (by omega) q1, h.full kk v (by omega) hv q2⟩)⟩) n t 0 rfl (by omega) ⟨h.rows, h.cols, h.sound, fun _ _ q => q, fun a b _ _ hd _ => by omega⟩
    refine ⟨r, Ev.step (f := fun k => petrinetref07_Paths.l1 k g t (kk : Int) 0) (fun k => ?_) h1, h2⟩
    rw [petrinetref07_Paths.l0, if_pos (by omega)]
/-! The table of the edges. -/
def Eg (g : List (List Int)) (u v : Nat) : Prop := u < g.length ∧ v < g.length ∧ (v : Int) ∈ g.getD u []
theorem rdL4 (g : List (List Int)) (u : Nat) : rd_L4 g (u : Int) = g.getD u [] := by unfold rd_L4; rw [Int.toNat_natCast]
theorem table_l1 (g : List (List Int)) (hg : g.length ≤ 1000000) (t : List (List Bool)) (u : Nat) (hu : u < g.length) (hr : (g.getD u []).length ≤ 1000000000) (ht : t.length ≤ 1000000) (Post : List (List Bool) → Prop)
    (hc : ∀ row : List Bool, row.length = g.length → (∀ v, gB row v = true ↔ Eg g u v) → ∃ r, Ev (fun k => petrinetref07_Table.l0 k g (t ++ [row]) ((u + 1 : Nat) : Int)) r ∧ Post r) (m : Nat) :
    ∀ (row : List Bool) (i : Nat), (g.getD u []).length - i = m → i ≤ (g.getD u []).length → row.length = g.length → (∀ v, gB row v = true ↔ v < g.length ∧ (v : Int) ∈ (g.getD u []).take i) → ∃ r, Ev (fun k => petrinetref07_Table.l1 k g t (u : Int) row (i : Int)) r ∧ Post r := by
  induction m with
  | zero =>
    intro row i hm hi hl h
    obtain ⟨r, h1, h2⟩ := hc row hl (fun v => by
      rw [h v, List.take_of_length_le (by omega)]
      exact ⟨fun q => ⟨hu, q.1, q.2⟩, fun q => ⟨q.2.1, q.2.2⟩⟩)
    refine ⟨r, Ev.step (f := fun k => petrinetref07_Table.l0 k g (t ++ [row]) ((u + 1 : Nat) : Int)) (fun k => ?_) h1, h2⟩
    rw [petrinetref07_Table.l1, if_pos (by omega), if_pos (by omega), rdL4, if_neg (by omega), if_pos (by omega), wrap_succ u (by omega)]
  | succ m ih =>
    intro row i hm hi hl h
    have hil : i < (g.getD u []).length := by omega
    have etk : (g.getD u []).take (i + 1) = (g.getD u []).take i ++ [(g.getD u [])[i]] := by rw [List.take_succ_eq_append_getElem hil]
    by_cases c : 0 ≤ (g.getD u [])[i] ∧ (g.getD u [])[i] < (g.length : Int)
    · obtain ⟨x, hx⟩ := Int.eq_ofNat_of_zero_le c.1
      rw [hx] at c etk
      have hxl : x < row.length := by omega
      obtain ⟨r, h1, h2⟩ := ih (row.set x true) (i + 1) (by omega) (by omega) (by rw [List.length_set, hl]) (fun v => by
        rw [gB_set, etk, List.mem_append, List.mem_singleton]
        by_cases e : x = v
        · subst e
          rw [if_pos ⟨rfl, hxl⟩]
          exact ⟨fun _ => ⟨by omega, .inr rfl⟩, fun _ => rfl⟩
        · rw [if_neg (fun q => e q.1), h v]
          exact ⟨fun q => ⟨q.1, .inl q.2⟩, fun q => ⟨q.1, q.2.elim id (fun w => absurd (by omega : x = v) e)⟩⟩)
      refine ⟨r, Ev.step (f := fun k => petrinetref07_Table.l1 k g t (u : Int) (row.set x true) ((i + 1 : Nat) : Int)) (fun k => ?_) h1, h2⟩
      rw [petrinetref07_Table.l1, if_pos (by omega), if_pos (by omega), rdL4, if_pos (by omega), if_pos (by omega), rd_get _ i hil, hx, if_pos c.1, if_pos c.2, if_pos c.1, if_pos (by omega), wrap_succ i (by omega)]
      rfl
    · obtain ⟨r, h1, h2⟩ := ih row (i + 1) (by omega) (by omega) hl (fun v => by
        rw [etk, List.mem_append, List.mem_singleton, h v]
        exact ⟨fun q => ⟨q.1, .inl q.2⟩, fun q => ⟨q.1, q.2.elim id (fun w => absurd ⟨by omega, by omega⟩ c)⟩⟩)
      refine ⟨r, Ev.step (f := fun k => petrinetref07_Table.l1 k g t (u : Int) row ((i + 1 : Nat) : Int)) (fun k => ?_) h1, h2⟩
      rw [petrinetref07_Table.l1, if_pos (by omega), if_pos (by omega), rdL4, if_pos (by omega), if_pos (by omega), rd_get _ i hil, wrap_succ i (by omega)]
      by_cases c1 : (g.getD u [])[i] ≥ 0
      · rw [if_pos c1, if_neg (fun q => c ⟨c1, q⟩)]
      · rw [if_neg c1]
theorem table_l0 (g : List (List Int)) (hg : g.length ≤ 1000000) (hr : ∀ u, u < g.length → (g.getD u []).length ≤ 1000000000) (m : Nat) :
    ∀ (t : List (List Bool)) (u : Nat), g.length - u = m → u ≤ g.length → t.length = u → (∀ a, a < u → (t.getD a []).length = g.length) → (∀ a v, tg t a v = true ↔ a < u ∧ Eg g a v) →
    ∃ r, Ev (fun k => petrinetref07_Table.l0 k g t (u : Int)) r ∧ (r.length = g.length ∧ (∀ a, a < g.length → (r.getD a []).length = g.length) ∧ ∀ a v, tg r a v = true ↔ Eg g a v) := by
  induction m with
  | zero =>
    intro t u hm hu ht hl h
    refine ⟨t, Ev.step (f := fun _ => some t) (fun k => by rw [petrinetref07_Table.l0, if_neg (by omega)]) (Ev.now _), by omega, fun a ha => hl a (by omega), fun a v => ?_⟩
    rw [h a v]
    exact ⟨fun q => q.2, fun q => ⟨by have := q.1; omega, q⟩⟩
  | succ m ih =>
    intro t u hm hu ht hl h
    have hul : u < g.length := by omega
    have gd : ∀ (row : List Bool) (a : Nat), (t ++ [row]).getD a [] = if a = u then row else t.getD a [] := by
      intro row a
      rw [List.getD_eq_getElem?_getD, List.getD_eq_getElem?_getD, List.getElem?_append]
      by_cases e : a = u
      · subst e; rw [if_neg (by omega), if_pos rfl, ht, Nat.sub_self]; rfl
      · rw [if_neg e]
        by_cases q : a < t.length
        · rw [if_pos q]
        · rw [if_neg q, List.getElem?_eq_none (by simp; omega), List.getElem?_eq_none (by omega)]
    obtain ⟨r, h1, h2⟩ := table_l1 g hg t u hul (hr u hul) (by omega) (fun r => r.length = g.length ∧ (∀ a, a < g.length → (r.getD a []).length = g.length) ∧ ∀ a v, tg r a v = true ↔ Eg g a v)
      (fun row hrl hrow => ih (t ++ [row]) (u + 1) (by omega) (by omega) (by rw [List.length_append, List.length_singleton]; omega) (fun a ha => by
        rw [gd]
        by_cases e : a = u
        · rw [if_pos e, hrl]
        · rw [if_neg e]; exact hl a (by omega)) (fun a v => by
        unfold tg
        rw [gd]
        by_cases e : a = u
        · subst e; rw [if_pos rfl, hrow v]; exact ⟨fun q => ⟨by omega, q⟩, fun q => q.2⟩
        · rw [if_neg e]
          have := h a v
          unfold tg at this
          rw [this]
          exact ⟨fun q => ⟨by omega, q.2⟩, fun q => ⟨by omega, q.2⟩⟩)) _ (List.replicate g.length false) 0 rfl (by omega) List.length_replicate (fun v => by rw [gB_repl]; simp)
    refine ⟨r, Ev.step (f := fun k => petrinetref07_Table.l1 k g t (u : Int) (List.replicate g.length false) 0) (fun k => ?_) h1, h2⟩
    rw [petrinetref07_Table.l0, if_pos (by omega), if_pos (by omega), Int.toNat_natCast, if_pos (by omega)]
theorem paths_ev (g : List (List Int)) (hg : g.length ≤ 1000000) (hr : ∀ u, u < g.length → (g.getD u []).length ≤ 1000000000) : ∃ p, Ev (fun k => petrinetref07_Paths.f k g) p ∧ p.length = g.length ∧ (∀ u, u < g.length → (p.getD u []).length = g.length) ∧ ∀ u v, u < g.length → v < g.length → (tg p u v = true ↔ TC (Eg g) u v) := by
  obtain ⟨t, h1, h2, h3, h4⟩ := table_l0 g hg hr _ [] 0 rfl (by omega) rfl (fun a h => by omega) (fun a v => by
    constructor
    · intro q; unfold tg gB at q; simp at q
    · intro q; omega)
  obtain ⟨p, h5, h6⟩ := paths_l0 (Eg g) g g.length rfl hg _ t 0 rfl (by omega) ⟨h2, h3, fun u v q => .one ((h4 u v).mp q), fun u v _ _ q => (h4 u v).mpr q⟩
  refine ⟨p, ?_, h6.rows, h6.cols, fun u v hu hv => ⟨h6.sound u v, fun q => h6.full u v hu hv (PW.all (fun a b e => ⟨e.1, e.2.1⟩) q)⟩⟩
  unfold petrinetref07_Paths.f petrinetref07_Table.f
  exact Ev.bind h1 h5

theorem RC_iff (g : List (List Int)) (fr : List Int) (v : Nat) : RC g fr v ↔ ∃ s : Nat, (s : Int) ∈ fr ∧ s < g.length ∧ (v = s ∨ TC (Eg g) s v) := by
  constructor
  · intro h
    induction h with
    | base h1 h2 => exact ⟨_, h1, h2, .inl rfl⟩
    | @step u v h1 h2 h3 ih =>
      obtain ⟨s, h4, h5, h6⟩ := ih
      have hu : u < g.length := by
        rcases Nat.lt_or_ge u g.length with c | c
        · exact c
        · rw [List.getD_eq_getElem?_getD, List.getElem?_eq_none c] at h2; simp at h2
      rcases h6 with h6 | h6
      · subst h6; exact ⟨_, h4, h5, .inr (.one ⟨hu, h3, h2⟩)⟩
      · exact ⟨s, h4, h5, .inr (.more h6 ⟨hu, h3, h2⟩)⟩
  · rintro ⟨s, h1, h2, h3⟩
    have hs : RC g fr s := .base h1 h2
    rcases h3 with rfl | h3
    · exact hs
    · induction h3 with
      | one e => exact .step hs e.2.2 e.2.1
      | more _ e ih => exact .step ih e.2.2 e.2.1
theorem RC.lt {g : List (List Int)} {fr : List Int} {v : Nat} (h : RC g fr v) : v < g.length := by cases h <;> assumption
theorem rreach_l1 (g : List (List Int)) (hg : g.length ≤ 1000000) (fr : List Int) (hf : fr.length ≤ 1000000) (p : List (List Bool)) (hp : p.length = g.length) (hc : ∀ u, u < g.length → (p.getD u []).length = g.length) (i : Nat) (hi : i < fr.length) (s : Nat) (hs : fr[i] = (s : Int)) (hsl : s < g.length) (o0 : List Bool) (Post : List Bool → Prop)
    (hd : ∀ o : List Bool, o.length = g.length → (∀ v, gB o v = true ↔ v < g.length ∧ (gB o0 v = true ∨ v = s ∨ tg p s v = true)) → ∃ r, Ev (fun k => petrinetref07_Reach.l0 k g fr p o ((i + 1 : Nat) : Int)) r ∧ Post r) (m : Nat) :
    ∀ (o : List Bool) (v : Nat), g.length - v = m → v ≤ g.length → o.length = g.length → (∀ w, gB o w = true ↔ w < g.length ∧ (gB o0 w = true ∨ w = s ∨ (w < v ∧ tg p s w = true))) → ∃ r, Ev (fun k => petrinetref07_Reach.l1 k g fr p o (i : Int) (v : Int)) r ∧ Post r := by
  induction m with
  | zero =>
    intro o v hm hv hl h
    obtain ⟨r, h1, h2⟩ := hd o hl (fun w => by
      rw [h w]
      exact ⟨fun q => ⟨q.1, q.2.elim .inl (fun q => q.elim (fun q => .inr (.inl q)) (fun q => .inr (.inr q.2)))⟩, fun q => ⟨q.1, q.2.elim .inl (fun z => z.elim (fun z => .inr (.inl z)) (fun z => .inr (.inr ⟨by have := q.1; omega, z⟩)))⟩⟩)
    refine ⟨r, Ev.step (f := fun k => petrinetref07_Reach.l0 k g fr p o ((i + 1 : Nat) : Int)) (fun k => ?_) h1, h2⟩
    rw [petrinetref07_Reach.l1, if_neg (by omega), wrap_succ i (by omega)]
  | succ m ih =>
    intro o v hm hv hl h
    have hvl : v < o.length := by omega
    obtain ⟨r, h1, h2⟩ := ih (o.set v (gB o v || tg p s v)) (v + 1) (by omega) (by omega) (by rw [List.length_set, hl]) (fun w => by
      rw [gB_set]
      by_cases e : v = w
      · subst e
        rw [if_pos ⟨rfl, hvl⟩, Bool.or_eq_true_iff, h v]
        constructor
        · rintro (⟨a, b⟩ | b)
          · refine ⟨a, b.elim .inl (fun b => b.elim (fun b => .inr (.inl b)) (fun b => .inr (.inr ⟨by omega, b.2⟩)))⟩
          · exact ⟨by omega, .inr (.inr ⟨by omega, b⟩)⟩
        · rintro ⟨a, b | b | b⟩
          · exact .inl ⟨a, .inl b⟩
          · exact .inl ⟨a, .inr (.inl b)⟩
          · exact .inr b.2
      · rw [if_neg (fun q => e q.1), h w]
        constructor
        · rintro ⟨a, b | b | b⟩
          · exact ⟨a, .inl b⟩
          · exact ⟨a, .inr (.inl b)⟩
          · exact ⟨a, .inr (.inr ⟨by omega, b.2⟩)⟩
        · rintro ⟨a, b | b | b⟩
          · exact ⟨a, .inl b⟩
          · exact ⟨a, .inr (.inl b)⟩
          · exact ⟨a, .inr (.inr ⟨by omega, b.2⟩)⟩)
    refine ⟨r, Ev.step (f := fun k => petrinetref07_Reach.l1 k g fr p (o.set v (gB o v || tg p s v)) (i : Int) ((v + 1 : Nat) : Int)) (fun k => ?_) h1, h2⟩
    have c1 := hc s hsl
    rw [petrinetref07_Reach.l1, if_pos (by omega), if_pos (by omega), if_pos (by omega), rdB, wrap_succ v (by omega), Int.toNat_natCast]
    by_cases q : gB o v = true
    · rw [if_pos q, q, Bool.true_or]
    · rw [if_neg q, Bool.eq_false_iff.mpr q, Bool.false_or, if_pos (by omega), if_pos (by omega), rd_get fr i hi, hs, if_pos (by omega), if_pos (by omega), rdL6, if_pos (by omega), rdB]
      rfl
theorem rreach_l0 (g : List (List Int)) (hg : g.length ≤ 1000000) (fr : List Int) (hf : fr.length ≤ 1000000) (p : List (List Bool)) (hp : p.length = g.length) (hc : ∀ u, u < g.length → (p.getD u []).length = g.length) (hT : ∀ u v, u < g.length → v < g.length → (tg p u v = true ↔ TC (Eg g) u v)) (m : Nat) :
    ∀ (o : List Bool) (i : Nat), fr.length - i = m → i ≤ fr.length → o.length = g.length → (∀ w, gB o w = true ↔ RC g (fr.take i) w) → ∃ r, Ev (fun k => petrinetref07_Reach.l0 k g fr p o (i : Int)) r ∧ (r.length = g.length ∧ ∀ w, gB r w = true ↔ RC g fr w) := by
  induction m with
  | zero =>
    intro o i hm hi hl h
    refine ⟨o, Ev.step (f := fun _ => some o) (fun k => by rw [petrinetref07_Reach.l0, if_neg (by omega)]) (Ev.now _), hl, fun w => ?_⟩
    rw [h w, List.take_of_length_le (by omega)]
  | succ m ih =>
    intro o i hm hi hl h
    have hil : i < fr.length := by omega
    have etk : fr.take (i + 1) = fr.take i ++ [fr[i]] := by rw [List.take_succ_eq_append_getElem hil]
    by_cases c : 0 ≤ fr[i] ∧ fr[i] < (g.length : Int)
    · obtain ⟨s, hs⟩ := Int.eq_ofNat_of_zero_le c.1
      have hsl : s < g.length := by omega
      obtain ⟨r, h1, h2⟩ := rreach_l1 g hg fr hf p hp hc i hil s hs hsl o (fun r => r.length = g.length ∧ ∀ w, gB r w = true ↔ RC g fr w) (fun o' hl' h' => ih o' (i + 1) (by omega) (by omega) hl' (fun w => by
        rw [h' w, h w, RC_iff, RC_iff, etk]
        constructor
        · rintro ⟨a, ⟨z, b1, b2, b3⟩ | b | b⟩
          · exact ⟨z, List.mem_append_left _ b1, b2, b3⟩
          · exact ⟨s, List.mem_append_right _ (by rw [hs]; exact List.mem_singleton.2 rfl), hsl, .inl b⟩
          · exact ⟨s, List.mem_append_right _ (by rw [hs]; exact List.mem_singleton.2 rfl), hsl, .inr ((hT s w hsl a).mp b)⟩
        · rintro ⟨z, b1, b2, b3⟩
          have hw : w < g.length := by
            rcases b3 with rfl | b3
            · exact b2
            · cases b3 with
              | one e => exact e.2.1
              | more _ e => exact e.2.1
          refine ⟨hw, ?_⟩
          rcases List.mem_append.1 b1 with b1 | b1
          · exact .inl ⟨z, b1, b2, b3⟩
          · have : z = s := by have := List.mem_singleton.1 b1; omega
            subst this
            rcases b3 with b3 | b3
            · exact .inr (.inl b3)
            · exact .inr (.inr ((hT z w hsl hw).mpr b3)))) g.length (o.set s true) 0 rfl (by omega) (by rw [List.length_set, hl]) (fun w => by
        rw [gB_set]
        by_cases e : s = w
        · subst e; rw [if_pos ⟨rfl, by omega⟩]; exact ⟨fun _ => ⟨hsl, .inr (.inl rfl)⟩, fun _ => rfl⟩
        · rw [if_neg (fun q => e q.1)]
          constructor
          · intro q; exact ⟨by have := gB_lt q; omega, .inl q⟩
          · rintro ⟨_, q | q | q⟩
            · exact q
            · exact absurd q.symm e
            · exact absurd q.1 (by omega))
      refine ⟨r, Ev.step (f := fun k => petrinetref07_Reach.j1 k g fr p o (i : Int) false) (fun k => ?_) (Ev.step (f := fun k => petrinetref07_Reach.l1 k g fr p (o.set s true) (i : Int) 0) (fun k => ?_) h1), h2⟩
      · rw [petrinetref07_Reach.l0, if_pos (by omega), if_pos (by omega), rd_get fr i hil, if_neg (by omega), decide_eq_false (by omega)]
      · rw [petrinetref07_Reach.j1, if_neg (by simp), if_pos (by omega), if_pos (by omega), rd_get fr i hil, hs, if_pos (by omega), if_pos (by omega), Int.toNat_natCast]
    · obtain ⟨r, h1, h2⟩ := ih o (i + 1) (by omega) (by omega) hl (fun w => by
        rw [h w, RC_iff, RC_iff, etk]
        constructor
        · rintro ⟨z, b1, b2, b3⟩; exact ⟨z, List.mem_append_left _ b1, b2, b3⟩
        · rintro ⟨z, b1, b2, b3⟩
          refine ⟨z, (List.mem_append.1 b1).elim id (fun q => absurd ⟨?_, ?_⟩ c), b2, b3⟩
          · have := List.mem_singleton.1 q; omega
          · have := List.mem_singleton.1 q; omega)
      refine ⟨r, Ev.step (f := fun k => petrinetref07_Reach.j1 k g fr p o (i : Int) true) (fun k => ?_) (Ev.step (f := fun k => petrinetref07_Reach.l0 k g fr p o ((i + 1 : Nat) : Int)) (fun k => ?_) h1), h2⟩
      · rw [petrinetref07_Reach.l0, if_pos (by omega), if_pos (by omega), rd_get fr i hil]
        by_cases c1 : fr[i] < 0
        · rw [if_pos c1]
        · rw [if_neg c1, decide_eq_true (by omega)]
      · rw [petrinetref07_Reach.j1, if_pos rfl, wrap_succ i (by omega)]
theorem rreach_ev (g : List (List Int)) (hg : g.length ≤ 1000000) (hr : ∀ u, u < g.length → (g.getD u []).length ≤ 1000000000) (fr : List Int) (hf : fr.length ≤ 1000000) : ∃ o, Ev (fun k => petrinetref07_Reach.f k g fr) o ∧ o.length = g.length ∧ ∀ j, gB o j = true ↔ RC g fr j := by
  obtain ⟨p, h1, h2, h3, h4⟩ := paths_ev g hg hr
  obtain ⟨o, h5, h6, h7⟩ := rreach_l0 g hg fr hf p h2 h3 h4 _ (List.replicate g.length false) 0 rfl (by omega) List.length_replicate (fun w => by
    rw [gB_repl]
    constructor
    · intro q; simp at q
    · intro q
      rw [RC_iff] at q
      obtain ⟨_, q, _⟩ := q
      simp at q)
  refine ⟨o, ?_, h6, h7⟩
  unfold petrinetref07_Reach.f
  refine Ev.bind h1 ?_
  simp only [if_pos (show (0 : Int) ≤ (g.length : Int) by omega), Int.toNat_natCast, if_pos (show g.length ≤ 281474976710656 by omega)]
  exact h5
theorem marks_eq {a b : List Bool} (hl : a.length = b.length) (h : ∀ j, gB a j = true ↔ gB b j = true) : a = b := by
  apply List.ext_getElem hl
  intro i h1 h2
  have := h i
  unfold gB at this
  rw [List.getD_eq_getElem?_getD, List.getD_eq_getElem?_getD, List.getElem?_eq_getElem h1, List.getElem?_eq_getElem h2] at this
  rw [Bool.eq_iff_iff]
  exact this
/-- Both searches mark the same vertices. -/
theorem reach_both (g : List (List Int)) (hg : g.length ≤ 1000000) (hr : ∀ u, u < g.length → (g.getD u []).length ≤ 1000000000) (fr : List Int) (hf : fr.length ≤ 1000000) : ∃ o, Ev (fun k => digraph_Reach.f k g fr) o ∧ Ev (fun k => petrinetref07_Reach.f k g fr) o ∧ o.length = g.length ∧ ∀ j, gB o j = true ↔ RC g fr j := by
  obtain ⟨o, h1, h2, h3⟩ := dfs_ev g fr hg
  obtain ⟨o', h4, h5, h6⟩ := rreach_ev g hg hr fr hf
  have e : o = o' := marks_eq (by rw [h2, h5]) (fun j => by rw [h3, h6])
  subst e
  exact ⟨o, h1, h4, h2, h3⟩

/-! ### a valid system; its graph; Reachable -/
theorem ckArcs_ok (a : Int) (m : Nat) (l2 : List S44) : ∀ (n i : Nat), (ckArcs a m l2 n i).1 = 0 → ∀ j, i ≤ j → j < i + n → arcOk a m (gA l2 j) = true ∧ (0 < j → i < j ∨ 0 < i → arcBef (gA l2 (j - 1)) (gA l2 j) = true)
  | 0, i, _, j, h1, h2 => absurd h2 (by omega)
  | n + 1, i, h, j, h1, h2 => by
    rw [ckArcs] at h
    by_cases c : arcOk a m (rd_T44 l2 (i : Int)) = true
    · rw [if_pos c] at h
      by_cases e : i = 0
      · rw [if_pos e] at h
        subst e
        by_cases g : j = 0
        · subst g; exact ⟨c, fun q => absurd q (by omega)⟩
        · obtain ⟨h3, h4⟩ := ckArcs_ok a m l2 n 1 h j (by omega) (by omega)
          exact ⟨h3, fun q _ => h4 q (.inr (by omega))⟩
      · rw [if_neg e] at h
        by_cases b : arcBef (rd_T44 l2 ((i - 1 : Nat) : Int)) (rd_T44 l2 (i : Int)) = true
        · rw [if_pos b] at h
          by_cases g : j = i
          · subst g; exact ⟨c, fun _ _ => b⟩
          · obtain ⟨h3, h4⟩ := ckArcs_ok a m l2 n (i + 1) h j (by omega) (by omega)
            exact ⟨h3, fun q _ => h4 q (.inr (by omega))⟩
        · rw [if_neg b] at h; simp at h
    · rw [if_neg c] at h; simp at h
theorem ckNames_ok (l : List ByteArray) : ∀ (n i : Nat) (q : Int × Int), ckNames l n i = some q → q.1 ≠ 0
  | 0, i, q, h => by rw [ckNames] at h; simp at h
  | n + 1, i, q, h => by
    rw [ckNames] at h
    split at h
    · split at h
      · obtain rfl := Option.some.inj h; simp
      · exact ckNames_ok l n (i + 1) q h
    · obtain rfl := Option.some.inj h; simp
/-- What holds of a valid system. -/
structure VaP (a : Int) (l : List ByteArray) (l2 : List S44) : Prop where
  lo : 1 ≤ a
  hi : a ≤ 200
  ev : l.length ≤ 24
  nm : ckNames l l.length 0 = none
  arcs : ∀ x ∈ l2, 0 ≤ x.f0 ∧ x.f0 < a ∧ 0 ≤ x.f2 ∧ x.f2 < a ∧ 0 ≤ x.f1 ∧ x.f1 < (l.length : Int)
  asc : ∀ j, 0 < j → j < l2.length → arcBef (gA l2 (j - 1)) (gA l2 j) = true
theorem va_of {a : Int} {l : List ByteArray} {l2 : List S44} (h : vaB a l l2 = true) : VaP a l l2 := by
  unfold vaB ckS at h
  split at h
  · simp at h
  · rename_i c
    cases e : ckNames l l.length 0 with
    | some q =>
      rw [e] at h
      exact absurd (by simpa using h) (ckNames_ok l _ _ q e)
    | none =>
      rw [e] at h
      have h0 : (ckArcs a l.length l2 l2.length 0).1 = 0 := by simpa using h
      have ha := ckArcs_ok a l.length l2 l2.length 0 h0
      refine ⟨by omega, by omega, by omega, e, fun x hx => ?_, fun j h1 h2 => (ha j (by omega) (by omega)).2 h1 (.inl h1)⟩
      obtain ⟨j, hj, rfl⟩ := List.getElem_of_mem hx
      have := of_decide_eq_true (ha j (by omega) (by omega)).1
      unfold gA at this
      rw [rdT_get l2 j hj] at this
      exact this
def grF (g : List (List Int)) (x : S44) : List (List Int) := g.set x.f0.toNat (g.getD x.f0.toNat [] ++ [x.f2])
def grG (a : Int) (l2 : List S44) : List (List Int) := l2.foldl grF (List.replicate a.toNat [])
theorem grF_len (g : List (List Int)) (x : S44) : (grF g x).length = g.length := by unfold grF; rw [List.length_set]
theorem grL_len (l2 : List S44) : ∀ g, (l2.foldl grF g).length = g.length := by
  induction l2 with
  | nil => intro g; rfl
  | cons x r ih => intro g; rw [List.foldl_cons, ih, grF_len]
theorem grF_mem (g : List (List Int)) (x : S44) (hx : x.f0.toNat < g.length) (u : Nat) (y : Int) : y ∈ (grF g x).getD u [] ↔ y ∈ g.getD u [] ∨ (u = x.f0.toNat ∧ y = x.f2) := by
  unfold grF
  rw [getD_set_]
  by_cases e : x.f0.toNat = u
  · subst e
    rw [if_pos ⟨rfl, hx⟩, List.mem_append, List.mem_singleton]
    exact ⟨fun q => q.elim .inl (fun q => .inr ⟨rfl, q⟩), fun q => q.elim .inl (fun q => .inr q.2)⟩
  · rw [if_neg (fun q => e q.1)]
    exact ⟨.inl, fun q => q.elim id (fun q => absurd q.1.symm e)⟩
theorem grL_mem (l2 : List S44) : ∀ g, (∀ x ∈ l2, x.f0.toNat < g.length) → ∀ (u : Nat) (y : Int), y ∈ (l2.foldl grF g).getD u [] ↔ y ∈ g.getD u [] ∨ ∃ x ∈ l2, x.f0.toNat = u ∧ x.f2 = y := by
  induction l2 with
  | nil => intro g _ u y; simp
  | cons x r ih =>
    intro g hx u y
    rw [List.foldl_cons, ih (grF g x) (fun z hz => by rw [grF_len]; exact hx z (List.mem_cons_of_mem _ hz)), grF_mem g x (hx x List.mem_cons_self)]
    constructor
    · rintro ((h | ⟨h1, h2⟩) | ⟨z, h1, h2⟩)
      · exact .inl h
      · exact .inr ⟨x, List.mem_cons_self, h1.symm, h2.symm⟩
      · exact .inr ⟨z, List.mem_cons_of_mem _ h1, h2⟩
    · rintro (h | ⟨z, h1, h2, h3⟩)
      · exact .inl (.inl h)
      · rcases List.mem_cons.1 h1 with rfl | h1
        · exact .inl (.inr ⟨h2.symm, h3.symm⟩)
        · exact .inr ⟨z, h1, h2, h3⟩
theorem grG_len (a : Int) (l2 : List S44) : (grG a l2).length = a.toNat := by unfold grG; rw [grL_len, List.length_replicate]
theorem grG_mem {a : Int} {l : List ByteArray} {l2 : List S44} (h : VaP a l l2) (u : Nat) (y : Int) : y ∈ (grG a l2).getD u [] ↔ ∃ x ∈ l2, x.f0.toNat = u ∧ x.f2 = y := by
  unfold grG
  rw [grL_mem l2 _ (fun x hx => by rw [List.length_replicate]; have := h.arcs x hx; omega)]
  constructor
  · rintro (q | q)
    · rw [List.getD_eq_getElem?_getD, List.getElem?_replicate] at q
      split at q <;> simp at q
    · exact q
  · exact .inr
theorem grF_rows (g : List (List Int)) (x : S44) (m : Nat) (h : ∀ u : Nat, (g.getD u []).length ≤ m) (u : Nat) : ((grF g x).getD u []).length ≤ m + 1 := by
  unfold grF
  rw [getD_set_]
  split
  · rw [List.length_append, List.length_singleton]; have := h x.f0.toNat; omega
  · have := h u; omega
theorem grL_rows (l2 : List S44) : ∀ g m, (∀ u : Nat, (g.getD u []).length ≤ m) → ∀ u : Nat, ((l2.foldl grF g).getD u []).length ≤ m + l2.length := by
  induction l2 with
  | nil => intro g m h u; simpa using h u
  | cons x r ih => intro g m h u; rw [List.foldl_cons, List.length_cons]; have := ih (grF g x) (m + 1) (grF_rows g x m h) u; omega
theorem repl_rows (n : Nat) (u : Nat) : ((List.replicate n ([] : List Int)).getD u []).length ≤ 0 := by
  rw [List.getD_eq_getElem?_getD, List.getElem?_replicate]
  split <;> simp
theorem sgraph_l (l2 : List S44) (hl : l2.length ≤ 1000000) (A : Nat) (harc : ∀ x ∈ l2, 0 ≤ x.f0 ∧ x.f0.toNat < A) (r : Bool) (n : Nat) : ∀ (g : List (List Int)) (i : Nat), l2.length - i = n → i ≤ l2.length → g.length = A → (∀ u : Nat, (g.getD u []).length ≤ i) →
    Ev (fun k => (digraph_Reach.f k ((l2.drop i).foldl grF g) [0]).bind fun t => system_Reachable.l1 k t (t.length : Int) 0) r → Ev (fun k => system_Reachable.l0 k g l2 (l2.length : Int) (i : Int)) r := by
  induction n with
  | zero =>
    intro g i hn hi hA hr h
    rw [drop_end l2 i (by omega)] at h
    exact Ev.step (f := fun k => (digraph_Reach.f k g [0]).bind fun t => system_Reachable.l1 k t (t.length : Int) 0) (fun k => by rw [system_Reachable.l0, if_neg (by omega)]) h
  | succ n ih =>
    intro g i hn hi hA hr h
    have hil : i < l2.length := by omega
    obtain ⟨h0, h1⟩ := harc l2[i] (List.getElem_mem hil)
    obtain ⟨u, hu⟩ := Int.eq_ofNat_of_zero_le h0
    rw [drop_cons l2 i hil, List.foldl_cons] at h
    have hrow := hr u
    refine Ev.step (f := fun k => system_Reachable.l0 k (grF g l2[i]) l2 (l2.length : Int) ((i + 1 : Nat) : Int)) (fun k => ?_) (ih (grF g l2[i]) (i + 1) (by omega) (by omega) (by rw [grF_len, hA]) (grF_rows g _ i hr) h)
    rw [system_Reachable.l0, if_pos (by omega), if_pos (by omega), if_pos (by omega), rdT_get l2 i hil, if_pos h0, if_pos (by omega), hu, rdL4, if_pos (by omega), wrap_succ i (by omega), Int.toNat_natCast]
    unfold grF
    rw [hu, Int.toNat_natCast]
theorem rgraph_l (a : Int) (l : List ByteArray) (l2 : List S44) (hl : l2.length ≤ 1000000) (A : Nat) (harc : ∀ x ∈ l2, 0 ≤ x.f0 ∧ x.f0.toNat < A) (n : Nat) : ∀ (g : List (List Int)) (i : Nat), l2.length - i = n → i ≤ l2.length → g.length = A → (∀ u : Nat, (g.getD u []).length ≤ i) →
    Ev (fun k => petrinetref45_Graph.l0 k g (i : Int) a l l2) ((l2.drop i).foldl grF g) := by
  induction n with
  | zero =>
    intro g i hn hi hA hr
    rw [drop_end l2 i (by omega)]
    exact Ev.step (f := fun _ => some g) (fun k => by rw [petrinetref45_Graph.l0, if_neg (by omega)]) (Ev.now _)
  | succ n ih =>
    intro g i hn hi hA hr
    have hil : i < l2.length := by omega
    obtain ⟨h0, h1⟩ := harc l2[i] (List.getElem_mem hil)
    obtain ⟨u, hu⟩ := Int.eq_ofNat_of_zero_le h0
    rw [drop_cons l2 i hil, List.foldl_cons]
    have hrow := hr u
    refine Ev.step (f := fun k => petrinetref45_Graph.l0 k (grF g l2[i]) ((i + 1 : Nat) : Int) a l l2) (fun k => ?_) (ih (grF g l2[i]) (i + 1) (by omega) (by omega) (by rw [grF_len, hA]) (grF_rows g _ i hr))
    rw [petrinetref45_Graph.l0, if_pos (by omega), if_pos (by omega), rdT_get l2 i hil, if_pos h0, if_pos (by omega), hu, rdL4, if_pos (by omega), wrap_succ i (by omega), Int.toNat_natCast]
    unfold grF
    rw [hu, Int.toNat_natCast]
theorem sall_l (o : List Bool) (ho : o.length ≤ 1000000) (n : Nat) : ∀ i : Nat, o.length - i = n → i ≤ o.length → Ev (fun k => system_Reachable.l1 k o (o.length : Int) (i : Int)) ((o.drop i).all id) := by
  induction n with
  | zero =>
    intro i hn hi
    rw [drop_end o i (by omega)]
    exact Ev.step (f := fun _ => some true) (fun k => by rw [system_Reachable.l1, if_neg (by omega)]) (Ev.now _)
  | succ n ih =>
    intro i hn hi
    have hil : i < o.length := by omega
    rw [drop_cons o i hil, List.all_cons]
    by_cases c : o[i] = true
    · rw [c, id, Bool.true_and]
      exact Ev.step (f := fun k => system_Reachable.l1 k o (o.length : Int) ((i + 1 : Nat) : Int)) (fun k => by rw [system_Reachable.l1, if_pos (by omega), if_pos (by omega), if_pos (by omega), rdOf_get _ o i hil, if_pos c, wrap_succ i (by omega)]) (ih (i + 1) (by omega) (by omega))
    · rw [Bool.eq_false_iff.mpr c, id, Bool.false_and]
      exact Ev.step (f := fun _ => some false) (fun k => by rw [system_Reachable.l1, if_pos (by omega), if_pos (by omega), if_pos (by omega), rdOf_get _ o i hil, if_neg c]) (Ev.now _)
theorem rall_l (o : List Bool) (ho : o.length ≤ 1000000) (n : Nat) : ∀ i : Nat, o.length - i = n → i ≤ o.length → Ev (fun k => petrinetref45_Reachable.l0 k o (i : Int)) ((o.drop i).all id) := by
  induction n with
  | zero =>
    intro i hn hi
    rw [drop_end o i (by omega)]
    exact Ev.step (f := fun _ => some true) (fun k => by rw [petrinetref45_Reachable.l0, if_neg (by omega)]) (Ev.now _)
  | succ n ih =>
    intro i hn hi
    have hil : i < o.length := by omega
    rw [drop_cons o i hil, List.all_cons]
    by_cases c : o[i] = true
    · rw [c, id, Bool.true_and]
      exact Ev.step (f := fun k => petrinetref45_Reachable.l0 k o ((i + 1 : Nat) : Int)) (fun k => by rw [petrinetref45_Reachable.l0, if_pos (by omega), if_pos (by omega), rdOf_get _ o i hil, if_pos c, wrap_succ i (by omega)]) (ih (i + 1) (by omega) (by omega))
    · rw [Bool.eq_false_iff.mpr c, id, Bool.false_and]
      exact Ev.step (f := fun _ => some false) (fun k => by rw [petrinetref45_Reachable.l0, if_pos (by omega), if_pos (by omega), rdOf_get _ o i hil, if_neg c]) (Ev.now _)
theorem all_gB (o : List Bool) : o.all id = true ↔ ∀ j, j < o.length → gB o j = true := by
  rw [List.all_eq_true]
  constructor
  · intro h j hj
    unfold gB
    rw [List.getD_eq_getElem?_getD, List.getElem?_eq_getElem hj]
    exact h _ (List.getElem_mem hj)
  · intro h x hx
    obtain ⟨j, hj, rfl⟩ := List.getElem_of_mem hx
    have := h j hj
    unfold gB at this
    rw [List.getD_eq_getElem?_getD, List.getElem?_eq_getElem hj] at this
    exact this
/-- Reachable, on both sides. -/
theorem reachable_both (a : Int) (l : List ByteArray) (l2 : List S44) (hl : l2.length ≤ 1000000) : ∃ b, Ev (fun k => system_Reachable.f k a l l2) b ∧ Ev (fun k => petrinetref45_Reachable.f k a l l2) b ∧ (b = true ↔ vaB a l l2 = true ∧ ∀ v, v < a.toNat → RC (grG a l2) [0] v) := by
  unfold system_Reachable.f petrinetref45_Reachable.f
  by_cases c : vaB a l l2 = true
  · have va := va_of c
    have h1 := va.lo
    have h2 := va.hi
    have harc : ∀ x ∈ l2, 0 ≤ x.f0 ∧ x.f0.toNat < a.toNat := fun x hx => by have := va.arcs x hx; omega
    have hrows : ∀ u : Nat, ((grG a l2).getD u []).length ≤ 0 + l2.length := grL_rows l2 _ 0 (repl_rows _)
    obtain ⟨o, h3, h4, h5, h6⟩ := reach_both (grG a l2) (by rw [grG_len]; omega) (fun u _ => by have := hrows u; omega) [0] (by simp)
    have ho : o.length ≤ 1000000 := by rw [h5, grG_len]; omega
    refine ⟨o.all id, Ev.bind (svalid_ev a l l2 hl) ?_, Ev.bind (rvalid_ev a l l2 hl) ?_, ?_⟩
    · simp only [if_pos c, if_pos (show (0 : Int) ≤ a by omega), if_pos (show a.toNat ≤ 11728124029610 by omega)]
      have := sgraph_l l2 hl a.toNat harc (o.all id) _ (List.replicate a.toNat []) 0 rfl (by omega) List.length_replicate (fun u => repl_rows _ u) (by
        rw [List.drop_zero]
        exact Ev.bind h3 (by simpa using sall_l o ho _ 0 rfl (by omega)))
      exact this
    · simp only [if_pos c]
      refine Ev.bind (g := fun k => petrinetref45_Graph.f k a l l2) (a := grG a l2) ?_ (Ev.bind h4 (by simpa using rall_l o ho _ 0 rfl (by omega)))
      unfold petrinetref45_Graph.f
      simp only [if_pos (show (0 : Int) ≤ a by omega), if_pos (show a.toNat ≤ 11728124029610 by omega)]
      have := rgraph_l a l l2 hl a.toNat harc _ (List.replicate a.toNat []) 0 rfl (by omega) List.length_replicate (fun u => repl_rows _ u)
      rw [List.drop_zero] at this
      exact this
    · rw [all_gB, h5, grG_len]
      exact ⟨fun q => ⟨c, fun v hv => (h6 v).mp (q v hv)⟩, fun q v hv => (h6 v).mpr (q.2 v hv)⟩
  · refine ⟨false, Ev.bind (svalid_ev a l l2 hl) ?_, Ev.bind (rvalid_ev a l l2 hl) ?_, ?_⟩
    · simp only [if_neg c]; exact Ev.now _
    · simp only [if_neg c]; exact Ev.now _
    · exact ⟨fun q => by simp at q, fun q => absurd q.1 c⟩
end Go.Proofs.Ytcnliampiibpbaa.Plain
