/- Plain laws over the printed functions: what each comes to. No condition but the ones written. -/
import Derived.Test.YtoobmfofkeaibaaDoorMaxB
import Derived.Test.YtoobmfofkeaibaaDoorPMaxx8
import Derived.Test.YtoobmfofkeaibaaDoorPMaxx7
namespace Go.Proofs.YtoobmfofkeaibaaDoor.Plain
open Go Go.RowKit Go.Proofs.YtoobmfofkeaibaaDoor.PMax Go.Proofs.YtoobmfofkeaibaaDoorW.PrintWords Go.Proofs.YtoobmfofkeaibaaDoorW.PrintLast Go.Proofs.YtoobmfofkeaibaaDoorW.PrintMore
set_option linter.unusedVariables false
/-! ### the specification's maximal elements -/
theorem same_ev (a b : List Int) (ha : a.length ≤ 17592186044416) : Ev (fun k => petrinetref04_Same.f k a b) (decide (a = b)) := ⟨a.length + 1, fun k hk => same_is a b (by omega) k (by omega)⟩
theorem copy_ev (a : List Int) (ha : a.length ≤ 17592186044416) : Ev (fun k => petrinetref04_Copy.f k a) a := ⟨a.length + 1, fun k hk => rcopy_is a ha k (by omega)⟩
theorem bfr_l (a b : List Int) (hab : a.length = b.length) (ha : inW a = true) (hb : inW b = true) (hl : a.length ≤ 17592186044416) (n : Nat) : ∀ i : Nat, a.length - i = n → i ≤ a.length → Ev (fun k => petrinetref05_before.l0 k a b (i : Int)) (decide (cmpL ((a.drop i).map rankE) ((b.drop i).map rankE) < 0)) := by
  induction n with
  | zero =>
    intro i hn hi
    rw [drop_end a i (by omega), drop_end b i (by omega)]
    exact Ev.step (fun k => by rw [petrinetref05_before.l0, if_neg (by omega)]; rfl) (Ev.now _)
  | succ n ih =>
    intro i hn hi
    have h1 : i < a.length := by omega
    have h2 : i < b.length := by omega
    have m := more_is b[i] a[i] ((inW_iff b).1 hb _ (List.getElem_mem h2)) ((inW_iff a).1 ha _ (List.getElem_mem h1))
    have r1 := (inW_iff a).1 ha _ (List.getElem_mem h1)
    have r2 := (inW_iff b).1 hb _ (List.getElem_mem h2)
    rw [drop_cons a i h1, drop_cons b i h2, List.map_cons, List.map_cons, cmpL]
    by_cases c : a[i] = b[i]
    · rw [c, if_neg (by omega), if_neg (by omega)]
      exact Ev.step (fun k => by rw [petrinetref05_before.l0, if_pos (by omega), if_pos (by omega), if_pos (by omega), rd_get a i h1, rd_get b i h2, if_pos c, wrap_succ i (by omega)]) (ih (i + 1) (by omega) (by omega))
    · refine Ev.step (f := fun _ => some (decide (rankE a[i] < rankE b[i]))) (fun k => by rw [petrinetref05_before.l0, if_pos (by omega), if_pos (by omega), if_pos (by omega), rd_get a i h1, rd_get b i h2, if_neg c, m]; rfl) ?_
      by_cases d : rankE a[i] < rankE b[i]
      · rw [if_pos d, decide_eq_true d]; exact Ev.now _
      · have e : rankE a[i] > rankE b[i] := by unfold rankE at d ⊢; split at d <;> split at d <;> split <;> omega
        rw [if_neg d, if_pos e, decide_eq_false d]; exact Ev.now _
theorem bfr_ev (a b : List Int) (hab : a.length = b.length) (ha : inW a = true) (hb : inW b = true) (hl : a.length ≤ 17592186044416) : Ev (fun k => petrinetref05_before.f k a b) (decide (cmpW a b < 0)) := by
  unfold petrinetref05_before.f
  have h := bfr_l a b hab ha hb hl _ 0 rfl (by omega)
  rw [List.drop_zero, List.drop_zero] at h
  exact h
/-- Is an element kept: the flag behind the elements from place k on. -/
def kpF (m : List Int) (i : Nat) : Nat → List (List Int) → Bool → Bool
  | _, [], b => b
  | k, x :: r, b => kpF m i (k + 1) r (if m = x then (if k < i then false else b) else if leqW m x = true then false else b)
def insR (m : List Int) : List (List Int) → Bool → List (List Int)
  | [], put => if put = true then [] else [m]
  | e :: r, put => if put = true then e :: insR m r true else if cmpW m e < 0 then m :: e :: insR m r true else e :: insR m r false
theorem insR_true (m : List Int) : ∀ l, insR m l true = l
  | [] => rfl
  | e :: r => by rw [insR, if_pos rfl, insR_true m r]
theorem insR_len (m : List Int) : ∀ (l : List (List Int)) (b : Bool), (insR m l b).length ≤ l.length + 1
  | [], b => by unfold insR; split <;> simp
  | e :: r, b => by
    unfold insR
    split
    · have := insR_len m r true; simp; omega
    · split
      · rw [insR_true]; simp
      · have := insR_len m r false; simp; omega
/-- All valid, of one length. -/
def Even (X : List (List Int)) : Prop := ∃ d, ∀ x ∈ X, inW x = true ∧ x.length = d ∧ d ≤ 17592186044416
section
variable (X : List (List Int)) (hX : X.length ≤ 900) (d : Nat) (hd : d ≤ 17592186044416) (hE : ∀ x ∈ X, inW x = true ∧ x.length = d) (i : Nat) (hi : i < X.length) (out : List (List Int)) (ho : out.length ≤ 900) (hO : ∀ x ∈ out, inW x = true ∧ x.length = d) (R : List (List Int))
include hX hd hE hi ho hO
theorem rl2 (n : Nat) : ∀ (q : Nat) (nx : List (List Int)) (put : Bool), out.length - q = n → q ≤ out.length → nx.length ≤ q + put.toNat → Ev (fun k => petrinetref05_Maximal.l0 k X (nx ++ insR X[i] (out.drop q) put) ((i + 1 : Nat) : Int)) R →
    Ev (fun k => petrinetref05_Maximal.l2 k X out (i : Int) nx put (q : Int)) R := by
  have hm := hE _ (List.getElem_mem hi)
  have hml : X[i].length ≤ 17592186044416 := by omega
  induction n with
  | zero =>
    intro q nx put hn hq hx h
    rw [drop_end out q (by omega), insR] at h
    cases put with
    | true => rw [if_pos rfl, List.append_nil] at h; exact Ev.step (fun k => by rw [petrinetref05_Maximal.l2, if_neg (by omega), if_pos rfl, wrap_succ i (by omega)]) h
    | false =>
      rw [if_neg (by simp)] at h
      rw [Bool.toNat_false] at hx
      refine Ev.step (fun k => by rw [petrinetref05_Maximal.l2, if_neg (by omega), if_neg (by simp), if_pos (by omega), if_pos (by omega), rdL_get X i hi, wrap_succ i (by omega)]) (Ev.bind (copy_ev _ hml) (Ev.congr (fun k => by rw [if_pos (by omega)]) h))
  | succ n ih =>
    intro q nx put hn hq hx h
    have c : q < out.length := by omega
    have he := hO _ (List.getElem_mem c)
    rw [drop_cons out q c, insR] at h
    cases put with
    | true =>
      rw [if_pos rfl] at h
      rw [Bool.toNat_true] at hx
      refine Ev.step (fun k => by rw [petrinetref05_Maximal.l2, if_pos (by omega), if_pos rfl, if_pos (by omega), if_pos (by omega), rdL_get out q c, wrap_succ q (by omega)]) (ih (q + 1) _ true (by omega) (by omega) (by simp; omega) ?_)
      rw [List.append_assoc]; exact h
    | false =>
      rw [if_neg (by simp)] at h
      rw [Bool.toNat_false] at hx
      refine Ev.step (fun k => by rw [petrinetref05_Maximal.l2, if_pos (by omega), if_neg (by simp), if_pos (by omega), if_pos (by omega), if_pos (by omega), rdL_get X i hi, rdL_get out q c, wrap_succ q (by omega)]) (Ev.bind (bfr_ev _ _ (by omega) hm.1 he.1 hml) ?_)
      by_cases z : cmpW X[i] out[q] < 0
      · rw [if_pos z] at h
        simp only [decide_eq_true z, if_true]
        refine Ev.bind (copy_ev _ hml) (Ev.congr (fun k => by rw [if_pos (by omega), Option.bind_some, if_pos (by simp; omega)]) (ih (q + 1) _ true (by omega) (by omega) (by simp; omega) ?_))
        rw [List.append_assoc, List.append_assoc]; exact h
      · rw [if_neg z] at h
        simp only [decide_eq_false z, Bool.false_eq_true, if_false]
        refine Ev.congr (fun k => by rw [if_pos (by omega)]) (ih (q + 1) _ false (by omega) (by omega) (by simp; omega) ?_)
        rw [List.append_assoc]; exact h
theorem rl1 (n : Nat) : ∀ (q : Nat) (b : Bool), X.length - q = n → q ≤ X.length → Ev (fun k => petrinetref05_Maximal.l0 k X (if kpF X[i] i q (X.drop q) b = true then insR X[i] out false else out) ((i + 1 : Nat) : Int)) R →
    Ev (fun k => petrinetref05_Maximal.l1 k X out (i : Int) b (q : Int)) R := by
  have hm := hE _ (List.getElem_mem hi)
  have hml : X[i].length ≤ 17592186044416 := by omega
  induction n with
  | zero =>
    intro q b hn hq h
    rw [drop_end X q (by omega), kpF] at h
    cases b with
    | true =>
      rw [if_pos rfl] at h
      exact Ev.step (fun k => by rw [petrinetref05_Maximal.l1, if_neg (by omega), if_pos rfl]; rfl) (rl2 X hX d hd hE i hi out ho hO R _ 0 [] false rfl (by omega) (by simp) (by simpa using h))
    | false =>
      rw [if_neg (by simp)] at h
      exact Ev.step (fun k => by rw [petrinetref05_Maximal.l1, if_neg (by omega), if_neg (by simp), wrap_succ i (by omega)]) h
  | succ n ih =>
    intro q b hn hq h
    have c : q < X.length := by omega
    have he := hE _ (List.getElem_mem c)
    rw [drop_cons X q c, kpF] at h
    refine Ev.step (fun k => by rw [petrinetref05_Maximal.l1, if_pos (by omega), if_pos (by omega), if_pos (by omega), if_pos (by omega), rdL_get X i hi, rdL_get X q c, wrap_succ q (by omega)]) (Ev.bind (same_ev _ _ hml) ?_)
    by_cases s : X[i] = X[q]
    · rw [if_pos s] at h
      simp only [decide_eq_true s, if_true]
      by_cases j : q < i
      · rw [if_pos j] at h
        exact Ev.congr (fun k => by rw [if_pos (by omega)]) (ih (q + 1) _ (by omega) (by omega) h)
      · rw [if_neg j] at h
        exact Ev.congr (fun k => by rw [if_neg (by omega)]) (ih (q + 1) _ (by omega) (by omega) h)
    · rw [if_neg s] at h
      simp only [decide_eq_false s, Bool.false_eq_true, if_false]
      refine Ev.bind (wleq_ev _ _ hml (by omega)) ?_
      by_cases j : leqW X[i] X[q] = true
      · rw [if_pos j] at h
        exact Ev.congr (fun k => by rw [if_pos j]) (ih (q + 1) _ (by omega) (by omega) h)
      · rw [if_neg j] at h
        exact Ev.congr (fun k => by rw [if_neg j]) (ih (q + 1) _ (by omega) (by omega) h)
end
/-! ### both are one -/
theorem rank_inj {x y : Int} (hx : x = -1 ∨ (0 ≤ x ∧ x ≤ 1048576)) (hy : y = -1 ∨ (0 ≤ y ∧ y ≤ 1048576)) (h : rankE x = rankE y) : x = y := by
  unfold rankE at h; split at h <;> split at h <;> omega
theorem ranks_inj : ∀ a b : List Int, inW a = true → inW b = true → a.map rankE = b.map rankE → a = b
  | [], [], _, _, _ => rfl
  | [], _ :: _, _, _, h => by cases h
  | _ :: _, [], _, _, h => by cases h
  | x :: a, y :: b, ha, hb, h => by
    rw [inW_cons, Bool.and_eq_true, decide_eq_true_iff] at ha hb
    rw [List.map_cons, List.map_cons, List.cons.injEq] at h
    rw [rank_inj ha.1 hb.1 h.1, ranks_inj a b ha.2 hb.2 h.2]
theorem leqW_anti {a b : List Int} (h : leqW a b = true) (g : leqW b a = true) : a = b := by
  obtain ⟨_, ha, hb, h1⟩ := (leqW_iff a b).1 h
  obtain ⟨_, _, _, h2⟩ := (leqW_iff b a).1 g
  exact ranks_inj a b ha hb (leqL_anti _ _ h1 h2)
theorem leqW_refl {a : List Int} (h : inW a = true) : leqW a a = true := (leqW_iff a a).2 ⟨rfl, h, h, leqL_refl _⟩
theorem blB_iff (m x : List Int) : blB m x = true ↔ m ≠ x ∧ leqW m x = true := by
  unfold blB
  rw [Bool.and_eq_true, Bool.not_eq_true']
  constructor
  · rintro ⟨h, g⟩
    refine ⟨?_, h⟩
    rintro rfl
    rw [h] at g; cases g
  · rintro ⟨h, g⟩
    refine ⟨g, ?_⟩
    rw [Bool.eq_false_iff]
    exact fun q => h (leqW_anti g q)
theorem cmpW_zero {a b : List Int} (ha : inW a = true) (hb : inW b = true) : cmpW a b = 0 ↔ a = b := by
  unfold cmpW
  rw [cmpL_zero]
  exact ⟨ranks_inj a b ha hb, fun e => by rw [e]⟩
theorem cmpW_anti (a b : List Int) : cmpW b a = -cmpW a b := cmpL_anti _ _
theorem cmpW_lt {a b c : List Int} (ha : inW a = true) (hb : inW b = true) (hc : inW c = true) (h : cmpW a b < 0) (g : cmpW b c < 0) : cmpW a c < 0 := by
  have h1 : cmpW a c ≤ 0 := cmpL_trans _ _ _ (Int.le_of_lt h) (Int.le_of_lt g)
  rcases Int.lt_or_eq_of_le h1 with h2 | h2
  · exact h2
  · have := (cmpW_zero ha hc).1 h2
    subst this
    have h3 := cmpW_anti a b
    omega
theorem kpF_iff (m : List Int) (i : Nat) : ∀ (r : List (List Int)) (k : Nat) (b : Bool), kpF m i k r b = true ↔ b = true ∧ ∀ j x, r[j]? = some x → ¬ (m = x ∧ k + j < i) ∧ ¬ (m ≠ x ∧ leqW m x = true)
  | [], k, b => by simp [kpF]
  | x :: r, k, b => by
    rw [kpF, kpF_iff m i r (k + 1)]
    constructor
    · rintro ⟨h, g⟩
      have hb : b = true ∧ ¬ (m = x ∧ k < i) ∧ ¬ (m ≠ x ∧ leqW m x = true) := by
        by_cases s : m = x
        · rw [if_pos s] at h
          by_cases j : k < i
          · rw [if_pos j] at h; cases h
          · rw [if_neg j] at h; exact ⟨h, fun q => j q.2, fun q => q.1 s⟩
        · rw [if_neg s] at h
          by_cases j : leqW m x = true
          · rw [if_pos j] at h; cases h
          · rw [if_neg j] at h; exact ⟨h, fun q => s q.1, fun q => j q.2⟩
      refine ⟨hb.1, fun j y hj => ?_⟩
      cases j with
      | zero => rw [List.getElem?_cons_zero, Option.some.injEq] at hj; subst hj; exact hb.2
      | succ j => rw [List.getElem?_cons_succ] at hj; have := g j y hj; rw [show k + 1 + j = k + (j + 1) by omega] at this; exact this
    · rintro ⟨h, g⟩
      have h0 := g 0 x rfl
      refine ⟨?_, fun j y hj => ?_⟩
      · by_cases s : m = x
        · rw [if_pos s, if_neg (fun q => h0.1 ⟨s, by omega⟩)]; exact h
        · rw [if_neg s, if_neg (fun q => h0.2 ⟨s, q⟩)]; exact h
      · have := g (j + 1) y (by rw [List.getElem?_cons_succ]; exact hj)
        rw [show k + (j + 1) = k + 1 + j by omega] at this; exact this
theorem keep_iff (X : List (List Int)) (i : Nat) (hi : i < X.length) : kpF X[i] i 0 X true = true ↔ X[i] ∉ X.take i ∧ X.any (blB X[i]) = false := by
  rw [kpF_iff]
  constructor
  · rintro ⟨_, h⟩
    refine ⟨fun q => ?_, ?_⟩
    · obtain ⟨j, hj, e⟩ := List.getElem_of_mem q
      have hj' : j < i := by rw [List.length_take] at hj; omega
      rw [List.getElem_take] at e
      exact (h j X[j] (List.getElem?_eq_getElem (by omega))).1 ⟨e.symm, by omega⟩
    · rw [List.any_eq_false]
      intro x hx q
      obtain ⟨j, hj, rfl⟩ := List.getElem_of_mem hx
      exact (h j _ (List.getElem?_eq_getElem hj)).2 ((blB_iff _ _).1 q)
  · rintro ⟨h, g⟩
    refine ⟨rfl, fun j x hj => ⟨fun q => ?_, fun q => ?_⟩⟩
    · obtain ⟨hjl, rfl⟩ := List.getElem?_eq_some_iff.1 hj
      refine h ?_
      rw [q.1]
      exact List.mem_iff_getElem.2 ⟨j, by rw [List.length_take]; omega, by rw [List.getElem_take]⟩
    · obtain ⟨hjl, rfl⟩ := List.getElem?_eq_some_iff.1 hj
      exact (List.any_eq_false.1 g) _ (List.getElem_mem hjl) ((blB_iff _ _).2 q)
/-- In order, each once. -/
def Srt (l : List (List Int)) : Prop := l.Pairwise (fun a b => cmpW a b < 0)
theorem ins_same (m : List Int) (hm : inW m = true) : ∀ l : List (List Int), (∀ x ∈ l, inW x = true) → m ∉ l → insO m l = insR m l false
  | [], _, _ => rfl
  | e :: r, hv, hn => by
    have he : ¬ cmpW e m = 0 := fun q => hn (by rw [(cmpW_zero (hv e List.mem_cons_self) hm).1 q]; exact List.mem_cons_self)
    have ha := cmpW_anti e m
    simp only [insO, insR, Bool.false_eq_true, if_false]
    by_cases c : cmpW e m < 0
    · rw [if_pos c, if_neg (show ¬ cmpW m e < 0 by omega), ins_same m hm r (fun x hx => hv x (List.mem_cons_of_mem _ hx)) (fun q => hn (List.mem_cons_of_mem _ q))]
    · rw [if_neg c, if_neg he, if_pos (show cmpW m e < 0 by omega), insR_true]
theorem ins_there (m : List Int) : ∀ l : List (List Int), (∀ x ∈ l, inW x = true) → Srt l → m ∈ l → insO m l = l
  | [], _, _, h => by cases h
  | e :: r, hv, hs, h => by
    rw [insO]
    rcases List.mem_cons.1 h with q | q
    · have hz : cmpW e m = 0 := by rw [q]; exact (cmpW_zero (hv e List.mem_cons_self) (hv e List.mem_cons_self)).2 rfl
      rw [if_neg (by omega), if_pos hz]
    · have hlt : cmpW e m < 0 := (List.pairwise_cons.1 hs).1 m q
      rw [if_pos hlt, ins_there m r (fun x hx => hv x (List.mem_cons_of_mem _ hx)) (List.pairwise_cons.1 hs).2 q]
theorem ins_mem' (m : List Int) (hm : inW m = true) : ∀ l : List (List Int), (∀ x ∈ l, inW x = true) → ∀ x, x ∈ insO m l ↔ x = m ∨ x ∈ l
  | [], _, x => by simp [insO]
  | e :: r, hv, x => by
    rw [insO]
    by_cases c : cmpW e m < 0
    · rw [if_pos c, List.mem_cons, ins_mem' m hm r (fun x hx => hv x (List.mem_cons_of_mem _ hx)), List.mem_cons]
      constructor
      · rintro (q | q | q)
        · exact .inr (.inl q)
        · exact .inl q
        · exact .inr (.inr q)
      · rintro (q | q | q)
        · exact .inr (.inl q)
        · exact .inl q
        · exact .inr (.inr q)
    · rw [if_neg c]
      by_cases z : cmpW e m = 0
      · have := (cmpW_zero (hv e List.mem_cons_self) hm).1 z
        subst this
        rw [if_pos z]
        constructor
        · exact fun q => .inr q
        · rintro (q | q)
          · rw [q]; exact List.mem_cons_self
          · exact q
      · rw [if_neg z, List.mem_cons]
theorem ins_srt (m : List Int) (hm : inW m = true) : ∀ l : List (List Int), (∀ x ∈ l, inW x = true) → Srt l → Srt (insO m l)
  | [], _, _ => by simp [insO, Srt]
  | e :: r, hv, hs => by
    have hr := List.pairwise_cons.1 hs
    have hv' : ∀ x ∈ r, inW x = true := fun x hx => hv x (List.mem_cons_of_mem _ hx)
    have he := hv e List.mem_cons_self
    have ha := cmpW_anti e m
    rw [insO]
    by_cases c : cmpW e m < 0
    · rw [if_pos c]
      refine List.pairwise_cons.2 ⟨fun x hx => ?_, ins_srt m hm r hv' hr.2⟩
      rcases (ins_mem' m hm r hv' x).1 hx with q | q
      · rw [q]; exact c
      · exact hr.1 x q
    · rw [if_neg c]
      by_cases z : cmpW e m = 0
      · rw [if_pos z]; exact hs
      · rw [if_neg z]
        refine List.pairwise_cons.2 ⟨fun x hx => ?_, hs⟩
        have hme : cmpW m e < 0 := by omega
        rcases List.mem_cons.1 hx with q | q
        · rw [q]; exact hme
        · exact cmpW_lt hm he (hv' x q) hme (hr.1 x q)
/-- What is known of the elements found so far. -/
structure Inv (X : List (List Int)) (i : Nat) (out : List (List Int)) : Prop where
  srt : Srt out
  mem : ∀ m, m ∈ out ↔ m ∈ X.take i ∧ X.any (blB m) = false
theorem Inv.step {X out : List (List Int)} {i : Nat} (hv : ∀ x ∈ X, inW x = true) (hi : i < X.length) (h : Inv X i out) : Inv X (i + 1) (stepO X out X[i]) ∧ stepO X out X[i] = if kpF X[i] i 0 X true = true then insR X[i] out false else out := by
  have hvo : ∀ x ∈ out, inW x = true := fun x hx => hv x (List.mem_of_mem_take ((h.mem x).1 hx).1)
  have hm := hv _ (List.getElem_mem hi)
  have ht : ∀ m, m ∈ X.take (i + 1) ↔ m ∈ X.take i ∨ m = X[i] := fun m => by rw [List.take_succ_eq_append_getElem hi, List.mem_append, List.mem_singleton]
  by_cases c : X.any (blB X[i]) = true
  · have e : stepO X out X[i] = out := by unfold stepO; rw [if_pos c]
    rw [e, if_neg (fun q => by rw [keep_iff X i hi, c] at q; cases q.2)]
    refine ⟨⟨h.srt, fun m => ?_⟩, rfl⟩
    rw [h.mem, ht]
    constructor
    · rintro ⟨q, r⟩; exact ⟨.inl q, r⟩
    · rintro ⟨q | q, r⟩
      · exact ⟨q, r⟩
      · rw [q, c] at r; cases r
  · have c' : X.any (blB X[i]) = false := Bool.eq_false_iff.mpr c
    have e : stepO X out X[i] = insO X[i] out := by unfold stepO; rw [if_neg c]
    rw [e]
    have hmem : ∀ m, m ∈ insO X[i] out ↔ m ∈ X.take (i + 1) ∧ X.any (blB m) = false := fun m => by
      rw [ins_mem' _ hm out hvo, h.mem, ht]
      constructor
      · rintro (q | ⟨q, r⟩)
        · exact ⟨.inr q, by rw [q]; exact c'⟩
        · exact ⟨.inl q, r⟩
      · rintro ⟨q | q, r⟩
        · exact .inr ⟨q, r⟩
        · exact .inl q
    refine ⟨⟨ins_srt _ hm out hvo h.srt, hmem⟩, ?_⟩
    by_cases t : X[i] ∈ X.take i
    · rw [if_neg (fun q => ((keep_iff X i hi).1 q).1 t)]
      exact ins_there _ out hvo h.srt ((h.mem _).2 ⟨t, c'⟩)
    · rw [if_pos ((keep_iff X i hi).2 ⟨t, c'⟩)]
      exact ins_same _ hm out hvo (fun q => t ((h.mem _).1 q).1)
theorem Inv.all {X : List (List Int)} (hv : ∀ x ∈ X, inW x = true) (n : Nat) : ∀ (i : Nat) (out : List (List Int)), X.length - i = n → i ≤ X.length → Inv X i out → Inv X X.length ((X.drop i).foldl (stepO X) out) := by
  induction n with
  | zero => intro i out hn hi h; rw [drop_end X i (by omega)]; obtain rfl : i = X.length := by omega
            exact h
  | succ n ih =>
    intro i out hn hi h
    have h1 : i < X.length := by omega
    rw [drop_cons X i h1, List.foldl_cons]
    exact ih (i + 1) _ (by omega) (by omega) (h.step hv h1).1
theorem rl0 (X : List (List Int)) (hX : X.length ≤ 900) (d : Nat) (hd : d ≤ 17592186044416) (hE : ∀ x ∈ X, inW x = true ∧ x.length = d) (n : Nat) : ∀ (i : Nat) (out : List (List Int)), X.length - i = n → i ≤ X.length → out.length ≤ i → Inv X i out → Ev (fun k => petrinetref05_Maximal.l0 k X out (i : Int)) ((X.drop i).foldl (stepO X) out) := by
  induction n with
  | zero =>
    intro i out hn hi ho h
    rw [drop_end X i (by omega)]
    exact Ev.step (fun k => by rw [petrinetref05_Maximal.l0, if_neg (by omega)]; rfl) (Ev.now _)
  | succ n ih =>
    intro i out hn hi ho h
    have h1 : i < X.length := by omega
    have hs := h.step (fun x hx => (hE x hx).1) h1
    have hl := stepO_len X out X[i]
    have hO : ∀ x ∈ out, inW x = true ∧ x.length = d := fun x hx => hE x (List.mem_of_mem_take ((h.mem x).1 hx).1)
    have := ih (i + 1) (stepO X out X[i]) (by omega) (by omega) (by omega) hs.1
    rw [drop_cons X i h1, List.foldl_cons]
    refine Ev.step (fun k => by rw [petrinetref05_Maximal.l0, if_pos (by omega)]; rfl) (rl1 X hX d hd hE i h1 out (by omega) hO _ _ 0 true rfl (by omega) ?_)
    rw [List.drop_zero, ← hs.2]
    exact this
theorem conF_even (l : List (List Int)) (hf : Fits l) : ∃ d, d ≤ 17592186044416 ∧ ∀ x ∈ conF [] l, inW x = true ∧ x.length = d := by
  have h := conF_ok l [] 0 (fun x hx => by cases hx)
  refine ⟨((conF [] l).getD 0 []).length, ?_, h⟩
  cases e : conF [] l with
  | nil => simp
  | cons a r =>
    have : a ∈ conF [] l := by rw [e]; exact List.mem_cons_self
    rcases conF_mem l [] a this with q | q
    · cases q
    · exact hf a q
theorem Inv.none (X : List (List Int)) : Inv X 0 [] := ⟨List.Pairwise.nil, fun m => by simp⟩
theorem wmax_ev (l : List (List Int)) (hl : l.length ≤ 60) (hf : Fits l) : Ev (fun k => petrinetref05_Maximal.f k l) ((conF [] l).foldl (stepO (conF [] l)) []) := by
  unfold petrinetref05_Maximal.f
  have hc := conF_len l []
  obtain ⟨d, hd, hE⟩ := conF_even l hf
  have h1 : Ev (fun k => petrinetref05_Considered.f k l) (conF [] l) := by
    unfold petrinetref05_Considered.f
    simpa using wcon_l l (by omega) hf _ 0 [] rfl (by omega) (by simp)
  refine Ev.bind h1 ?_
  simpa using rl0 (conF [] l) (by simp at hc; omega) d hd hE _ 0 [] rfl (by omega) (by simp) (Inv.none _)

/-! ### what both laws share -/
theorem ex_ev : Ev (fun k => petrinetlaw05_exampleHolds.f k) true := ⟨2000, fun k hk => ex_is k hk⟩
theorem ex_some : Ev (fun k => (petrinetlaw05_exampleHolds.f k).bind fun t => some t) true := Ev.bind ex_ev (Ev.now _)
theorem maxO_inv (l : List (List Int)) (hf : Fits l) : Inv (conF [] l) (conF [] l).length ((conF [] l).foldl (stepO (conF [] l)) []) := by
  obtain ⟨d, hd, hE⟩ := conF_even l hf
  have := Inv.all (X := conF [] l) (fun x hx => (hE x hx).1) _ 0 [] rfl (by omega) (Inv.none _)
  rwa [List.drop_zero] at this
theorem fold_len (X : List (List Int)) : ∀ (r out : List (List Int)), (r.foldl (stepO X) out).length ≤ out.length + r.length
  | [], out => by simp
  | m :: r, out => by
    rw [List.foldl_cons]
    have h1 := fold_len X r (stepO X out m)
    have h2 := stepO_len X out m
    simp; omega
end Go.Proofs.YtoobmfofkeaibaaDoor.Plain
