/- Plain laws over the printed functions: what each comes to. No condition but the ones written. -/
import Derived.Test.YtoobmfofkeaibaaDoorMaxA
import Derived.Test.YtoobmfofkeaibaaDoorPMaxx4
import Derived.Test.YtoobmfofkeaibaaDoorPMaxx6
import Derived.Test.YtoobmfofkeaibaaDoorShiftN
namespace Go.Proofs.YtoobmfofkeaibaaDoor.Plain
open Go Go.RowKit Go.Proofs.YtoobmfofkeaibaaDoor.PMax Go.Proofs.YtoobmfofkeaibaaDoorW.PrintWords Go.Proofs.YtoobmfofkeaibaaDoorW.PrintLast Go.Proofs.YtoobmfofkeaibaaDoorW.PrintMore
set_option linter.unusedVariables false
/-! ### the maximal elements: what each function comes to -/
theorem rdL_get (l : List (List Int)) (i : Nat) (h : i < l.length) : rd_L2 l (i : Int) = l[i] := by
  unfold rd_L2; rw [Int.toNat_natCast, List.getD_eq_getElem?_getD, List.getElem?_eq_getElem h]; rfl
def Fits (l : List (List Int)) : Prop := ∀ x ∈ l, x.length ≤ 17592186044416
theorem Fits.at {l : List (List Int)} (h : Fits l) (i : Nat) (hi : i < l.length) : l[i].length ≤ 17592186044416 := h _ (List.getElem_mem hi)
theorem ovalid_ev (m : List Int) (hm : m.length ≤ 17592186044416) : Ev (fun k => omega_Valid.f k m (m.length : Int)) (inW m) := ⟨m.length + 4, fun k hk => by show omega_Valid.f k m _ = _; rw [ovalid_is m _ hm k (by omega), validW_self]⟩
theorem wvalid_ev (m : List Int) (hm : m.length ≤ 17592186044416) : Ev (fun k => petrinetref05_Valid.f k m (m.length : Int)) (inW m) := ⟨m.length + 4, fun k hk => by show petrinetref05_Valid.f k m _ = _; rw [wvalid_is m _ hm k (by omega), validW_self]⟩
theorem oleq_ev (a b : List Int) (ha : a.length ≤ 17592186044416) (hb : b.length ≤ 17592186044416) : Ev (fun k => omega_Leq.f k a b) (leqW a b) := ⟨a.length + b.length + 4, fun k hk => oleq_is a b ha hb k (by omega) (by omega)⟩
theorem wleq_ev (a b : List Int) (ha : a.length ≤ 17592186044416) (hb : b.length ≤ 17592186044416) : Ev (fun k => petrinetref05_Leq.f k a b) (leqW a b) := ⟨a.length + b.length + 4, fun k hk => wleq_is a b ha hb k (by omega) (by omega)⟩
theorem ranks_ev (a : List Int) (ha : a.length ≤ 17592186044416) : Ev (fun k => omega_ranks.f k a) (a.map rankE) := ⟨a.length + 1, fun k hk => ranks_is a ha k (by omega)⟩
def cmpW (a b : List Int) : Int := cmpL (a.map rankE) (b.map rankE)
theorem cmp_ev (a b : List Int) (ha : a.length ≤ 17592186044416) : Ev (fun k => marking_Compare.f k (a.map rankE) (b.map rankE)) (cmpW a b) := ⟨a.length + 1, fun k hk => cmp_is _ _ (by simpa using ha) k (by simp; omega)⟩
/-- The considered ones. -/
def conF : List (List Int) → List (List Int) → List (List Int)
  | acc, [] => acc
  | acc, m :: r => if inW m = true ∧ (acc = [] ∨ (acc.getD 0 []).length = m.length) then conF (acc ++ [m]) r else conF acc r
theorem ocon_l (l : List (List Int)) (hl : l.length ≤ 1000) (hf : Fits l) (R : List (List Int)) (n : Nat) : ∀ (i : Nat) (acc : List (List Int)), l.length - i = n → i ≤ l.length → acc.length ≤ i → Ev (fun k => omega_Maximal.l1 k (conF acc (l.drop i)) [] (conF acc (l.drop i)) ((conF acc (l.drop i)).length : Int) 0) R →
    Ev (fun k => omega_Maximal.l0 k acc l (l.length : Int) (i : Int)) R := by
  induction n with
  | zero =>
    intro i acc hn hi ha h
    rw [drop_end l i (by omega), conF] at h
    exact Ev.step (fun k => by rw [omega_Maximal.l0, if_neg (by omega)]) h
  | succ n ih =>
    intro i acc hn hi ha h
    have h1 : i < l.length := by omega
    rw [drop_cons l i h1, conF] at h
    refine Ev.step (fun k => by rw [omega_Maximal.l0, if_pos (by omega), if_pos (by omega), if_pos (by omega), rdL_get l i h1, wrap_succ i (by omega)]) (Ev.bind (ovalid_ev _ (hf.at i h1)) ?_)
    by_cases v : inW l[i] = true
    · simp only [v, if_true, true_and] at h ⊢
      by_cases e : acc = []
      · subst e
        rw [if_pos (Or.inl rfl)] at h
        exact Ev.congr (fun k => by rw [if_pos (by simp), if_pos (by simp)]) (ih (i + 1) _ (by omega) (by omega) (by simp) h)
      · have hp : 0 < acc.length := List.length_pos_iff.2 e
        have hz : rd_L2 acc 0 = acc.getD 0 [] := rfl
        by_cases c : (acc.getD 0 []).length = l[i].length
        · rw [if_pos (Or.inr c)] at h
          exact Ev.congr (fun k => by rw [if_neg (by omega), if_pos (by omega), hz, if_pos (by rw [c]), if_pos (by omega)]) (ih (i + 1) _ (by omega) (by omega) (by simp; omega) h)
        · rw [if_neg (fun q => q.elim e c)] at h
          exact Ev.congr (fun k => by rw [if_neg (by omega), if_pos (by omega), hz, if_neg (by omega)]) (ih (i + 1) _ (by omega) (by omega) (by omega) h)
    · have v' : inW l[i] = false := Bool.eq_false_iff.mpr v
      simp only [v', Bool.false_eq_true, if_false, false_and] at h ⊢
      exact ih (i + 1) _ (by omega) (by omega) (by omega) h
theorem wcon_l (l : List (List Int)) (hl : l.length ≤ 1000) (hf : Fits l) (n : Nat) : ∀ (i : Nat) (acc : List (List Int)), l.length - i = n → i ≤ l.length → acc.length ≤ i → Ev (fun k => petrinetref05_Considered.l0 k l acc (i : Int)) (conF acc (l.drop i)) := by
  induction n with
  | zero =>
    intro i acc hn hi ha
    rw [drop_end l i (by omega), conF]
    exact Ev.step (fun k => by rw [petrinetref05_Considered.l0, if_neg (by omega)]) (Ev.now _)
  | succ n ih =>
    intro i acc hn hi ha
    have h1 : i < l.length := by omega
    rw [drop_cons l i h1, conF]
    refine Ev.step (fun k => by rw [petrinetref05_Considered.l0, if_pos (by omega), if_pos (by omega), rdL_get l i h1, wrap_succ i (by omega)]) (Ev.bind (wvalid_ev _ (hf.at i h1)) ?_)
    by_cases v : inW l[i] = true
    · simp only [v, if_true, true_and]
      by_cases e : acc = []
      · subst e
        rw [if_pos (Or.inl rfl)]
        exact Ev.congr (fun k => by rw [if_pos (by simp), if_pos (by simp)]) (ih (i + 1) _ (by omega) (by omega) (by simp))
      · have hp : 0 < acc.length := List.length_pos_iff.2 e
        have hz : rd_L2 acc 0 = acc.getD 0 [] := rfl
        by_cases c : (acc.getD 0 []).length = l[i].length
        · rw [if_pos (Or.inr c)]
          exact Ev.congr (fun k => by rw [if_neg (by omega), if_pos (by omega), hz, if_pos (by rw [c]), if_pos (by omega)]) (ih (i + 1) _ (by omega) (by omega) (by simp; omega))
        · rw [if_neg (fun q => q.elim e c)]
          exact Ev.congr (fun k => by rw [if_neg (by omega), if_pos (by omega), hz, if_neg (by omega)]) (ih (i + 1) _ (by omega) (by omega) (by omega))
    · have v' : inW l[i] = false := Bool.eq_false_iff.mpr v
      simp only [v', Bool.false_eq_true, if_false, false_and]
      exact ih (i + 1) _ (by omega) (by omega) (by omega)
theorem conF_ok : ∀ (r acc : List (List Int)) (d : Nat), (∀ x ∈ acc, inW x = true ∧ x.length = (acc.getD 0 []).length) → ∀ x ∈ conF acc r, inW x = true ∧ x.length = ((conF acc r).getD 0 []).length
  | [], acc, _, h => by rw [conF]; exact h
  | m :: r, acc, d, h => by
    rw [conF]
    split
    · rename_i c
      refine conF_ok r _ d (fun x hx => ?_)
      have hz : ((acc ++ [m]).getD 0 []).length = m.length := by
        cases acc with
        | nil => rfl
        | cons a s => rcases c.2 with c2 | c2; (· cases c2); (· simpa using c2)
      rw [hz]
      rcases List.mem_append.1 hx with q | q
      · obtain ⟨h1, h2⟩ := h x q
        refine ⟨h1, h2.trans ?_⟩
        rcases c.2 with c2 | c2
        · subst c2; cases q
        · exact c2
      · obtain rfl := List.mem_singleton.1 q
        exact ⟨c.1, rfl⟩
    · exact conF_ok r _ d h
theorem conF_mem : ∀ (r acc : List (List Int)) (x : List Int), x ∈ conF acc r → x ∈ acc ∨ x ∈ r
  | [], acc, x, h => by rw [conF] at h; exact .inl h
  | m :: r, acc, x, h => by
    rw [conF] at h
    split at h
    · rcases conF_mem r _ x h with q | q
      · rcases List.mem_append.1 q with q | q
        · exact .inl q
        · exact .inr (by rw [List.mem_singleton.1 q]; exact List.mem_cons_self)
      · exact .inr (List.mem_cons_of_mem _ q)
    · rcases conF_mem r _ x h with q | q
      · exact .inl q
      · exact .inr (List.mem_cons_of_mem _ q)
theorem conF_len : ∀ (r acc : List (List Int)), (conF acc r).length ≤ acc.length + r.length
  | [], acc => by rw [conF]; simp
  | m :: r, acc => by
    rw [conF]
    split
    · have := conF_len r (acc ++ [m]); simp at this ⊢; omega
    · have := conF_len r acc; simp; omega
def blB (m x : List Int) : Bool := leqW m x && !leqW x m
theorem below_ev (m x : List Int) (hm : m.length ≤ 17592186044416) (hx : x.length ≤ 17592186044416) : Ev (fun k => omega_extended_below.f k m x) (blB m x) := by
  unfold omega_extended_below.f
  refine Ev.bind (oleq_ev m x hm hx) ?_
  unfold blB
  by_cases c : leqW m x = true
  · simp only [c, if_true, Bool.true_and]; exact Ev.bind (oleq_ev x m hx hm) (Ev.now _)
  · have c' : leqW m x = false := Bool.eq_false_iff.mpr c
    simp only [c', Bool.false_eq_true, if_false, Bool.false_and]; exact Ev.now _
theorem some_l (m : List Int) (l : List (List Int)) (hl : l.length ≤ 1000) (hm : m.length ≤ 17592186044416) (hf : Fits l) (n : Nat) : ∀ i : Nat, l.length - i = n → i ≤ l.length → Ev (fun k => omega_some.l0 k m l (l.length : Int) (i : Int)) ((l.drop i).any (blB m)) := by
  induction n with
  | zero =>
    intro i hn hi
    rw [drop_end l i (by omega)]
    exact Ev.step (fun k => by rw [omega_some.l0, if_neg (by omega)]; rfl) (Ev.now _)
  | succ n ih =>
    intro i hn hi
    have h1 : i < l.length := by omega
    rw [drop_cons l i h1, List.any_cons]
    refine Ev.step (fun k => by rw [omega_some.l0, if_pos (by omega), if_pos (by omega), if_pos (by omega), rdL_get l i h1, wrap_succ i (by omega)]) (Ev.bind (below_ev m _ hm (hf.at i h1)) ?_)
    by_cases c : blB m l[i] = true
    · simp only [c, if_true, Bool.true_or]; exact Ev.now _
    · have c' : blB m l[i] = false := Bool.eq_false_iff.mpr c
      simp only [c', Bool.false_eq_true, if_false, Bool.false_or]; exact ih (i + 1) (by omega) (by omega)
theorem some_ev (m : List Int) (l : List (List Int)) (hl : l.length ≤ 1000) (hm : m.length ≤ 17592186044416) (hf : Fits l) : Ev (fun k => omega_some.f k l m) (l.any (blB m)) := by
  unfold omega_some.f
  simpa using some_l m l hl hm hf _ 0 rfl (by omega)
/-- m put into a list in its order, if it is not there. -/
def insO (m : List Int) : List (List Int) → List (List Int)
  | [] => [m]
  | e :: r => if cmpW e m < 0 then e :: insO m r else if cmpW e m = 0 then e :: r else m :: e :: r
theorem insO_len (m : List Int) : ∀ l, (insO m l).length ≤ l.length + 1
  | [] => by simp [insO]
  | e :: r => by
    unfold insO
    split
    · have := insO_len m r; simp; omega
    · split <;> simp
theorem ins_put (out : List (List Int)) (m : List Int) (q : Nat) (hq : q ≤ out.length) : (shv (out ++ [[]]) q).set q m = out.take q ++ m :: out.drop q := by
  have hL : (out ++ [[]]).length = out.length + 1 := by simp
  apply List.ext_getElem?
  intro j
  rw [List.getElem?_set, shv_length _ _ (by omega), shv_get _ _ _ (by omega), hL]
  have ht : (out.take q).length = q := by rw [List.length_take]; omega
  have hr : (out.take q ++ m :: out.drop q)[j]? = if j < q then out[j]? else if j = q then some m else out[j - 1]? := by
    rw [List.getElem?_append, ht]
    by_cases d : j < q
    · rw [if_pos d, if_pos d, List.getElem?_take, if_pos d]
    · rw [if_neg d, if_neg d]
      by_cases e : j = q
      · rw [if_pos e, e, Nat.sub_self]; rfl
      · rw [if_neg e, show j - q = (j - q - 1) + 1 by omega, List.getElem?_cons_succ, List.getElem?_drop]
        congr 1; omega
  rw [hr]
  by_cases c : q = j
  · rw [if_pos c, if_pos (by omega), if_neg (by omega), if_pos c.symm]
  · rw [if_neg c]
    by_cases d : j < q
    · rw [if_pos (by omega), if_pos (by omega), if_pos d, List.getElem?_append_left (by omega)]
    · rw [if_neg d, if_neg (show ¬ j = q from fun e => c e.symm), if_neg (show ¬ j ≤ q by omega)]
      by_cases f : j < out.length + 1
      · rw [if_pos f, List.getElem?_append_left (by omega)]
      · rw [if_neg f, List.getElem?_eq_none (by omega)]
section
variable (X : List (List Int)) (len : Int) (m : List Int) (hm : m.length ≤ 17592186044416) (i : Nat) (hi : i < 1000) (R : List (List Int))
include hm hi
theorem oins_put (out : List (List Int)) (ho : out.length ≤ 1000) (q : Nat) (hq : q ≤ out.length) (h : Ev (fun k => omega_Maximal.l1 k X (out.take q ++ m :: out.drop q) X len ((i + 1 : Nat) : Int)) R) :
    Ev (fun k => if 0 ≤ (m.length : Int) then (if ((m.length : Int) : Int).toNat ≤ 35184372088832 then (if out.length < 5864062014805 then ((some (shv (out ++ [[]]) ((q : Int) : Int).toNat : List (List Int))).bind fun y => (if (q : Int) < (y.length : Int) then (omega_Maximal.l1 k X (y.set ((q : Int) : Int).toNat (CopyW.cpy (List.replicate ((m.length : Int) : Int).toNat 0) m)) X len (wrap64 ((i : Int) + 1))) else none)) else none) else none) else none) R := by
  refine Ev.congr (fun k => ?_) h
  have hL : (shv (out ++ [[]]) q).length = out.length + 1 := by rw [shv_length _ _ (by simp; omega)]; simp
  rw [if_pos (by omega), if_pos (by omega), if_pos (by omega), Option.bind_some, Int.toNat_natCast, Int.toNat_natCast, if_pos (by omega), cpy_zero, ins_put out m q hq, wrap_succ i (by omega)]
theorem oj3 (out : List (List Int)) (ho : out.length ≤ 1000) (hf : Fits out) (q : Nat) (hq : q ≤ out.length) (hc : ∀ h : q < out.length, ¬ cmpW out[q] m < 0) (h : Ev (fun k => omega_Maximal.l1 k X (out.take q ++ insO m (out.drop q)) X len ((i + 1 : Nat) : Int)) R) :
    Ev (fun k => omega_Maximal.j3 k X out m (q : Int) X len (i : Int)) R := by
  by_cases c : q < out.length
  · have hc := hc c
    rw [drop_cons out q c, insO, if_neg hc] at h
    refine Ev.step (fun k => by rw [omega_Maximal.j3, if_pos (by omega), if_pos (by omega), rdL_get out q c]) (Ev.bind (ranks_ev _ (hf.at q c)) (Ev.bind (ranks_ev _ hm) (Ev.bind (cmp_ev _ _ (hf.at q c)) ?_)))
    by_cases z : cmpW out[q] m = 0
    · rw [if_pos z, ← drop_cons out q c, List.take_append_drop] at h
      exact Ev.congr (fun k => by rw [if_pos z, wrap_succ i (by omega)]) h
    · rw [if_neg z, ← drop_cons out q c] at h
      refine Ev.congr (fun k => by rw [if_neg z]) (oins_put X len m hm i hi R out ho q hq h)
  · obtain rfl : q = out.length := by omega
    rw [drop_end out out.length (Nat.le_refl _), insO] at h
    refine Ev.step (fun k => by rw [omega_Maximal.j3, if_neg (by omega)]) (Ev.congr (fun k => ?_) (oins_put X len m hm i hi R out ho out.length (Nat.le_refl _) (by rw [drop_end out out.length (Nat.le_refl _)]; exact h)))
    simp only [Option.bind_some]
    rw [if_pos (show (0 : Int) ≤ (out.length : Int) by omega)]
theorem ol2 (out : List (List Int)) (ho : out.length ≤ 1000) (hf : Fits out) (n : Nat) : ∀ q : Nat, out.length - q = n → q ≤ out.length → Ev (fun k => omega_Maximal.l1 k X (out.take q ++ insO m (out.drop q)) X len ((i + 1 : Nat) : Int)) R →
    Ev (fun k => omega_Maximal.l2 k X out m (q : Int) X len (i : Int)) R := by
  induction n with
  | zero =>
    intro q hn hq h
    exact Ev.step (fun k => by rw [omega_Maximal.l2, if_neg (by omega)]) (oj3 X len m hm i hi R out ho hf q hq (fun c => by omega) h)
  | succ n ih =>
    intro q hn hq h
    have c : q < out.length := by omega
    refine Ev.step (fun k => by rw [omega_Maximal.l2, if_pos (by omega), if_pos (by omega), rdL_get out q c, wrap_succ q (by omega)]) (Ev.bind (ranks_ev _ (hf.at q c)) (Ev.bind (ranks_ev _ hm) (Ev.bind (cmp_ev _ _ (hf.at q c)) ?_)))
    by_cases z : cmpW out[q] m < 0
    · refine Ev.congr (fun k => by rw [if_pos z]) (ih (q + 1) (by omega) (by omega) ?_)
      rw [drop_cons out q c, insO, if_pos z] at h
      rw [List.take_succ_eq_append_getElem c, List.append_assoc]
      exact h
    · exact Ev.congr (fun k => by rw [if_neg z]) (oj3 X len m hm i hi R out ho hf q hq (fun _ => z) h)
end
theorem insO_mem (m : List Int) : ∀ (l : List (List Int)) (x : List Int), x ∈ insO m l → x = m ∨ x ∈ l
  | [], x, h => .inl (by simpa [insO] using h)
  | e :: r, x, h => by
    unfold insO at h
    split at h
    · rcases List.mem_cons.1 h with q | q
      · exact .inr (by rw [q]; exact List.mem_cons_self)
      · rcases insO_mem m r x q with q | q
        · exact .inl q
        · exact .inr (List.mem_cons_of_mem _ q)
    · split at h
      · exact .inr h
      · rcases List.mem_cons.1 h with q | q
        · exact .inl q
        · exact .inr q
/-- One more element. -/
def stepO (X out : List (List Int)) (m : List Int) : List (List Int) := if X.any (blB m) = true then out else insO m out
theorem stepO_fits {X out : List (List Int)} {m : List Int} (ho : Fits out) (hm : m.length ≤ 17592186044416) : Fits (stepO X out m) := by
  unfold stepO
  split
  · exact ho
  · intro x hx
    rcases insO_mem m out x hx with q | q
    · rw [q]; exact hm
    · exact ho x q
theorem stepO_len (X out : List (List Int)) (m : List Int) : (stepO X out m).length ≤ out.length + 1 := by
  unfold stepO
  split
  · omega
  · exact insO_len m out
theorem ol1 (X : List (List Int)) (hX : X.length ≤ 900) (hf : Fits X) (n : Nat) : ∀ (i : Nat) (out : List (List Int)), X.length - i = n → i ≤ X.length → out.length ≤ i → Fits out → Ev (fun k => omega_Maximal.l1 k X out X (X.length : Int) (i : Int)) ((X.drop i).foldl (stepO X) out) := by
  induction n with
  | zero =>
    intro i out hn hi ho hfo
    rw [drop_end X i (by omega)]
    exact Ev.step (fun k => by rw [omega_Maximal.l1, if_neg (by omega)]; rfl) (Ev.now _)
  | succ n ih =>
    intro i out hn hi ho hfo
    have h1 : i < X.length := by omega
    have hs := stepO_len X out X[i]
    have hn' := ih (i + 1) (stepO X out X[i]) (by omega) (by omega) (by omega) (stepO_fits hfo (hf.at i h1))
    rw [drop_cons X i h1, List.foldl_cons]
    refine Ev.step (fun k => by rw [omega_Maximal.l1, if_pos (by omega), if_pos (by omega), if_pos (by omega), rdL_get X i h1, wrap_succ i (by omega)]) (Ev.bind (some_ev _ X (by omega) (hf.at i h1) hf) ?_)
    by_cases c : X.any (blB X[i]) = true
    · rw [show stepO X out X[i] = out by unfold stepO; rw [if_pos c]] at hn' ⊢
      exact Ev.congr (fun k => by rw [if_pos c]) hn'
    · rw [show stepO X out X[i] = insO X[i] out by unfold stepO; rw [if_neg c]] at hn' ⊢
      refine Ev.congr (fun k => by rw [if_neg c]; rfl) (ol2 X (X.length : Int) X[i] (hf.at i h1) i (by omega) _ out (by omega) hfo _ 0 rfl (by omega) ?_)
      simpa using hn'
theorem omax_ev (l : List (List Int)) (hl : l.length ≤ 60) (hf : Fits l) : Ev (fun k => omega_Maximal.f k l) ((conF [] l).foldl (stepO (conF [] l)) []) := by
  unfold omega_Maximal.f
  have hc := conF_len l []
  have hfc : Fits (conF [] l) := fun x hx => by
    rcases conF_mem l [] x hx with q | q
    · cases q
    · exact hf x q
  have h := ocon_l l (by omega) hf ((conF [] l).foldl (stepO (conF [] l)) []) _ 0 [] rfl (by omega) (by simp)
  simp only [List.drop_zero] at h
  exact h (by simpa using ol1 (conF [] l) (by simp at hc; omega) hfc _ 0 [] rfl (by omega) (by simp) (fun x hx => by cases hx))
end Go.Proofs.YtoobmfofkeaibaaDoor.Plain
