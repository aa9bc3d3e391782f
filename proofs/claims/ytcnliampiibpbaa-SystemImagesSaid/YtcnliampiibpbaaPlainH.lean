/- Plain laws over the printed functions: what each comes to. No condition but the ones written. -/
import Derived.Test.YtcnliampiibpbaaPlainF
import Derived.Test.YtcnliampiibpbaaPlainG
import Derived.Test.YtcnliampiibpbaaPAllx9
import Derived.Test.YtcnliampiibpbaaPAllx20
namespace Go.Proofs.Ytcnliampiibpbaa.Plain
open Go Go.RowKit Go.Proofs.Ytcnliampiibpbaa.PAll Go.Proofs.YtcnliampiibpbaaW.PrintWords Go.Proofs.YtcnliampiibpbaaW.PrintLast Go.Proofs.YtcnliampiibpbaaW.PrintMore
set_option linter.unusedVariables false
theorem same_l (a : List Int) (hl : a.length ≤ 1000000) (n : Nat) : ∀ i : Nat, a.length - i = n → i ≤ a.length → Ev (fun k => petrinetref04_Same.l0 k a a (i : Int)) true := by
  induction n with
  | zero =>
    intro i hn hi
    exact Ev.step (f := fun _ => some true) (fun k => by rw [petrinetref04_Same.l0, if_neg (by omega)]) (Ev.now _)
  | succ n ih =>
    intro i hn hi
    exact Ev.step (f := fun k => petrinetref04_Same.l0 k a a ((i + 1 : Nat) : Int)) (fun k => by rw [petrinetref04_Same.l0, if_pos (by omega), if_pos (by omega), if_pos (by omega), if_pos rfl, wrap_succ i (by omega)]) (ih (i + 1) (by omega) (by omega))
theorem same_ev (a : List Int) (hl : a.length ≤ 1000000) : Ev (fun k => petrinetref04_Same.f k a a) true := by
  unfold petrinetref04_Same.f
  simp only [if_true]
  exact same_l a hl _ 0 rfl (by omega)

/-! ### Traces of the specification -/
section
variable (a : Int) (l : List ByteArray) (l2 : List S44) (n : Nat)
theorem tk_tk (N : Nat) (x y : List (List Int)) : (x.take N ++ y).take N = (x ++ y).take N := by
  rcases Nat.le_total x.length N with h | h
  · rw [List.take_of_length_le h]
  · rw [List.take_append_of_le_length (by rw [List.length_take]; omega), List.take_append_of_le_length h, List.take_take, Nat.min_self]
theorem tk_full (N : Nat) (x y : List (List Int)) (h : x.length = N) : (x ++ y).take N = x := by
  rw [List.take_append_of_le_length (by omega), List.take_of_length_le (by omega)]
theorem rTr_l2 (ha : a = (n : Int)) (hn0 : 0 < n) (hn : n ≤ 1000000) (hl : l2.length ≤ 1000000) (harc : ∀ x ∈ l2, 0 ≤ x.f0 ∧ x.f0 < (n : Int) ∧ 0 ≤ x.f2 ∧ x.f2 < (n : Int)) (hlm : l.length ≤ 1000) (K nn tz : Int) (i : Nat) (hi : i < 1000000) (seq : List Int) (hseq : seq.length ≤ 1000) (R : List (List Int)) (N : Nat) (hN : N = 5000) (c : Nat) :
    ∀ (out : List (List Int)) (j : Nat), l.length - j = c → j ≤ l.length → out.length ≤ N → i < out.length → out.getD i [] = seq → Ev (fun k => petrinetref45_Traces.l1 k K ((out ++ extF n l2 seq c j).take N) nn tz ((i + 1 : Nat) : Int) a l l2) R →
    Ev (fun k => petrinetref45_Traces.l2 k K out nn tz (i : Int) (j : Int) a l l2) R := by
  have hf2 : ∀ x ∈ l2, x.f2.toNat < n := fun x hx => by have := harc x hx; omega
  induction c with
  | zero =>
    intro out j hc hj ho hio hg h
    rw [extF, List.append_nil, List.take_of_length_le ho] at h
    have hj2 : ¬ ((j : Int) < (l.length : Int)) := by clear ho; omega
    exact Ev.step (f := fun k => petrinetref45_Traces.l1 k K out nn tz ((i + 1 : Nat) : Int) a l l2) (fun k => by rw [petrinetref45_Traces.l2, if_neg hj2, wrap_succ i (by clear ho; omega)]) h
  | succ c ih =>
    intro out j hc hj ho hio hg h
    have hlt : j < l.length := by clear ho; omega
    have hj1 : (j : Int) < (l.length : Int) := by clear ho; omega
    have hio1 : (i : Int) < (out.length : Int) := Int.ofNat_lt.mpr hio
    have hcj : l.length - (j + 1) = c := by clear ho hg h ih; omega
    have hs1 : seq.length ≤ 1000000 := by clear ho hg h ih; omega
    have hs2 : seq.length + 1 ≤ 1000000 := by clear ho hg h ih; omega
    have c1 : seq.length < 17592186044416 := by clear ho hg h ih; omega
    have hN2 : N < 5864062014805 := by clear ho hg h ih; omega
    have c2 : out.length < 5864062014805 := Nat.lt_of_le_of_lt ho hN2
    have hj6 : j < 9223372036854775807 := by clear ho hg h ih c1 hN2 c2; omega
    have hwj : wrap64 ((j : Int) + 1) = ((j + 1 : Nat) : Int) := wrap_succ j hj6
    have hrd : rd_L4 out (i : Int) = seq := by unfold rd_L4; rw [Int.toNat_natCast]; exact hg
    rw [extF] at h
    have hb := copy_ev seq hs1
    have hnn : (0 : Int) ≤ (i : Int) := Int.natCast_nonneg i
    refine Ev.step (f := fun k => (petrinetref04_Copy.f k seq).bind fun t311 => (if t311.length < 17592186044416 then ((some (t311 ++ [(j : Int)] : List Int)).bind fun y314 => (if (out.length : Int) < 5000 then ((petrinetref45_can.f k a l l2 y314).bind fun t317 => (if t317 = true then (if out.length < 5864062014805 then (petrinetref45_Traces.l2 k K (out ++ [y314]) nn tz (i : Int) ((j + 1 : Nat) : Int) a l l2) else none) else (petrinetref45_Traces.l2 k K out nn tz (i : Int) ((j + 1 : Nat) : Int) a l l2))) else (petrinetref45_Traces.l2 k K out nn tz (i : Int) ((j + 1 : Nat) : Int) a l l2))) else none)) (fun k => by rw [petrinetref45_Traces.l2, if_pos hj1, if_pos hnn, if_pos hio1, hrd, hwj]) ?_
    refine Ev.bind hb ?_
    refine Ev.congr (f := fun k => if (out.length : Int) < 5000 then ((petrinetref45_can.f k a l l2 (seq ++ [(j : Int)])).bind fun t317 => (if t317 = true then (if out.length < 5864062014805 then (petrinetref45_Traces.l2 k K (out ++ [seq ++ [(j : Int)]]) nn tz (i : Int) ((j + 1 : Nat) : Int) a l l2) else none) else (petrinetref45_Traces.l2 k K out nn tz (i : Int) ((j + 1 : Nat) : Int) a l l2))) else (petrinetref45_Traces.l2 k K out nn tz (i : Int) ((j + 1 : Nat) : Int) a l l2)) (fun k => by rw [if_pos c1, Option.bind_some]) ?_
    by_cases g : out.length < N
    · have g1 : (out.length : Int) < 5000 := by subst hN; exact Int.ofNat_lt.mpr g
      refine Ev.congr (f := fun k => ((petrinetref45_can.f k a l l2 (seq ++ [(j : Int)])).bind fun t317 => (if t317 = true then (if out.length < 5864062014805 then (petrinetref45_Traces.l2 k K (out ++ [seq ++ [(j : Int)]]) nn tz (i : Int) ((j + 1 : Nat) : Int) a l l2) else none) else (petrinetref45_Traces.l2 k K out nn tz (i : Int) ((j + 1 : Nat) : Int) a l l2)))) (fun k => by rw [if_pos g1]) ?_
      have hcan := can_ev a l l2 n ha hn0 hn hl (seq ++ [(j : Int)]) (by rw [List.length_append, List.length_singleton]; exact hs2) (fun x hx => harc x hx)
      rw [fol_snoc, nextS_any n l2 _ _ hf2] at hcan
      refine Ev.bind hcan ?_
      by_cases d : anyS l2 (fol n l2 seq) (j : Int) = true
      · rw [if_pos d] at h
        refine Ev.congr (f := fun k => petrinetref45_Traces.l2 k K (out ++ [seq ++ [(j : Int)]]) nn tz (i : Int) ((j + 1 : Nat) : Int) a l l2) (fun k => by rw [if_pos d, if_pos c2]) ?_
        refine ih (out ++ [seq ++ [(j : Int)]]) (j + 1) hcj hlt (by rw [List.length_append, List.length_singleton]; exact g) (by rw [List.length_append]; exact Nat.lt_add_right _ hio) ?_ ?_
        · rw [List.getD_eq_getElem?_getD, List.getElem?_append_left hio, ← List.getD_eq_getElem?_getD]; exact hg
        · rw [List.append_assoc]; exact h
      · rw [if_neg d] at h
        refine Ev.congr (f := fun k => petrinetref45_Traces.l2 k K out nn tz (i : Int) ((j + 1 : Nat) : Int) a l l2) (fun k => by rw [if_neg d]) ?_
        exact ih out (j + 1) hcj hlt ho hio hg h
    · have e : out.length = N := Nat.le_antisymm ho (Nat.le_of_not_lt g)
      have g1 : ¬ (out.length : Int) < 5000 := by subst hN; rw [e]; decide
      refine Ev.congr (f := fun k => petrinetref45_Traces.l2 k K out nn tz (i : Int) ((j + 1 : Nat) : Int) a l l2) (fun k => by rw [if_neg g1]) ?_
      refine ih out (j + 1) hcj hlt ho hio hg ?_
      rw [tk_full N out _ e] at h ⊢
      exact h
theorem rTr_l1 (ha : a = (n : Int)) (hn0 : 0 < n) (hn : n ≤ 1000000) (hl : l2.length ≤ 1000000) (harc : ∀ x ∈ l2, 0 ≤ x.f0 ∧ x.f0 < (n : Int) ∧ 0 ≤ x.f2 ∧ x.f2 < (n : Int)) (hlm : l.length ≤ 1000) (K nn : Int) (hnn : wrap64 (nn + 1) = nn + 1) (P : List (List Int)) (hseq : ∀ s ∈ P, s.length ≤ 1000) (R : List (List Int)) (N : Nat) (hN : N = 5000) (hP : P.length ≤ N) (c : Nat) :
    ∀ (out : List (List Int)) (i : Nat), P.length - i = c → i ≤ P.length → out.length ≤ N → (∃ z, out = P ++ z) → Ev (fun k => petrinetref45_Traces.l0 k K ((out ++ (P.drop i).flatMap (fun s => extF n l2 s l.length 0)).take N) (P.length : Int) (nn + 1) a l l2) R →
    Ev (fun k => petrinetref45_Traces.l1 k K out nn (P.length : Int) (i : Int) a l l2) R := by
  induction c with
  | zero =>
    intro out i hc hi ho hz h
    have hi2 : i = P.length := by clear hP ho; omega
    rw [drop_end P i (Nat.le_of_eq hi2.symm), List.flatMap_nil, List.append_nil, List.take_of_length_le ho] at h
    have hi3 : ¬ ((i : Int) < (P.length : Int)) := by rw [hi2]; exact Int.lt_irrefl _
    exact Ev.step (f := fun k => petrinetref45_Traces.l0 k K out (P.length : Int) (nn + 1) a l l2) (fun k => by rw [petrinetref45_Traces.l1, if_neg hi3, hnn]) h
  | succ c ih =>
    intro out i hc hi ho hz h
    have hlt : i < P.length := by clear hP ho; omega
    have hci : P.length - (i + 1) = c := by clear hP ho; omega
    have hi3 : (i : Int) < (P.length : Int) := Int.ofNat_lt.mpr hlt
    have hi6 : i < 1000000 := by subst hN; exact Nat.lt_of_lt_of_le hlt (Nat.le_trans hP (by decide))
    obtain ⟨z, rfl⟩ := hz
    have hio : i < (P ++ z).length := by rw [List.length_append]; exact Nat.lt_add_right _ hlt
    have hg : (P ++ z).getD i [] = P[i] := by
      rw [List.getD_eq_getElem?_getD, List.getElem?_append_left hlt, List.getElem?_eq_getElem hlt]; rfl
    rw [drop_cons P i hlt, List.flatMap_cons, ← List.append_assoc, ← tk_tk] at h
    refine Ev.step (f := fun k => petrinetref45_Traces.l2 k K (P ++ z) nn (P.length : Int) (i : Int) 0 a l l2) (fun k => by rw [petrinetref45_Traces.l1, if_pos hi3]) ?_
    refine rTr_l2 a l l2 n ha hn0 hn hl harc hlm K nn (P.length : Int) i hi6 P[i] (hseq _ (List.getElem_mem hlt)) R N hN l.length (P ++ z) 0 (Nat.sub_zero _) (Nat.zero_le _) ho hio hg ?_
    refine ih _ (i + 1) hci hlt (by rw [List.length_take]; exact Nat.min_le_left _ _) ⟨(z ++ extF n l2 P[i] l.length 0).take (N - P.length), ?_⟩ h
    rw [List.append_assoc, List.take_append, List.take_of_length_le hP]
theorem rTr_l0 (ha : a = (n : Int)) (hn0 : 0 < n) (hn : n ≤ 1000000) (hl : l2.length ≤ 1000000) (harc : ∀ x ∈ l2, 0 ≤ x.f0 ∧ x.f0 < (n : Int) ∧ 0 ≤ x.f2 ∧ x.f2 < (n : Int)) (hlm : l.length ≤ 4) (K : Nat) (hK : K ≤ 6) (N : Nat) (hN : N = 5000) (d : Nat) :
    ∀ (nn from_ : Nat), K - nn = d → nn ≤ K → ((pre n l2 l.length (nn + 1)).length ≤ N → from_ = (pre n l2 l.length nn).length) → from_ ≤ ((pre n l2 l.length (nn + 1)).take N).length →
    Ev (fun k => petrinetref45_Traces.l0 k (K : Int) ((pre n l2 l.length (nn + 1)).take N) (from_ : Int) (nn : Int) a l l2) ((pre n l2 l.length (K + 1)).take N) := by
  induction d with
  | zero =>
    intro nn from_ hd hnn hf _
    have e : nn = K := by clear hf; omega
    subst e
    exact Ev.step (f := fun _ => some ((pre n l2 l.length (nn + 1)).take N)) (fun k => by rw [petrinetref45_Traces.l0, if_neg (Int.lt_irrefl _)]) (Ev.now _)
  | succ d ih =>
    intro nn from_ hd hnn hf hfl
    have hlt : nn < K := by clear hf hfl ih; omega
    have hd' : K - (nn + 1) = d := by clear hf hfl ih; omega
    have e1 : ((nn : Int) + 1) = ((nn + 1 : Nat) : Int) := rfl
    have hk7 : nn + 1 ≤ 1000 := by clear hf hfl ih e1; omega
    have hnn6 : nn ≤ 6 := by clear hf hfl ih e1; omega
    have hw : wrap64 ((nn : Int) + 1) = (nn : Int) + 1 := by clear hf hfl ih e1; unfold wrap64; omega
    have hlm' : l.length ≤ 1000 := Nat.le_trans hlm (by decide)
    have hPl : ((pre n l2 l.length (nn + 1)).take N).length ≤ N := by rw [List.length_take]; exact Nat.min_le_left _ _
    have hsq : ∀ s ∈ (pre n l2 l.length (nn + 1)).take N, s.length ≤ 1000 := fun s hs => Nat.le_trans (pre_seq n l2 l.length (nn + 1) s (List.mem_of_mem_take hs)) hk7
    refine Ev.step (f := fun k => petrinetref45_Traces.l1 k (K : Int) ((pre n l2 l.length (nn + 1)).take N) (nn : Int) (((pre n l2 l.length (nn + 1)).take N).length : Int) (from_ : Int) a l l2) (fun k => by rw [petrinetref45_Traces.l0, if_pos (Int.ofNat_lt.mpr hlt)]) ?_
    refine rTr_l1 a l l2 n ha hn0 hn hl harc hlm' (K : Int) (nn : Int) hw _ hsq _ N hN hPl _ _ from_ rfl hfl hPl ⟨[], (List.append_nil _).symm⟩ ?_
    have key : (((pre n l2 l.length (nn + 1)).take N) ++ (((pre n l2 l.length (nn + 1)).take N).drop from_).flatMap (fun s => extF n l2 s l.length 0)).take N = (pre n l2 l.length (nn + 2)).take N := by
      by_cases g : (pre n l2 l.length (nn + 1)).length ≤ N
      · rw [List.take_of_length_le g, hf g, pre_succ n l2 l.length nn, List.drop_left, ← pre_succ n l2 l.length nn, pre_succ n l2 l.length (nn + 1)]
        rfl
      · have hbig : N ≤ (pre n l2 l.length (nn + 1)).length := Nat.le_of_lt (Nat.lt_of_not_le g)
        rw [tk_full N _ _ (by rw [List.length_take]; exact Nat.min_eq_left hbig), pre_succ n l2 l.length (nn + 1), List.take_append_of_le_length hbig]
    rw [key, e1]
    refine ih (nn + 1) _ hd' hlt (fun g => ?_) ?_
    · have g1 : (pre n l2 l.length (nn + 1)).length ≤ N := by
        rw [pre_succ n l2 l.length (nn + 1), List.length_append] at g
        exact Nat.le_trans (Nat.le_add_right _ _) g
      rw [List.take_of_length_le g1]
    · rw [List.length_take, List.length_take, pre_succ n l2 l.length (nn + 1), List.length_append]
      exact Nat.le_min.mpr ⟨Nat.min_le_left _ _, Nat.le_trans (Nat.min_le_right _ _) (Nat.le_add_right _ _)⟩
end
/-- What Traces comes to, on both sides. -/
def trS (a : Int) (l : List ByteArray) (l2 : List S44) (K : Int) : List (List Int) := if vaB a l l2 = true ∧ 0 ≤ K ∧ K ≤ 6 then (pre a.toNat l2 l.length (K.toNat + 1)).take 5000 else []
theorem traces_both (a : Int) (l : List ByteArray) (l2 : List S44) (hl2 : l2.length ≤ 1000000) (hlm : l.length ≤ 4) (K : Int) : Ev (fun k => system_Traces.f k a l l2 K) (trS a l l2 K) ∧ Ev (fun k => petrinetref45_Traces.f k a l l2 K) (trS a l l2 K) := by
  have sno : Ev (fun k => system_Traces.j0 k K true a l l2) [] := Ev.step (f := fun _ => some []) (fun k => by rw [system_Traces.j0, if_pos rfl]) (Ev.now _)
  have rno : Ev (fun k => petrinetref45_Traces.j0 k K true a l l2) [] := Ev.step (f := fun _ => some []) (fun k => by rw [petrinetref45_Traces.j0, if_pos rfl]) (Ev.now _)
  unfold system_Traces.f petrinetref45_Traces.f trS
  by_cases c : vaB a l l2 = true
  · have va := va_of c
    have h1 := va.lo
    have h2 := va.hi
    by_cases d : K < 0
    · rw [if_neg (fun q => absurd q.2.1 (by omega))]
      exact ⟨Ev.bind (svalid_ev a l l2 hl2) (by simp only [if_pos c, if_pos d]; exact sno), Ev.bind (rvalid_ev a l l2 hl2) (by simp only [if_pos c, if_pos d]; exact rno)⟩
    · by_cases e : K > 6
      · rw [if_neg (fun q => absurd q.2.2 (by omega))]
        exact ⟨Ev.bind (svalid_ev a l l2 hl2) (by simp only [if_pos c, if_neg d, decide_eq_true e]; exact sno), Ev.bind (rvalid_ev a l l2 hl2) (by simp only [if_pos c, if_neg d, decide_eq_true e]; exact rno)⟩
      · rw [if_pos ⟨c, by omega, by omega⟩]
        obtain ⟨Kn, hKn⟩ := Int.eq_ofNat_of_zero_le (show 0 ≤ K by omega)
        have hK6 : Kn ≤ 6 := by omega
        subst hKn
        rw [Int.toNat_natCast]
        have han : a = (a.toNat : Int) := by omega
        have hn0 : 0 < a.toNat := by omega
        have hn : a.toNat ≤ 1000000 := by omega
        have harc : ∀ x ∈ l2, 0 ≤ x.f0 ∧ x.f0 < (a.toNat : Int) ∧ 0 ≤ x.f2 ∧ x.f2 < (a.toNat : Int) := fun x hx => by have := va.arcs x hx; omega
        have p1 : pre a.toNat l2 l.length 1 = [[]] := rfl
        refine ⟨Ev.bind (svalid_ev a l l2 hl2) ?_, Ev.bind (rvalid_ev a l l2 hl2) ?_⟩
        · simp only [if_pos c, if_neg d, decide_eq_false e]
          have hs := sTr_l0 a l l2 a.toNat han hn hl2 harc hlm Kn hK6 (Kn + 1) 0 rfl (Nat.zero_le _) (Nat.zero_le _)
          rw [if_pos (Nat.zero_le _)] at hs
          have hr : (List.replicate a.toNat false).length = a.toNat := List.length_replicate
          refine Ev.step (f := fun k => system_Traces.l0 k (Kn : Int) [mkS a.toNat l2 []] [] 0 a l l2) (fun k => ?_) hs
          rw [system_Traces.j0, if_neg (by simp), if_pos (by omega), if_pos (by omega), Option.bind_some, if_pos (by rw [hr]; omega)]
          rfl
        · simp only [if_pos c, if_neg d, decide_eq_false e]
          have hs := rTr_l0 a l l2 a.toNat han hn0 hn hl2 harc hlm Kn hK6 5000 rfl Kn 0 0 rfl (Nat.zero_le _) (fun _ => rfl) (Nat.zero_le _)
          have e5 : (pre a.toNat l2 l.length (0 + 1)).take 5000 = [[]] := by
            have : pre a.toNat l2 l.length (0 + 1) = [[]] := rfl
            rw [this, List.take_of_length_le (by decide)]
          rw [e5] at hs
          exact Ev.step (f := fun k => petrinetref45_Traces.l0 k (Kn : Int) [[]] 0 0 a l l2) (fun k => by rw [petrinetref45_Traces.j0, if_neg (by simp)]) hs
  · rw [if_neg (fun q => c q.1)]
    exact ⟨Ev.bind (svalid_ev a l l2 hl2) (by simp only [if_neg c]; exact sno), Ev.bind (rvalid_ev a l l2 hl2) (by simp only [if_neg c]; exact rno)⟩
theorem trS_bd (a : Int) (l : List ByteArray) (l2 : List S44) (K : Int) : (trS a l l2 K).length ≤ 5000 ∧ ∀ s ∈ trS a l l2 K, s.length ≤ 7 := by
  unfold trS
  split
  · rename_i h
    refine ⟨by rw [List.length_take]; exact Nat.min_le_left _ _, fun s hs => ?_⟩
    have := pre_seq a.toNat l2 l.length (K.toNat + 1) s (List.mem_of_mem_take hs)
    omega
  · exact ⟨by simp, fun s hs => by simp at hs⟩
theorem lists_l (x : List (List Int)) (hx : x.length ≤ 1000000) (hs : ∀ s ∈ x, s.length ≤ 1000) (m : Nat) : ∀ i : Nat, x.length - i = m → i ≤ x.length → Ev (fun k => petrinetref04_Lists.l0 k x x (i : Int)) true := by
  induction m with
  | zero =>
    intro i hm hi
    exact Ev.step (f := fun _ => some true) (fun k => by rw [petrinetref04_Lists.l0, if_neg (by omega)]) (Ev.now _)
  | succ m ih =>
    intro i hm hi
    have h : i < x.length := by omega
    have e : rd_L4 x (i : Int) = x[i] := by rw [rdL4, List.getD_eq_getElem?_getD, List.getElem?_eq_getElem h]; rfl
    refine Ev.step (f := fun k => (petrinetref04_Same.f k x[i] x[i]).bind fun t => if t = true then petrinetref04_Lists.l0 k x x ((i + 1 : Nat) : Int) else some false) (fun k => by rw [petrinetref04_Lists.l0, if_pos (by omega), if_pos (by omega), if_pos (by omega), e, wrap_succ i (by omega)]) ?_
    refine Ev.bind (same_ev x[i] (by have := hs _ (List.getElem_mem h); omega)) ?_
    simp only [if_true]
    exact ih (i + 1) (by omega) (by omega)
theorem lists_ev (x : List (List Int)) (hx : x.length ≤ 1000000) (hs : ∀ s ∈ x, s.length ≤ 1000) : Ev (fun k => petrinetref04_Lists.f k x x) true := by
  unfold petrinetref04_Lists.f
  simp only [if_true]
  exact lists_l x hx hs _ 0 rfl (by omega)

/-! ### Isomorphisms: arcs by their keys, inverses -/
def k3 (x : S44) : Int × Int × Int := (x.f0, x.f1, x.f2)
theorem sub_of_len {α : Type} [DecidableEq α] : ∀ (L M : List α), L.Nodup → (∀ x ∈ L, x ∈ M) → M.length ≤ L.length → ∀ y ∈ M, y ∈ L
  | [], M, _, _, hl, y, hy => by
    have : M = [] := List.eq_nil_of_length_eq_zero (by simpa using hl)
    rw [this] at hy; simp at hy
  | x :: L, M, hn, hs, hl, y, hy => by
    obtain ⟨h1, h2⟩ := List.nodup_cons.1 hn
    have hx : x ∈ M := hs x List.mem_cons_self
    have hlen : (M.erase x).length = M.length - 1 := List.length_erase_of_mem hx
    by_cases e : y = x
    · rw [e]; exact List.mem_cons_self
    · refine List.mem_cons_of_mem _ (sub_of_len L (M.erase x) h2 (fun z hz => ?_) ?_ y ((List.mem_erase_of_ne e).mpr hy))
      · have hne : z ≠ x := fun q => h1 (q ▸ hz)
        exact (List.mem_erase_of_ne hne).mpr (hs z (List.mem_cons_of_mem _ hz))
      · rw [hlen]; rw [List.length_cons] at hl; omega
/-- The key of an arc comes before that of another. -/
def kbef (x y : S44) : Prop := x.f0 < y.f0 ∨ (x.f0 = y.f0 ∧ x.f1 < y.f1)
theorem kbef_trans {x y z : S44} (h : kbef x y) (k : kbef y z) : kbef x z := by unfold kbef at *; omega
theorem detL_adj (l2 : List S44) : ∀ (n i : Nat), detL l2 n i = true → ∀ j, i ≤ j → j < i + n → adj (gA l2 (j - 1)) (gA l2 j) = false
  | 0, i, _, j, h1, h2 => absurd h2 (by omega)
  | n + 1, i, h, j, h1, h2 => by
    rw [detL] at h
    split at h
    · simp at h
    · rename_i c
      by_cases e : j = i
      · subst e; exact Bool.eq_false_iff.mpr c
      · exact detL_adj l2 n (i + 1) h j (by omega) (by omega)
theorem keys_step {a : Int} {l : List ByteArray} {l2 : List S44} (h : dtB a l l2 = true) (j : Nat) (h0 : 0 < j) (hj : j < l2.length) : kbef (l2[j - 1]'(by omega)) l2[j] := by
  unfold dtB at h
  obtain ⟨hv, hd⟩ := Bool.and_eq_true_iff.mp h
  have hb := (va_of hv).asc j h0 hj
  have ha := detL_adj l2 _ 1 hd j (by omega) (by omega)
  unfold gA at hb ha
  rw [rdT_get l2 j hj, rdT_get l2 (j - 1) (by omega)] at hb ha
  have ha' : ¬ ((l2[j - 1]'(by omega)).f0 = l2[j].f0 ∧ (l2[j - 1]'(by omega)).f1 = l2[j].f1) := of_decide_eq_false ha
  unfold arcBef at hb
  unfold kbef
  split at hb
  · rename_i e
    split at hb
    · rename_i e2; exact absurd ⟨e, e2⟩ ha'
    · exact .inr ⟨e, of_decide_eq_true hb⟩
  · exact .inl (of_decide_eq_true hb)
theorem keys_lt {a : Int} {l : List ByteArray} {l2 : List S44} (h : dtB a l l2 = true) (i : Nat) : ∀ (d : Nat) (hj : i + d + 1 < l2.length), kbef (l2[i]'(by omega)) l2[i + d + 1]
  | 0, hj => keys_step h (i + 1) (by omega) hj
  | d + 1, hj => kbef_trans (keys_lt h i d (by omega)) (keys_step h (i + (d + 1) + 1) (by omega) hj)
theorem key_eq {a : Int} {l : List ByteArray} {l2 : List S44} (h : dtB a l l2 = true) {x y : S44} (hx : x ∈ l2) (hy : y ∈ l2) (e0 : x.f0 = y.f0) (e1 : x.f1 = y.f1) : x = y := by
  obtain ⟨i, hi, rfl⟩ := List.getElem_of_mem hx
  obtain ⟨j, hj, rfl⟩ := List.getElem_of_mem hy
  rcases Nat.lt_trichotomy i j with c | c | c
  · have := keys_lt h i (j - i - 1) (by omega)
    rw [show (l2[i + (j - i - 1) + 1]'(by omega)) = l2[j] by congr 1; omega] at this
    unfold kbef at this; omega
  · subst c; rfl
  · have := keys_lt h j (i - j - 1) (by omega)
    rw [show (l2[j + (i - j - 1) + 1]'(by omega)) = l2[i] by congr 1; omega] at this
    unfold kbef at this; omega
theorem nxL_some (s e : Int) : ∀ (L : List S44) (x : S44), x ∈ L → x.f0 = s → x.f1 = e → ∃ y ∈ L, y.f0 = s ∧ y.f1 = e ∧ nxL s e L = y.f2
  | z :: r, x, hx, h0, h1 => by
    rw [nxL]
    by_cases c : z.f0 = s ∧ z.f1 = e
    · rw [if_pos c]; exact ⟨z, List.mem_cons_self, c.1, c.2, rfl⟩
    · rw [if_neg c]
      rcases List.mem_cons.1 hx with rfl | hx
      · exact absurd ⟨h0, h1⟩ c
      · obtain ⟨y, q1, q2⟩ := nxL_some s e r x hx h0 h1
        exact ⟨y, List.mem_cons_of_mem _ q1, q2⟩
theorem nx_arc {a : Int} {l : List ByteArray} {l2 : List S44} (h : dtB a l l2 = true) {x : S44} (hx : x ∈ l2) : nxL x.f0 x.f1 l2 = x.f2 := by
  obtain ⟨y, h1, h2, h3, h4⟩ := nxL_some x.f0 x.f1 l2 x hx rfl rfl
  rw [h4, key_eq h h1 hx h2 h3]
/-! ### events -/
theorem ev_index {a : Int} {l : List ByteArray} {l2 : List S44} (h : VaP a l l2) (i : Nat) (hi : i < l.length) : evI l l[i] = (i : Int) := by
  unfold evI
  have hv := vls_len l
  rcases fd_spec (dl l[i]) (vls l) 0 with ⟨_, h2⟩ | ⟨m, h0, h1, h2, _⟩
  · exact absurd (by rw [← vls_getElem l i (by omega)]; exact List.getElem_mem _) h2
  · rw [h1]
    have hn := nodup_of h
    have : m = i := by
      have e : (vls l)[m] = (vls l)[i]'(by omega) := by rw [h2, vls_getElem l i (by omega)]
      exact (List.getElem_inj hn).mp e
    omega
theorem evI_mem (l : List ByteArray) (x : ByteArray) (h : 0 ≤ evI l x) : ∃ (j : Nat) (hj : j < l.length), evI l x = (j : Int) ∧ dl l[j] = dl x := by
  unfold evI at h ⊢
  rcases fd_spec (dl x) (vls l) 0 with ⟨h1, _⟩ | ⟨m, h0, h1, h2, _⟩
  · omega
  · have hm : m < l.length := by rw [vls_len] at h0; exact h0
    exact ⟨m, hm, by rw [h1]; omega, by rw [← vls_getElem l m h0]; exact h2⟩
theorem evI_of_eq {a : Int} {l : List ByteArray} {l2 : List S44} (h : VaP a l l2) (x : ByteArray) (i : Nat) (hi : i < l.length) (e : dl x = dl l[i]) : evI l x = (i : Int) := by
  have := ev_index h i hi
  unfold evI at this ⊢
  rw [e]; exact this
theorem okE_symm {a b : Int} {la1 lb1 : List ByteArray} {la2 lb2 : List S44} (ha : VaP a la1 la2) (hb : VaP b lb1 lb2) (hl : la1.length = lb1.length) (h : okE la1 lb1 = true) : okE lb1 la1 = true := by
  unfold okE at h ⊢
  rw [List.all_eq_true] at h ⊢
  intro y hy
  have hsub : ∀ s ∈ vls la1, s ∈ vls lb1 := by
    intro s hs
    obtain ⟨x, hx, rfl⟩ := List.mem_map.1 hs
    obtain ⟨j, hj, _, e⟩ := evI_mem lb1 x (of_decide_eq_true (h x hx))
    rw [← e]; exact List.mem_map.2 ⟨_, List.getElem_mem hj, rfl⟩
  have := sub_of_len (vls la1) (vls lb1) (nodup_of ha) hsub (by rw [vls_len, vls_len]; omega) (dl y) (List.mem_map.2 ⟨y, hy, rfl⟩)
  obtain ⟨x, hx, e⟩ := List.mem_map.1 this
  obtain ⟨i, hi, rfl⟩ := List.getElem_of_mem hx
  refine decide_eq_true ?_
  rw [evI_of_eq ha y i hi e.symm]
  omega
theorem Suit.symm {a0 : Int} {la1 : List ByteArray} {la2 : List S44} {b0 : Int} {lb1 : List ByteArray} {lb2 : List S44} (h : Suit a0 la1 la2 b0 lb1 lb2) : Suit b0 lb1 lb2 a0 la1 la2 :=
  ⟨h.db, h.da, h.rb, h.ra, h.st.symm, h.ar.symm, h.el.symm, okE_symm (va_of h.va.1) (va_of h.va.2) h.el h.ok⟩

/-! ### the inverse of an isomorphism -/
theorem evX_is {la1 lb1 : List ByteArray} {x : S44} (h0 : 0 ≤ x.f1) (h1 : x.f1.toNat < la1.length) : evX la1 lb1 x = evI lb1 (la1[x.f1.toNat]) := by
  unfold evX; rw [getD_get la1 _ h1]
theorem okE_at {la1 lb1 : List ByteArray} (h : okE la1 lb1 = true) (i : Nat) (hi : i < la1.length) : 0 ≤ evI lb1 la1[i] := by
  unfold okE at h
  rw [List.all_eq_true] at h
  exact of_decide_eq_true (h _ (List.getElem_mem hi))
section
variable {a0 : Int} {la1 : List ByteArray} {la2 : List S44} {b0 : Int} {lb1 : List ByteArray} {lb2 : List S44} {h : Nat → Nat}
theorem Suit.n (s : Suit a0 la1 la2 b0 lb1 lb2) : a0.toNat = b0.toNat := by rw [s.st]
/-- The name of an arc's event, found in the other system. -/
theorem Suit.ev (s : Suit a0 la1 la2 b0 lb1 lb2) {x : S44} (hx : x ∈ la2) : ∃ (i j : Nat) (hi : i < la1.length) (hj : j < lb1.length), x.f1 = (i : Int) ∧ evX la1 lb1 x = (j : Int) ∧ dl lb1[j] = dl la1[i] := by
  have ha := (va_of s.va.1).arcs x hx
  obtain ⟨i, hi⟩ := Int.eq_ofNat_of_zero_le ha.2.2.2.2.1
  have hil : i < la1.length := by omega
  have e : x.f1.toNat = i := by omega
  have hx1 : evX la1 lb1 x = evI lb1 la1[i] := by unfold evX; rw [e, getD_get la1 i hil]
  obtain ⟨j, hj, e1, e2⟩ := evI_mem lb1 la1[i] (okE_at s.ok i hil)
  exact ⟨i, j, hil, hj, hi, by rw [hx1, e1], e2⟩
theorem arcs_fwd (s : Suit a0 la1 la2 b0 lb1 lb2) (ho : Ho a0.toNat la2 lb2 (evX la1 lb1) h) {x : S44} (hx : x ∈ la2) : ∃ y ∈ lb2, y.f0 = ((h x.f0.toNat : Nat) : Int) ∧ y.f1 = evX la1 lb1 x ∧ y.f2 = ((h x.f2.toNat : Nat) : Int) := by
  have e := ho.arc x hx
  rcases nxL_mem ((h x.f0.toNat : Nat) : Int) (evX la1 lb1 x) lb2 with g | ⟨y, h1, h2, h3, h4⟩
  · rw [g] at e; omega
  · exact ⟨y, h1, h2, h3, by rw [← h4, e]⟩
theorem arcs_bwd (s : Suit a0 la1 la2 b0 lb1 lb2) (ho : Ho a0.toNat la2 lb2 (evX la1 lb1) h) (hi : Inj a0.toNat h) {y : S44} (hy : y ∈ lb2) : ∃ x ∈ la2, y.f0 = ((h x.f0.toNat : Nat) : Int) ∧ y.f1 = evX la1 lb1 x ∧ y.f2 = ((h x.f2.toNat : Nat) : Int) := by
  have hA := (va_of s.va.1).arcs
  let φ : S44 → Int × Int × Int := fun x => (((h x.f0.toNat : Nat) : Int), evX la1 lb1 x, ((h x.f2.toNat : Nat) : Int))
  have hnd : (la2.map φ).Nodup := by
    unfold List.Nodup
    rw [List.pairwise_iff_getElem]
    intro i j hi' hj' hij e
    rw [List.length_map] at hi' hj'
    rw [List.getElem_map, List.getElem_map] at e
    injection e with e0 e
    injection e with e1 _
    have a1 := hA _ (List.getElem_mem hi')
    have a2 := hA _ (List.getElem_mem hj')
    have f0 : la2[i].f0.toNat = la2[j].f0.toNat := hi _ _ (by omega) (by omega) (by omega)
    obtain ⟨p, q, hp, hq, g1, g2, g3⟩ := s.ev (List.getElem_mem hi')
    obtain ⟨p', q', hp', hq', g1', g2', g3'⟩ := s.ev (List.getElem_mem hj')
    have hqq : q = q' := by rw [g2, g2'] at e1; omega
    subst hqq
    have hpp : p = p' := by
      have e5 : (vls la1)[p]'(by rw [vls_len]; exact hp) = (vls la1)[p']'(by rw [vls_len]; exact hp') := by rw [vls_getElem la1 p, vls_getElem la1 p', ← g3, ← g3']
      exact (List.getElem_inj (nodup_of (va_of s.va.1))).mp e5
    have := keys_lt s.da i (j - i - 1) (by omega)
    rw [show (la2[i + (j - i - 1) + 1]'(by omega)) = la2[j] by congr 1; omega] at this
    unfold kbef at this
    omega
  have hsub : ∀ z ∈ la2.map φ, z ∈ lb2.map k3 := by
    intro z hz
    obtain ⟨x, hx, rfl⟩ := List.mem_map.1 hz
    obtain ⟨w, hw, e0, e1, e2⟩ := arcs_fwd s ho hx
    exact List.mem_map.2 ⟨w, hw, by show (w.f0, w.f1, w.f2) = _; rw [e0, e1, e2]⟩
  have := sub_of_len (la2.map φ) (lb2.map k3) hnd hsub (by rw [List.length_map, List.length_map, s.ar]; exact Nat.le_refl _) (k3 y) (List.mem_map.2 ⟨y, hy, rfl⟩)
  obtain ⟨x, hx, e⟩ := List.mem_map.1 this
  have e' : (((h x.f0.toNat : Nat) : Int), evX la1 lb1 x, ((h x.f2.toNat : Nat) : Int)) = (y.f0, y.f1, y.f2) := e
  injection e' with e0 e'
  injection e' with e1 e2
  exact ⟨x, hx, e0.symm, e1.symm, e2.symm⟩
theorem surj_of {n : Nat} (hl : ∀ u, u < n → h u < n) (hi : Inj n h) (t : Nat) (ht : t < n) : ∃ u, u < n ∧ h u = t := by
  have hnd : ((List.range n).map h).Nodup := by
    unfold List.Nodup
    rw [List.pairwise_iff_getElem]
    intro i j hi' hj' hij e
    rw [List.length_map, List.length_range] at hi' hj'
    rw [List.getElem_map, List.getElem_map, List.getElem_range, List.getElem_range] at e
    have := hi i j hi' hj' e
    omega
  have := sub_of_len ((List.range n).map h) (List.range n) hnd (fun z hz => by
    obtain ⟨u, hu, rfl⟩ := List.mem_map.1 hz
    exact List.mem_range.2 (hl u (List.mem_range.1 hu))) (by rw [List.length_map]; exact Nat.le_refl _) t (List.mem_range.2 ht)
  obtain ⟨u, hu, e⟩ := List.mem_map.1 this
  exact ⟨u, List.mem_range.1 hu, e⟩
open Classical in
noncomputable def invH (n : Nat) (h : Nat → Nat) (t : Nat) : Nat := if p : ∃ u, u < n ∧ h u = t then p.choose else 0
theorem invH_l {n : Nat} (hi : Inj n h) (u : Nat) (hu : u < n) : invH n h (h u) = u := by
  have p : ∃ v, v < n ∧ h v = h u := ⟨u, hu, rfl⟩
  unfold invH
  rw [dif_pos p]
  exact hi _ _ p.choose_spec.1 hu p.choose_spec.2
theorem invH_r {n : Nat} (hl : ∀ u, u < n → h u < n) (hi : Inj n h) (t : Nat) (ht : t < n) : invH n h t < n ∧ h (invH n h t) = t := by
  obtain ⟨u, hu, e⟩ := surj_of hl hi t ht
  rw [← e, invH_l hi u hu]
  exact ⟨hu, rfl⟩
theorem inv_ho (s : Suit a0 la1 la2 b0 lb1 lb2) (ho : Ho a0.toNat la2 lb2 (evX la1 lb1) h) (hi : Inj a0.toNat h) : Ho b0.toNat lb2 la2 (evX lb1 la1) (invH a0.toNat h) ∧ Inj b0.toNat (invH a0.toNat h) := by
  have hA := (va_of s.va.1)
  have hn := s.n
  have h1 := hA.lo
  refine ⟨⟨?_, fun t ht => ?_, fun y hy => ?_⟩, fun t t' ht ht' e => ?_⟩
  · have := invH_l hi 0 (by omega)
    rw [ho.z] at this
    exact this
  · rw [← hn] at ht ⊢; exact (invH_r ho.lt hi t ht).1
  · obtain ⟨x, hx, e0, e1, e2⟩ := arcs_bwd s ho hi hy
    have ax := hA.arcs x hx
    obtain ⟨p, q, hp, hq, g1, g2, g3⟩ := s.ev hx
    have t0 : y.f0.toNat = h x.f0.toNat := by omega
    have t2 : y.f2.toNat = h x.f2.toNat := by omega
    have t1 : evX lb1 la1 y = x.f1 := by
      have ey : y.f1.toNat = q := by rw [e1, g2]; omega
      unfold evX
      rw [ey, getD_get lb1 q hq, evI_of_eq hA lb1[q] p hp g3, g1]
    rw [t0, t2, invH_l hi _ (by omega), invH_l hi _ (by omega), t1]
    have e3 : ((x.f0.toNat : Nat) : Int) = x.f0 := by omega
    have e4 : ((x.f2.toNat : Nat) : Int) = x.f2 := by omega
    rw [e3, e4]
    exact nx_arc s.da hx
  · rw [← hn] at ht ht'
    rw [← (invH_r ho.lt hi t ht).2, ← (invH_r ho.lt hi t' ht').2, e]
end
/-- The isomorphism of a suited system with itself. -/
theorem self_ho {a0 : Int} {la1 : List ByteArray} {la2 : List S44} (hd : dtB a0 la1 la2 = true) : Ho a0.toNat la2 la2 (evX la1 la1) id ∧ Inj a0.toNat id ∧ okE la1 la1 = true := by
  have hv : vaB a0 la1 la2 = true := by unfold dtB at hd; exact (Bool.and_eq_true_iff.mp hd).1
  have hA := va_of hv
  refine ⟨⟨rfl, fun u hu => hu, fun x hx => ?_⟩, fun u v _ _ e => e, ?_⟩
  · have ax := hA.arcs x hx
    obtain ⟨p, hp⟩ := Int.eq_ofNat_of_zero_le ax.2.2.2.2.1
    have hpl : p < la1.length := by omega
    have e1 : evX la1 la1 x = x.f1 := by
      unfold evX
      have : x.f1.toNat = p := by omega
      rw [this, getD_get la1 p hpl, ev_index hA p hpl, hp]
    show nxL ((x.f0.toNat : Nat) : Int) (evX la1 la1 x) la2 = ((x.f2.toNat : Nat) : Int)
    have e3 : ((x.f0.toNat : Nat) : Int) = x.f0 := by omega
    have e4 : ((x.f2.toNat : Nat) : Int) = x.f2 := by omega
    rw [e1, e3, e4]
    exact nx_arc hd hx
  · unfold okE
    rw [List.all_eq_true]
    intro x hx
    obtain ⟨i, hi, rfl⟩ := List.getElem_of_mem hx
    exact decide_eq_true (by rw [ev_index hA i hi]; omega)

/-! ### isomorphic systems with the same events have the same traces -/
theorem foldO_gB (st : List Bool) (e : Int) : ∀ (l2 : List S44) (o : List Bool), (∀ x ∈ l2, x.f2.toNat < o.length) → ∀ v, gB (l2.foldl (stepO st e) o) v = true ↔ gB o v = true ∨ ∃ x ∈ l2, hitB st e x = true ∧ x.f2.toNat = v
  | [], o, _, v => by simp
  | x :: r, o, h, v => by
    rw [List.foldl_cons, foldO_gB st e r _ (fun y hy => by rw [stepO_len]; exact h y (List.mem_cons_of_mem _ hy)) v]
    unfold stepO
    by_cases c : hitB st e x = true
    · rw [if_pos c, gB_set]
      by_cases d : x.f2.toNat = v
      · rw [if_pos ⟨d, by rw [← d]; exact h x List.mem_cons_self⟩]
        exact ⟨fun _ => .inr ⟨x, List.mem_cons_self, c, d⟩, fun _ => .inl rfl⟩
      · rw [if_neg (fun q => d q.1)]
        constructor
        · rintro (q | ⟨y, q1, q2⟩)
          · exact .inl q
          · exact .inr ⟨y, List.mem_cons_of_mem _ q1, q2⟩
        · rintro (q | ⟨y, q1, q2, q3⟩)
          · exact .inl q
          · rcases List.mem_cons.1 q1 with rfl | q1
            · exact absurd q3 d
            · exact .inr ⟨y, q1, q2, q3⟩
    · rw [if_neg c]
      constructor
      · rintro (q | ⟨y, q1, q2⟩)
        · exact .inl q
        · exact .inr ⟨y, List.mem_cons_of_mem _ q1, q2⟩
      · rintro (q | ⟨y, q1, q2, q3⟩)
        · exact .inl q
        · rcases List.mem_cons.1 q1 with rfl | q1
          · exact absurd q2 c
          · exact .inr ⟨y, q1, q2, q3⟩
theorem nextS_gB (n : Nat) (l2 : List S44) (st : List Bool) (e : Int) (h : ∀ x ∈ l2, x.f2.toNat < n) (v : Nat) : gB (nextS n l2 st e) v = true ↔ ∃ x ∈ l2, hitB st e x = true ∧ x.f2.toNat = v := by
  unfold nextS
  rw [foldO_gB st e l2 _ (fun x hx => by rw [List.length_replicate]; exact h x hx) v, gB_repl]
  exact ⟨fun q => q.elim (fun q => by simp at q) id, .inr⟩
theorem hitB_iff (st : List Bool) (e : Int) (x : S44) : hitB st e x = true ↔ x.f1 = e ∧ gB st x.f0.toNat = true := by
  unfold hitB
  rw [Bool.and_eq_true_iff]
  exact ⟨fun q => ⟨of_decide_eq_true q.1, q.2⟩, fun q => ⟨decide_eq_true q.1, q.2⟩⟩
section
variable {a0 : Int} {la1 : List ByteArray} {la2 : List S44} {b0 : Int} {lb1 : List ByteArray} {lb2 : List S44} {h : Nat → Nat}
def SameEv (la1 lb1 : List ByteArray) : Prop := ∀ (i : Nat) (h1 : i < la1.length) (h2 : i < lb1.length), dl la1[i] = dl lb1[i]
theorem ev_same (s : Suit a0 la1 la2 b0 lb1 lb2) (he : SameEv la1 lb1) {x : S44} (hx : x ∈ la2) : evX la1 lb1 x = x.f1 := by
  obtain ⟨p, q, hp, hq, g1, g2, g3⟩ := s.ev hx
  have hpb : p < lb1.length := by have := s.el; omega
  have e := he p hp hpb
  have : q = p := by
    have e5 : (vls lb1)[q]'(by rw [vls_len]; exact hq) = (vls lb1)[p]'(by rw [vls_len]; exact hpb) := by rw [vls_getElem lb1 q, vls_getElem lb1 p, g3, e]
    exact (List.getElem_inj (nodup_of (va_of s.va.2))).mp e5
  rw [g2, this, g1]
def RelS (n : Nat) (h : Nat → Nat) (st st' : List Bool) : Prop := ∀ v, v < n → gB st' (h v) = gB st v
theorem rel_any (s : Suit a0 la1 la2 b0 lb1 lb2) (ho : Ho a0.toNat la2 lb2 (evX la1 lb1) h) (hi : Inj a0.toNat h) (he : SameEv la1 lb1) {st st' : List Bool} (hr : RelS a0.toNat h st st') (e : Int) : anyS lb2 st' e = anyS la2 st e := by
  have hA := (va_of s.va.1).arcs
  unfold anyS
  rw [Bool.eq_iff_iff, List.any_eq_true, List.any_eq_true]
  constructor
  · rintro ⟨y, hy, q⟩
    rw [hitB_iff] at q
    obtain ⟨x, hx, e0, e1, e2⟩ := arcs_bwd s ho hi hy
    have ax := hA x hx
    refine ⟨x, hx, (hitB_iff _ _ _).mpr ⟨by rw [← ev_same s he hx, ← e1, q.1], ?_⟩⟩
    rw [← hr x.f0.toNat (by omega), ← q.2]
    congr 1; omega
  · rintro ⟨x, hx, q⟩
    rw [hitB_iff] at q
    obtain ⟨y, hy, e0, e1, e2⟩ := arcs_fwd s ho hx
    have ax := hA x hx
    refine ⟨y, hy, (hitB_iff _ _ _).mpr ⟨by rw [e1, ev_same s he hx, q.1], ?_⟩⟩
    rw [← q.2, ← hr x.f0.toNat (by omega)]
    congr 1; omega
theorem rel_next (s : Suit a0 la1 la2 b0 lb1 lb2) (ho : Ho a0.toNat la2 lb2 (evX la1 lb1) h) (hi : Inj a0.toNat h) (he : SameEv la1 lb1) {st st' : List Bool} (hr : RelS a0.toNat h st st') (e : Int) : RelS a0.toNat h (nextS a0.toNat la2 st e) (nextS a0.toNat lb2 st' e) := by
  have hA := (va_of s.va.1).arcs
  have hB := (va_of s.va.2).arcs
  have hn := s.n
  intro v hv
  rw [Bool.eq_iff_iff, nextS_gB _ lb2 st' e (fun y hy => by have := hB y hy; omega), nextS_gB _ la2 st e (fun x hx => by have := hA x hx; omega)]
  constructor
  · rintro ⟨y, hy, q, qv⟩
    rw [hitB_iff] at q
    obtain ⟨x, hx, e0, e1, e2⟩ := arcs_bwd s ho hi hy
    have ax := hA x hx
    refine ⟨x, hx, (hitB_iff _ _ _).mpr ⟨by rw [← ev_same s he hx, ← e1, q.1], ?_⟩, hi _ _ (by omega) hv (by omega)⟩
    rw [← hr x.f0.toNat (by omega), ← q.2]
    congr 1; omega
  · rintro ⟨x, hx, q, qv⟩
    rw [hitB_iff] at q
    obtain ⟨y, hy, e0, e1, e2⟩ := arcs_fwd s ho hx
    have ax := hA x hx
    refine ⟨y, hy, (hitB_iff _ _ _).mpr ⟨by rw [e1, ev_same s he hx, q.1], ?_⟩, ?_⟩
    · rw [← q.2, ← hr x.f0.toNat (by omega)]
      congr 1; omega
    · rw [← qv]; omega
theorem rel_fold (s : Suit a0 la1 la2 b0 lb1 lb2) (ho : Ho a0.toNat la2 lb2 (evX la1 lb1) h) (hi : Inj a0.toNat h) (he : SameEv la1 lb1) : ∀ (seq : List Int) (st st' : List Bool), RelS a0.toNat h st st' → RelS a0.toNat h (seq.foldl (nextS a0.toNat la2) st) (seq.foldl (nextS a0.toNat lb2) st')
  | [], _, _, hr => hr
  | e :: r, _, _, hr => by rw [List.foldl_cons, List.foldl_cons]; exact rel_fold s ho hi he r _ _ (rel_next s ho hi he hr e)
theorem rel_fol (s : Suit a0 la1 la2 b0 lb1 lb2) (ho : Ho a0.toNat la2 lb2 (evX la1 lb1) h) (hi : Inj a0.toNat h) (he : SameEv la1 lb1) (seq : List Int) : RelS a0.toNat h (fol a0.toNat la2 seq) (fol a0.toNat lb2 seq) := by
  have h1 := (va_of s.va.1).lo
  have g0 : ∀ v, v < a0.toNat → (gB (st0 a0.toNat) v = true ↔ v = 0) := fun v hv => by
    unfold st0
    rw [gB_set, gB_repl, List.length_replicate]
    by_cases e : 0 = v ∧ v < a0.toNat
    · rw [if_pos e]; exact ⟨fun _ => e.1.symm, fun _ => rfl⟩
    · rw [if_neg e]; exact ⟨fun q => by simp at q, fun q => absurd ⟨q.symm, hv⟩ e⟩
  refine rel_fold s ho hi he seq _ _ (fun v hv => ?_)
  rw [Bool.eq_iff_iff, g0 (h v) (ho.lt v hv), g0 v hv]
  constructor
  · intro q; exact hi v 0 hv (by omega) (by rw [q, ho.z])
  · intro q; rw [q, ho.z]
theorem ext_same (s : Suit a0 la1 la2 b0 lb1 lb2) (ho : Ho a0.toNat la2 lb2 (evX la1 lb1) h) (hi : Inj a0.toNat h) (he : SameEv la1 lb1) (seq : List Int) : ∀ c j, extF a0.toNat lb2 seq c j = extF a0.toNat la2 seq c j
  | 0, _ => rfl
  | c + 1, j => by
    rw [extF, extF, rel_any s ho hi he (rel_fol s ho hi he seq), ext_same s ho hi he seq c (j + 1)]
theorem lev_same (s : Suit a0 la1 la2 b0 lb1 lb2) (ho : Ho a0.toNat la2 lb2 (evX la1 lb1) h) (hi : Inj a0.toNat h) (he : SameEv la1 lb1) (m : Nat) : ∀ t, lev a0.toNat lb2 m t = lev a0.toNat la2 m t
  | 0 => rfl
  | t + 1 => by
    rw [lev, lev, lev_same s ho hi he m t]
    congr 1
    funext q
    exact ext_same s ho hi he q m 0
theorem pre_same (s : Suit a0 la1 la2 b0 lb1 lb2) (ho : Ho a0.toNat la2 lb2 (evX la1 lb1) h) (hi : Inj a0.toNat h) (he : SameEv la1 lb1) (m : Nat) : ∀ t, pre a0.toNat lb2 m t = pre a0.toNat la2 m t
  | 0 => rfl
  | t + 1 => by rw [pre, pre, pre_same s ho hi he m t, lev_same s ho hi he m t]
theorem trS_same (s : Suit a0 la1 la2 b0 lb1 lb2) (ho : Ho a0.toNat la2 lb2 (evX la1 lb1) h) (hi : Inj a0.toNat h) (he : SameEv la1 lb1) (K : Int) : trS b0 lb1 lb2 K = trS a0 la1 la2 K := by
  have va := s.va
  unfold trS
  rw [← s.n, ← s.el, pre_same s ho hi he, va.1, va.2]
end
end Go.Proofs.Ytcnliampiibpbaa.Plain
