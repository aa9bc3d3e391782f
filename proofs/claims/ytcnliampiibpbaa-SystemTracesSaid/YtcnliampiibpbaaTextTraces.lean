/- Plain laws over the printed functions: what each comes to. No condition but the ones written. -/
import Derived.Test.YtcnliampiibpbaaPlainG
import Derived.Test.YtcnliampiibpbaaPAllx9
import Derived.Test.YtcnliampiibpbaaPAlllSystemTraces
namespace Go.Proofs.Ytcnliampiibpbaa.Plain
open Go Go.RowKit Go.Proofs.Ytcnliampiibpbaa.PAll Go.Proofs.YtcnliampiibpbaaW.PrintWords Go.Proofs.YtcnliampiibpbaaW.PrintLast Go.Proofs.YtcnliampiibpbaaW.PrintMore
set_option linter.unusedVariables false
theorem same_l (a : List Int) (hl : a.length ≤ 1000000) (n : Nat) : ∀ i : Nat, a.length - i = n → i ≤ a.length → Ev (fun k => petrinetref04_Same.l0 k a a (i : Int)) true := by
  induction n with
  | zero =>
    intro i hn hi
    exact Ev.step (f := fun _ => some true) (fun k => by rw [petrinetref04_Same.l0, if_neg (by omega)]) (Ev.now _)
  | succ n ih =>
    intro i hn hi
    exact Ev.step (f := fun k => petrinetref04_Same.l0 k a a ((i + 1 : Nat) : Int)) (fun k => by rw [petrinetref04_Same.l0, if_pos (by omega), if_pos (by omega), if_pos (by omega), if_pos rfl, wrap_succ i (by omega)]) (ih (i + 1) (by omega) (by omega))
theorem same_ev (a : List Int) (hl : a.length ≤ 1000000) : Ev (fun k => petrinetref04_Same.f k a a) true := by
  unfold petrinetref04_Same.f
  simp only [if_true]
  exact same_l a hl _ 0 rfl (by omega)

/-! ### Traces of the specification -/
section
variable (a : Int) (l : List ByteArray) (l2 : List S44) (n : Nat)
theorem tk_app (x y : List (List Int)) (hx : x.length ≤ 5000) : ((x ++ y).take 5000).length ≤ 5000 := by
  rw [List.length_take]; exact Nat.min_le_left _ _
theorem tk_tk (N : Nat) (x y : List (List Int)) : (x.take N ++ y).take N = (x ++ y).take N := by
  rcases Nat.le_total x.length N with h | h
  · rw [List.take_of_length_le h]
  · rw [List.take_append_of_le_length (by rw [List.length_take]; omega), List.take_append_of_le_length h, List.take_take, Nat.min_self]
theorem tk_full (N : Nat) (x y : List (List Int)) (h : x.length = N) : (x ++ y).take N = x := by
  rw [List.take_append_of_le_length (by omega), List.take_of_length_le (by omega)]
theorem rTr_l2 (ha : a = (n : Int)) (hn0 : 0 < n) (hn : n ≤ 1000000) (hl : l2.length ≤ 1000000) (harc : ∀ x ∈ l2, 0 ≤ x.f0 ∧ x.f0 < (n : Int) ∧ 0 ≤ x.f2 ∧ x.f2 < (n : Int)) (hlm : l.length ≤ 1000) (K nn tz : Int) (i : Nat) (hi : i < 1000000) (seq : List Int) (hseq : seq.length ≤ 1000) (R : List (List Int)) (N : Nat) (hN : N = 5000) (c : Nat) :
    ∀ (out : List (List Int)) (j : Nat), l.length - j = c → j ≤ l.length → out.length ≤ N → i < out.length → out.getD i [] = seq → Ev (fun k => petrinetref45_Traces.l1 k K ((out ++ extF n l2 seq c j).take N) nn tz ((i + 1 : Nat) : Int) a l l2) R →
    Ev (fun k => petrinetref45_Traces.l2 k K out nn tz (i : Int) (j : Int) a l l2) R := by
  have hf2 : ∀ x ∈ l2, x.f2.toNat < n := fun x hx => by have := harc x hx; omega
  induction c with
  | zero =>
    intro out j hc hj ho hio hg h
    rw [extF, List.append_nil, List.take_of_length_le ho] at h
    have hj2 : ¬ ((j : Int) < (l.length : Int)) := by clear ho; omega
    exact Ev.step (f := fun k => petrinetref45_Traces.l1 k K out nn tz ((i + 1 : Nat) : Int) a l l2) (fun k => by rw [petrinetref45_Traces.l2, if_neg hj2, wrap_succ i (by clear ho; omega)]) h
  | succ c ih =>
    intro out j hc hj ho hio hg h
    have hlt : j < l.length := by clear ho; omega
    have hj1 : (j : Int) < (l.length : Int) := by clear ho; omega
    have hio1 : (i : Int) < (out.length : Int) := Int.ofNat_lt.mpr hio
    have hcj : l.length - (j + 1) = c := by clear ho hg h ih; omega
    have hs1 : seq.length ≤ 1000000 := by clear ho hg h ih; omega
    have hs2 : seq.length + 1 ≤ 1000000 := by clear ho hg h ih; omega
    have c1 : seq.length < 17592186044416 := by clear ho hg h ih; omega
    have hN2 : N < 5864062014805 := by clear ho hg h ih; omega
    have c2 : out.length < 5864062014805 := Nat.lt_of_le_of_lt ho hN2
    have hj6 : j < 9223372036854775807 := by clear ho hg h ih c1 hN2 c2; omega
    have hwj : wrap64 ((j : Int) + 1) = ((j + 1 : Nat) : Int) := wrap_succ j hj6
    have hrd : rd_L4 out (i : Int) = seq := by unfold rd_L4; rw [Int.toNat_natCast]; exact hg
    rw [extF] at h
    have hb := copy_ev seq hs1
    have hnn : (0 : Int) ≤ (i : Int) := Int.natCast_nonneg i
    refine Ev.step (f := fun k => (petrinetref04_Copy.f k seq).bind fun t311 => (if t311.length < 17592186044416 then ((some (t311 ++ [(j : Int)] : List Int)).bind fun y314 => (if (out.length : Int) < 5000 then ((petrinetref45_can.f k a l l2 y314).bind fun t317 => (if t317 = true then (if out.length < 5864062014805 then (petrinetref45_Traces.l2 k K (out ++ [y314]) nn tz (i : Int) ((j + 1 : Nat) : Int) a l l2) else none) else (petrinetref45_Traces.l2 k K out nn tz (i : Int) ((j + 1 : Nat) : Int) a l l2))) else (petrinetref45_Traces.l2 k K out nn tz (i : Int) ((j + 1 : Nat) : Int) a l l2))) else none)) (fun k => by rw [petrinetref45_Traces.l2, if_pos hj1, if_pos hnn, if_pos hio1, hrd, hwj]) ?_
    refine Ev.bind hb ?_
    refine Ev.congr (f := fun k => if (out.length : Int) < 5000 then ((petrinetref45_can.f k a l l2 (seq ++ [(j : Int)])).bind fun t317 => (if t317 = true then (if out.length < 5864062014805 then (petrinetref45_Traces.l2 k K (out ++ [seq ++ [(j : Int)]]) nn tz (i : Int) ((j + 1 : Nat) : Int) a l l2) else none) else (petrinetref45_Traces.l2 k K out nn tz (i : Int) ((j + 1 : Nat) : Int) a l l2))) else (petrinetref45_Traces.l2 k K out nn tz (i : Int) ((j + 1 : Nat) : Int) a l l2)) (fun k => by rw [if_pos c1, Option.bind_some]) ?_
    by_cases g : out.length < N
    · have g1 : (out.length : Int) < 5000 := by subst hN; exact Int.ofNat_lt.mpr g
      refine Ev.congr (f := fun k => ((petrinetref45_can.f k a l l2 (seq ++ [(j : Int)])).bind fun t317 => (if t317 = true then (if out.length < 5864062014805 then (petrinetref45_Traces.l2 k K (out ++ [seq ++ [(j : Int)]]) nn tz (i : Int) ((j + 1 : Nat) : Int) a l l2) else none) else (petrinetref45_Traces.l2 k K out nn tz (i : Int) ((j + 1 : Nat) : Int) a l l2)))) (fun k => by rw [if_pos g1]) ?_
      have hcan := can_ev a l l2 n ha hn0 hn hl (seq ++ [(j : Int)]) (by rw [List.length_append, List.length_singleton]; exact hs2) (fun x hx => harc x hx)
      rw [fol_snoc, nextS_any n l2 _ _ hf2] at hcan
      refine Ev.bind hcan ?_
      by_cases d : anyS l2 (fol n l2 seq) (j : Int) = true
      · rw [if_pos d] at h
        refine Ev.congr (f := fun k => petrinetref45_Traces.l2 k K (out ++ [seq ++ [(j : Int)]]) nn tz (i : Int) ((j + 1 : Nat) : Int) a l l2) (fun k => by rw [if_pos d, if_pos c2]) ?_
        refine ih (out ++ [seq ++ [(j : Int)]]) (j + 1) hcj hlt (by rw [List.length_append, List.length_singleton]; exact g) (by rw [List.length_append]; exact Nat.lt_add_right _ hio) ?_ ?_
        · rw [List.getD_eq_getElem?_getD, List.getElem?_append_left hio, ← List.getD_eq_getElem?_getD]; exact hg
        · rw [List.append_assoc]; exact h
      · rw [if_neg d] at h
        refine Ev.congr (f := fun k => petrinetref45_Traces.l2 k K out nn tz (i : Int) ((j + 1 : Nat) : Int) a l l2) (fun k => by rw [if_neg d]) ?_
        exact ih out (j + 1) hcj hlt ho hio hg h
    · have e : out.length = N := Nat.le_antisymm ho (Nat.le_of_not_lt g)
      have g1 : ¬ (out.length : Int) < 5000 := by subst hN; rw [e]; decide
      refine Ev.congr (f := fun k => petrinetref45_Traces.l2 k K out nn tz (i : Int) ((j + 1 : Nat) : Int) a l l2) (fun k => by rw [if_neg g1]) ?_
      refine ih out (j + 1) hcj hlt ho hio hg ?_
      rw [tk_full N out _ e] at h ⊢
      exact h
theorem rTr_l1 (ha : a = (n : Int)) (hn0 : 0 < n) (hn : n ≤ 1000000) (hl : l2.length ≤ 1000000) (harc : ∀ x ∈ l2, 0 ≤ x.f0 ∧ x.f0 < (n : Int) ∧ 0 ≤ x.f2 ∧ x.f2 < (n : Int)) (hlm : l.length ≤ 1000) (K nn : Int) (hnn : wrap64 (nn + 1) = nn + 1) (P : List (List Int)) (hseq : ∀ s ∈ P, s.length ≤ 1000) (R : List (List Int)) (N : Nat) (hN : N = 5000) (hP : P.length ≤ N) (c : Nat) :
    ∀ (out : List (List Int)) (i : Nat), P.length - i = c → i ≤ P.length → out.length ≤ N → (∃ z, out = P ++ z) → Ev (fun k => petrinetref45_Traces.l0 k K ((out ++ (P.drop i).flatMap (fun s => extF n l2 s l.length 0)).take N) (P.length : Int) (nn + 1) a l l2) R →
    Ev (fun k => petrinetref45_Traces.l1 k K out nn (P.length : Int) (i : Int) a l l2) R := by
  induction c with
  | zero =>
    intro out i hc hi ho hz h
    have hi2 : i = P.length := by clear hP ho; omega
    rw [drop_end P i (Nat.le_of_eq hi2.symm), List.flatMap_nil, List.append_nil, List.take_of_length_le ho] at h
    have hi3 : ¬ ((i : Int) < (P.length : Int)) := by rw [hi2]; exact Int.lt_irrefl _
    exact Ev.step (f := fun k => petrinetref45_Traces.l0 k K out (P.length : Int) (nn + 1) a l l2) (fun k => by rw [petrinetref45_Traces.l1, if_neg hi3, hnn]) h
  | succ c ih =>
    intro out i hc hi ho hz h
    have hlt : i < P.length := by clear hP ho; omega
    have hci : P.length - (i + 1) = c := by clear hP ho; omega
    have hi3 : (i : Int) < (P.length : Int) := Int.ofNat_lt.mpr hlt
    have hi6 : i < 1000000 := by subst hN; exact Nat.lt_of_lt_of_le hlt (Nat.le_trans hP (by decide))
    obtain ⟨z, rfl⟩ := hz
    have hio : i < (P ++ z).length := by rw [List.length_append]; exact Nat.lt_add_right _ hlt
    have hg : (P ++ z).getD i [] = P[i] := by
      rw [List.getD_eq_getElem?_getD, List.getElem?_append_left hlt, List.getElem?_eq_getElem hlt]; rfl
    rw [drop_cons P i hlt, List.flatMap_cons, ← List.append_assoc, ← tk_tk] at h
    refine Ev.step (f := fun k => petrinetref45_Traces.l2 k K (P ++ z) nn (P.length : Int) (i : Int) 0 a l l2) (fun k => by rw [petrinetref45_Traces.l1, if_pos hi3]) ?_
    refine rTr_l2 a l l2 n ha hn0 hn hl harc hlm K nn (P.length : Int) i hi6 P[i] (hseq _ (List.getElem_mem hlt)) R N hN l.length (P ++ z) 0 (Nat.sub_zero _) (Nat.zero_le _) ho hio hg ?_
    refine ih _ (i + 1) hci hlt (by rw [List.length_take]; exact Nat.min_le_left _ _) ⟨(z ++ extF n l2 P[i] l.length 0).take (N - P.length), ?_⟩ h
    rw [List.append_assoc, List.take_append, List.take_of_length_le hP]
theorem rTr_l0 (ha : a = (n : Int)) (hn0 : 0 < n) (hn : n ≤ 1000000) (hl : l2.length ≤ 1000000) (harc : ∀ x ∈ l2, 0 ≤ x.f0 ∧ x.f0 < (n : Int) ∧ 0 ≤ x.f2 ∧ x.f2 < (n : Int)) (hlm : l.length ≤ 4) (K : Nat) (hK : K ≤ 6) (N : Nat) (hN : N = 5000) (d : Nat) :
    ∀ (nn from_ : Nat), K - nn = d → nn ≤ K → ((pre n l2 l.length (nn + 1)).length ≤ N → from_ = (pre n l2 l.length nn).length) → from_ ≤ ((pre n l2 l.length (nn + 1)).take N).length →
    Ev (fun k => petrinetref45_Traces.l0 k (K : Int) ((pre n l2 l.length (nn + 1)).take N) (from_ : Int) (nn : Int) a l l2) ((pre n l2 l.length (K + 1)).take N) := by
  induction d with
  | zero =>
    intro nn from_ hd hnn hf _
    have e : nn = K := by clear hf; omega
    subst e
    exact Ev.step (f := fun _ => some ((pre n l2 l.length (nn + 1)).take N)) (fun k => by rw [petrinetref45_Traces.l0, if_neg (Int.lt_irrefl _)]) (Ev.now _)
  | succ d ih =>
    intro nn from_ hd hnn hf hfl
    have hlt : nn < K := by clear hf hfl ih; omega
    have hd' : K - (nn + 1) = d := by clear hf hfl ih; omega
    have e1 : ((nn : Int) + 1) = ((nn + 1 : Nat) : Int) := rfl
    have hk7 : nn + 1 ≤ 1000 := by clear hf hfl ih e1; omega
    have hnn6 : nn ≤ 6 := by clear hf hfl ih e1; omega
    have hw : wrap64 ((nn : Int) + 1) = (nn : Int) + 1 := by clear hf hfl ih e1; unfold wrap64; omega
    have hlm' : l.length ≤ 1000 := Nat.le_trans hlm (by decide)
    have hPl : ((pre n l2 l.length (nn + 1)).take N).length ≤ N := by rw [List.length_take]; exact Nat.min_le_left _ _
    have hsq : ∀ s ∈ (pre n l2 l.length (nn + 1)).take N, s.length ≤ 1000 := fun s hs => Nat.le_trans (pre_seq n l2 l.length (nn + 1) s (List.mem_of_mem_take hs)) hk7
    refine Ev.step (f := fun k => petrinetref45_Traces.l1 k (K : Int) ((pre n l2 l.length (nn + 1)).take N) (nn : Int) (((pre n l2 l.length (nn + 1)).take N).length : Int) (from_ : Int) a l l2) (fun k => by rw [petrinetref45_Traces.l0, if_pos (Int.ofNat_lt.mpr hlt)]) ?_
    refine rTr_l1 a l l2 n ha hn0 hn hl harc hlm' (K : Int) (nn : Int) hw _ hsq _ N hN hPl _ _ from_ rfl hfl hPl ⟨[], (List.append_nil _).symm⟩ ?_
    have key : (((pre n l2 l.length (nn + 1)).take N) ++ (((pre n l2 l.length (nn + 1)).take N).drop from_).flatMap (fun s => extF n l2 s l.length 0)).take N = (pre n l2 l.length (nn + 2)).take N := by
      by_cases g : (pre n l2 l.length (nn + 1)).length ≤ N
      · rw [List.take_of_length_le g, hf g, pre_succ n l2 l.length nn, List.drop_left, ← pre_succ n l2 l.length nn, pre_succ n l2 l.length (nn + 1)]
        rfl
      · have hbig : N ≤ (pre n l2 l.length (nn + 1)).length := Nat.le_of_lt (Nat.lt_of_not_le g)
        rw [tk_full N _ _ (by rw [List.length_take]; exact Nat.min_eq_left hbig), pre_succ n l2 l.length (nn + 1), List.take_append_of_le_length hbig]
    rw [key, e1]
    refine ih (nn + 1) _ hd' hlt (fun g => ?_) ?_
    · have g1 : (pre n l2 l.length (nn + 1)).length ≤ N := by
        rw [pre_succ n l2 l.length (nn + 1), List.length_append] at g
        exact Nat.le_trans (Nat.le_add_right _ _) g
      rw [List.take_of_length_le g1]
    · rw [List.length_take, List.length_take, pre_succ n l2 l.length (nn + 1), List.length_append]
      exact Nat.le_min.mpr ⟨Nat.min_le_left _ _, Nat.le_trans (Nat.min_le_right _ _) (Nat.le_add_right _ _)⟩
end
/-- What Traces comes to, on both sides. -/
def trS (a : Int) (l : List ByteArray) (l2 : List S44) (K : Int) : List (List Int) := if vaB a l l2 = true ∧ 0 ≤ K ∧ K ≤ 6 then (pre a.toNat l2 l.length (K.toNat + 1)).take 5000 else []
theorem traces_both (a : Int) (l : List ByteArray) (l2 : List S44) (hl2 : l2.length ≤ 1000000) (hlm : l.length ≤ 4) (K : Int) : Ev (fun k => system_Traces.f k a l l2 K) (trS a l l2 K) ∧ Ev (fun k => petrinetref45_Traces.f k a l l2 K) (trS a l l2 K) := by
  have sno : Ev (fun k => system_Traces.j0 k K true a l l2) [] := Ev.step (f := fun _ => some []) (fun k => by rw [system_Traces.j0, if_pos rfl]) (Ev.now _)
  have rno : Ev (fun k => petrinetref45_Traces.j0 k K true a l l2) [] := Ev.step (f := fun _ => some []) (fun k => by rw [petrinetref45_Traces.j0, if_pos rfl]) (Ev.now _)
  unfold system_Traces.f petrinetref45_Traces.f trS
  by_cases c : vaB a l l2 = true
  · have va := va_of c
    have h1 := va.lo
    have h2 := va.hi
    by_cases d : K < 0
    · rw [if_neg (fun q => absurd q.2.1 (by omega))]
      exact ⟨Ev.bind (svalid_ev a l l2 hl2) (by simp only [if_pos c, if_pos d]; exact sno), Ev.bind (rvalid_ev a l l2 hl2) (by simp only [if_pos c, if_pos d]; exact rno)⟩
    · by_cases e : K > 6
      · rw [if_neg (fun q => absurd q.2.2 (by omega))]
        exact ⟨Ev.bind (svalid_ev a l l2 hl2) (by simp only [if_pos c, if_neg d, decide_eq_true e]; exact sno), Ev.bind (rvalid_ev a l l2 hl2) (by simp only [if_pos c, if_neg d, decide_eq_true e]; exact rno)⟩
      · rw [if_pos ⟨c, by omega, by omega⟩]
        obtain ⟨Kn, hKn⟩ := Int.eq_ofNat_of_zero_le (show 0 ≤ K by omega)
        have hK6 : Kn ≤ 6 := by omega
        subst hKn
        rw [Int.toNat_natCast]
        have han : a = (a.toNat : Int) := by omega
        have hn0 : 0 < a.toNat := by omega
        have hn : a.toNat ≤ 1000000 := by omega
        have harc : ∀ x ∈ l2, 0 ≤ x.f0 ∧ x.f0 < (a.toNat : Int) ∧ 0 ≤ x.f2 ∧ x.f2 < (a.toNat : Int) := fun x hx => by have := va.arcs x hx; omega
        have p1 : pre a.toNat l2 l.length 1 = [[]] := rfl
        refine ⟨Ev.bind (svalid_ev a l l2 hl2) ?_, Ev.bind (rvalid_ev a l l2 hl2) ?_⟩
        · simp only [if_pos c, if_neg d, decide_eq_false e]
          have hs := sTr_l0 a l l2 a.toNat han hn hl2 harc hlm Kn hK6 (Kn + 1) 0 rfl (Nat.zero_le _) (Nat.zero_le _)
          rw [if_pos (Nat.zero_le _)] at hs
          have hr : (List.replicate a.toNat false).length = a.toNat := List.length_replicate
          refine Ev.step (f := fun k => system_Traces.l0 k (Kn : Int) [mkS a.toNat l2 []] [] 0 a l l2) (fun k => ?_) hs
          rw [system_Traces.j0, if_neg (by simp), if_pos (by omega), if_pos (by omega), Option.bind_some, if_pos (by rw [hr]; omega)]
          rfl
        · simp only [if_pos c, if_neg d, decide_eq_false e]
          have hs := rTr_l0 a l l2 a.toNat han hn0 hn hl2 harc hlm Kn hK6 5000 rfl Kn 0 0 rfl (Nat.zero_le _) (fun _ => rfl) (Nat.zero_le _)
          have e5 : (pre a.toNat l2 l.length (0 + 1)).take 5000 = [[]] := by
            have : pre a.toNat l2 l.length (0 + 1) = [[]] := rfl
            rw [this, List.take_of_length_le (by decide)]
          rw [e5] at hs
          exact Ev.step (f := fun k => petrinetref45_Traces.l0 k (Kn : Int) [[]] 0 0 a l l2) (fun k => by rw [petrinetref45_Traces.j0, if_neg (by simp)]) hs
  · rw [if_neg (fun q => c q.1)]
    exact ⟨Ev.bind (svalid_ev a l l2 hl2) (by simp only [if_neg c]; exact sno), Ev.bind (rvalid_ev a l l2 hl2) (by simp only [if_neg c]; exact rno)⟩
theorem trS_bd (a : Int) (l : List ByteArray) (l2 : List S44) (K : Int) : (trS a l l2 K).length ≤ 5000 ∧ ∀ s ∈ trS a l l2 K, s.length ≤ 7 := by
  unfold trS
  split
  · rename_i h
    refine ⟨by rw [List.length_take]; exact Nat.min_le_left _ _, fun s hs => ?_⟩
    have := pre_seq a.toNat l2 l.length (K.toNat + 1) s (List.mem_of_mem_take hs)
    omega
  · exact ⟨by simp, fun s hs => by simp at hs⟩
theorem lists_l (x : List (List Int)) (hx : x.length ≤ 1000000) (hs : ∀ s ∈ x, s.length ≤ 1000) (m : Nat) : ∀ i : Nat, x.length - i = m → i ≤ x.length → Ev (fun k => petrinetref04_Lists.l0 k x x (i : Int)) true := by
  induction m with
  | zero =>
    intro i hm hi
    exact Ev.step (f := fun _ => some true) (fun k => by rw [petrinetref04_Lists.l0, if_neg (by omega)]) (Ev.now _)
  | succ m ih =>
    intro i hm hi
    have h : i < x.length := by omega
    have e : rd_L4 x (i : Int) = x[i] := by rw [rdL4, List.getD_eq_getElem?_getD, List.getElem?_eq_getElem h]; rfl
    refine Ev.step (f := fun k => (petrinetref04_Same.f k x[i] x[i]).bind fun t => if t = true then petrinetref04_Lists.l0 k x x ((i + 1 : Nat) : Int) else some false) (fun k => by rw [petrinetref04_Lists.l0, if_pos (by omega), if_pos (by omega), if_pos (by omega), e, wrap_succ i (by omega)]) ?_
    refine Ev.bind (same_ev x[i] (by have := hs _ (List.getElem_mem h); omega)) ?_
    simp only [if_true]
    exact ih (i + 1) (by omega) (by omega)
theorem lists_ev (x : List (List Int)) (hx : x.length ≤ 1000000) (hs : ∀ s ∈ x, s.length ≤ 1000) : Ev (fun k => petrinetref04_Lists.f k x x) true := by
  unfold petrinetref04_Lists.f
  simp only [if_true]
  exact lists_l x hx hs _ 0 rfl (by omega)

theorem SystemTraces_pure (a : Int) (_ : (Lit.int .i64 a).wf = true) (l : List ByteArray) (_ : l.length ≤ maxLen) (_ : ∀ z ∈ l, z.size ≤ maxLen) (l2 : List S44) (_ : l2.length ≤ maxLen) (_ : ∀ z ∈ l2, (Lit.int .i64 z.f0).wf = true ∧ (Lit.int .i64 z.f1).wf = true ∧ (Lit.int .i64 z.f2).wf = true) (K : Int) (_ : (Lit.int .i64 K).wf = true) : ∃ k, petrinetlaw45_SystemTraces.f k a l l2 K = some true := by
  refine Ev.rounds (g := fun k => petrinetlaw45_SystemTraces.f k a l l2 K) ?_
  have no : Ev (fun k => petrinetlaw45_SystemTraces.j0 k K true a l l2) true := Ev.step (f := fun k => (petrinetlaw45_alive.f k).bind fun t => some t) (fun k => by rw [petrinetlaw45_SystemTraces.j0, if_pos rfl]) (Ev.bind alive_ev (Ev.now _))
  obtain ⟨b, h1, h2⟩ := few_ev a l l2
  unfold petrinetlaw45_SystemTraces.f
  refine Ev.bind h1 ?_
  by_cases c : b = true
  · simp only [if_pos c]
    obtain ⟨_, _, h3, _⟩ := h2 c
    by_cases d : (l.length : Int) > 4
    · rw [decide_eq_true d]; exact no
    · rw [decide_eq_false d]
      obtain ⟨t1, t2⟩ := traces_both a l l2 (by omega) (by omega) K
      obtain ⟨b1, b2⟩ := trS_bd a l l2 K
      refine Ev.step (f := fun k => (system_Traces.f k a l l2 K).bind fun t324 => ((petrinetref45_Traces.f k a l l2 K).bind fun t327 => ((petrinetref04_Lists.f k t324 t327).bind fun t330 => (if t330 = true then ((petrinetlaw45_alive.f k).bind fun t331 => (some t331)) else (some false))))) (fun k => by rw [petrinetlaw45_SystemTraces.j0]; simp) ?_
      refine Ev.bind t1 (Ev.bind t2 ?_)
      refine Ev.bind (lists_ev _ (Nat.le_trans b1 (by decide)) (fun s hs => Nat.le_trans (b2 s hs) (by decide))) ?_
      simp only [if_true]
      exact Ev.bind alive_ev (Ev.now _)
  · simp only [if_neg c]
    exact no
end Go.Proofs.Ytcnliampiibpbaa.Plain
