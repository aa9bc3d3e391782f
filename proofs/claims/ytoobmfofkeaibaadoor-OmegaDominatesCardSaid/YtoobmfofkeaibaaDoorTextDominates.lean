/- Plain laws over the printed functions: what each comes to. No condition but the ones written. -/
import Derived.Test.YtoobmfofkeaibaaDoorMaxC
import Derived.Test.YtoobmfofkeaibaaDoorPMaxlOmegaDominates
namespace Go.Proofs.YtoobmfofkeaibaaDoor.Plain
open Go Go.RowKit Go.Proofs.YtoobmfofkeaibaaDoor.PMax Go.Proofs.YtoobmfofkeaibaaDoorW.PrintWords Go.Proofs.YtoobmfofkeaibaaDoorW.PrintLast Go.Proofs.YtoobmfofkeaibaaDoorW.PrintMore
set_option linter.unusedVariables false
/-! ### the law OmegaDominates -/
theorem cnt_lt {α : Type} (p q : α → Bool) : ∀ X : List α, (∀ z ∈ X, p z = true → q z = true) → (∃ z ∈ X, q z = true ∧ p z = false) → X.countP p < X.countP q
  | [], _, h => by obtain ⟨z, hz, _⟩ := h; cases hz
  | a :: X, h, ⟨z, hz, h1, h2⟩ => by
    rw [List.countP_cons, List.countP_cons]
    have hX : ∀ z ∈ X, p z = true → q z = true := fun z hz => h z (List.mem_cons_of_mem _ hz)
    rcases List.mem_cons.1 hz with e | e
    · subst e
      rw [h1, h2]
      have := List.countP_mono_left (l := X) hX
      simp; omega
    · have := cnt_lt p q X hX ⟨z, e, h1, h2⟩
      have ha := h a List.mem_cons_self
      by_cases c : p a = true
      · rw [c, ha c]; omega
      · rw [Bool.eq_false_iff.mpr c]; simp; omega
theorem blB_trans {x y z : List Int} (h : blB x y = true) (g : blB y z = true) : blB x z = true := by
  obtain ⟨h1, h2⟩ := (blB_iff x y).1 h
  obtain ⟨g1, g2⟩ := (blB_iff y z).1 g
  refine (blB_iff x z).2 ⟨?_, leqW_trans h2 g2⟩
  rintro rfl
  exact h1 (leqW_anti h2 g2)
theorem above_max (X : List (List Int)) (hv : ∀ x ∈ X, inW x = true) (n : Nat) : ∀ x ∈ X, X.countP (blB x) = n → ∃ t ∈ X, leqW x t = true ∧ X.any (blB t) = false := by
  induction n using Nat.strongRecOn with
  | _ n ih =>
    intro x hx hn
    by_cases c : X.any (blB x) = true
    · obtain ⟨y, hy, hb⟩ := List.any_eq_true.1 c
      have hlt : X.countP (blB y) < X.countP (blB x) := cnt_lt _ _ X (fun z _ hz => blB_trans hb hz) ⟨y, hy, hb, by
        rw [Bool.eq_false_iff]; intro q; exact ((blB_iff y y).1 q).1 rfl⟩
      obtain ⟨t, ht, h1, h2⟩ := ih _ (hn ▸ hlt) y hy rfl
      exact ⟨t, ht, leqW_trans ((blB_iff x y).1 hb).2 h1, h2⟩
    · exact ⟨x, hx, leqW_refl (hv x hx), Bool.eq_false_iff.mpr c⟩
section
variable (top X : List (List Int)) (ht : top.length ≤ 900) (hX : X.length ≤ 900) (hft : Fits top) (hfX : Fits X)
include ht hX hft hfX
theorem dom_l1 (i : Nat) (hi : i < X.length) (nx : Ev (fun k => petrinetlaw05_OmegaDominates.l0 k top X ((i + 1 : Nat) : Int)) true) (n : Nat) : ∀ (j : Nat) (b : Bool), top.length - j = n → j ≤ top.length → (b || (top.drop j).any (leqW X[i])) = true → Ev (fun k => petrinetlaw05_OmegaDominates.l1 k top X (i : Int) b (j : Int)) true := by
  induction n with
  | zero =>
    intro j b hn hj hb
    rw [drop_end top j (by omega), List.any_nil, Bool.or_false] at hb
    subst hb
    exact Ev.step (fun k => by rw [petrinetlaw05_OmegaDominates.l1, if_neg (by omega), if_pos rfl, wrap_succ i (by omega)]) nx
  | succ n ih =>
    intro j b hn hj hb
    have h1 : j < top.length := by omega
    rw [drop_cons top j h1, List.any_cons] at hb
    cases b with
    | true => exact Ev.step (fun k => by rw [petrinetlaw05_OmegaDominates.l1, if_pos (by omega), if_pos rfl, wrap_succ j (by omega)]) (ih (j + 1) true (by omega) (by omega) rfl)
    | false =>
      rw [Bool.false_or] at hb
      exact Ev.step (fun k => by rw [petrinetlaw05_OmegaDominates.l1, if_pos (by omega), if_neg (by simp), if_pos (by omega), if_pos (by omega), if_pos (by omega), rdL_get X i hi, rdL_get top j h1, wrap_succ j (by omega)]) (Ev.bind (oleq_ev _ _ (hfX.at i hi) (hft.at j h1)) (ih (j + 1) _ (by omega) (by omega) hb))
theorem dom_l0 (hd : ∀ x ∈ X, top.any (leqW x) = true) (nx : Ev (fun k => petrinetlaw05_OmegaDominates.l2 k top X 0) true) (n : Nat) : ∀ i : Nat, X.length - i = n → i ≤ X.length → Ev (fun k => petrinetlaw05_OmegaDominates.l0 k top X (i : Int)) true := by
  induction n with
  | zero => intro i hn hi; exact Ev.step (fun k => by rw [petrinetlaw05_OmegaDominates.l0, if_neg (by omega)]) nx
  | succ n ih =>
    intro i hn hi
    have h1 : i < X.length := by omega
    exact Ev.step (fun k => by rw [petrinetlaw05_OmegaDominates.l0, if_pos (by omega)]; rfl) (dom_l1 top X ht hX hft hfX i h1 (ih (i + 1) (by omega) (by omega)) _ 0 false rfl (by omega) (by rw [List.drop_zero, Bool.false_or]; exact hd _ (List.getElem_mem h1)))
end
section
variable (top X : List (List Int)) (ht : top.length ≤ 900) (hft : Fits top)
include ht hft
theorem dom_l3 (i : Nat) (hi : i < top.length) (hn' : ∀ j (hj : j < top.length), i ≠ j → leqW top[i] top[j] = false) (nx : Ev (fun k => petrinetlaw05_OmegaDominates.l2 k top X ((i + 1 : Nat) : Int)) true) (n : Nat) : ∀ j : Nat, top.length - j = n → j ≤ top.length → Ev (fun k => petrinetlaw05_OmegaDominates.l3 k top X (i : Int) (j : Int)) true := by
  induction n with
  | zero => intro j hn hj; exact Ev.step (fun k => by rw [petrinetlaw05_OmegaDominates.l3, if_neg (by omega), wrap_succ i (by omega)]) nx
  | succ n ih =>
    intro j hn hj
    have h1 : j < top.length := by omega
    have hx := ih (j + 1) (by omega) (by omega)
    by_cases e : i = j
    · exact Ev.step (fun k => by rw [petrinetlaw05_OmegaDominates.l3, if_pos (by omega), if_pos (by omega), wrap_succ j (by omega)]) hx
    · refine Ev.step (fun k => by rw [petrinetlaw05_OmegaDominates.l3, if_pos (by omega), if_neg (by omega), if_pos (by omega), if_pos (by omega), if_pos (by omega), rdL_get top i hi, rdL_get top j h1, wrap_succ j (by omega)]) (Ev.bind (oleq_ev _ _ (hft.at i hi) (hft.at j h1)) ?_)
      simp only [hn' j h1 e, Bool.false_eq_true, if_false]
      exact hx
theorem dom_l2 (hz : top = [] ↔ X = []) (hn' : ∀ i j (hi : i < top.length) (hj : j < top.length), i ≠ j → leqW top[i] top[j] = false) (n : Nat) : ∀ i : Nat, top.length - i = n → i ≤ top.length → Ev (fun k => petrinetlaw05_OmegaDominates.l2 k top X (i : Int)) true := by
  induction n with
  | zero =>
    intro i hn hi
    have hb : ((decide ((top.length : Int) > 0)) == (decide ((X.length : Int) > 0))) = true := by
      rw [beq_iff_eq]
      by_cases c : top = []
      · rw [c, hz.1 c]
      · have h1 : 0 < top.length := List.length_pos_iff.2 c
        have h2 : 0 < X.length := List.length_pos_iff.2 (fun q => c (hz.2 q))
        rw [decide_eq_true (by omega), decide_eq_true (by omega)]
    exact Ev.step (fun k => by rw [petrinetlaw05_OmegaDominates.l2, if_neg (by omega), if_pos hb]) ex_some
  | succ n ih =>
    intro i hn hi
    have h1 : i < top.length := by omega
    exact Ev.step (fun k => by rw [petrinetlaw05_OmegaDominates.l2, if_pos (by omega)]; rfl) (dom_l3 top X ht hft i h1 (fun j hj e => hn' i j h1 hj e) (ih (i + 1) (by omega) (by omega)) _ 0 rfl (by omega))
end
theorem wcons_ev (l : List (List Int)) (hl : l.length ≤ 60) (hf : Fits l) : Ev (fun k => petrinetref05_Considered.f k l) (conF [] l) := by
  unfold petrinetref05_Considered.f
  simpa using wcon_l l (by omega) hf _ 0 [] rfl (by omega) (by simp)
theorem OmegaDominates_ev (l : List (List Int)) (hf : Fits l) : Ev (fun k => petrinetlaw05_OmegaDominates.f k l) true := by
  unfold petrinetlaw05_OmegaDominates.f
  by_cases c : (l.length : Int) > 60
  · exact Ev.congr (fun k => by rw [if_pos c]) ex_some
  · have hc := conF_len l []
    have hl := fold_len (conF [] l) (conF [] l) []
    simp only [List.length_nil, Nat.zero_add] at hc hl
    have hI := maxO_inv l hf
    obtain ⟨d, hd, hE⟩ := conF_even l hf
    generalize hX : conF [] l = X at *
    generalize hT : X.foldl (stepO X) [] = top at *
    have hfX : Fits X := fun x hx => by
      rw [← hX] at hx
      rcases conF_mem l [] x hx with q | q
      · cases q
      · exact hf x q
    have hmem : ∀ m, m ∈ top ↔ m ∈ X ∧ X.any (blB m) = false := fun m => by have := hI.mem m; rwa [List.take_length] at this
    have hft : Fits top := fun x hx => hfX x ((hmem x).1 hx).1
    have hdom : ∀ x ∈ X, top.any (leqW x) = true := fun x hx => by
      obtain ⟨t, h1, h2, h3⟩ := above_max X (fun x hx => (hE x hx).1) _ x hx rfl
      exact List.any_eq_true.2 ⟨t, (hmem t).2 ⟨h1, h3⟩, h2⟩
    have hz : top = [] ↔ X = [] := by
      constructor
      · intro q
        cases X with
        | nil => rfl
        | cons a r => have := hdom a List.mem_cons_self; rw [q] at this; cases this
      · rintro q
        rw [List.eq_nil_iff_forall_not_mem]
        intro a ha
        have := ((hmem a).1 ha).1
        rw [q] at this; cases this
    have hinc : ∀ i j (hi : i < top.length) (hj : j < top.length), i ≠ j → leqW top[i] top[j] = false := fun i j hi hj e => by
      rw [Bool.eq_false_iff]
      intro q
      have hne : top[i] ≠ top[j] := by
        intro r
        have hz : cmpW top[i] top[j] = 0 := by rw [r]; exact (cmpW_zero (hE _ ((hmem _).1 (List.getElem_mem hj)).1).1 (hE _ ((hmem _).1 (List.getElem_mem hj)).1).1).2 rfl
        have hs := List.pairwise_iff_getElem.1 hI.srt
        rcases Nat.lt_or_gt_of_ne e with f | f
        · have := hs i j hi hj f; omega
        · have := hs j i hj hi f
          have ha := cmpW_anti top[i] top[j]
          omega
      have hb := List.any_eq_false.1 ((hmem _).1 (List.getElem_mem hi)).2 top[j] ((hmem _).1 (List.getElem_mem hj)).1
      exact hb ((blB_iff _ _).2 ⟨hne, q⟩)
    have h0 : Ev (fun k => omega_Maximal.f k l) top := by
      have := omax_ev l (by omega) hf
      rw [hX, hT] at this; exact this
    have h1 : Ev (fun k => petrinetref05_Considered.f k l) X := by
      have := wcons_ev l (by omega) hf
      rw [hX] at this; exact this
    exact Ev.congr (fun k => by rw [if_neg c]) (Ev.bind h0 (Ev.bind h1 (dom_l0 top X (by omega) (by omega) hft hfX hdom (dom_l2 top X (by omega) hft hz hinc _ 0 rfl (by omega)) _ 0 rfl (by omega))))
theorem OmegaDominates_pure (l0 : List (List Int)) (_m0 : l0.length * 24 ≤ reachBytes) (w0 : ∀ z ∈ l0, z.length * 8 ≤ reachBytes ∧ ∀ x ∈ z, (Lit.int .i64 x).wf = true) : ∃ k, petrinetlaw05_OmegaDominates.f k l0 = some true :=
  Ev.rounds (OmegaDominates_ev l0 (fun z hz => by have h := (w0 z hz).1; unfold reachBytes at h; omega))
end Go.Proofs.YtoobmfofkeaibaaDoor.Plain
