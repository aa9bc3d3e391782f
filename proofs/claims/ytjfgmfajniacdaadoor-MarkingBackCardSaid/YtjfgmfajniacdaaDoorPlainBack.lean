/- Plain laws over the printed functions: what each comes to. No condition but the ones written. -/
import Derived.Test.YtjfgmfajniacdaaDoorPlainF
import Derived.Test.YtjfgmfajniacdaaDoorPlainT
import Derived.Test.YtjfgmfajniacdaaDoorPAllx4
namespace Go.Proofs.YtjfgmfajniacdaaDoor.Plain
open Go Go.RowKit Go.Proofs.YtjfgmfajniacdaaDoor.PAll Go.Proofs.YtjfgmfajniacdaaDoorW.PrintWords Go.Proofs.YtjfgmfajniacdaaDoorW.PrintLast Go.Proofs.YtjfgmfajniacdaaDoorW.PrintMore
set_option linter.unusedVariables false
/-! ### the law MarkingBack -/
theorem text_inj1 {m n : List Int} (hm : ∀ x ∈ m, 0 ≤ x) (h : Num.textOf m = Num.textOf n) : m = n := by
  by_cases hn : n = []
  · subst hn
    by_cases hm' : m = []
    · exact hm'
    · exact absurd h (Num.text_ne_dash hm' hm)
  · by_cases hm' : m = []
    · subst hm'
      have h2 := Num.split_text hn
      rw [← h, show Num.splitB 44 (Num.textOf []) = [[45]] from rfl] at h2
      have hl : n.length = 1 := by have := congrArg List.length h2; simpa using this.symm
      obtain ⟨x, rfl⟩ := List.length_eq_one_iff.mp hl
      simp only [List.map_cons, List.map_nil, List.cons.injEq, and_true] at h2
      by_cases c : x < 0
      · rw [Num.itoa_neg' c] at h2; injection h2 with _ h3; exact absurd h3.symm (Num.decDigits_ne _)
      · exact absurd h2.symm (Num.itoa_ne_dash (by omega))
    · have h1 := Num.split_text hm'
      rw [h, Num.split_text hn] at h1
      exact (Num.map_itoa_inj h1).symm
theorem tailC_len : ∀ l : List Int, AllI l → (tailC l).length ≤ 21 * l.length
  | [], _ => by simp [tailC]
  | x :: l, h => by
    have h1 := tailC_len l (fun y hy => h y (List.mem_cons_of_mem _ hy))
    have h2 := itoa_len (h x (List.mem_cons_self ..))
    simp only [tailC, List.length_cons, List.length_append]; omega
theorem textOf_len (l : List Int) (h : AllI l) : (Num.textOf l).length ≤ 21 * l.length + 1 := by
  cases l with
  | nil => simp [Num.textOf]
  | cons x l =>
    have h1 := tailC_len l (fun y hy => h y (List.mem_cons_of_mem _ hy))
    have h2 := itoa_len (h x (List.mem_cons_self ..))
    rw [Num.textOf_cons (by simp), join_tail]
    simp only [List.length_cons, List.length_append]; omega
theorem good_of_total {l : List Int} (h : 0 ≤ totalR l) : Good l (Num.textOf l) := by
  have := (totalR_good l).mp h
  exact ⟨this.1, (inB_iff l).mp this.2, rfl⟩
theorem back_j1 (k : Nat) (hk : 3000 ≤ k) (s : ByteArray) (hs : s.size ≤ 400) : petrinetlaw04_MarkingBack.j1 (k + 1) s false = some true := by
  have hA := alive_is k (by omega)
  simp only [petrinetlaw04_MarkingBack.j1]
  rw [if_neg (by simp), mparse_is s (by omega) k (by omega), Option.bind_some]
  rcases parseM_cases s.data.toList with ⟨m, hm, e⟩ | ⟨_, e⟩
  · have h1 := hm.1
    rw [e, if_pos rfl, text_is m (by omega) (in_i64 ((inB_iff m).mpr hm.2.1)) k (by omega), Option.bind_some, if_pos (by rw [Lib.toList_data, Lib.toList_data, mk_data]; exact hm.2.2), hA]; rfl
  · rw [e, if_neg (by simp), hA]; rfl
theorem back_law (k : Nat) (hk : 1000300 ≤ k) (l : List Int) (s : ByteArray) (hl : AllI l) : petrinetlaw04_MarkingBack.f (k + 2) l s = some true := by
  have hA := alive_is (k + 1) (by omega)
  unfold petrinetlaw04_MarkingBack.f
  by_cases h : (l.length : Int) > 60
  · rw [if_pos h]
    show petrinetlaw04_MarkingBack.j0 ((k + 1) + 1) _ _ _ = _
    simp only [petrinetlaw04_MarkingBack.j0]; rw [if_pos trivial, hA]; rfl
  · rw [if_neg h]
    show petrinetlaw04_MarkingBack.j0 ((k + 1) + 1) _ _ _ = _
    by_cases g : (s.size : Int) > 400
    · rw [decide_eq_true g]; simp only [petrinetlaw04_MarkingBack.j0]; rw [if_pos trivial, hA]; rfl
    · rw [decide_eq_false g]; simp only [petrinetlaw04_MarkingBack.j0]
      have hJ := back_j1 k (by omega) s (by omega)
      have hlen := textOf_len l hl
      rw [if_neg (by simp), text_is l (by omega) hl _ (by omega), Option.bind_some, mparse_mk _ (by omega) _ (by omega), Option.bind_some, rtotal_is l (by omega) _ (by omega)]
      simp only [Option.bind_some]
      by_cases ht : 0 ≤ totalR l
      · rw [if_pos ht, parseM_good (good_of_total ht), if_pos rfl, same_is l l (by omega) _ (by omega), Option.bind_some, if_pos (by simp), if_neg (by omega), hJ]
      · rw [if_neg (by omega), if_pos (by omega)]
        have : (parseM (Num.textOf l)).2 = 11 := by
          rcases parseM_cases (Num.textOf l) with ⟨m, hm, e⟩ | ⟨_, e⟩
          · have := text_inj1 (fun x hx => (hm.2.1 x hx).1) hm.2.2
            subst this
            exact absurd ((totalR_good m).mpr ⟨hm.1, (inB_iff m).mpr hm.2.1⟩) ht
          · rw [e]
        rw [this, show ((11 : Int) == 0) = false from rfl, hJ]
theorem MarkingBack_pure : petrinetlaw04_MarkingBack.Pure := fun l s _ _ hl _ => ⟨1000300 + 2, back_law 1000300 (Nat.le_refl _) l s (allI_of hl)⟩
end Go.Proofs.YtjfgmfajniacdaaDoor.Plain
