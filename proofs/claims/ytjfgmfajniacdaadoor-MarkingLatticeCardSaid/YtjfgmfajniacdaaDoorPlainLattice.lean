/- Plain laws over the printed functions: what each comes to. No condition but the ones written. -/
import Derived.Test.YtjfgmfajniacdaaDoorPlainF
import Derived.Test.YtjfgmfajniacdaaDoorPAllx7
namespace Go.Proofs.YtjfgmfajniacdaaDoor.Plain
open Go Go.RowKit Go.Proofs.YtjfgmfajniacdaaDoor.PAll Go.Proofs.YtjfgmfajniacdaaDoorW.PrintWords Go.Proofs.YtjfgmfajniacdaaDoorW.PrintLast Go.Proofs.YtjfgmfajniacdaaDoorW.PrintMore
set_option linter.unusedVariables false
/-! ### the law MarkingLattice -/
theorem lat_j3 (k : Nat) (hk : 3000 ≤ k) (a b : List Int) (ha : a.length ≤ 30) (hb : b.length ≤ 30) : petrinetlaw04_MarkingLattice.j3 (k + 1) a b (zipG mx a b) (zipG mn a b) false = some true := by
  have hA := alive_is k (by omega)
  simp only [petrinetlaw04_MarkingLattice.j3]
  have z1 := zipG_len mx a b
  have z2 := zipG_len mn a b
  rw [if_neg (by simp), Max_is b a (by omega) k (by omega), Min_is b a (by omega) k (by omega)]
  simp only [Option.bind_some]
  rw [zipG_comm mx mx_comm b a, zipG_comm mn mn_comm b a, same_is _ _ (by omega) k (by omega), Option.bind_some, if_pos (by simp), same_is _ _ (by omega) k (by omega), Option.bind_some, if_pos (by simp), hA]; rfl
theorem lat_j2 (k : Nat) (hk : 3000 ≤ k) (a b c : List Int) (ha : a.length ≤ 30) (hb : b.length ≤ 30) (hc : c.length ≤ 30) (hab : a.length = b.length) : petrinetlaw04_MarkingLattice.j2 (k + 2) a b c (zipG mx a b) (zipG mn a b) false = some true := by
  show petrinetlaw04_MarkingLattice.j2 ((k + 1) + 1) _ _ _ _ _ _ = _
  have J := lat_j3 k hk a b ha hb
  simp only [petrinetlaw04_MarkingLattice.j2]
  have z1 := zipG_len mx a b
  rw [if_neg (by simp)]
  simp only [leq_is a c (by omega) (k + 1) (by omega), leq_is b c (by omega) (k + 1) (by omega), leq_is _ c (show (zipG mx a b).length ≤ 1000000 by omega) (k + 1) (by omega), leq_is c a (by omega) (k + 1) (by omega), leq_is c b (by omega) (k + 1) (by omega), leq_is c (zipG mn a b) (by omega) (k + 1) (by omega), Option.bind_some]
  have A : leqL a c = true → leqL b c = true → leqL (zipG mx a b) c = true := by unfold zipG; rw [if_pos hab]; exact zip_lub a b c
  have B : leqL c a = true → leqL c b = true → leqL c (zipG mn a b) = true := by unfold zipG; rw [if_pos hab]; exact zip_glb a b c
  generalize zipG mx a b = X at *
  generalize zipG mn a b = Y at *
  cases ea : leqL a c <;> cases eb : leqL b c <;> cases ec : leqL c a <;> cases ed : leqL c b <;> simp_all
theorem lat_j1 (k : Nat) (hk : 3000 ≤ k) (a b c : List Int) (ha : a.length ≤ 30) (hb : b.length ≤ 30) (hc : c.length ≤ 30) : petrinetlaw04_MarkingLattice.j1 (k + 3) a b c false = some true := by
  show petrinetlaw04_MarkingLattice.j1 ((k + 2) + 1) _ _ _ _ = _
  have hA := alive_is (k + 2) (by omega)
  have J := lat_j2 k hk a b c ha hb hc
  simp only [petrinetlaw04_MarkingLattice.j1]
  have z1 := zipG_len mx a b
  have z2 := zipG_len mn a b
  rw [if_neg (by simp), Max_is a b (by omega) _ (by omega), Min_is a b (by omega) _ (by omega)]
  simp only [leq_is a b (by omega) (k + 2) (by omega), leq_is a (zipG mx a b) (by omega) (k + 2) (by omega), leq_is b (zipG mx a b) (by omega) (k + 2) (by omega), leq_is (zipG mn a b) a (by omega) (k + 2) (by omega), leq_is (zipG mn a b) b (by omega) (k + 2) (by omega), Option.bind_some]
  by_cases h : a.length = b.length
  · rw [if_pos (by omega)]
    have e1 : zipG mx a b = List.zipWith mx a b := by unfold zipG; rw [if_pos h]
    have e2 : zipG mn a b = List.zipWith mn a b := by unfold zipG; rw [if_pos h]
    have g1 := zip_ge a b h
    have g2 := zip_le a b h
    rw [← e1] at g1; rw [← e2] at g2
    rw [if_pos g1.1, if_pos g1.2, if_pos g2.1, g2.2]
    exact J h
  · rw [if_neg (by omega)]
    have e0 : leqL a b = false := by
      cases e : leqL a b with
      | false => rfl
      | true => exact absurd (leqL_len a b e) h
    have e1 : zipG mx a b = [] := by unfold zipG; rw [if_neg h]
    have e2 : zipG mn a b = [] := by unfold zipG; rw [if_neg h]
    rw [e0, e1, e2, if_neg (by simp), if_pos (by simp), if_pos (by simp), hA]; rfl
theorem lat_j0 (k : Nat) (hk : 3000 ≤ k) (a b c : List Int) (ha : a.length ≤ 30) (hb : b.length ≤ 30) (hc : c.length ≤ 30) : petrinetlaw04_MarkingLattice.j0 (k + 4) a b c false = some true := by
  show petrinetlaw04_MarkingLattice.j0 ((k + 3) + 1) _ _ _ _ = _
  have J := lat_j1 k hk a b c ha hb hc
  simp only [petrinetlaw04_MarkingLattice.j0]
  rw [if_neg (by simp)]
  simp only [leq_is a a (by omega) (k + 3) (by omega), leq_is a b (by omega) (k + 3) (by omega), leq_is b a (by omega) (k + 3) (by omega), leq_is b c (by omega) (k + 3) (by omega), leq_is a c (by omega) (k + 3) (by omega), same_is a b (by omega) (k + 3) (by omega), Option.bind_some]
  have A := leqL_refl a
  have B := leqL_anti a b
  have C := leqL_trans a b c
  rw [if_pos A]
  cases ea : leqL a b
  · simp only [Bool.false_eq_true, if_false]; exact J
  · cases eb : leqL b a
    · cases ec : leqL b c
      · simp only [Bool.false_eq_true, if_false, if_true]; exact J
      · simp only [Bool.false_eq_true, if_false, if_true, C ea ec, Bool.not_true]; exact J
    · rw [decide_eq_true (B ea eb)]
      cases ec : leqL b c
      · simp only [Bool.false_eq_true, if_false, if_true]; exact J
      · simp only [if_true, C ea ec, Bool.not_true]; exact J
theorem lattice_law (k : Nat) (hk : 3000 ≤ k) (a b c : List Int) : petrinetlaw04_MarkingLattice.f (k + 4) a b c = some true := by
  have hA := alive_is (k + 3) (by omega)
  have hT : petrinetlaw04_MarkingLattice.j0 (k + 4) a b c true = some true := by
    show petrinetlaw04_MarkingLattice.j0 ((k + 3) + 1) _ _ _ _ = _
    simp only [petrinetlaw04_MarkingLattice.j0]; rw [if_pos trivial, hA]; rfl
  unfold petrinetlaw04_MarkingLattice.f
  by_cases h : (a.length : Int) > 30
  · rw [if_pos h, hT]
  · rw [if_neg h]
    by_cases g : (b.length : Int) > 30
    · rw [if_pos g, hT]
    · rw [if_neg g]
      by_cases f : (c.length : Int) > 30
      · rw [decide_eq_true f, hT]
      · rw [decide_eq_false f]; exact lat_j0 k hk a b c (by omega) (by omega) (by omega)
theorem MarkingLattice_pure : petrinetlaw04_MarkingLattice.Pure := fun a b c _ _ _ _ _ _ _ _ _ => ⟨3000 + 4, lattice_law 3000 (Nat.le_refl _) a b c⟩
end Go.Proofs.YtjfgmfajniacdaaDoor.Plain
