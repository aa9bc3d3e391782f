/- Lean functions for the Go functions of this seat, each with the proof that the call returns what the Lean function says; or the row of a law, over such a function. Printed by a program of ours (wip/tools/myprint.py), with hand-written texts where that one cannot. No condition but the ones written. -/
import Derived.Test.YtjkiekdkkempdaaPAllx0
import Derived.Test.YtjkiekdkkempdaaPAllx1
import Derived.Test.YtjkiekdkkempdaaPAllx2
import Derived.Test.YtjkiekdkkempdaaPAllx3
namespace Go.Proofs.Ytjkiekdkkempdaa.PAll
open Go.RowKit Go.Proofs.YtjkiekdkkempdaaW.PrintWords Go.Proofs.YtjkiekdkkempdaaW.PrintLast Go.Proofs.YtjkiekdkkempdaaW.PrintMore
attribute [local go_sem] max2_int min2_int max_two min_two max_three min_three max_four min_four   -- for this text's walks alone
set_option linter.unusedVariables false
set_option linter.unusedSimpArgs false

/-! ### safeint_Mul: function 17 -/
/-- The product, or (0, false) if it is no int64. -/
def safeint_Mul.f (a b : Int) : Option (Int × Bool) :=
  if (-9223372036854775808 ≤ a ∧ a < 9223372036854775808) ∧ (-9223372036854775808 ≤ b ∧ b < 9223372036854775808) then some (if -9223372036854775808 ≤ a * b ∧ a * b < 9223372036854775808 then (a * b, true) else (0, false)) else none
set_option maxHeartbeats 1000000 in
set_option maxRecDepth 100000 in
theorem safeint_Mul.calls (a b : Int) (r1 : Int) (r2 : Bool) (w : World) (h : safeint_Mul.f a b = some (r1, r2)) :
    Calls Try.prog 17 #[.int .i64 a, .int .i64 b] w fun e w' => e = .returned (.tuple #[.int .i64 r1, .bool r2]) ∧ Below w.heap.size w w' := by
  unfold safeint_Mul.f at h
  split at h
  · rename_i hb
    have S1 := Aside0.mk (safeint_size.is a hb.1.1 hb.1.2)
    have S2 := Aside0.mk (safeint_size.is b hb.2.1 hb.2.2)
    have T := Aside0.mk (safeint_times.calls0 a.natAbs b.natAbs (by omega) (by omega) (by omega) (by omega))
    have hm := mul_natAbs a b
    have hnn := abs_mul_nonneg a b
    clear hb
    generalize hpp : (a.natAbs : Int) * b.natAbs = pp at T hm hnn
    clear hpp
    by_cases c : pp / 18446744073709551616 = 0
    · have SG : Aside0 (safeint_signed.f 2 (pp % 18446744073709551616) (!(decide (a < 0) == decide (b < 0))) = some (r1, r2)) := by
        constructor
        show safeint_signed.f 2 (pp % 18446744073709551616) ((decide (a < 0)) != (decide (b < 0))) = some (r1, r2)
        rw [safeint_signed.is _ _ (by omega) (by omega), ← h, hm]
        by_cases e : ((decide (a < 0)) != (decide (b < 0))) = true
        · simp only [e, if_true]; congr 1; by_cases g : pp ≤ 9223372036854775808
          · rw [if_pos (by omega), if_pos (by omega)]; congr 1; omega
          · rw [if_neg (by omega), if_neg (by omega)]
        · simp only [e]; congr 1; by_cases g : pp ≤ 9223372036854775807
          · simp only [Bool.false_eq_true, if_false]; rw [if_pos (by omega), if_pos (by omega)]; congr 1; omega
          · simp only [Bool.false_eq_true, if_false]; rw [if_neg (by omega), if_neg (by omega)]
      have c0 : ((pp / 18446744073709551616) != 0) = false := bne_eq_false_iff_eq.mpr c
      clear c h hm hnn
      generalize pp / 18446744073709551616 = hi at T c0
      generalize pp % 18446744073709551616 = lo at T SG
      go_enter Try.func17, Try.ntmps17
      go_wp2_with (first | (go_at_call 29; (with_reducible refine (safeint_size.calls _ _ _ S1.out).mono ?_); rintro e w' ⟨rfl, ⟨nd, rfl⟩⟩) | (go_at_call 29; (with_reducible refine (safeint_size.calls _ _ _ S2.out).mono ?_); rintro e w' ⟨rfl, ⟨nd, rfl⟩⟩) | (go_at_call 33; (with_reducible refine (T.out _).mono ?_); rintro e w1 ⟨rfl, hb⟩; have HB1 := Aside0.mk (below_step (w := w) (by repeat (first | exact Below.refl w.heap.size w | apply pw_below_drewN)) hb); clear hb) | (go_at_call 27; (with_reducible refine (safeint_signed.calls _ _ _ _ _ _ SG.out).mono ?_); rintro e w' ⟨rfl, ⟨nd2, rfl⟩⟩))
      go_ret2
      exact ⟨rfl, by repeat (first | (with_reducible first | exact HB1.out | apply below_alloc | apply pw_below_drewN | apply below_drew1) | exact HB1.out)⟩
    · have e : (r1, r2) = (0, false) := by
        rw [if_neg (by rw [hm]; split <;> omega)] at h; exact (Option.some.inj h).symm
      obtain ⟨rfl, rfl⟩ := Prod.mk.inj e
      have c0 : ((pp / 18446744073709551616) != 0) = true := bne_iff_ne.mpr c
      clear c h hm hnn e
      generalize pp / 18446744073709551616 = hi at T c0
      generalize pp % 18446744073709551616 = lo at T
      go_enter Try.func17, Try.ntmps17
      go_wp2_with (first | (go_at_call 29; (with_reducible refine (safeint_size.calls _ _ _ S1.out).mono ?_); rintro e w' ⟨rfl, ⟨nd, rfl⟩⟩) | (go_at_call 29; (with_reducible refine (safeint_size.calls _ _ _ S2.out).mono ?_); rintro e w' ⟨rfl, ⟨nd, rfl⟩⟩) | (go_at_call 33; (with_reducible refine (T.out _).mono ?_); rintro e w1 ⟨rfl, hb⟩; have HB1 := Aside0.mk (below_step (w := w) (by repeat (first | exact Below.refl w.heap.size w | apply pw_below_drewN)) hb); clear hb))
      go_ret2
      exact ⟨rfl, by repeat (first | (with_reducible first | exact HB1.out | apply below_alloc | apply pw_below_drewN | apply below_drew1) | exact HB1.out)⟩
  · simp at h


/-! ### petrinetlaw01_SafeintFactors: function 6 -/
mutual
def petrinetlaw01_SafeintFactors.j0 : Nat → Int → Int → Int → Bool → Int → Bool → Bool → Option (Bool)
  | 0, _, _, _, _, _, _, _ => none
  | k + 1, x0, x1, x5, x6, x7, x8, x57 => if x57 = true then (some false) else (if x8 = true then (if x7 < 0 then (petrinetlaw01_SafeintFactors.j1 k x0 x1 x5 x6 x7 x8 true) else (if x0 = 0 then (if x1 = 0 then (petrinetlaw01_SafeintFactors.j1 k x0 x1 x5 x6 x7 x8 false) else (petrinetlaw01_SafeintFactors.j1 k x0 x1 x5 x6 x7 x8 ((Int.tmod x7 x1) != 0))) else (if (Int.tmod x7 x0) = 0 then (if x1 = 0 then (petrinetlaw01_SafeintFactors.j1 k x0 x1 x5 x6 x7 x8 false) else (petrinetlaw01_SafeintFactors.j1 k x0 x1 x5 x6 x7 x8 ((Int.tmod x7 x1) != 0))) else (petrinetlaw01_SafeintFactors.j1 k x0 x1 x5 x6 x7 x8 true)))) else (petrinetlaw01_SafeintFactors.j1 k x0 x1 x5 x6 x7 x8 false))
def petrinetlaw01_SafeintFactors.j1 : Nat → Int → Int → Int → Bool → Int → Bool → Bool → Option (Bool)
  | 0, _, _, _, _, _, _, _ => none
  | k + 1, x0, x1, x5, x6, x7, x8, x82 => if x82 = true then (some false) else ((safeint_Mul.f x0 x1).bind fun bt159 => (if x6 = true then (if x8 = true then (if bt159.2 = true then (petrinetlaw01_SafeintFactors.j2 k x5 x7 bt159.1 (decide (bt159.1 > (-9223372036854775808)))) else (petrinetlaw01_SafeintFactors.j2 k x5 x7 bt159.1 false)) else (petrinetlaw01_SafeintFactors.j2 k x5 x7 bt159.1 false)) else (petrinetlaw01_SafeintFactors.j2 k x5 x7 bt159.1 false)))
def petrinetlaw01_SafeintFactors.j2 : Nat → Int → Int → Int → Bool → Option (Bool)
  | 0, _, _, _, _ => none
  | k + 1, x5, x7, x9, x99 => if x99 = true then ((safeint_Mul.f x5 x7).bind fun bt161 => (if bt161.2 = true then (if bt161.1 = x9 then ((petrinetlaw01_alive.f k).bind fun t163 => (some t163)) else (if bt161.1 = (wrap64 (-x9)) then ((petrinetlaw01_alive.f k).bind fun t164 => (some t164)) else (some false))) else (some false))) else ((petrinetlaw01_alive.f k).bind fun t165 => (some t165))
end
def petrinetlaw01_SafeintFactors.f (k : Nat) (a0 : Int) (a1 : Int) : Option (Bool) := (safeint_Gcd.f k a0 a1).bind fun bt155 => ((safeint_Lcm.f k a0 a1).bind fun bt157 => (if bt155.2 = true then (if bt155.1 < 0 then (petrinetlaw01_SafeintFactors.j0 k a0 a1 bt155.1 bt155.2 bt157.1 bt157.2 true) else (if bt155.1 > 0 then (if bt155.1 = 0 then (none) else (if (Int.tmod a0 bt155.1) = 0 then (if (Int.tmod a1 bt155.1) = 0 then (petrinetlaw01_SafeintFactors.j0 k a0 a1 bt155.1 bt155.2 bt157.1 bt157.2 false) else (petrinetlaw01_SafeintFactors.j0 k a0 a1 bt155.1 bt155.2 bt157.1 bt157.2 true)) else (petrinetlaw01_SafeintFactors.j0 k a0 a1 bt155.1 bt155.2 bt157.1 bt157.2 true))) else (if bt155.1 = 0 then (if a0 = 0 then (petrinetlaw01_SafeintFactors.j0 k a0 a1 bt155.1 bt155.2 bt157.1 bt157.2 (a1 != 0)) else (petrinetlaw01_SafeintFactors.j0 k a0 a1 bt155.1 bt155.2 bt157.1 bt157.2 true)) else (petrinetlaw01_SafeintFactors.j0 k a0 a1 bt155.1 bt155.2 bt157.1 bt157.2 false)))) else (petrinetlaw01_SafeintFactors.j0 k a0 a1 bt155.1 bt155.2 bt157.1 bt157.2 false)))
theorem petrinetlaw01_SafeintFactors.mono_l : ∀ k, (∀ y0 y1 y2 y3 y4 y5 y6, LeO (petrinetlaw01_SafeintFactors.j0 k y0 y1 y2 y3 y4 y5 y6) (petrinetlaw01_SafeintFactors.j0 (k + 1) y0 y1 y2 y3 y4 y5 y6)) ∧ (∀ y0 y1 y2 y3 y4 y5 y6, LeO (petrinetlaw01_SafeintFactors.j1 k y0 y1 y2 y3 y4 y5 y6) (petrinetlaw01_SafeintFactors.j1 (k + 1) y0 y1 y2 y3 y4 y5 y6)) ∧ (∀ y0 y1 y2 y3, LeO (petrinetlaw01_SafeintFactors.j2 k y0 y1 y2 y3) (petrinetlaw01_SafeintFactors.j2 (k + 1) y0 y1 y2 y3))
  | 0 => ⟨fun _ _ _ _ _ _ _ r h => by simp [petrinetlaw01_SafeintFactors.j0] at h, fun _ _ _ _ _ _ _ r h => by simp [petrinetlaw01_SafeintFactors.j1] at h, fun _ _ _ _ r h => by simp [petrinetlaw01_SafeintFactors.j2] at h⟩
  | k + 1 => by
    obtain ⟨ih0, ih1, ih2⟩ := petrinetlaw01_SafeintFactors.mono_l k
    refine ⟨?_, ?_, ?_⟩
    · intro y0 y1 y2 y3 y4 y5 y6
      unfold petrinetlaw01_SafeintFactors.j0
      repeat' first
      | (with_reducible exact ih0 _ _ _ _ _ _ _)
      | (with_reducible exact ih1 _ _ _ _ _ _ _)
      | (with_reducible exact ih2 _ _ _ _)
      | (with_reducible exact petrinetlaw01_alive.mono _)
      | (with_reducible exact safeint_Gcd.mono _ _ _)
      | (with_reducible exact safeint_Lcm.mono _ _ _)
      | (with_reducible exact LeO.refl _)
      | (with_reducible exact LeO.none _)
      | (with_reducible refine LeO.ite ?_ ?_)
      | (with_reducible refine LeO.bind ?_ (fun _ => ?_))
      | exact ih0 _ _ _ _ _ _ _
      | exact ih1 _ _ _ _ _ _ _
      | exact ih2 _ _ _ _
      | exact petrinetlaw01_alive.mono _
      | exact safeint_Gcd.mono _ _ _
      | exact safeint_Lcm.mono _ _ _
      | exact LeO.none _
      | refine LeO.ite ?_ ?_
      | refine LeO.bind ?_ (fun _ => ?_)
    · intro y0 y1 y2 y3 y4 y5 y6
      unfold petrinetlaw01_SafeintFactors.j1
      repeat' first
      | (with_reducible exact ih0 _ _ _ _ _ _ _)
      | (with_reducible exact ih1 _ _ _ _ _ _ _)
      | (with_reducible exact ih2 _ _ _ _)
      | (with_reducible exact petrinetlaw01_alive.mono _)
      | (with_reducible exact safeint_Gcd.mono _ _ _)
      | (with_reducible exact safeint_Lcm.mono _ _ _)
      | (with_reducible exact LeO.refl _)
      | (with_reducible exact LeO.none _)
      | (with_reducible refine LeO.ite ?_ ?_)
      | (with_reducible refine LeO.bind ?_ (fun _ => ?_))
      | exact ih0 _ _ _ _ _ _ _
      | exact ih1 _ _ _ _ _ _ _
      | exact ih2 _ _ _ _
      | exact petrinetlaw01_alive.mono _
      | exact safeint_Gcd.mono _ _ _
      | exact safeint_Lcm.mono _ _ _
      | exact LeO.none _
      | refine LeO.ite ?_ ?_
      | refine LeO.bind ?_ (fun _ => ?_)
    · intro y0 y1 y2 y3
      unfold petrinetlaw01_SafeintFactors.j2
      repeat' first
      | (with_reducible exact ih0 _ _ _ _ _ _ _)
      | (with_reducible exact ih1 _ _ _ _ _ _ _)
      | (with_reducible exact ih2 _ _ _ _)
      | (with_reducible exact petrinetlaw01_alive.mono _)
      | (with_reducible exact safeint_Gcd.mono _ _ _)
      | (with_reducible exact safeint_Lcm.mono _ _ _)
      | (with_reducible exact LeO.refl _)
      | (with_reducible exact LeO.none _)
      | (with_reducible refine LeO.ite ?_ ?_)
      | (with_reducible refine LeO.bind ?_ (fun _ => ?_))
      | exact ih0 _ _ _ _ _ _ _
      | exact ih1 _ _ _ _ _ _ _
      | exact ih2 _ _ _ _
      | exact petrinetlaw01_alive.mono _
      | exact safeint_Gcd.mono _ _ _
      | exact safeint_Lcm.mono _ _ _
      | exact LeO.none _
      | refine LeO.ite ?_ ?_
      | refine LeO.bind ?_ (fun _ => ?_)
theorem petrinetlaw01_SafeintFactors.mono : ∀ a0 a1 k, LeO (petrinetlaw01_SafeintFactors.f k a0 a1) (petrinetlaw01_SafeintFactors.f (k + 1) a0 a1) := by
  intro a0 a1 k
  obtain ⟨ih0, ih1, ih2⟩ := petrinetlaw01_SafeintFactors.mono_l k
  unfold petrinetlaw01_SafeintFactors.f
  repeat' first
      | (with_reducible exact ih0 _ _ _ _ _ _ _)
      | (with_reducible exact ih1 _ _ _ _ _ _ _)
      | (with_reducible exact ih2 _ _ _ _)
      | (with_reducible exact petrinetlaw01_alive.mono _)
      | (with_reducible exact safeint_Gcd.mono _ _ _)
      | (with_reducible exact safeint_Lcm.mono _ _ _)
      | (with_reducible exact LeO.refl _)
      | (with_reducible exact LeO.none _)
      | (with_reducible refine LeO.ite ?_ ?_)
      | (with_reducible refine LeO.bind ?_ (fun _ => ?_))
      | exact ih0 _ _ _ _ _ _ _
      | exact ih1 _ _ _ _ _ _ _
      | exact ih2 _ _ _ _
      | exact petrinetlaw01_alive.mono _
      | exact safeint_Gcd.mono _ _ _
      | exact safeint_Lcm.mono _ _ _
      | exact LeO.none _
      | refine LeO.ite ?_ ?_
      | refine LeO.bind ?_ (fun _ => ?_)
set_option maxHeartbeats 8000000 in
set_option maxRecDepth 100000 in
theorem petrinetlaw01_SafeintFactors.calls (k : Nat) (a0 : Int) (a1 : Int) (r : Bool) (w : World) (h : petrinetlaw01_SafeintFactors.f k a0 a1 = some r) :
    Calls Try.prog 6 #[.int .i64 a0, .int .i64 a1] w fun e w' => e = .returned (.bool r) ∧ Below w.heap.size w w' := by
  have HB := Aside0.mk (Below.refl w.heap.size w)
  have H : ((safeint_Gcd.f k a0 a1).bind fun bt155 => ((safeint_Lcm.f k a0 a1).bind fun bt157 => (if bt155.2 = true then (if bt155.1 < 0 then (petrinetlaw01_SafeintFactors.j0 k a0 a1 bt155.1 bt155.2 bt157.1 bt157.2 true) else (if bt155.1 > 0 then (if bt155.1 = 0 then (none) else (if (Int.tmod a0 bt155.1) = 0 then (if (Int.tmod a1 bt155.1) = 0 then (petrinetlaw01_SafeintFactors.j0 k a0 a1 bt155.1 bt155.2 bt157.1 bt157.2 false) else (petrinetlaw01_SafeintFactors.j0 k a0 a1 bt155.1 bt155.2 bt157.1 bt157.2 true)) else (petrinetlaw01_SafeintFactors.j0 k a0 a1 bt155.1 bt155.2 bt157.1 bt157.2 true))) else (if bt155.1 = 0 then (if a0 = 0 then (petrinetlaw01_SafeintFactors.j0 k a0 a1 bt155.1 bt155.2 bt157.1 bt157.2 (a1 != 0)) else (petrinetlaw01_SafeintFactors.j0 k a0 a1 bt155.1 bt155.2 bt157.1 bt157.2 true)) else (petrinetlaw01_SafeintFactors.j0 k a0 a1 bt155.1 bt155.2 bt157.1 bt157.2 false)))) else (petrinetlaw01_SafeintFactors.j0 k a0 a1 bt155.1 bt155.2 bt157.1 bt157.2 false)))) = some r := h
  clear h
  replace H := Option.bind_eq_some_iff.mp H
  obtain ⟨⟨t155, t156⟩, A30, H⟩ := H
  replace H : ((safeint_Lcm.f k a0 a1).bind fun bt157 => (if t156 = true then (if t155 < 0 then (petrinetlaw01_SafeintFactors.j0 k a0 a1 t155 t156 bt157.1 bt157.2 true) else (if t155 > 0 then (if t155 = 0 then (none) else (if (Int.tmod a0 t155) = 0 then (if (Int.tmod a1 t155) = 0 then (petrinetlaw01_SafeintFactors.j0 k a0 a1 t155 t156 bt157.1 bt157.2 false) else (petrinetlaw01_SafeintFactors.j0 k a0 a1 t155 t156 bt157.1 bt157.2 true)) else (petrinetlaw01_SafeintFactors.j0 k a0 a1 t155 t156 bt157.1 bt157.2 true))) else (if t155 = 0 then (if a0 = 0 then (petrinetlaw01_SafeintFactors.j0 k a0 a1 t155 t156 bt157.1 bt157.2 (a1 != 0)) else (petrinetlaw01_SafeintFactors.j0 k a0 a1 t155 t156 bt157.1 bt157.2 true)) else (petrinetlaw01_SafeintFactors.j0 k a0 a1 t155 t156 bt157.1 bt157.2 false)))) else (petrinetlaw01_SafeintFactors.j0 k a0 a1 t155 t156 bt157.1 bt157.2 false))) = some r := H
  have A3 := Aside0.mk A30
  clear A30
  replace H := Option.bind_eq_some_iff.mp H
  obtain ⟨⟨t157, t158⟩, A40, H⟩ := H
  replace H : (if t156 = true then (if t155 < 0 then (petrinetlaw01_SafeintFactors.j0 k a0 a1 t155 t156 t157 t158 true) else (if t155 > 0 then (if t155 = 0 then (none) else (if (Int.tmod a0 t155) = 0 then (if (Int.tmod a1 t155) = 0 then (petrinetlaw01_SafeintFactors.j0 k a0 a1 t155 t156 t157 t158 false) else (petrinetlaw01_SafeintFactors.j0 k a0 a1 t155 t156 t157 t158 true)) else (petrinetlaw01_SafeintFactors.j0 k a0 a1 t155 t156 t157 t158 true))) else (if t155 = 0 then (if a0 = 0 then (petrinetlaw01_SafeintFactors.j0 k a0 a1 t155 t156 t157 t158 (a1 != 0)) else (petrinetlaw01_SafeintFactors.j0 k a0 a1 t155 t156 t157 t158 true)) else (petrinetlaw01_SafeintFactors.j0 k a0 a1 t155 t156 t157 t158 false)))) else (petrinetlaw01_SafeintFactors.j0 k a0 a1 t155 t156 t157 t158 false)) = some r := H
  have A4 := Aside0.mk A40
  clear A40
  have HC5 := Aside0.mk H
  clear H
  go_enter Try.func6, Try.ntmps6
  go_upto_region 3 with (first | ((with_reducible refine gate_callee (f := 10) rfl ?_); refine goesL_ (some 16) rfl rfl Try.func10 (by kernel_rfl) rfl #[.int .i64 a0, .int .i64 a1] rfl (by (try simp only [List.map_toArray, List.map_cons, List.map_nil]); first | done | rfl | (simp only [List.length_drop, List.length_take]; rfl)) ?_; (with_reducible refine (safeint_Gcd.calls k a0 a1 t155 t156 _ A3.out).mono ?_); rintro e w' ⟨rfl, ⟨nd, rfl⟩⟩; refine ⟨_, rfl, ?_⟩) | ((with_reducible refine gate_callee (f := 12) rfl ?_); refine goesL_ (some 22) rfl rfl Try.func12 (by kernel_rfl) rfl #[.int .i64 a0, .int .i64 a1] rfl (by (try simp only [List.map_toArray, List.map_cons, List.map_nil]); first | done | rfl | (simp only [List.length_drop, List.length_take]; rfl)) ?_; (with_reducible refine (safeint_Lcm.calls k a0 a1 t157 t158 _ A4.out).mono ?_); rintro e w6 ⟨rfl, hb⟩; refine ⟨_, rfl, ?_⟩; have n0_ := Aside0.mk (below_step (by repeat (first | (with_reducible first | exact HB.out | apply below_alloc | apply pw_below_drewN | apply below_drew1) | exact HB.out)) hb); clear HB; have HB := n0_; clear n0_; (try clear hb); (try clear hb2); (try clear hk); (try clear hi)))
  (try simp only [Act.put, List.setIfInBounds_toArray, List.set_cons_zero, List.set_cons_succ])
  go_cut [57] (fun v57 wc => ∃ (kq : Nat) (x57_4 : Bool), v57 = .bool x57_4 ∧ Aside0 (petrinetlaw01_SafeintFactors.j0 kq a0 a1 t155 t156 t157 t158 x57_4 = some r) ∧ Aside0 (kq ≤ k) ∧ Aside0 (Below w.heap.size w wc))
  case first =>
    have H := HC5.out
    clear HC5
    by_cases c7 : t156 = true
    · subst c7
      have H1 : (if t155 < 0 then (petrinetlaw01_SafeintFactors.j0 k a0 a1 t155 true t157 t158 true) else (if t155 > 0 then (if t155 = 0 then (none) else (if (Int.tmod a0 t155) = 0 then (if (Int.tmod a1 t155) = 0 then (petrinetlaw01_SafeintFactors.j0 k a0 a1 t155 true t157 t158 false) else (petrinetlaw01_SafeintFactors.j0 k a0 a1 t155 true t157 t158 true)) else (petrinetlaw01_SafeintFactors.j0 k a0 a1 t155 true t157 t158 true))) else (if t155 = 0 then (if a0 = 0 then (petrinetlaw01_SafeintFactors.j0 k a0 a1 t155 true t157 t158 (a1 != 0)) else (petrinetlaw01_SafeintFactors.j0 k a0 a1 t155 true t157 t158 true)) else (petrinetlaw01_SafeintFactors.j0 k a0 a1 t155 true t157 t158 false)))) = some r := by rw [if_pos rfl] at H; exact H
      clear H
      have H := H1
      clear H1
      by_cases c8 : t155 < 0
      · rw [if_pos c8] at H
        have c8b0 : decide (t155 < 0) = true := decide_eq_true c8
        clear c8
        (first | rw [c8b0] | (simp only [i64_w, i32_w]; rw [c8b0]) | skip)
        have H' := Aside0.mk H
        clear H
        go_wp2
        go_meet
        case rel => exact ⟨_, (true), (by first | rfl | (simp; done) | (simp [*]; done)), H', ⟨by first | omega | exact Nat.le_refl _⟩, ⟨by repeat (first | (with_reducible first | exact HB.out | apply below_alloc | apply pw_below_drewN | apply below_drew1) | exact HB.out)⟩⟩
      · rw [if_neg c8] at H
        have c8b0 : decide (t155 < 0) = false := decide_eq_false c8
        clear c8
        (first | rw [c8b0] | (simp only [i64_w, i32_w]; rw [c8b0]) | skip)
        by_cases c9 : t155 > 0
        · rw [if_pos c9] at H
          have c9b0 : decide (0 < t155) = true := decide_eq_true c9
          clear c9
          by_cases c10 : t155 = 0
          · rw [if_pos c10] at H
            exact absurd H (by simp)
          · rw [if_neg c10] at H
            have c10b0 : (t155 == 0) = false := beq_eq_false_iff_ne.mpr c10
            have c10b1 : (t155 != 0) = true := bne_iff_ne.mpr c10
            by_cases c11 : (Int.tmod a0 t155) = 0
            · rw [if_pos c11] at H
              have c11b0 : ((Int.tmod a0 t155) == 0) = true := beq_iff_eq.mpr c11
              have c11b1 : ((Int.tmod a0 t155) != 0) = false := bne_eq_false_iff_eq.mpr c11
              clear c11
              by_cases c12 : (Int.tmod a1 t155) = 0
              · rw [if_pos c12] at H
                have c12b0 : ((Int.tmod a1 t155) == 0) = true := beq_iff_eq.mpr c12
                have c12b1 : ((Int.tmod a1 t155) != 0) = false := bne_eq_false_iff_eq.mpr c12
                clear c12
                have H' := Aside0.mk H
                clear H
                go_wp2
                go_meet
                case rel => exact ⟨_, (false), (by first | rfl | (simp; done) | (simp [*]; done)), H', ⟨by first | omega | exact Nat.le_refl _⟩, ⟨by repeat (first | (with_reducible first | exact HB.out | apply below_alloc | apply pw_below_drewN | apply below_drew1) | exact HB.out)⟩⟩
              · rw [if_neg c12] at H
                have c12b0 : ((Int.tmod a1 t155) == 0) = false := beq_eq_false_iff_ne.mpr c12
                have c12b1 : ((Int.tmod a1 t155) != 0) = true := bne_iff_ne.mpr c12
                have H' := Aside0.mk H
                clear H
                go_wp2
                go_meet
                case rel => exact ⟨_, (true), (by first | rfl | (simp; done) | (simp [*]; done)), H', ⟨by first | omega | exact Nat.le_refl _⟩, ⟨by repeat (first | (with_reducible first | exact HB.out | apply below_alloc | apply pw_below_drewN | apply below_drew1) | exact HB.out)⟩⟩
            · rw [if_neg c11] at H
              have c11b0 : ((Int.tmod a0 t155) == 0) = false := beq_eq_false_iff_ne.mpr c11
              have c11b1 : ((Int.tmod a0 t155) != 0) = true := bne_iff_ne.mpr c11
              have H' := Aside0.mk H
              clear H
              go_wp2
              go_meet
              case rel => exact ⟨_, (true), (by first | rfl | (simp; done) | (simp [*]; done)), H', ⟨by first | omega | exact Nat.le_refl _⟩, ⟨by repeat (first | (with_reducible first | exact HB.out | apply below_alloc | apply pw_below_drewN | apply below_drew1) | exact HB.out)⟩⟩
        · rw [if_neg c9] at H
          have c9b0 : decide (0 < t155) = false := decide_eq_false c9
          clear c9
          by_cases c13 : t155 = 0
          · rw [if_pos c13] at H
            have c13b0 : (t155 == 0) = true := beq_iff_eq.mpr c13
            have c13b1 : (t155 != 0) = false := bne_eq_false_iff_eq.mpr c13
            clear c13
            by_cases c14 : a0 = 0
            · rw [if_pos c14] at H
              have c14b0 : (a0 == 0) = true := beq_iff_eq.mpr c14
              have c14b1 : (a0 != 0) = false := bne_eq_false_iff_eq.mpr c14
              clear c14
              have H' := Aside0.mk H
              clear H
              go_wp2
              go_meet
              case rel => exact ⟨_, ((a1 != 0)), (by first | rfl | (simp; done) | (simp [*]; done)), H', ⟨by first | omega | exact Nat.le_refl _⟩, ⟨by repeat (first | (with_reducible first | exact HB.out | apply below_alloc | apply pw_below_drewN | apply below_drew1) | exact HB.out)⟩⟩
            · rw [if_neg c14] at H
              have c14b0 : (a0 == 0) = false := beq_eq_false_iff_ne.mpr c14
              have c14b1 : (a0 != 0) = true := bne_iff_ne.mpr c14
              have H' := Aside0.mk H
              clear H
              go_wp2
              go_meet
              case rel => exact ⟨_, (true), (by first | rfl | (simp; done) | (simp [*]; done)), H', ⟨by first | omega | exact Nat.le_refl _⟩, ⟨by repeat (first | (with_reducible first | exact HB.out | apply below_alloc | apply pw_below_drewN | apply below_drew1) | exact HB.out)⟩⟩
          · rw [if_neg c13] at H
            have c13b0 : (t155 == 0) = false := beq_eq_false_iff_ne.mpr c13
            have c13b1 : (t155 != 0) = true := bne_iff_ne.mpr c13
            have H' := Aside0.mk H
            clear H
            go_wp2
            go_meet
            case rel => exact ⟨_, (false), (by first | rfl | (simp; done) | (simp [*]; done)), H', ⟨by first | omega | exact Nat.le_refl _⟩, ⟨by repeat (first | (with_reducible first | exact HB.out | apply below_alloc | apply pw_below_drewN | apply below_drew1) | exact HB.out)⟩⟩
    · replace c7 := Bool.eq_false_iff.mpr c7
      subst c7
      have H1 : (petrinetlaw01_SafeintFactors.j0 k a0 a1 t155 false t157 t158 false) = some r := by rw [if_neg (show ¬ (false = true) by decide)] at H; exact H
      clear H
      have H := H1
      clear H1
      have H' := Aside0.mk H
      clear H
      go_wp2
      go_meet
      case rel => exact ⟨_, (false), (by first | rfl | (simp; done) | (simp [*]; done)), H', ⟨by first | omega | exact Nat.le_refl _⟩, ⟨by repeat (first | (with_reducible first | exact HB.out | apply below_alloc | apply pw_below_drewN | apply below_drew1) | exact HB.out)⟩⟩
  case rest =>
    clear HC5
    try clear c1
    try clear p2
    try clear c6
    try clear c7
    try clear c8
    try clear c8b0
    try clear c9
    try clear c9b0
    try clear c10
    try clear c10b0
    try clear c10b1
    try clear c11
    try clear c11b0
    try clear c11b1
    try clear c12
    try clear c12b0
    try clear c12b1
    try clear c13
    try clear c13b0
    try clear c13b1
    try clear c14
    try clear c14b0
    try clear c14b1
    obtain ⟨kq, x57_4, rfl, HA, HJ4, HB⟩ := hcut
    cases kq with
    | zero => exact absurd HA.out (by simp [petrinetlaw01_SafeintFactors.j0])
    | succ kj4 =>
      have H := HA.out
      clear HA
      simp only [petrinetlaw01_SafeintFactors.j0] at H
      by_cases c15 : x57_4 = true
      · subst c15
        have H1 : (some false) = some r := by rw [if_pos rfl] at H; exact H
        clear H
        have H := H1
        clear H1
        obtain rfl := Option.some.inj H
        go_wp2
        go_ret
        exact ⟨by first | rfl | (simp [errW_none, errW_some] <;> rfl) | (simp [*, errW_none, errW_some] <;> rfl), by repeat (first | (with_reducible first | exact HB.out | apply below_alloc | apply pw_below_drewN | apply below_drew1) | exact HB.out)⟩
      · replace c15 := Bool.eq_false_iff.mpr c15
        subst c15
        have H1 : (if t158 = true then (if t157 < 0 then (petrinetlaw01_SafeintFactors.j1 kj4 a0 a1 t155 t156 t157 t158 true) else (if a0 = 0 then (if a1 = 0 then (petrinetlaw01_SafeintFactors.j1 kj4 a0 a1 t155 t156 t157 t158 false) else (petrinetlaw01_SafeintFactors.j1 kj4 a0 a1 t155 t156 t157 t158 ((Int.tmod t157 a1) != 0))) else (if (Int.tmod t157 a0) = 0 then (if a1 = 0 then (petrinetlaw01_SafeintFactors.j1 kj4 a0 a1 t155 t156 t157 t158 false) else (petrinetlaw01_SafeintFactors.j1 kj4 a0 a1 t155 t156 t157 t158 ((Int.tmod t157 a1) != 0))) else (petrinetlaw01_SafeintFactors.j1 kj4 a0 a1 t155 t156 t157 t158 true)))) else (petrinetlaw01_SafeintFactors.j1 kj4 a0 a1 t155 t156 t157 t158 false)) = some r := by rw [if_neg (show ¬ (false = true) by decide)] at H; exact H
        clear H
        have H := H1
        clear H1
        have HC16 := Aside0.mk H
        clear H
        go_upto_region 5 with (fail)
        go_cut [82] (fun v82 wc => ∃ (kq : Nat) (x82_15 : Bool), v82 = .bool x82_15 ∧ Aside0 (petrinetlaw01_SafeintFactors.j1 kq a0 a1 t155 t156 t157 t158 x82_15 = some r) ∧ Aside0 (kq ≤ kj4) ∧ Aside0 (Below w.heap.size w wc))
        case first =>
          have H := HC16.out
          clear HC16
          by_cases c17 : t158 = true
          · subst c17
            have H1 : (if t157 < 0 then (petrinetlaw01_SafeintFactors.j1 kj4 a0 a1 t155 t156 t157 true true) else (if a0 = 0 then (if a1 = 0 then (petrinetlaw01_SafeintFactors.j1 kj4 a0 a1 t155 t156 t157 true false) else (petrinetlaw01_SafeintFactors.j1 kj4 a0 a1 t155 t156 t157 true ((Int.tmod t157 a1) != 0))) else (if (Int.tmod t157 a0) = 0 then (if a1 = 0 then (petrinetlaw01_SafeintFactors.j1 kj4 a0 a1 t155 t156 t157 true false) else (petrinetlaw01_SafeintFactors.j1 kj4 a0 a1 t155 t156 t157 true ((Int.tmod t157 a1) != 0))) else (petrinetlaw01_SafeintFactors.j1 kj4 a0 a1 t155 t156 t157 true true)))) = some r := by rw [if_pos rfl] at H; exact H
            clear H
            have H := H1
            clear H1
            by_cases c18 : t157 < 0
            · rw [if_pos c18] at H
              have c18b0 : decide (t157 < 0) = true := decide_eq_true c18
              clear c18
              (first | rw [c18b0] | (simp only [i64_w, i32_w]; rw [c18b0]) | skip)
              have H' := Aside0.mk H
              clear H
              go_wp2
              go_meet
              case rel => exact ⟨_, (true), (by first | rfl | (simp; done) | (simp [*]; done)), H', ⟨by have := HJ4.out; first | omega | exact Nat.le_refl _⟩, ⟨by repeat (first | (with_reducible first | exact HB.out | apply below_alloc | apply pw_below_drewN | apply below_drew1) | exact HB.out)⟩⟩
            · rw [if_neg c18] at H
              have c18b0 : decide (t157 < 0) = false := decide_eq_false c18
              clear c18
              (first | rw [c18b0] | (simp only [i64_w, i32_w]; rw [c18b0]) | skip)
              by_cases c19 : a0 = 0
              · rw [if_pos c19] at H
                have c19b0 : (a0 == 0) = true := beq_iff_eq.mpr c19
                have c19b1 : (a0 != 0) = false := bne_eq_false_iff_eq.mpr c19
                clear c19
                by_cases c20 : a1 = 0
                · rw [if_pos c20] at H
                  have c20b0 : (a1 == 0) = true := beq_iff_eq.mpr c20
                  have c20b1 : (a1 != 0) = false := bne_eq_false_iff_eq.mpr c20
                  clear c20
                  have H' := Aside0.mk H
                  clear H
                  go_wp2
                  go_meet
                  case rel => exact ⟨_, (false), (by first | rfl | (simp; done) | (simp [*]; done)), H', ⟨by have := HJ4.out; first | omega | exact Nat.le_refl _⟩, ⟨by repeat (first | (with_reducible first | exact HB.out | apply below_alloc | apply pw_below_drewN | apply below_drew1) | exact HB.out)⟩⟩
                · rw [if_neg c20] at H
                  have c20b0 : (a1 == 0) = false := beq_eq_false_iff_ne.mpr c20
                  have c20b1 : (a1 != 0) = true := bne_iff_ne.mpr c20
                  have H' := Aside0.mk H
                  clear H
                  go_wp2
                  go_meet
                  case rel => exact ⟨_, (((Int.tmod t157 a1) != 0)), (by first | rfl | (simp; done) | (simp [*]; done)), H', ⟨by have := HJ4.out; first | omega | exact Nat.le_refl _⟩, ⟨by repeat (first | (with_reducible first | exact HB.out | apply below_alloc | apply pw_below_drewN | apply below_drew1) | exact HB.out)⟩⟩
              · rw [if_neg c19] at H
                have c19b0 : (a0 == 0) = false := beq_eq_false_iff_ne.mpr c19
                have c19b1 : (a0 != 0) = true := bne_iff_ne.mpr c19
                by_cases c21 : (Int.tmod t157 a0) = 0
                · rw [if_pos c21] at H
                  have c21b0 : ((Int.tmod t157 a0) == 0) = true := beq_iff_eq.mpr c21
                  have c21b1 : ((Int.tmod t157 a0) != 0) = false := bne_eq_false_iff_eq.mpr c21
                  clear c21
                  by_cases c22 : a1 = 0
                  · rw [if_pos c22] at H
                    have c22b0 : (a1 == 0) = true := beq_iff_eq.mpr c22
                    have c22b1 : (a1 != 0) = false := bne_eq_false_iff_eq.mpr c22
                    clear c22
                    have H' := Aside0.mk H
                    clear H
                    go_wp2
                    go_meet
                    case rel => exact ⟨_, (false), (by first | rfl | (simp; done) | (simp [*]; done)), H', ⟨by have := HJ4.out; first | omega | exact Nat.le_refl _⟩, ⟨by repeat (first | (with_reducible first | exact HB.out | apply below_alloc | apply pw_below_drewN | apply below_drew1) | exact HB.out)⟩⟩
                  · rw [if_neg c22] at H
                    have c22b0 : (a1 == 0) = false := beq_eq_false_iff_ne.mpr c22
                    have c22b1 : (a1 != 0) = true := bne_iff_ne.mpr c22
                    have H' := Aside0.mk H
                    clear H
                    go_wp2
                    go_meet
                    case rel => exact ⟨_, (((Int.tmod t157 a1) != 0)), (by first | rfl | (simp; done) | (simp [*]; done)), H', ⟨by have := HJ4.out; first | omega | exact Nat.le_refl _⟩, ⟨by repeat (first | (with_reducible first | exact HB.out | apply below_alloc | apply pw_below_drewN | apply below_drew1) | exact HB.out)⟩⟩
                · rw [if_neg c21] at H
                  have c21b0 : ((Int.tmod t157 a0) == 0) = false := beq_eq_false_iff_ne.mpr c21
                  have c21b1 : ((Int.tmod t157 a0) != 0) = true := bne_iff_ne.mpr c21
                  have H' := Aside0.mk H
                  clear H
                  go_wp2
                  go_meet
                  case rel => exact ⟨_, (true), (by first | rfl | (simp; done) | (simp [*]; done)), H', ⟨by have := HJ4.out; first | omega | exact Nat.le_refl _⟩, ⟨by repeat (first | (with_reducible first | exact HB.out | apply below_alloc | apply pw_below_drewN | apply below_drew1) | exact HB.out)⟩⟩
          · replace c17 := Bool.eq_false_iff.mpr c17
            subst c17
            have H1 : (petrinetlaw01_SafeintFactors.j1 kj4 a0 a1 t155 t156 t157 false false) = some r := by rw [if_neg (show ¬ (false = true) by decide)] at H; exact H
            clear H
            have H := H1
            clear H1
            have H' := Aside0.mk H
            clear H
            go_wp2
            go_meet
            case rel => exact ⟨_, (false), (by first | rfl | (simp; done) | (simp [*]; done)), H', ⟨by have := HJ4.out; first | omega | exact Nat.le_refl _⟩, ⟨by repeat (first | (with_reducible first | exact HB.out | apply below_alloc | apply pw_below_drewN | apply below_drew1) | exact HB.out)⟩⟩
        case rest =>
          clear HC16
          try clear c1
          try clear c2
          try clear p2
          try clear c6
          try clear c7
          try clear c8
          try clear c8b0
          try clear c9
          try clear c9b0
          try clear c10
          try clear c10b0
          try clear c10b1
          try clear c11
          try clear c11b0
          try clear c11b1
          try clear c12
          try clear c12b0
          try clear c12b1
          try clear c13
          try clear c13b0
          try clear c13b1
          try clear c14
          try clear c14b0
          try clear c14b1
          try clear c15
          try clear c17
          try clear c18
          try clear c18b0
          try clear c19
          try clear c19b0
          try clear c19b1
          try clear c20
          try clear c20b0
          try clear c20b1
          try clear c21
          try clear c21b0
          try clear c21b1
          try clear c22
          try clear c22b0
          try clear c22b1
          try clear p2
          obtain ⟨kq, x82_15, rfl, HA, HJ15, HB⟩ := hcut
          cases kq with
          | zero => exact absurd HA.out (by simp [petrinetlaw01_SafeintFactors.j1])
          | succ kj15 =>
            have H := HA.out
            clear HA
            simp only [petrinetlaw01_SafeintFactors.j1] at H
            by_cases c23 : x82_15 = true
            · subst c23
              have H1 : (some false) = some r := by rw [if_pos rfl] at H; exact H
              clear H
              have H := H1
              clear H1
              obtain rfl := Option.some.inj H
              go_wp2
              go_ret
              exact ⟨by first | rfl | (simp [errW_none, errW_some] <;> rfl) | (simp [*, errW_none, errW_some] <;> rfl), by repeat (first | (with_reducible first | exact HB.out | apply below_alloc | apply pw_below_drewN | apply below_drew1) | exact HB.out)⟩
            · replace c23 := Bool.eq_false_iff.mpr c23
              subst c23
              have H1 : ((safeint_Mul.f a0 a1).bind fun bt159 => (if t156 = true then (if t158 = true then (if bt159.2 = true then (petrinetlaw01_SafeintFactors.j2 kj15 t155 t157 bt159.1 (decide (bt159.1 > (-9223372036854775808)))) else (petrinetlaw01_SafeintFactors.j2 kj15 t155 t157 bt159.1 false)) else (petrinetlaw01_SafeintFactors.j2 kj15 t155 t157 bt159.1 false)) else (petrinetlaw01_SafeintFactors.j2 kj15 t155 t157 bt159.1 false))) = some r := by rw [if_neg (show ¬ (false = true) by decide)] at H; exact H
              clear H
              have H := H1
              clear H1
              replace H := Option.bind_eq_some_iff.mp H
              obtain ⟨⟨t159, t160⟩, A240, H⟩ := H
              replace H : (if t156 = true then (if t158 = true then (if t160 = true then (petrinetlaw01_SafeintFactors.j2 kj15 t155 t157 t159 (decide (t159 > (-9223372036854775808)))) else (petrinetlaw01_SafeintFactors.j2 kj15 t155 t157 t159 false)) else (petrinetlaw01_SafeintFactors.j2 kj15 t155 t157 t159 false)) else (petrinetlaw01_SafeintFactors.j2 kj15 t155 t157 t159 false)) = some r := H
              have A24 := Aside0.mk A240
              clear A240
              have HC25 := Aside0.mk H
              clear H
              go_upto_region 8 with (first | ((with_reducible refine gate_callee (f := 17) rfl ?_); refine goesL_ (some 86) rfl rfl Try.func17 (by kernel_rfl) rfl #[.int .i64 a0, .int .i64 a1] rfl (by (try simp only [List.map_toArray, List.map_cons, List.map_nil]); first | done | rfl | (simp only [List.length_drop, List.length_take]; rfl)) ?_; (with_reducible refine (safeint_Mul.calls a0 a1 t159 t160 _ A24.out).mono ?_); rintro e w26 ⟨rfl, hb⟩; refine ⟨_, rfl, ?_⟩; have n0_ := Aside0.mk (below_step (by repeat (first | (with_reducible first | exact HB.out | apply below_alloc | apply pw_below_drewN | apply below_drew1) | exact HB.out)) hb); clear HB; have HB := n0_; clear n0_; (try clear hb); (try clear hb2); (try clear hk); (try clear hi)))
              (try simp only [Act.put, List.setIfInBounds_toArray, List.set_cons_zero, List.set_cons_succ])
              go_cut [99] (fun v99 wc => ∃ (kq : Nat) (x99_24 : Bool), v99 = .bool x99_24 ∧ Aside0 (petrinetlaw01_SafeintFactors.j2 kq t155 t157 t159 x99_24 = some r) ∧ Aside0 (kq ≤ kj15) ∧ Aside0 (Below w.heap.size w wc))
              case first =>
                have H := HC25.out
                clear HC25
                by_cases c27 : t156 = true
                · subst c27
                  have H1 : (if t158 = true then (if t160 = true then (petrinetlaw01_SafeintFactors.j2 kj15 t155 t157 t159 (decide (t159 > (-9223372036854775808)))) else (petrinetlaw01_SafeintFactors.j2 kj15 t155 t157 t159 false)) else (petrinetlaw01_SafeintFactors.j2 kj15 t155 t157 t159 false)) = some r := by rw [if_pos rfl] at H; exact H
                  clear H
                  have H := H1
                  clear H1
                  by_cases c28 : t158 = true
                  · subst c28
                    have H1 : (if t160 = true then (petrinetlaw01_SafeintFactors.j2 kj15 t155 t157 t159 (decide (t159 > (-9223372036854775808)))) else (petrinetlaw01_SafeintFactors.j2 kj15 t155 t157 t159 false)) = some r := by rw [if_pos rfl] at H; exact H
                    clear H
                    have H := H1
                    clear H1
                    by_cases c29 : t160 = true
                    · subst c29
                      have H1 : (petrinetlaw01_SafeintFactors.j2 kj15 t155 t157 t159 (decide (t159 > (-9223372036854775808)))) = some r := by rw [if_pos rfl] at H; exact H
                      clear H
                      have H := H1
                      clear H1
                      have H' := Aside0.mk H
                      clear H
                      go_wp2
                      go_meet
                      case rel => exact ⟨_, (decide (t159 > (-9223372036854775808))), (by first | rfl | (simp; done) | (simp [*]; done)), H', ⟨by have := HJ4.out; have := HJ15.out; first | omega | exact Nat.le_refl _⟩, ⟨by repeat (first | (with_reducible first | exact HB.out | apply below_alloc | apply pw_below_drewN | apply below_drew1) | exact HB.out)⟩⟩
                    · replace c29 := Bool.eq_false_iff.mpr c29
                      subst c29
                      have H1 : (petrinetlaw01_SafeintFactors.j2 kj15 t155 t157 t159 false) = some r := by rw [if_neg (show ¬ (false = true) by decide)] at H; exact H
                      clear H
                      have H := H1
                      clear H1
                      have H' := Aside0.mk H
                      clear H
                      go_wp2
                      go_meet
                      case rel => exact ⟨_, (false), (by first | rfl | (simp; done) | (simp [*]; done)), H', ⟨by have := HJ4.out; have := HJ15.out; first | omega | exact Nat.le_refl _⟩, ⟨by repeat (first | (with_reducible first | exact HB.out | apply below_alloc | apply pw_below_drewN | apply below_drew1) | exact HB.out)⟩⟩
                  · replace c28 := Bool.eq_false_iff.mpr c28
                    subst c28
                    have H1 : (petrinetlaw01_SafeintFactors.j2 kj15 t155 t157 t159 false) = some r := by rw [if_neg (show ¬ (false = true) by decide)] at H; exact H
                    clear H
                    have H := H1
                    clear H1
                    have H' := Aside0.mk H
                    clear H
                    go_wp2
                    go_meet
                    case rel => exact ⟨_, (false), (by first | rfl | (simp; done) | (simp [*]; done)), H', ⟨by have := HJ4.out; have := HJ15.out; first | omega | exact Nat.le_refl _⟩, ⟨by repeat (first | (with_reducible first | exact HB.out | apply below_alloc | apply pw_below_drewN | apply below_drew1) | exact HB.out)⟩⟩
                · replace c27 := Bool.eq_false_iff.mpr c27
                  subst c27
                  have H1 : (petrinetlaw01_SafeintFactors.j2 kj15 t155 t157 t159 false) = some r := by rw [if_neg (show ¬ (false = true) by decide)] at H; exact H
                  clear H
                  have H := H1
                  clear H1
                  have H' := Aside0.mk H
                  clear H
                  go_wp2
                  go_meet
                  case rel => exact ⟨_, (false), (by first | rfl | (simp; done) | (simp [*]; done)), H', ⟨by have := HJ4.out; have := HJ15.out; first | omega | exact Nat.le_refl _⟩, ⟨by repeat (first | (with_reducible first | exact HB.out | apply below_alloc | apply pw_below_drewN | apply below_drew1) | exact HB.out)⟩⟩
              case rest =>
                clear HC25
                try clear c1
                try clear c2
                try clear p2
                try clear c6
                try clear c7
                try clear c8
                try clear c8b0
                try clear c9
                try clear c9b0
                try clear c10
                try clear c10b0
                try clear c10b1
                try clear c11
                try clear c11b0
                try clear c11b1
                try clear c12
                try clear c12b0
                try clear c12b1
                try clear c13
                try clear c13b0
                try clear c13b1
                try clear c14
                try clear c14b0
                try clear c14b1
                try clear c15
                try clear c17
                try clear c18
                try clear c18b0
                try clear c19
                try clear c19b0
                try clear c19b1
                try clear c20
                try clear c20b0
                try clear c20b1
                try clear c21
                try clear c21b0
                try clear c21b1
                try clear c22
                try clear c22b0
                try clear c22b1
                try clear c23
                try clear c27
                try clear c28
                try clear c29
                try clear p2
                obtain ⟨kq, x99_24, rfl, HA, HJ24, HB⟩ := hcut
                cases kq with
                | zero => exact absurd HA.out (by simp [petrinetlaw01_SafeintFactors.j2])
                | succ kj24 =>
                  have H := HA.out
                  clear HA
                  simp only [petrinetlaw01_SafeintFactors.j2] at H
                  by_cases c30 : x99_24 = true
                  · subst c30
                    have H1 : ((safeint_Mul.f t155 t157).bind fun bt161 => (if bt161.2 = true then (if bt161.1 = t159 then ((petrinetlaw01_alive.f kj24).bind fun t163 => (some t163)) else (if bt161.1 = (wrap64 (-t159)) then ((petrinetlaw01_alive.f kj24).bind fun t164 => (some t164)) else (some false))) else (some false))) = some r := by rw [if_pos rfl] at H; exact H
                    clear H
                    have H := H1
                    clear H1
                    replace H := Option.bind_eq_some_iff.mp H
                    obtain ⟨⟨t161, t162⟩, A310, H⟩ := H
                    replace H : (if t162 = true then (if t161 = t159 then ((petrinetlaw01_alive.f kj24).bind fun t163 => (some t163)) else (if t161 = (wrap64 (-t159)) then ((petrinetlaw01_alive.f kj24).bind fun t164 => (some t164)) else (some false))) else (some false)) = some r := H
                    have A31 := Aside0.mk A310
                    clear A310
                    by_cases c32 : t162 = true
                    · subst c32
                      have H1 : (if t161 = t159 then ((petrinetlaw01_alive.f kj24).bind fun t163 => (some t163)) else (if t161 = (wrap64 (-t159)) then ((petrinetlaw01_alive.f kj24).bind fun t164 => (some t164)) else (some false))) = some r := by rw [if_pos rfl] at H; exact H
                      clear H
                      have H := H1
                      clear H1
                      by_cases c33 : t161 = t159
                      · rw [if_pos c33] at H
                        have c33b0 : (t161 == t159) = true := beq_iff_eq.mpr c33
                        have c33b1 : (t161 != t159) = false := bne_eq_false_iff_eq.mpr c33
                        clear c33
                        replace H := Option.bind_eq_some_iff.mp H
                        obtain ⟨t163, A340, H⟩ := H
                        replace H : (some t163) = some r := H
                        have A34 := Aside0.mk A340
                        clear A340
                        obtain rfl := Option.some.inj H
                        go_wp2_with (first | ((with_reducible refine gate_callee (f := 17) rfl ?_); refine goesL_ (some 103) rfl rfl Try.func17 (by kernel_rfl) rfl #[.int .i64 t155, .int .i64 t157] rfl (by (try simp only [List.map_toArray, List.map_cons, List.map_nil]); first | done | rfl | (simp only [List.length_drop, List.length_take]; rfl)) ?_; (with_reducible refine (safeint_Mul.calls t155 t157 t161 true _ A31.out).mono ?_); rintro e w35 ⟨rfl, hb⟩; refine ⟨_, rfl, ?_⟩; have n0_ := Aside0.mk (below_step (by repeat (first | (with_reducible first | exact HB.out | apply below_alloc | apply pw_below_drewN | apply below_drew1) | exact HB.out)) hb); clear HB; have HB := n0_; clear n0_; (try clear hb); (try clear hb2); (try clear hk); (try clear hi)) | ((with_reducible refine gate_callee (f := 14) rfl ?_); refine goesL_ (some 119) rfl rfl Try.func14 (by kernel_rfl) rfl #[] rfl (by (try simp only [List.map_toArray, List.map_cons, List.map_nil]); first | done | rfl | (simp only [List.length_drop, List.length_take]; rfl)) ?_; (with_reducible refine (petrinetlaw01_alive.calls kj24  t163 _ A34.out).mono ?_); rintro e w36 ⟨rfl, hb⟩; refine ⟨_, rfl, ?_⟩; have n0_ := Aside0.mk (below_step (by repeat (first | (with_reducible first | exact HB.out | apply below_alloc | apply pw_below_drewN | apply below_drew1) | exact HB.out)) hb); clear HB; have HB := n0_; clear n0_; (try clear hb); (try clear hb2); (try clear hk); (try clear hi)))
                        go_ret
                        exact ⟨by first | rfl | (simp [errW_none, errW_some] <;> rfl) | (simp [*, errW_none, errW_some] <;> rfl), by repeat (first | (with_reducible first | exact HB.out | apply below_alloc | apply pw_below_drewN | apply below_drew1) | exact HB.out)⟩
                      · rw [if_neg c33] at H
                        have c33b0 : (t161 == t159) = false := beq_eq_false_iff_ne.mpr c33
                        have c33b1 : (t161 != t159) = true := bne_iff_ne.mpr c33
                        by_cases c37 : t161 = (wrap64 (-t159))
                        · rw [if_pos c37] at H
                          have c37b0 : (t161 == (wrap64 (-t159))) = true := beq_iff_eq.mpr c37
                          have c37b1 : (t161 != (wrap64 (-t159))) = false := bne_eq_false_iff_eq.mpr c37
                          clear c37
                          replace H := Option.bind_eq_some_iff.mp H
                          obtain ⟨t164, A380, H⟩ := H
                          replace H : (some t164) = some r := H
                          have A38 := Aside0.mk A380
                          clear A380
                          obtain rfl := Option.some.inj H
                          go_wp2_with (first | ((with_reducible refine gate_callee (f := 17) rfl ?_); refine goesL_ (some 103) rfl rfl Try.func17 (by kernel_rfl) rfl #[.int .i64 t155, .int .i64 t157] rfl (by (try simp only [List.map_toArray, List.map_cons, List.map_nil]); first | done | rfl | (simp only [List.length_drop, List.length_take]; rfl)) ?_; (with_reducible refine (safeint_Mul.calls t155 t157 t161 true _ A31.out).mono ?_); rintro e w39 ⟨rfl, hb⟩; refine ⟨_, rfl, ?_⟩; have n0_ := Aside0.mk (below_step (by repeat (first | (with_reducible first | exact HB.out | apply below_alloc | apply pw_below_drewN | apply below_drew1) | exact HB.out)) hb); clear HB; have HB := n0_; clear n0_; (try clear hb); (try clear hb2); (try clear hk); (try clear hi)) | ((with_reducible refine gate_callee (f := 14) rfl ?_); refine goesL_ (some 119) rfl rfl Try.func14 (by kernel_rfl) rfl #[] rfl (by (try simp only [List.map_toArray, List.map_cons, List.map_nil]); first | done | rfl | (simp only [List.length_drop, List.length_take]; rfl)) ?_; (with_reducible refine (petrinetlaw01_alive.calls kj24  t164 _ A38.out).mono ?_); rintro e w40 ⟨rfl, hb⟩; refine ⟨_, rfl, ?_⟩; have n0_ := Aside0.mk (below_step (by repeat (first | (with_reducible first | exact HB.out | apply below_alloc | apply pw_below_drewN | apply below_drew1) | exact HB.out)) hb); clear HB; have HB := n0_; clear n0_; (try clear hb); (try clear hb2); (try clear hk); (try clear hi)))
                          go_ret
                          exact ⟨by first | rfl | (simp [errW_none, errW_some] <;> rfl) | (simp [*, errW_none, errW_some] <;> rfl), by repeat (first | (with_reducible first | exact HB.out | apply below_alloc | apply pw_below_drewN | apply below_drew1) | exact HB.out)⟩
                        · rw [if_neg c37] at H
                          have c37b0 : (t161 == (wrap64 (-t159))) = false := beq_eq_false_iff_ne.mpr c37
                          have c37b1 : (t161 != (wrap64 (-t159))) = true := bne_iff_ne.mpr c37
                          obtain rfl := Option.some.inj H
                          go_wp2_with (first | ((with_reducible refine gate_callee (f := 17) rfl ?_); refine goesL_ (some 103) rfl rfl Try.func17 (by kernel_rfl) rfl #[.int .i64 t155, .int .i64 t157] rfl (by (try simp only [List.map_toArray, List.map_cons, List.map_nil]); first | done | rfl | (simp only [List.length_drop, List.length_take]; rfl)) ?_; (with_reducible refine (safeint_Mul.calls t155 t157 t161 true _ A31.out).mono ?_); rintro e w41 ⟨rfl, hb⟩; refine ⟨_, rfl, ?_⟩; have n0_ := Aside0.mk (below_step (by repeat (first | (with_reducible first | exact HB.out | apply below_alloc | apply pw_below_drewN | apply below_drew1) | exact HB.out)) hb); clear HB; have HB := n0_; clear n0_; (try clear hb); (try clear hb2); (try clear hk); (try clear hi)))
                          go_ret
                          exact ⟨by first | rfl | (simp [errW_none, errW_some] <;> rfl) | (simp [*, errW_none, errW_some] <;> rfl), by repeat (first | (with_reducible first | exact HB.out | apply below_alloc | apply pw_below_drewN | apply below_drew1) | exact HB.out)⟩
                    · replace c32 := Bool.eq_false_iff.mpr c32
                      subst c32
                      have H1 : (some false) = some r := by rw [if_neg (show ¬ (false = true) by decide)] at H; exact H
                      clear H
                      have H := H1
                      clear H1
                      obtain rfl := Option.some.inj H
                      go_wp2_with (first | ((with_reducible refine gate_callee (f := 17) rfl ?_); refine goesL_ (some 103) rfl rfl Try.func17 (by kernel_rfl) rfl #[.int .i64 t155, .int .i64 t157] rfl (by (try simp only [List.map_toArray, List.map_cons, List.map_nil]); first | done | rfl | (simp only [List.length_drop, List.length_take]; rfl)) ?_; (with_reducible refine (safeint_Mul.calls t155 t157 t161 false _ A31.out).mono ?_); rintro e w42 ⟨rfl, hb⟩; refine ⟨_, rfl, ?_⟩; have n0_ := Aside0.mk (below_step (by repeat (first | (with_reducible first | exact HB.out | apply below_alloc | apply pw_below_drewN | apply below_drew1) | exact HB.out)) hb); clear HB; have HB := n0_; clear n0_; (try clear hb); (try clear hb2); (try clear hk); (try clear hi)))
                      go_ret
                      exact ⟨by first | rfl | (simp [errW_none, errW_some] <;> rfl) | (simp [*, errW_none, errW_some] <;> rfl), by repeat (first | (with_reducible first | exact HB.out | apply below_alloc | apply pw_below_drewN | apply below_drew1) | exact HB.out)⟩
                  · replace c30 := Bool.eq_false_iff.mpr c30
                    subst c30
                    have H1 : ((petrinetlaw01_alive.f kj24).bind fun t165 => (some t165)) = some r := by rw [if_neg (show ¬ (false = true) by decide)] at H; exact H
                    clear H
                    have H := H1
                    clear H1
                    replace H := Option.bind_eq_some_iff.mp H
                    obtain ⟨t165, A430, H⟩ := H
                    replace H : (some t165) = some r := H
                    have A43 := Aside0.mk A430
                    clear A430
                    obtain rfl := Option.some.inj H
                    go_wp2_with (first | ((with_reducible refine gate_callee (f := 14) rfl ?_); refine goesL_ (some 119) rfl rfl Try.func14 (by kernel_rfl) rfl #[] rfl (by (try simp only [List.map_toArray, List.map_cons, List.map_nil]); first | done | rfl | (simp only [List.length_drop, List.length_take]; rfl)) ?_; (with_reducible refine (petrinetlaw01_alive.calls kj24  t165 _ A43.out).mono ?_); rintro e w44 ⟨rfl, hb⟩; refine ⟨_, rfl, ?_⟩; have n0_ := Aside0.mk (below_step (by repeat (first | (with_reducible first | exact HB.out | apply below_alloc | apply pw_below_drewN | apply below_drew1) | exact HB.out)) hb); clear HB; have HB := n0_; clear n0_; (try clear hb); (try clear hb2); (try clear hk); (try clear hi)))
                    go_ret
                    exact ⟨by first | rfl | (simp [errW_none, errW_some] <;> rfl) | (simp [*, errW_none, errW_some] <;> rfl), by repeat (first | (with_reducible first | exact HB.out | apply below_alloc | apply pw_below_drewN | apply below_drew1) | exact HB.out)⟩

/-- THE ONE PURE STATEMENT of petrinetlaw01_SafeintFactors: yours. -/
def petrinetlaw01_SafeintFactors.Pure : Prop := ∀ (a0 : Int) (a1 : Int), (Lit.int .i64 a0).wf = true → (Lit.int .i64 a1).wf = true → ∃ k, petrinetlaw01_SafeintFactors.f k a0 a1 = some true
theorem petrinetlaw01_SafeintFactors.walk (P : petrinetlaw01_SafeintFactors.Pure) (a0 : Int) (a1 : Int) (w : World) (w0 : (Lit.int .i64 a0).wf = true) (w1 : (Lit.int .i64 a1).wf = true) :
    Calls Try.prog 6 #[.int .i64 a0, .int .i64 a1] w fun e w' => e = .returned (.bool true) ∧ Below w.heap.size w w' := by
  obtain ⟨k, h⟩ := P a0 a1 w0 w1
  refine (petrinetlaw01_SafeintFactors.calls k a0 a1 true w h).mono ?_
  rintro e w' ⟨rfl, hd⟩
  exact ⟨rfl, hd⟩

/-! ### petrinetref01_Div: function 19 -/
def petrinetref01_Div.f (a0 : Int) (a1 : Int) : Option (Int × Bool) := if a1 < 1 then (some (0, false)) else (if a1 = 0 then (none) else (if (Int.tmod a0 a1) < 0 then (some (wrap64 ((wrap64 (Int.tdiv a0 a1)) - 1), true)) else (some (wrap64 (Int.tdiv a0 a1), true))))
set_option maxHeartbeats 8000000 in
set_option maxRecDepth 100000 in
theorem petrinetref01_Div.calls (a0 : Int) (a1 : Int) (r1 : Int) (r2 : Bool) (w : World) (h : petrinetref01_Div.f a0 a1 = some (r1, r2)) :
    Calls Try.prog 19 #[.int .i64 a0, .int .i64 a1] w fun e w' => e = .returned (.tuple #[.int .i64 r1, .bool r2]) ∧ Drawn0 w w' := by
  have H : (if a1 < 1 then (some (0, false)) else (if a1 = 0 then (none) else (if (Int.tmod a0 a1) < 0 then (some (wrap64 ((wrap64 (Int.tdiv a0 a1)) - 1), true)) else (some (wrap64 (Int.tdiv a0 a1), true))))) = some (r1, r2) := h
  clear h
  by_cases c3 : a1 < 1
  · rw [if_pos c3] at H
    have c3b0 : decide (a1 < 1) = true := decide_eq_true c3
    clear c3
    simp only [Option.some.injEq, Prod.mk.injEq] at H
    obtain ⟨rfl, rfl⟩ := H
    go_enter Try.func19, Try.ntmps19
    go_wp2
    go_ret2
    exact ⟨by first | rfl | (simp; done) | (simp [*]; done), by repeat (first | exact Drawn0.refl _ | apply Drawn0.step)⟩
  · rw [if_neg c3] at H
    have c3b0 : decide (a1 < 1) = false := decide_eq_false c3
    clear c3
    by_cases c4 : a1 = 0
    · rw [if_pos c4] at H
      exact absurd H (by simp)
    · rw [if_neg c4] at H
      have c4b0 : (a1 == 0) = false := beq_eq_false_iff_ne.mpr c4
      have c4b1 : (a1 != 0) = true := bne_iff_ne.mpr c4
      by_cases c5 : (Int.tmod a0 a1) < 0
      · rw [if_pos c5] at H
        have c5b0 : decide ((Int.tmod a0 a1) < 0) = true := decide_eq_true c5
        clear c5
        simp only [Option.some.injEq, Prod.mk.injEq] at H
        obtain ⟨rfl, rfl⟩ := H
        go_enter Try.func19, Try.ntmps19
        go_wp2
        go_ret2
        exact ⟨by first | rfl | (simp; done) | (simp [*]; done), by repeat (first | exact Drawn0.refl _ | apply Drawn0.step)⟩
      · rw [if_neg c5] at H
        have c5b0 : decide ((Int.tmod a0 a1) < 0) = false := decide_eq_false c5
        clear c5
        simp only [Option.some.injEq, Prod.mk.injEq] at H
        obtain ⟨rfl, rfl⟩ := H
        go_enter Try.func19, Try.ntmps19
        go_wp2
        go_ret2
        exact ⟨by first | rfl | (simp; done) | (simp [*]; done), by repeat (first | exact Drawn0.refl _ | apply Drawn0.step)⟩

/-! ### safeint_Mod: function 20 -/
def safeint_Mod.f (a0 : Int) (a1 : Int) : Option (Int × Bool) := if a1 < 1 then (some (0, false)) else (if a1 = 0 then (none) else (if (Int.tmod a0 a1) < 0 then (some (wrap64 ((Int.tmod a0 a1) + a1), true)) else (some (Int.tmod a0 a1, true))))
set_option maxHeartbeats 8000000 in
set_option maxRecDepth 100000 in
theorem safeint_Mod.calls (a0 : Int) (a1 : Int) (r1 : Int) (r2 : Bool) (w : World) (h : safeint_Mod.f a0 a1 = some (r1, r2)) :
    Calls Try.prog 20 #[.int .i64 a0, .int .i64 a1] w fun e w' => e = .returned (.tuple #[.int .i64 r1, .bool r2]) ∧ Drawn0 w w' := by
  have H : (if a1 < 1 then (some (0, false)) else (if a1 = 0 then (none) else (if (Int.tmod a0 a1) < 0 then (some (wrap64 ((Int.tmod a0 a1) + a1), true)) else (some (Int.tmod a0 a1, true))))) = some (r1, r2) := h
  clear h
  by_cases c3 : a1 < 1
  · rw [if_pos c3] at H
    have c3b0 : decide (a1 < 1) = true := decide_eq_true c3
    clear c3
    simp only [Option.some.injEq, Prod.mk.injEq] at H
    obtain ⟨rfl, rfl⟩ := H
    go_enter Try.func20, Try.ntmps20
    go_wp2
    go_ret2
    exact ⟨by first | rfl | (simp; done) | (simp [*]; done), by repeat (first | exact Drawn0.refl _ | apply Drawn0.step)⟩
  · rw [if_neg c3] at H
    have c3b0 : decide (a1 < 1) = false := decide_eq_false c3
    clear c3
    by_cases c4 : a1 = 0
    · rw [if_pos c4] at H
      exact absurd H (by simp)
    · rw [if_neg c4] at H
      have c4b0 : (a1 == 0) = false := beq_eq_false_iff_ne.mpr c4
      have c4b1 : (a1 != 0) = true := bne_iff_ne.mpr c4
      by_cases c5 : (Int.tmod a0 a1) < 0
      · rw [if_pos c5] at H
        have c5b0 : decide ((Int.tmod a0 a1) < 0) = true := decide_eq_true c5
        clear c5
        simp only [Option.some.injEq, Prod.mk.injEq] at H
        obtain ⟨rfl, rfl⟩ := H
        go_enter Try.func20, Try.ntmps20
        go_wp2
        go_ret2
        exact ⟨by first | rfl | (simp; done) | (simp [*]; done), by repeat (first | exact Drawn0.refl _ | apply Drawn0.step)⟩
      · rw [if_neg c5] at H
        have c5b0 : decide ((Int.tmod a0 a1) < 0) = false := decide_eq_false c5
        clear c5
        simp only [Option.some.injEq, Prod.mk.injEq] at H
        obtain ⟨rfl, rfl⟩ := H
        go_enter Try.func20, Try.ntmps20
        go_wp2
        go_ret2
        exact ⟨by first | rfl | (simp; done) | (simp [*]; done), by repeat (first | exact Drawn0.refl _ | apply Drawn0.step)⟩

/-! ### petrinetref01_Mod: function 21 -/
def petrinetref01_Mod.f (a0 : Int) (a1 : Int) : Option (Int × Bool) := if a1 < 1 then (some (0, false)) else (if a1 = 0 then (none) else (if (Int.tmod a0 a1) < 0 then (some (wrap64 ((Int.tmod a0 a1) + a1), true)) else (some (Int.tmod a0 a1, true))))
set_option maxHeartbeats 8000000 in
set_option maxRecDepth 100000 in
theorem petrinetref01_Mod.calls (a0 : Int) (a1 : Int) (r1 : Int) (r2 : Bool) (w : World) (h : petrinetref01_Mod.f a0 a1 = some (r1, r2)) :
    Calls Try.prog 21 #[.int .i64 a0, .int .i64 a1] w fun e w' => e = .returned (.tuple #[.int .i64 r1, .bool r2]) ∧ Drawn0 w w' := by
  have H : (if a1 < 1 then (some (0, false)) else (if a1 = 0 then (none) else (if (Int.tmod a0 a1) < 0 then (some (wrap64 ((Int.tmod a0 a1) + a1), true)) else (some (Int.tmod a0 a1, true))))) = some (r1, r2) := h
  clear h
  by_cases c3 : a1 < 1
  · rw [if_pos c3] at H
    have c3b0 : decide (a1 < 1) = true := decide_eq_true c3
    clear c3
    simp only [Option.some.injEq, Prod.mk.injEq] at H
    obtain ⟨rfl, rfl⟩ := H
    go_enter Try.func21, Try.ntmps21
    go_wp2
    go_ret2
    exact ⟨by first | rfl | (simp; done) | (simp [*]; done), by repeat (first | exact Drawn0.refl _ | apply Drawn0.step)⟩
  · rw [if_neg c3] at H
    have c3b0 : decide (a1 < 1) = false := decide_eq_false c3
    clear c3
    by_cases c4 : a1 = 0
    · rw [if_pos c4] at H
      exact absurd H (by simp)
    · rw [if_neg c4] at H
      have c4b0 : (a1 == 0) = false := beq_eq_false_iff_ne.mpr c4
      have c4b1 : (a1 != 0) = true := bne_iff_ne.mpr c4
      by_cases c5 : (Int.tmod a0 a1) < 0
      · rw [if_pos c5] at H
        have c5b0 : decide ((Int.tmod a0 a1) < 0) = true := decide_eq_true c5
        clear c5
        simp only [Option.some.injEq, Prod.mk.injEq] at H
        obtain ⟨rfl, rfl⟩ := H
        go_enter Try.func21, Try.ntmps21
        go_wp2
        go_ret2
        exact ⟨by first | rfl | (simp; done) | (simp [*]; done), by repeat (first | exact Drawn0.refl _ | apply Drawn0.step)⟩
      · rw [if_neg c5] at H
        have c5b0 : decide ((Int.tmod a0 a1) < 0) = false := decide_eq_false c5
        clear c5
        simp only [Option.some.injEq, Prod.mk.injEq] at H
        obtain ⟨rfl, rfl⟩ := H
        go_enter Try.func21, Try.ntmps21
        go_wp2
        go_ret2
        exact ⟨by first | rfl | (simp; done) | (simp [*]; done), by repeat (first | exact Drawn0.refl _ | apply Drawn0.step)⟩

end Go.Proofs.Ytjkiekdkkempdaa.PAll
