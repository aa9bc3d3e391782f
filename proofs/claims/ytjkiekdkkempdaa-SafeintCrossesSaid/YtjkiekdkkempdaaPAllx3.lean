/- Lean functions for the Go functions of this seat, each with the proof that the call returns what the Lean function says; or the row of a law, over such a function. Printed by a program of ours (wip/tools/myprint.py), with hand-written texts where that one cannot. No condition but the ones written. -/
import Derived.Test.YtjkiekdkkempdaaPAllx0
import Derived.Test.YtjkiekdkkempdaaPAllx1
import Derived.Test.YtjkiekdkkempdaaPAllx2
namespace Go.Proofs.Ytjkiekdkkempdaa.PAll
open Go.RowKit Go.Proofs.YtjkiekdkkempdaaW.PrintWords Go.Proofs.YtjkiekdkkempdaaW.PrintLast Go.Proofs.YtjkiekdkkempdaaW.PrintMore
attribute [local go_sem] max2_int min2_int max_two min_two max_three min_three max_four min_four   -- for this text's walks alone
set_option linter.unusedVariables false
set_option linter.unusedSimpArgs false

/-! ### petrinetref01_Lcm: function 13 -/
def petrinetref01_Lcm.j0 : Nat → Int → Int → Bool → Option (Int × Bool)
  | 0, _, _, _ => none
  | k + 1, x6, x7, x18 => if x18 = true then (some (0, true)) else ((petrinetref01_gcd.f k x6 x7).bind fun t124 => (if t124 = 0 then (none) else (if x7 = 0 then (none) else (if (IntKind.u64.wrap (Int.tdiv x6 t124)) > (IntKind.u64.wrap (Int.tdiv (9223372036854775807 : Int) x7)) then (some (0, false)) else (some (wrap64 (IntKind.u64.wrap ((IntKind.u64.wrap (Int.tdiv x6 t124)) * x7)), true))))))
def petrinetref01_Lcm.f (k : Nat) (a0 : Int) (a1 : Int) : Option (Int × Bool) := (petrinetref01_Abs.f a0).bind fun t122 => ((petrinetref01_Abs.f a1).bind fun t123 => (if t122 = 0 then (petrinetref01_Lcm.j0 k t122 t123 true) else (petrinetref01_Lcm.j0 k t122 t123 (t123 == 0))))
theorem petrinetref01_Lcm.mono_l : ∀ k, (∀ y0 y1 y2, LeO (petrinetref01_Lcm.j0 k y0 y1 y2) (petrinetref01_Lcm.j0 (k + 1) y0 y1 y2))
  | 0 => fun _ _ _ r h => by simp [petrinetref01_Lcm.j0] at h
  | k + 1 => by
    have ih0 := petrinetref01_Lcm.mono_l k
    · intro y0 y1 y2
      unfold petrinetref01_Lcm.j0
      repeat' first
      | (with_reducible exact ih0 _ _ _)
      | (with_reducible exact petrinetref01_gcd.mono _ _ _)
      | (with_reducible exact LeO.refl _)
      | (with_reducible exact LeO.none _)
      | (with_reducible refine LeO.ite ?_ ?_)
      | (with_reducible refine LeO.bind ?_ (fun _ => ?_))
      | exact ih0 _ _ _
      | exact petrinetref01_gcd.mono _ _ _
      | exact LeO.none _
      | refine LeO.ite ?_ ?_
      | refine LeO.bind ?_ (fun _ => ?_)
theorem petrinetref01_Lcm.mono : ∀ a0 a1 k, LeO (petrinetref01_Lcm.f k a0 a1) (petrinetref01_Lcm.f (k + 1) a0 a1) := by
  intro a0 a1 k
  have ih0 := petrinetref01_Lcm.mono_l k
  unfold petrinetref01_Lcm.f
  repeat' first
      | (with_reducible exact ih0 _ _ _)
      | (with_reducible exact petrinetref01_gcd.mono _ _ _)
      | (with_reducible exact LeO.refl _)
      | (with_reducible exact LeO.none _)
      | (with_reducible refine LeO.ite ?_ ?_)
      | (with_reducible refine LeO.bind ?_ (fun _ => ?_))
      | exact ih0 _ _ _
      | exact petrinetref01_gcd.mono _ _ _
      | exact LeO.none _
      | refine LeO.ite ?_ ?_
      | refine LeO.bind ?_ (fun _ => ?_)
set_option maxHeartbeats 8000000 in
set_option maxRecDepth 100000 in
theorem petrinetref01_Lcm.calls (k : Nat) (a0 : Int) (a1 : Int) (r1 : Int) (r2 : Bool) (w : World) (h : petrinetref01_Lcm.f k a0 a1 = some (r1, r2)) :
    Calls Try.prog 13 #[.int .i64 a0, .int .i64 a1] w fun e w' => e = .returned (.tuple #[.int .i64 r1, .bool r2]) ∧ Drawn0 w w' := by
  have H : ((petrinetref01_Abs.f a0).bind fun t122 => ((petrinetref01_Abs.f a1).bind fun t123 => (if t122 = 0 then (petrinetref01_Lcm.j0 k t122 t123 true) else (petrinetref01_Lcm.j0 k t122 t123 (t123 == 0))))) = some (r1, r2) := h
  clear h
  replace H := Option.bind_eq_some_iff.mp H
  obtain ⟨t122, A30, H⟩ := H
  replace H : ((petrinetref01_Abs.f a1).bind fun t123 => (if t122 = 0 then (petrinetref01_Lcm.j0 k t122 t123 true) else (petrinetref01_Lcm.j0 k t122 t123 (t123 == 0)))) = some (r1, r2) := H
  have A3 := Aside0.mk A30
  clear A30
  replace H := Option.bind_eq_some_iff.mp H
  obtain ⟨t123, A40, H⟩ := H
  replace H : (if t122 = 0 then (petrinetref01_Lcm.j0 k t122 t123 true) else (petrinetref01_Lcm.j0 k t122 t123 (t123 == 0))) = some (r1, r2) := H
  have A4 := Aside0.mk A40
  clear A40
  have HC5 := Aside0.mk H
  clear H
  go_enter Try.func13, Try.ntmps13
  go_upto_region 2 with (first | ((with_reducible refine gate_callee (f := 32) rfl ?_); refine goesL_ (some 10) rfl rfl Try.func32 (by kernel_rfl) rfl #[.int .i64 a0] rfl (by (try simp only [List.map_toArray, List.map_cons, List.map_nil]); first | done | rfl | (simp only [List.length_drop, List.length_take]; rfl)) ?_; (with_reducible refine (petrinetref01_Abs.calls a0 t122 _ A3.out).mono ?_); rintro e w' ⟨rfl, ⟨nd, rfl⟩⟩; refine ⟨_, rfl, ?_⟩) | ((with_reducible refine gate_callee (f := 32) rfl ?_); refine goesL_ (some 12) rfl rfl Try.func32 (by kernel_rfl) rfl #[.int .i64 a1] rfl (by (try simp only [List.map_toArray, List.map_cons, List.map_nil]); first | done | rfl | (simp only [List.length_drop, List.length_take]; rfl)) ?_; (with_reducible refine (petrinetref01_Abs.calls a1 t123 _ A4.out).mono ?_); rintro e w' ⟨rfl, ⟨nd, rfl⟩⟩; refine ⟨_, rfl, ?_⟩))
  (try simp only [Act.put, List.setIfInBounds_toArray, List.set_cons_zero, List.set_cons_succ])
  go_cut [18] (fun v18 wc => ∃ (kq : Nat) (x18_4 : Bool), v18 = .bool x18_4 ∧ Aside0 (petrinetref01_Lcm.j0 kq t122 t123 x18_4 = some (r1, r2)) ∧ Aside0 (kq ≤ k) ∧ Drawn0 w wc)
  case first =>
    have H := HC5.out
    clear HC5
    by_cases c6 : t122 = 0
    · rw [if_pos c6] at H
      have c6b0 : (t122 == 0) = true := beq_iff_eq.mpr c6
      have c6b1 : (t122 != 0) = false := bne_eq_false_iff_eq.mpr c6
      clear c6
      (first | rw [c6b0] | (simp only [i64_w, i32_w]; rw [c6b0]) | skip)
      have H' := Aside0.mk H
      clear H
      go_wp2
      go_meet
      case rel => exact ⟨_, (true), (by first | rfl | (simp; done) | (simp [*]; done)), H', ⟨by first | omega | exact Nat.le_refl _⟩, by repeat (first | exact Drawn0.refl _ | apply Drawn0.step)⟩
    · rw [if_neg c6] at H
      have c6b0 : (t122 == 0) = false := beq_eq_false_iff_ne.mpr c6
      have c6b1 : (t122 != 0) = true := bne_iff_ne.mpr c6
      (first | rw [c6b0] | (simp only [i64_w, i32_w]; rw [c6b0]) | skip)
      have H' := Aside0.mk H
      clear H
      go_wp2
      go_meet
      case rel => exact ⟨_, ((t123 == 0)), (by first | rfl | (simp; done) | (simp [*]; done)), H', ⟨by first | omega | exact Nat.le_refl _⟩, by repeat (first | exact Drawn0.refl _ | apply Drawn0.step)⟩
  case rest =>
    clear HC5
    try clear c1
    try clear p2
    try clear c3
    try clear c6
    try clear c6b0
    try clear c6b1
    obtain ⟨kq, x18_4, rfl, HA, HJ4, ⟨mc4, rfl⟩⟩ := hcut
    cases kq with
    | zero => exact absurd HA.out (by simp [petrinetref01_Lcm.j0])
    | succ kj4 =>
      have H := HA.out
      clear HA
      simp only [petrinetref01_Lcm.j0] at H
      by_cases c7 : x18_4 = true
      · subst c7
        have H1 : (some (0, true)) = some (r1, r2) := by rw [if_pos rfl] at H; exact H
        clear H
        have H := H1
        clear H1
        simp only [Option.some.injEq, Prod.mk.injEq] at H
        obtain ⟨rfl, rfl⟩ := H
        go_wp2
        go_ret2
        exact ⟨by first | rfl | (simp; done) | (simp [*]; done), by repeat (first | exact Drawn0.refl _ | apply Drawn0.step)⟩
      · replace c7 := Bool.eq_false_iff.mpr c7
        subst c7
        have H1 : ((petrinetref01_gcd.f kj4 t122 t123).bind fun t124 => (if t124 = 0 then (none) else (if t123 = 0 then (none) else (if (IntKind.u64.wrap (Int.tdiv t122 t124)) > (IntKind.u64.wrap (Int.tdiv (9223372036854775807 : Int) t123)) then (some (0, false)) else (some (wrap64 (IntKind.u64.wrap ((IntKind.u64.wrap (Int.tdiv t122 t124)) * t123)), true)))))) = some (r1, r2) := by rw [if_neg (show ¬ (false = true) by decide)] at H; exact H
        clear H
        have H := H1
        clear H1
        replace H := Option.bind_eq_some_iff.mp H
        obtain ⟨t124, A80, H⟩ := H
        replace H : (if t124 = 0 then (none) else (if t123 = 0 then (none) else (if (IntKind.u64.wrap (Int.tdiv t122 t124)) > (IntKind.u64.wrap (Int.tdiv (9223372036854775807 : Int) t123)) then (some (0, false)) else (some (wrap64 (IntKind.u64.wrap ((IntKind.u64.wrap (Int.tdiv t122 t124)) * t123)), true))))) = some (r1, r2) := H
        have A8 := Aside0.mk A80
        clear A80
        by_cases c9 : t124 = 0
        · rw [if_pos c9] at H
          exact absurd H (by simp)
        · rw [if_neg c9] at H
          have c9b0 : (t124 == 0) = false := beq_eq_false_iff_ne.mpr c9
          have c9b1 : (t124 != 0) = true := bne_iff_ne.mpr c9
          by_cases c10 : t123 = 0
          · rw [if_pos c10] at H
            exact absurd H (by simp)
          · rw [if_neg c10] at H
            have c10b0 : (t123 == 0) = false := beq_eq_false_iff_ne.mpr c10
            have c10b1 : (t123 != 0) = true := bne_iff_ne.mpr c10
            by_cases c11 : (IntKind.u64.wrap (Int.tdiv t122 t124)) > (IntKind.u64.wrap (Int.tdiv (9223372036854775807 : Int) t123))
            · rw [if_pos c11] at H
              have c11b0 : decide ((IntKind.u64.wrap (Int.tdiv (9223372036854775807 : Int) t123)) < (IntKind.u64.wrap (Int.tdiv t122 t124))) = true := decide_eq_true c11
              clear c11
              simp only [Option.some.injEq, Prod.mk.injEq] at H
              obtain ⟨rfl, rfl⟩ := H
              go_wp2_with (first | ((with_reducible refine gate_callee (f := 31) rfl ?_); refine goesL_ (some 22) rfl rfl Try.func31 (by kernel_rfl) rfl #[.int .u64 t122, .int .u64 t123] rfl (by (try simp only [List.map_toArray, List.map_cons, List.map_nil]); first | done | rfl | (simp only [List.length_drop, List.length_take]; rfl)) ?_; (with_reducible refine (petrinetref01_gcd.calls kj4 t122 t123 t124 _ A8.out).mono ?_); rintro e w' ⟨rfl, ⟨nd, rfl⟩⟩; refine ⟨_, rfl, ?_⟩))
              go_ret2
              exact ⟨by first | rfl | (simp; done) | (simp [*]; done), by repeat (first | exact Drawn0.refl _ | apply Drawn0.step)⟩
            · rw [if_neg c11] at H
              have c11b0 : decide ((IntKind.u64.wrap (Int.tdiv (9223372036854775807 : Int) t123)) < (IntKind.u64.wrap (Int.tdiv t122 t124))) = false := decide_eq_false c11
              clear c11
              simp only [Option.some.injEq, Prod.mk.injEq] at H
              obtain ⟨rfl, rfl⟩ := H
              go_wp2_with (first | ((with_reducible refine gate_callee (f := 31) rfl ?_); refine goesL_ (some 22) rfl rfl Try.func31 (by kernel_rfl) rfl #[.int .u64 t122, .int .u64 t123] rfl (by (try simp only [List.map_toArray, List.map_cons, List.map_nil]); first | done | rfl | (simp only [List.length_drop, List.length_take]; rfl)) ?_; (with_reducible refine (petrinetref01_gcd.calls kj4 t122 t123 t124 _ A8.out).mono ?_); rintro e w' ⟨rfl, ⟨nd, rfl⟩⟩; refine ⟨_, rfl, ?_⟩))
              go_ret2
              exact ⟨by first | rfl | (simp; done) | (simp [*]; done), by repeat (first | exact Drawn0.refl _ | apply Drawn0.step)⟩

/-! ### safeint_sign: function 34 -/
def safeint_sign.j0 : Nat → Int → Int → Bool → Option (Int)
  | 0, _, _, _ => none
  | k + 1, x0, x1, x5 => if x5 = true then (some 0) else (if ((decide (x0 < 0)) != (decide (x1 < 0))) = true then (some (-1)) else (some 1))
def safeint_sign.f (k : Nat) (a0 : Int) (a1 : Int) : Option (Int) := if a0 = 0 then (safeint_sign.j0 k a0 a1 true) else (safeint_sign.j0 k a0 a1 (a1 == 0))
theorem safeint_sign.mono_l : ∀ k, (∀ y0 y1 y2, LeO (safeint_sign.j0 k y0 y1 y2) (safeint_sign.j0 (k + 1) y0 y1 y2))
  | 0 => fun _ _ _ r h => by simp [safeint_sign.j0] at h
  | k + 1 => by
    have ih0 := safeint_sign.mono_l k
    · intro y0 y1 y2
      unfold safeint_sign.j0
      repeat' first
      | (with_reducible exact ih0 _ _ _)
      | (with_reducible exact LeO.refl _)
      | (with_reducible exact LeO.none _)
      | (with_reducible refine LeO.ite ?_ ?_)
      | (with_reducible refine LeO.bind ?_ (fun _ => ?_))
      | exact ih0 _ _ _
      | exact LeO.none _
      | refine LeO.ite ?_ ?_
      | refine LeO.bind ?_ (fun _ => ?_)
theorem safeint_sign.mono : ∀ a0 a1 k, LeO (safeint_sign.f k a0 a1) (safeint_sign.f (k + 1) a0 a1) := by
  intro a0 a1 k
  have ih0 := safeint_sign.mono_l k
  unfold safeint_sign.f
  repeat' first
      | (with_reducible exact ih0 _ _ _)
      | (with_reducible exact LeO.refl _)
      | (with_reducible exact LeO.none _)
      | (with_reducible refine LeO.ite ?_ ?_)
      | (with_reducible refine LeO.bind ?_ (fun _ => ?_))
      | exact ih0 _ _ _
      | exact LeO.none _
      | refine LeO.ite ?_ ?_
      | refine LeO.bind ?_ (fun _ => ?_)
set_option maxHeartbeats 8000000 in
set_option maxRecDepth 100000 in
theorem safeint_sign.calls (k : Nat) (a0 : Int) (a1 : Int) (r : Int) (w : World) (h : safeint_sign.f k a0 a1 = some r) :
    Calls Try.prog 34 #[.int .i64 a0, .int .i64 a1] w fun e w' => e = .returned (.int .i64 r) ∧ Drawn0 w w' := by
  have H : (if a0 = 0 then (safeint_sign.j0 k a0 a1 true) else (safeint_sign.j0 k a0 a1 (a1 == 0))) = some r := h
  clear h
  have HC3 := Aside0.mk H
  clear H
  go_enter Try.func34, Try.ntmps34
  go_upto_region 1 with (fail)
  go_cut [5] (fun v5 wc => ∃ (kq : Nat) (x5_2 : Bool), v5 = .bool x5_2 ∧ Aside0 (safeint_sign.j0 kq a0 a1 x5_2 = some r) ∧ Aside0 (kq ≤ k) ∧ Drawn0 w wc)
  case first =>
    have H := HC3.out
    clear HC3
    by_cases c4 : a0 = 0
    · rw [if_pos c4] at H
      have c4b0 : (a0 == 0) = true := beq_iff_eq.mpr c4
      have c4b1 : (a0 != 0) = false := bne_eq_false_iff_eq.mpr c4
      clear c4
      (first | rw [c4b0] | (simp only [i64_w, i32_w]; rw [c4b0]) | skip)
      have H' := Aside0.mk H
      clear H
      go_wp2
      go_meet
      case rel => exact ⟨_, (true), (by first | rfl | (simp; done) | (simp [*]; done)), H', ⟨by first | omega | exact Nat.le_refl _⟩, by repeat (first | exact Drawn0.refl _ | apply Drawn0.step)⟩
    · rw [if_neg c4] at H
      have c4b0 : (a0 == 0) = false := beq_eq_false_iff_ne.mpr c4
      have c4b1 : (a0 != 0) = true := bne_iff_ne.mpr c4
      (first | rw [c4b0] | (simp only [i64_w, i32_w]; rw [c4b0]) | skip)
      have H' := Aside0.mk H
      clear H
      go_wp2
      go_meet
      case rel => exact ⟨_, ((a1 == 0)), (by first | rfl | (simp; done) | (simp [*]; done)), H', ⟨by first | omega | exact Nat.le_refl _⟩, by repeat (first | exact Drawn0.refl _ | apply Drawn0.step)⟩
  case rest =>
    clear HC3
    try clear p2
    try clear c3
    try clear c4
    try clear c4b0
    try clear c4b1
    obtain ⟨kq, x5_2, rfl, HA, HJ2, ⟨mc2, rfl⟩⟩ := hcut
    cases kq with
    | zero => exact absurd HA.out (by simp [safeint_sign.j0])
    | succ kj2 =>
      have H := HA.out
      clear HA
      simp only [safeint_sign.j0] at H
      by_cases c5 : x5_2 = true
      · subst c5
        have H1 : (some 0) = some r := by rw [if_pos rfl] at H; exact H
        clear H
        have H := H1
        clear H1
        obtain rfl := Option.some.inj H
        go_wp2
        go_ret
        exact ⟨by first | rfl | (simp; done) | (simp [*]; done), by repeat (first | exact Drawn0.refl _ | apply Drawn0.step)⟩
      · replace c5 := Bool.eq_false_iff.mpr c5
        subst c5
        have H1 : (if ((decide (a0 < 0)) != (decide (a1 < 0))) = true then (some (-1)) else (some 1)) = some r := by rw [if_neg (show ¬ (false = true) by decide)] at H; exact H
        clear H
        have H := H1
        clear H1
        by_cases c6 : ((decide (a0 < 0)) != (decide (a1 < 0))) = true
        · rw [if_pos c6] at H
          have c6b0 : ((decide (a0 < 0)) != (decide (a1 < 0))) = true := c6
          (try (have c6b1 : decide ((decide (a0 < 0)) = (decide (a1 < 0))) = false := by simpa using c6))
          (try (have c6b2 : ((decide (a0 < 0)) == (decide (a1 < 0))) = false := by simpa using c6))
          (try (have c6b3 : ¬ ((decide (a0 < 0)) = (decide (a1 < 0))) := by simpa using c6))
          clear c6
          obtain rfl := Option.some.inj H
          go_wp2
          go_ret
          exact ⟨by first | rfl | (simp; done) | (simp [*]; done), by repeat (first | exact Drawn0.refl _ | apply Drawn0.step)⟩
        · rw [if_neg c6] at H
          have c6b0 : ((decide (a0 < 0)) != (decide (a1 < 0))) = false := by simpa using c6
          (try (have c6b1 : decide ((decide (a0 < 0)) = (decide (a1 < 0))) = true := by simpa using c6))
          (try (have c6b2 : ((decide (a0 < 0)) == (decide (a1 < 0))) = true := by simpa using c6))
          clear c6
          obtain rfl := Option.some.inj H
          go_wp2
          go_ret
          exact ⟨by first | rfl | (simp; done) | (simp [*]; done), by repeat (first | exact Drawn0.refl _ | apply Drawn0.step)⟩

theorem safeint_sign.is (a b : Int) : safeint_sign.f 1 a b = some (cmpI (a * b) 0) := by
  unfold safeint_sign.f cmpI
  by_cases ha : a = 0
  · subst ha; simp [safeint_sign.j0]
  · rw [if_neg ha]
    by_cases hb : b = 0
    · subst hb; simp [safeint_sign.j0]
    · have hb' : (b == 0) = false := beq_eq_false_iff_ne.mpr hb
      simp only [safeint_sign.j0, hb', Bool.false_eq_true, if_false]
      by_cases h1 : a < 0 <;> by_cases h2 : b < 0
      · have := Int.mul_pos_of_neg_of_neg h1 h2
        simp [h1, h2]; rw [if_neg (by omega), if_pos (by omega)]
      · have := Int.mul_neg_of_neg_of_pos h1 (show 0 < b by omega)
        simp [h1, h2, this]
      · have := Int.mul_neg_of_pos_of_neg (show 0 < a by omega) h2
        simp [h1, h2, this]
      · have := Int.mul_pos (show 0 < a by omega) (show 0 < b by omega)
        simp [h1, h2]; rw [if_neg (by omega), if_pos (by omega)]

/-! ### safeint_compare: function 35 -/
def cmpW (p0 p1 q0 q1 : Int) : Int := if p0 < q0 then -1 else if q0 < p0 then 1 else if p1 < q1 then -1 else if q1 < p1 then 1 else 0
theorem cmpW_0l {p0 p1 q0 q1 : Int} (h : p0 < q0) : cmpW p0 p1 q0 q1 = -1 := if_pos h
theorem cmpW_0g {p0 p1 q0 q1 : Int} (h : q0 < p0) : cmpW p0 p1 q0 q1 = 1 := by unfold cmpW; rw [if_neg (by omega), if_pos h]
theorem cmpW_1l {p1 q0 q1 : Int} (h : p1 < q1) : cmpW q0 p1 q0 q1 = -1 := by unfold cmpW; rw [if_neg (by omega), if_neg (by omega), if_pos h]
theorem cmpW_1g {p1 q0 q1 : Int} (h : q1 < p1) : cmpW q0 p1 q0 q1 = 1 := by unfold cmpW; rw [if_neg (by omega), if_neg (by omega), if_neg (by omega), if_pos h]
theorem cmpW_2 {q0 q1 : Int} : cmpW q0 q1 q0 q1 = 0 := by unfold cmpW; rw [if_neg (by omega), if_neg (by omega), if_neg (by omega), if_neg (by omega)]
set_option maxHeartbeats 2000000 in
set_option maxRecDepth 100000 in
theorem safeint_compare.calls0 (p0 p1 q0 q1 : Int) (w : World) :
    Calls Try.prog 35 #[.agg #[.int .u64 p0, .int .u64 p1], .agg #[.int .u64 q0, .int .u64 q1]] w fun e w' => e = .returned (.int .i64 (cmpW p0 p1 q0 q1)) ∧ Below w.heap.size w w' := by
  go_enter Try.func35, Try.ntmps35
  go_wp2
  go_loopw [6] (fun i wr => ∃ k : Nat, k ≤ 2 ∧ i = .int .i64 k ∧ Aside0 (1 ≤ k → p0 = q0) ∧ Aside0 (2 ≤ k → p1 = q1) ∧ Drawn0 ((w.alloc (.cells #[.int .u64 p0, .int .u64 p1] 37)).alloc (.cells #[.int .u64 q0, .int .u64 q1] 37)) wr) (fun i _ => 2 - (intOf i).toNat)
  case atStart => exact ⟨0, by omega, rfl, ⟨fun h => by omega⟩, ⟨fun h => by omega⟩, Drawn0.refl _⟩
  case round =>
    obtain ⟨k, hk, rfl, H0, H1, ⟨m, rfl⟩⟩ := hrel
    obtain rfl | rfl | rfl : k = 0 ∨ k = 1 ∨ k = 2 := by omega
    · rcases Int.lt_trichotomy p0 q0 with h | h | h
      · have HC := Aside0.mk (cmpW_0l (p1 := p1) (q1 := q1) h)
        have h0 : decide (p0 < q0) = true := decide_eq_true h
        clear h
        go_wp2
        repeat (go_quiet (fail); try go_wp2)
        go_ret
        exact ⟨by rw [HC.out]; rfl, by repeat (first | exact Below.refl w.heap.size w | apply below_alloc | apply pw_below_drewN | apply below_drew1)⟩
      · have h0 : decide (p0 < q0) = false := decide_eq_false (by omega)
        have h1 : decide (q0 < p0) = false := decide_eq_false (by omega)
        have HE := Aside0.mk h
        clear h
        go_wp2
        repeat (go_quiet (fail); try go_wp2)
        go_roundw
        case measure => simp [intOf]
        case rel => exact ⟨1, by omega, rfl, ⟨fun _ => HE.out⟩, ⟨fun h => by omega⟩, by repeat (first | exact Drawn0.refl _ | apply Drawn0.step)⟩
      · have HC := Aside0.mk (cmpW_0g (p1 := p1) (q1 := q1) h)
        have h0 : decide (p0 < q0) = false := decide_eq_false (by omega)
        have h1 : decide (q0 < p0) = true := decide_eq_true h
        clear h
        go_wp2
        repeat (go_quiet (fail); try go_wp2)
        go_ret
        exact ⟨by rw [HC.out]; rfl, by repeat (first | exact Below.refl w.heap.size w | apply below_alloc | apply pw_below_drewN | apply below_drew1)⟩
    · obtain rfl := H0.out (Nat.le_refl _)
      rcases Int.lt_trichotomy p1 q1 with h | h | h
      · have HC := Aside0.mk (cmpW_1l (q0 := p0) h)
        have h0 : decide (p1 < q1) = true := decide_eq_true h
        clear h
        go_wp2
        repeat (go_quiet (fail); try go_wp2)
        go_ret
        exact ⟨by rw [HC.out]; rfl, by repeat (first | exact Below.refl w.heap.size w | apply below_alloc | apply pw_below_drewN | apply below_drew1)⟩
      · have h0 : decide (p1 < q1) = false := decide_eq_false (by omega)
        have h1 : decide (q1 < p1) = false := decide_eq_false (by omega)
        have HE := Aside0.mk h
        clear h
        go_wp2
        repeat (go_quiet (fail); try go_wp2)
        go_roundw
        case measure => simp [intOf]
        case rel => exact ⟨2, by omega, rfl, ⟨by simp⟩, ⟨fun _ => HE.out⟩, by repeat (first | exact Drawn0.refl _ | apply Drawn0.step)⟩
      · have HC := Aside0.mk (cmpW_1g (q0 := p0) h)
        have h0 : decide (p1 < q1) = false := decide_eq_false (by omega)
        have h1 : decide (q1 < p1) = true := decide_eq_true h
        clear h
        go_wp2
        repeat (go_quiet (fail); try go_wp2)
        go_ret
        exact ⟨by rw [HC.out]; rfl, by repeat (first | exact Below.refl w.heap.size w | apply below_alloc | apply pw_below_drewN | apply below_drew1)⟩
    · obtain rfl := H0.out (by omega)
      obtain rfl := H1.out (by omega)
      go_wp2
      go_ret
      exact ⟨by rw [cmpW_2]; rfl, by repeat (first | exact Below.refl w.heap.size w | apply below_alloc | apply pw_below_drewN | apply below_drew1)⟩
def safeint_compare.f (p0 p1 q0 q1 : Int) : Option Int := some (cmpW p0 p1 q0 q1)
theorem safeint_compare.calls (p0 p1 q0 q1 : Int) (r : Int) (w : World) (h : safeint_compare.f p0 p1 q0 q1 = some r) :
    Calls Try.prog 35 #[.agg #[.int .u64 p0, .int .u64 p1], .agg #[.int .u64 q0, .int .u64 q1]] w fun e w' => e = .returned (.int .i64 r) ∧ Below w.heap.size w w' := by
  obtain rfl := Option.some.inj h
  exact safeint_compare.calls0 p0 p1 q0 q1 w


/-! ### safeint_Cross: function 15 -/
theorem cmpW_is (P Q : Int) : cmpW (P / 18446744073709551616) (P % 18446744073709551616) (Q / 18446744073709551616) (Q % 18446744073709551616) = cmpI P Q := by
  unfold cmpW cmpI
  by_cases h : P < Q
  · rw [if_pos h]
    by_cases h1 : P / 18446744073709551616 < Q / 18446744073709551616
    · rw [if_pos h1]
    · rw [if_neg h1, if_neg (by omega), if_pos (by omega)]
  · rw [if_neg h]
    by_cases h' : Q < P
    · rw [if_pos h']
      rw [if_neg (by omega)]
      by_cases h1 : Q / 18446744073709551616 < P / 18446744073709551616
      · rw [if_pos h1]
      · rw [if_neg h1, if_neg (by omega), if_pos (by omega)]
    · rw [if_neg h']
      rw [if_neg (by omega), if_neg (by omega), if_neg (by omega), if_neg (by omega)]
/-- The comparison of the products. -/
def safeint_Cross.f (a b c d : Int) : Option Int :=
  if ((-9223372036854775808 ≤ a ∧ a < 9223372036854775808) ∧ (-9223372036854775808 ≤ b ∧ b < 9223372036854775808)) ∧ ((-9223372036854775808 ≤ c ∧ c < 9223372036854775808) ∧ (-9223372036854775808 ≤ d ∧ d < 9223372036854775808)) then some (cmpI (a * b) (c * d)) else none
theorem cross_same (x y : Int) (P Q : Int) (hP : 0 ≤ P) (hQ : 0 ≤ Q) (hx : x = P ∨ x = -P) (hy : y = Q ∨ y = -Q) (h : cmpI x 0 = cmpI y 0) : wrap64 (cmpI x 0 * cmpI P Q) = cmpI x y := by
  unfold cmpI wrap64 at *
  rcases hx with rfl | rfl <;> rcases hy with rfl | rfl <;> (repeat' split at h) <;> (repeat' split) <;> omega
set_option maxHeartbeats 2000000 in
set_option maxRecDepth 100000 in
theorem safeint_Cross.calls (a b c d : Int) (r : Int) (w : World) (h : safeint_Cross.f a b c d = some r) :
    Calls Try.prog 15 #[.int .i64 a, .int .i64 b, .int .i64 c, .int .i64 d] w fun e w' => e = .returned (.int .i64 r) ∧ Below w.heap.size w w' := by
  unfold safeint_Cross.f at h
  split at h
  · rename_i hb
    have SA := Aside0.mk (safeint_size.is a hb.1.1.1 hb.1.1.2)
    have SB := Aside0.mk (safeint_size.is b hb.1.2.1 hb.1.2.2)
    have SC := Aside0.mk (safeint_size.is c hb.2.1.1 hb.2.1.2)
    have SD := Aside0.mk (safeint_size.is d hb.2.2.1 hb.2.2.2)
    have G1 := Aside0.mk (safeint_sign.is a b)
    have G2 := Aside0.mk (safeint_sign.is c d)
    have T1 := Aside0.mk (safeint_times.calls0 a.natAbs b.natAbs (by omega) (by omega) (by omega) (by omega))
    have T2 := Aside0.mk (safeint_times.calls0 c.natAbs d.natAbs (by omega) (by omega) (by omega) (by omega))
    have hR : cmpI (a * b) 0 = cmpI (c * d) 0 → wrap64 (cmpI (a * b) 0 * cmpW ((a.natAbs : Int) * b.natAbs / 18446744073709551616) ((a.natAbs : Int) * b.natAbs % 18446744073709551616) ((c.natAbs : Int) * d.natAbs / 18446744073709551616) ((c.natAbs : Int) * d.natAbs % 18446744073709551616)) = r := fun he => by
      rw [cmpW_is, ← Option.some.inj h]; exact cross_same _ _ _ _ (abs_mul_nonneg a b) (abs_mul_nonneg c d) (mul_abs_or a b) (mul_abs_or c d) he
    have hN : cmpI (a * b) 0 ≠ cmpI (c * d) 0 → r = if cmpI (a * b) 0 < cmpI (c * d) 0 then -1 else 1 := fun hne => by
      rw [← Option.some.inj h]; unfold cmpI at *; grind
    clear h hb
    generalize (a.natAbs : Int) * b.natAbs / 18446744073709551616 = p0 at T1 hR
    generalize (a.natAbs : Int) * b.natAbs % 18446744073709551616 = p1 at T1 hR
    generalize (c.natAbs : Int) * d.natAbs / 18446744073709551616 = q0 at T2 hR
    generalize (c.natAbs : Int) * d.natAbs % 18446744073709551616 = q1 at T2 hR
    generalize cmpI (a * b) 0 = s at *
    generalize cmpI (c * d) 0 = t at *
    by_cases e : s = t
    · have HR := Aside0.mk (hR e)
      have c0 : (s != t) = false := bne_eq_false_iff_eq.mpr e
      clear hR hN e
      go_enter Try.func15, Try.ntmps15
      go_wp2_with (first | (go_at_call 34; (with_reducible refine (safeint_sign.calls _ _ _ _ _ G1.out).mono ?_); rintro e w' ⟨rfl, ⟨nd, rfl⟩⟩) | (go_at_call 34; (with_reducible refine (safeint_sign.calls _ _ _ _ _ G2.out).mono ?_); rintro e w' ⟨rfl, ⟨nd, rfl⟩⟩) | (go_at_call 29; (with_reducible refine (safeint_size.calls _ _ _ SA.out).mono ?_); rintro e w' ⟨rfl, ⟨nd, rfl⟩⟩) | (go_at_call 29; (with_reducible refine (safeint_size.calls _ _ _ SB.out).mono ?_); rintro e w' ⟨rfl, ⟨nd, rfl⟩⟩) | (go_at_call 29; (with_reducible refine (safeint_size.calls _ _ _ SC.out).mono ?_); rintro e w' ⟨rfl, ⟨nd, rfl⟩⟩) | (go_at_call 29; (with_reducible refine (safeint_size.calls _ _ _ SD.out).mono ?_); rintro e w' ⟨rfl, ⟨nd, rfl⟩⟩) | (go_at_call 33; (with_reducible refine (T1.out _).mono ?_); rintro e w1 ⟨rfl, hb⟩; have HB1 := Aside0.mk (below_step (w := w) (by repeat (first | exact Below.refl w.heap.size w | apply pw_below_drewN)) hb); clear hb) | (go_at_call 33; (with_reducible refine (T2.out _).mono ?_); rintro e w2 ⟨rfl, hb⟩; have HB2 := Aside0.mk (below_step (w := w) (by repeat (first | exact HB1.out | apply pw_below_drewN)) hb); clear hb) | (go_at_call 35; (with_reducible refine (safeint_compare.calls0 _ _ _ _ _).mono ?_); rintro e w3 ⟨rfl, hb⟩; have HB3 := Aside0.mk (below_step (w := w) (by repeat (first | exact HB2.out | apply pw_below_drewN)) hb); clear hb))
      go_ret
      exact ⟨by rw [← HR.out]; rfl, by repeat (first | (with_reducible first | exact HB3.out | apply below_alloc | apply pw_below_drewN | apply below_drew1) | exact HB3.out)⟩
    · have c0 : (s != t) = true := bne_iff_ne.mpr e
      have hr := hN e
      clear hR hN e
      by_cases e : s < t
      · rw [if_pos e] at hr
        subst hr
        have c1 : decide (s < t) = true := decide_eq_true e
        clear e
        go_enter Try.func15, Try.ntmps15
        go_wp2_with (first | (go_at_call 34; (with_reducible refine (safeint_sign.calls _ _ _ _ _ G1.out).mono ?_); rintro e w' ⟨rfl, ⟨nd, rfl⟩⟩) | (go_at_call 34; (with_reducible refine (safeint_sign.calls _ _ _ _ _ G2.out).mono ?_); rintro e w' ⟨rfl, ⟨nd, rfl⟩⟩))
        go_ret
        exact ⟨rfl, by repeat (first | exact Below.refl w.heap.size w | apply pw_below_drewN)⟩
      · rw [if_neg e] at hr
        subst hr
        have c1 : decide (s < t) = false := decide_eq_false e
        clear e
        go_enter Try.func15, Try.ntmps15
        go_wp2_with (first | (go_at_call 34; (with_reducible refine (safeint_sign.calls _ _ _ _ _ G1.out).mono ?_); rintro e w' ⟨rfl, ⟨nd, rfl⟩⟩) | (go_at_call 34; (with_reducible refine (safeint_sign.calls _ _ _ _ _ G2.out).mono ?_); rintro e w' ⟨rfl, ⟨nd, rfl⟩⟩))
        go_ret
        exact ⟨rfl, by repeat (first | exact Below.refl w.heap.size w | apply pw_below_drewN)⟩
  · simp at h


/-! ### safeint_Div: function 18 -/
def safeint_Div.f (a0 : Int) (a1 : Int) : Option (Int × Bool) := if a1 < 1 then (some (0, false)) else (if a1 = 0 then (none) else (if (Int.tmod a0 a1) < 0 then (some (wrap64 ((wrap64 (Int.tdiv a0 a1)) - 1), true)) else (some (wrap64 (Int.tdiv a0 a1), true))))
set_option maxHeartbeats 8000000 in
set_option maxRecDepth 100000 in
theorem safeint_Div.calls (a0 : Int) (a1 : Int) (r1 : Int) (r2 : Bool) (w : World) (h : safeint_Div.f a0 a1 = some (r1, r2)) :
    Calls Try.prog 18 #[.int .i64 a0, .int .i64 a1] w fun e w' => e = .returned (.tuple #[.int .i64 r1, .bool r2]) ∧ Drawn0 w w' := by
  have H : (if a1 < 1 then (some (0, false)) else (if a1 = 0 then (none) else (if (Int.tmod a0 a1) < 0 then (some (wrap64 ((wrap64 (Int.tdiv a0 a1)) - 1), true)) else (some (wrap64 (Int.tdiv a0 a1), true))))) = some (r1, r2) := h
  clear h
  by_cases c3 : a1 < 1
  · rw [if_pos c3] at H
    have c3b0 : decide (a1 < 1) = true := decide_eq_true c3
    clear c3
    simp only [Option.some.injEq, Prod.mk.injEq] at H
    obtain ⟨rfl, rfl⟩ := H
    go_enter Try.func18, Try.ntmps18
    go_wp2
    go_ret2
    exact ⟨by first | rfl | (simp; done) | (simp [*]; done), by repeat (first | exact Drawn0.refl _ | apply Drawn0.step)⟩
  · rw [if_neg c3] at H
    have c3b0 : decide (a1 < 1) = false := decide_eq_false c3
    clear c3
    by_cases c4 : a1 = 0
    · rw [if_pos c4] at H
      exact absurd H (by simp)
    · rw [if_neg c4] at H
      have c4b0 : (a1 == 0) = false := beq_eq_false_iff_ne.mpr c4
      have c4b1 : (a1 != 0) = true := bne_iff_ne.mpr c4
      by_cases c5 : (Int.tmod a0 a1) < 0
      · rw [if_pos c5] at H
        have c5b0 : decide ((Int.tmod a0 a1) < 0) = true := decide_eq_true c5
        clear c5
        simp only [Option.some.injEq, Prod.mk.injEq] at H
        obtain ⟨rfl, rfl⟩ := H
        go_enter Try.func18, Try.ntmps18
        go_wp2
        go_ret2
        exact ⟨by first | rfl | (simp; done) | (simp [*]; done), by repeat (first | exact Drawn0.refl _ | apply Drawn0.step)⟩
      · rw [if_neg c5] at H
        have c5b0 : decide ((Int.tmod a0 a1) < 0) = false := decide_eq_false c5
        clear c5
        simp only [Option.some.injEq, Prod.mk.injEq] at H
        obtain ⟨rfl, rfl⟩ := H
        go_enter Try.func18, Try.ntmps18
        go_wp2
        go_ret2
        exact ⟨by first | rfl | (simp; done) | (simp [*]; done), by repeat (first | exact Drawn0.refl _ | apply Drawn0.step)⟩

/-! ### petrinetlaw01_alive: function 14 -/
def petrinetlaw01_alive.f (k : Nat)  : Option (Bool) := (safeint_Gcd.f k 12 (-18)).bind fun bt125 => ((safeint_Lcm.f k 4 6).bind fun bt127 => ((safeint_Div.f (-7) 2).bind fun bt129 => (if bt125.1 = 6 then (if bt125.2 = true then (if bt127.1 = 12 then (if bt127.2 = true then (if bt129.1 = (-4) then (if bt129.2 = true then ((safeint_Cross.f 3 3 2 4).bind fun t131 => (some (t131 == 1))) else (some false)) else (some false)) else (some false)) else (some false)) else (some false)) else (some false))))
theorem petrinetlaw01_alive.mono : ∀ k, LeO (petrinetlaw01_alive.f k ) (petrinetlaw01_alive.f (k + 1) ) := by
  intro  k
  unfold petrinetlaw01_alive.f
  repeat' first
      | (with_reducible exact safeint_Gcd.mono _ _ _)
      | (with_reducible exact safeint_Lcm.mono _ _ _)
      | (with_reducible exact LeO.refl _)
      | (with_reducible exact LeO.none _)
      | (with_reducible refine LeO.ite ?_ ?_)
      | (with_reducible refine LeO.bind ?_ (fun _ => ?_))
      | exact safeint_Gcd.mono _ _ _
      | exact safeint_Lcm.mono _ _ _
      | exact LeO.none _
      | refine LeO.ite ?_ ?_
      | refine LeO.bind ?_ (fun _ => ?_)
set_option maxHeartbeats 8000000 in
set_option maxRecDepth 100000 in
theorem petrinetlaw01_alive.calls (k : Nat)  (r : Bool) (w : World) (h : petrinetlaw01_alive.f k  = some r) :
    Calls Try.prog 14 #[] w fun e w' => e = .returned (.bool r) ∧ Below w.heap.size w w' := by
  have HB := Aside0.mk (Below.refl w.heap.size w)
  have H : ((safeint_Gcd.f k 12 (-18)).bind fun bt125 => ((safeint_Lcm.f k 4 6).bind fun bt127 => ((safeint_Div.f (-7) 2).bind fun bt129 => (if bt125.1 = 6 then (if bt125.2 = true then (if bt127.1 = 12 then (if bt127.2 = true then (if bt129.1 = (-4) then (if bt129.2 = true then ((safeint_Cross.f 3 3 2 4).bind fun t131 => (some (t131 == 1))) else (some false)) else (some false)) else (some false)) else (some false)) else (some false)) else (some false))))) = some r := h
  clear h
  replace H := Option.bind_eq_some_iff.mp H
  obtain ⟨⟨t125, t126⟩, A10, H⟩ := H
  replace H : ((safeint_Lcm.f k 4 6).bind fun bt127 => ((safeint_Div.f (-7) 2).bind fun bt129 => (if t125 = 6 then (if t126 = true then (if bt127.1 = 12 then (if bt127.2 = true then (if bt129.1 = (-4) then (if bt129.2 = true then ((safeint_Cross.f 3 3 2 4).bind fun t131 => (some (t131 == 1))) else (some false)) else (some false)) else (some false)) else (some false)) else (some false)) else (some false)))) = some r := H
  have A1 := Aside0.mk A10
  clear A10
  replace H := Option.bind_eq_some_iff.mp H
  obtain ⟨⟨t127, t128⟩, A20, H⟩ := H
  replace H : ((safeint_Div.f (-7) 2).bind fun bt129 => (if t125 = 6 then (if t126 = true then (if t127 = 12 then (if t128 = true then (if bt129.1 = (-4) then (if bt129.2 = true then ((safeint_Cross.f 3 3 2 4).bind fun t131 => (some (t131 == 1))) else (some false)) else (some false)) else (some false)) else (some false)) else (some false)) else (some false))) = some r := H
  have A2 := Aside0.mk A20
  clear A20
  replace H := Option.bind_eq_some_iff.mp H
  obtain ⟨⟨t129, t130⟩, A30, H⟩ := H
  replace H : (if t125 = 6 then (if t126 = true then (if t127 = 12 then (if t128 = true then (if t129 = (-4) then (if t130 = true then ((safeint_Cross.f 3 3 2 4).bind fun t131 => (some (t131 == 1))) else (some false)) else (some false)) else (some false)) else (some false)) else (some false)) else (some false)) = some r := H
  have A3 := Aside0.mk A30
  clear A30
  by_cases c4 : t125 = 6
  · rw [if_pos c4] at H
    have c4b0 : (t125 == 6) = true := beq_iff_eq.mpr c4
    have c4b1 : (t125 != 6) = false := bne_eq_false_iff_eq.mpr c4
    clear c4
    by_cases c5 : t126 = true
    · subst c5
      have H1 : (if t127 = 12 then (if t128 = true then (if t129 = (-4) then (if t130 = true then ((safeint_Cross.f 3 3 2 4).bind fun t131 => (some (t131 == 1))) else (some false)) else (some false)) else (some false)) else (some false)) = some r := by rw [if_pos rfl] at H; exact H
      clear H
      have H := H1
      clear H1
      by_cases c6 : t127 = 12
      · rw [if_pos c6] at H
        have c6b0 : (t127 == 12) = true := beq_iff_eq.mpr c6
        have c6b1 : (t127 != 12) = false := bne_eq_false_iff_eq.mpr c6
        clear c6
        by_cases c7 : t128 = true
        · subst c7
          have H1 : (if t129 = (-4) then (if t130 = true then ((safeint_Cross.f 3 3 2 4).bind fun t131 => (some (t131 == 1))) else (some false)) else (some false)) = some r := by rw [if_pos rfl] at H; exact H
          clear H
          have H := H1
          clear H1
          by_cases c8 : t129 = (-4)
          · rw [if_pos c8] at H
            have c8b0 : (t129 == (-4)) = true := beq_iff_eq.mpr c8
            have c8b1 : (t129 != (-4)) = false := bne_eq_false_iff_eq.mpr c8
            clear c8
            by_cases c9 : t130 = true
            · subst c9
              have H1 : ((safeint_Cross.f 3 3 2 4).bind fun t131 => (some (t131 == 1))) = some r := by rw [if_pos rfl] at H; exact H
              clear H
              have H := H1
              clear H1
              replace H := Option.bind_eq_some_iff.mp H
              obtain ⟨t131, A100, H⟩ := H
              replace H : (some (t131 == 1)) = some r := H
              have A10 := Aside0.mk A100
              clear A100
              obtain rfl := Option.some.inj H
              go_enter Try.func14, Try.ntmps14
              go_wp2_with (first | ((with_reducible refine gate_callee (f := 10) rfl ?_); refine goesL_ (some 8) rfl rfl Try.func10 (by kernel_rfl) rfl #[.int .i64 12, .int .i64 (-18)] rfl (by (try simp only [List.map_toArray, List.map_cons, List.map_nil]); first | done | rfl | (simp only [List.length_drop, List.length_take]; rfl)) ?_; (with_reducible refine (safeint_Gcd.calls k 12 (-18) t125 true _ A1.out).mono ?_); rintro e w' ⟨rfl, ⟨nd, rfl⟩⟩; refine ⟨_, rfl, ?_⟩) | ((with_reducible refine gate_callee (f := 12) rfl ?_); refine goesL_ (some 12) rfl rfl Try.func12 (by kernel_rfl) rfl #[.int .i64 4, .int .i64 6] rfl (by (try simp only [List.map_toArray, List.map_cons, List.map_nil]); first | done | rfl | (simp only [List.length_drop, List.length_take]; rfl)) ?_; (with_reducible refine (safeint_Lcm.calls k 4 6 t127 true _ A2.out).mono ?_); rintro e w11 ⟨rfl, hb⟩; refine ⟨_, rfl, ?_⟩; have n0_ := Aside0.mk (below_step (by repeat (first | (with_reducible first | exact HB.out | apply below_alloc | apply pw_below_drewN | apply below_drew1) | exact HB.out)) hb); clear HB; have HB := n0_; clear n0_; (try clear hb); (try clear hb2); (try clear hk); (try clear hi)) | ((with_reducible refine gate_callee (f := 18) rfl ?_); refine goesL_ (some 16) rfl rfl Try.func18 (by kernel_rfl) rfl #[.int .i64 (-7), .int .i64 2] rfl (by (try simp only [List.map_toArray, List.map_cons, List.map_nil]); first | done | rfl | (simp only [List.length_drop, List.length_take]; rfl)) ?_; (with_reducible refine (safeint_Div.calls (-7) 2 t129 true _ A3.out).mono ?_); rintro e w' ⟨rfl, ⟨nd, rfl⟩⟩; refine ⟨_, rfl, ?_⟩) | (go_at_call 15; (with_reducible refine (safeint_Cross.calls 3 3 2 4 t131 _ A10.out).mono ?_); rintro e w12 ⟨rfl, hb⟩; have n0_ := Aside0.mk (below_step (by repeat (first | (with_reducible first | exact HB.out | apply below_alloc | apply pw_below_drewN | apply below_drew1) | exact HB.out)) hb); clear HB; have HB := n0_; clear n0_; (try clear hb); (try clear hb2); (try clear hk); (try clear hi)))
              go_ret
              exact ⟨by first | rfl | (simp [errW_none, errW_some] <;> rfl) | (simp [*, errW_none, errW_some] <;> rfl), by repeat (first | (with_reducible first | exact HB.out | apply below_alloc | apply pw_below_drewN | apply below_drew1) | exact HB.out)⟩
            · replace c9 := Bool.eq_false_iff.mpr c9
              subst c9
              have H1 : (some false) = some r := by rw [if_neg (show ¬ (false = true) by decide)] at H; exact H
              clear H
              have H := H1
              clear H1
              obtain rfl := Option.some.inj H
              go_enter Try.func14, Try.ntmps14
              go_wp2_with (first | ((with_reducible refine gate_callee (f := 10) rfl ?_); refine goesL_ (some 8) rfl rfl Try.func10 (by kernel_rfl) rfl #[.int .i64 12, .int .i64 (-18)] rfl (by (try simp only [List.map_toArray, List.map_cons, List.map_nil]); first | done | rfl | (simp only [List.length_drop, List.length_take]; rfl)) ?_; (with_reducible refine (safeint_Gcd.calls k 12 (-18) t125 true _ A1.out).mono ?_); rintro e w' ⟨rfl, ⟨nd, rfl⟩⟩; refine ⟨_, rfl, ?_⟩) | ((with_reducible refine gate_callee (f := 12) rfl ?_); refine goesL_ (some 12) rfl rfl Try.func12 (by kernel_rfl) rfl #[.int .i64 4, .int .i64 6] rfl (by (try simp only [List.map_toArray, List.map_cons, List.map_nil]); first | done | rfl | (simp only [List.length_drop, List.length_take]; rfl)) ?_; (with_reducible refine (safeint_Lcm.calls k 4 6 t127 true _ A2.out).mono ?_); rintro e w13 ⟨rfl, hb⟩; refine ⟨_, rfl, ?_⟩; have n0_ := Aside0.mk (below_step (by repeat (first | (with_reducible first | exact HB.out | apply below_alloc | apply pw_below_drewN | apply below_drew1) | exact HB.out)) hb); clear HB; have HB := n0_; clear n0_; (try clear hb); (try clear hb2); (try clear hk); (try clear hi)) | ((with_reducible refine gate_callee (f := 18) rfl ?_); refine goesL_ (some 16) rfl rfl Try.func18 (by kernel_rfl) rfl #[.int .i64 (-7), .int .i64 2] rfl (by (try simp only [List.map_toArray, List.map_cons, List.map_nil]); first | done | rfl | (simp only [List.length_drop, List.length_take]; rfl)) ?_; (with_reducible refine (safeint_Div.calls (-7) 2 t129 false _ A3.out).mono ?_); rintro e w' ⟨rfl, ⟨nd, rfl⟩⟩; refine ⟨_, rfl, ?_⟩))
              go_ret
              exact ⟨by first | rfl | (simp [errW_none, errW_some] <;> rfl) | (simp [*, errW_none, errW_some] <;> rfl), by repeat (first | (with_reducible first | exact HB.out | apply below_alloc | apply pw_below_drewN | apply below_drew1) | exact HB.out)⟩
          · rw [if_neg c8] at H
            have c8b0 : (t129 == (-4)) = false := beq_eq_false_iff_ne.mpr c8
            have c8b1 : (t129 != (-4)) = true := bne_iff_ne.mpr c8
            obtain rfl := Option.some.inj H
            go_enter Try.func14, Try.ntmps14
            go_wp2_with (first | ((with_reducible refine gate_callee (f := 10) rfl ?_); refine goesL_ (some 8) rfl rfl Try.func10 (by kernel_rfl) rfl #[.int .i64 12, .int .i64 (-18)] rfl (by (try simp only [List.map_toArray, List.map_cons, List.map_nil]); first | done | rfl | (simp only [List.length_drop, List.length_take]; rfl)) ?_; (with_reducible refine (safeint_Gcd.calls k 12 (-18) t125 true _ A1.out).mono ?_); rintro e w' ⟨rfl, ⟨nd, rfl⟩⟩; refine ⟨_, rfl, ?_⟩) | ((with_reducible refine gate_callee (f := 12) rfl ?_); refine goesL_ (some 12) rfl rfl Try.func12 (by kernel_rfl) rfl #[.int .i64 4, .int .i64 6] rfl (by (try simp only [List.map_toArray, List.map_cons, List.map_nil]); first | done | rfl | (simp only [List.length_drop, List.length_take]; rfl)) ?_; (with_reducible refine (safeint_Lcm.calls k 4 6 t127 true _ A2.out).mono ?_); rintro e w14 ⟨rfl, hb⟩; refine ⟨_, rfl, ?_⟩; have n0_ := Aside0.mk (below_step (by repeat (first | (with_reducible first | exact HB.out | apply below_alloc | apply pw_below_drewN | apply below_drew1) | exact HB.out)) hb); clear HB; have HB := n0_; clear n0_; (try clear hb); (try clear hb2); (try clear hk); (try clear hi)) | ((with_reducible refine gate_callee (f := 18) rfl ?_); refine goesL_ (some 16) rfl rfl Try.func18 (by kernel_rfl) rfl #[.int .i64 (-7), .int .i64 2] rfl (by (try simp only [List.map_toArray, List.map_cons, List.map_nil]); first | done | rfl | (simp only [List.length_drop, List.length_take]; rfl)) ?_; (with_reducible refine (safeint_Div.calls (-7) 2 t129 t130 _ A3.out).mono ?_); rintro e w' ⟨rfl, ⟨nd, rfl⟩⟩; refine ⟨_, rfl, ?_⟩))
            go_ret
            exact ⟨by first | rfl | (simp [errW_none, errW_some] <;> rfl) | (simp [*, errW_none, errW_some] <;> rfl), by repeat (first | (with_reducible first | exact HB.out | apply below_alloc | apply pw_below_drewN | apply below_drew1) | exact HB.out)⟩
        · replace c7 := Bool.eq_false_iff.mpr c7
          subst c7
          have H1 : (some false) = some r := by rw [if_neg (show ¬ (false = true) by decide)] at H; exact H
          clear H
          have H := H1
          clear H1
          obtain rfl := Option.some.inj H
          go_enter Try.func14, Try.ntmps14
          go_wp2_with (first | ((with_reducible refine gate_callee (f := 10) rfl ?_); refine goesL_ (some 8) rfl rfl Try.func10 (by kernel_rfl) rfl #[.int .i64 12, .int .i64 (-18)] rfl (by (try simp only [List.map_toArray, List.map_cons, List.map_nil]); first | done | rfl | (simp only [List.length_drop, List.length_take]; rfl)) ?_; (with_reducible refine (safeint_Gcd.calls k 12 (-18) t125 true _ A1.out).mono ?_); rintro e w' ⟨rfl, ⟨nd, rfl⟩⟩; refine ⟨_, rfl, ?_⟩) | ((with_reducible refine gate_callee (f := 12) rfl ?_); refine goesL_ (some 12) rfl rfl Try.func12 (by kernel_rfl) rfl #[.int .i64 4, .int .i64 6] rfl (by (try simp only [List.map_toArray, List.map_cons, List.map_nil]); first | done | rfl | (simp only [List.length_drop, List.length_take]; rfl)) ?_; (with_reducible refine (safeint_Lcm.calls k 4 6 t127 false _ A2.out).mono ?_); rintro e w15 ⟨rfl, hb⟩; refine ⟨_, rfl, ?_⟩; have n0_ := Aside0.mk (below_step (by repeat (first | (with_reducible first | exact HB.out | apply below_alloc | apply pw_below_drewN | apply below_drew1) | exact HB.out)) hb); clear HB; have HB := n0_; clear n0_; (try clear hb); (try clear hb2); (try clear hk); (try clear hi)) | ((with_reducible refine gate_callee (f := 18) rfl ?_); refine goesL_ (some 16) rfl rfl Try.func18 (by kernel_rfl) rfl #[.int .i64 (-7), .int .i64 2] rfl (by (try simp only [List.map_toArray, List.map_cons, List.map_nil]); first | done | rfl | (simp only [List.length_drop, List.length_take]; rfl)) ?_; (with_reducible refine (safeint_Div.calls (-7) 2 t129 t130 _ A3.out).mono ?_); rintro e w' ⟨rfl, ⟨nd, rfl⟩⟩; refine ⟨_, rfl, ?_⟩))
          go_ret
          exact ⟨by first | rfl | (simp [errW_none, errW_some] <;> rfl) | (simp [*, errW_none, errW_some] <;> rfl), by repeat (first | (with_reducible first | exact HB.out | apply below_alloc | apply pw_below_drewN | apply below_drew1) | exact HB.out)⟩
      · rw [if_neg c6] at H
        have c6b0 : (t127 == 12) = false := beq_eq_false_iff_ne.mpr c6
        have c6b1 : (t127 != 12) = true := bne_iff_ne.mpr c6
        obtain rfl := Option.some.inj H
        go_enter Try.func14, Try.ntmps14
        go_wp2_with (first | ((with_reducible refine gate_callee (f := 10) rfl ?_); refine goesL_ (some 8) rfl rfl Try.func10 (by kernel_rfl) rfl #[.int .i64 12, .int .i64 (-18)] rfl (by (try simp only [List.map_toArray, List.map_cons, List.map_nil]); first | done | rfl | (simp only [List.length_drop, List.length_take]; rfl)) ?_; (with_reducible refine (safeint_Gcd.calls k 12 (-18) t125 true _ A1.out).mono ?_); rintro e w' ⟨rfl, ⟨nd, rfl⟩⟩; refine ⟨_, rfl, ?_⟩) | ((with_reducible refine gate_callee (f := 12) rfl ?_); refine goesL_ (some 12) rfl rfl Try.func12 (by kernel_rfl) rfl #[.int .i64 4, .int .i64 6] rfl (by (try simp only [List.map_toArray, List.map_cons, List.map_nil]); first | done | rfl | (simp only [List.length_drop, List.length_take]; rfl)) ?_; (with_reducible refine (safeint_Lcm.calls k 4 6 t127 t128 _ A2.out).mono ?_); rintro e w16 ⟨rfl, hb⟩; refine ⟨_, rfl, ?_⟩; have n0_ := Aside0.mk (below_step (by repeat (first | (with_reducible first | exact HB.out | apply below_alloc | apply pw_below_drewN | apply below_drew1) | exact HB.out)) hb); clear HB; have HB := n0_; clear n0_; (try clear hb); (try clear hb2); (try clear hk); (try clear hi)) | ((with_reducible refine gate_callee (f := 18) rfl ?_); refine goesL_ (some 16) rfl rfl Try.func18 (by kernel_rfl) rfl #[.int .i64 (-7), .int .i64 2] rfl (by (try simp only [List.map_toArray, List.map_cons, List.map_nil]); first | done | rfl | (simp only [List.length_drop, List.length_take]; rfl)) ?_; (with_reducible refine (safeint_Div.calls (-7) 2 t129 t130 _ A3.out).mono ?_); rintro e w' ⟨rfl, ⟨nd, rfl⟩⟩; refine ⟨_, rfl, ?_⟩))
        go_ret
        exact ⟨by first | rfl | (simp [errW_none, errW_some] <;> rfl) | (simp [*, errW_none, errW_some] <;> rfl), by repeat (first | (with_reducible first | exact HB.out | apply below_alloc | apply pw_below_drewN | apply below_drew1) | exact HB.out)⟩
    · replace c5 := Bool.eq_false_iff.mpr c5
      subst c5
      have H1 : (some false) = some r := by rw [if_neg (show ¬ (false = true) by decide)] at H; exact H
      clear H
      have H := H1
      clear H1
      obtain rfl := Option.some.inj H
      go_enter Try.func14, Try.ntmps14
      go_wp2_with (first | ((with_reducible refine gate_callee (f := 10) rfl ?_); refine goesL_ (some 8) rfl rfl Try.func10 (by kernel_rfl) rfl #[.int .i64 12, .int .i64 (-18)] rfl (by (try simp only [List.map_toArray, List.map_cons, List.map_nil]); first | done | rfl | (simp only [List.length_drop, List.length_take]; rfl)) ?_; (with_reducible refine (safeint_Gcd.calls k 12 (-18) t125 false _ A1.out).mono ?_); rintro e w' ⟨rfl, ⟨nd, rfl⟩⟩; refine ⟨_, rfl, ?_⟩) | ((with_reducible refine gate_callee (f := 12) rfl ?_); refine goesL_ (some 12) rfl rfl Try.func12 (by kernel_rfl) rfl #[.int .i64 4, .int .i64 6] rfl (by (try simp only [List.map_toArray, List.map_cons, List.map_nil]); first | done | rfl | (simp only [List.length_drop, List.length_take]; rfl)) ?_; (with_reducible refine (safeint_Lcm.calls k 4 6 t127 t128 _ A2.out).mono ?_); rintro e w17 ⟨rfl, hb⟩; refine ⟨_, rfl, ?_⟩; have n0_ := Aside0.mk (below_step (by repeat (first | (with_reducible first | exact HB.out | apply below_alloc | apply pw_below_drewN | apply below_drew1) | exact HB.out)) hb); clear HB; have HB := n0_; clear n0_; (try clear hb); (try clear hb2); (try clear hk); (try clear hi)) | ((with_reducible refine gate_callee (f := 18) rfl ?_); refine goesL_ (some 16) rfl rfl Try.func18 (by kernel_rfl) rfl #[.int .i64 (-7), .int .i64 2] rfl (by (try simp only [List.map_toArray, List.map_cons, List.map_nil]); first | done | rfl | (simp only [List.length_drop, List.length_take]; rfl)) ?_; (with_reducible refine (safeint_Div.calls (-7) 2 t129 t130 _ A3.out).mono ?_); rintro e w' ⟨rfl, ⟨nd, rfl⟩⟩; refine ⟨_, rfl, ?_⟩))
      go_ret
      exact ⟨by first | rfl | (simp [errW_none, errW_some] <;> rfl) | (simp [*, errW_none, errW_some] <;> rfl), by repeat (first | (with_reducible first | exact HB.out | apply below_alloc | apply pw_below_drewN | apply below_drew1) | exact HB.out)⟩
  · rw [if_neg c4] at H
    have c4b0 : (t125 == 6) = false := beq_eq_false_iff_ne.mpr c4
    have c4b1 : (t125 != 6) = true := bne_iff_ne.mpr c4
    obtain rfl := Option.some.inj H
    go_enter Try.func14, Try.ntmps14
    go_wp2_with (first | ((with_reducible refine gate_callee (f := 10) rfl ?_); refine goesL_ (some 8) rfl rfl Try.func10 (by kernel_rfl) rfl #[.int .i64 12, .int .i64 (-18)] rfl (by (try simp only [List.map_toArray, List.map_cons, List.map_nil]); first | done | rfl | (simp only [List.length_drop, List.length_take]; rfl)) ?_; (with_reducible refine (safeint_Gcd.calls k 12 (-18) t125 t126 _ A1.out).mono ?_); rintro e w' ⟨rfl, ⟨nd, rfl⟩⟩; refine ⟨_, rfl, ?_⟩) | ((with_reducible refine gate_callee (f := 12) rfl ?_); refine goesL_ (some 12) rfl rfl Try.func12 (by kernel_rfl) rfl #[.int .i64 4, .int .i64 6] rfl (by (try simp only [List.map_toArray, List.map_cons, List.map_nil]); first | done | rfl | (simp only [List.length_drop, List.length_take]; rfl)) ?_; (with_reducible refine (safeint_Lcm.calls k 4 6 t127 t128 _ A2.out).mono ?_); rintro e w18 ⟨rfl, hb⟩; refine ⟨_, rfl, ?_⟩; have n0_ := Aside0.mk (below_step (by repeat (first | (with_reducible first | exact HB.out | apply below_alloc | apply pw_below_drewN | apply below_drew1) | exact HB.out)) hb); clear HB; have HB := n0_; clear n0_; (try clear hb); (try clear hb2); (try clear hk); (try clear hi)) | ((with_reducible refine gate_callee (f := 18) rfl ?_); refine goesL_ (some 16) rfl rfl Try.func18 (by kernel_rfl) rfl #[.int .i64 (-7), .int .i64 2] rfl (by (try simp only [List.map_toArray, List.map_cons, List.map_nil]); first | done | rfl | (simp only [List.length_drop, List.length_take]; rfl)) ?_; (with_reducible refine (safeint_Div.calls (-7) 2 t129 t130 _ A3.out).mono ?_); rintro e w' ⟨rfl, ⟨nd, rfl⟩⟩; refine ⟨_, rfl, ?_⟩))
    go_ret
    exact ⟨by first | rfl | (simp [errW_none, errW_some] <;> rfl) | (simp [*, errW_none, errW_some] <;> rfl), by repeat (first | (with_reducible first | exact HB.out | apply below_alloc | apply pw_below_drewN | apply below_drew1) | exact HB.out)⟩

/-! ### petrinetlaw01_SafeintCommon: function 3 -/
def petrinetlaw01_SafeintCommon.j0 : Nat → Int → Int → Bool → Option (Bool)
  | 0, _, _, _ => none
  | k + 1, x0, x1, x32 => if x32 = true then (some false) else ((safeint_Lcm.f k x0 x1).bind fun bt136 => ((petrinetref01_Lcm.f k x0 x1).bind fun bt138 => (if bt136.1 = bt138.1 then (if (bt136.2 == bt138.2) = true then ((petrinetlaw01_alive.f k).bind fun t140 => (some t140)) else (some false)) else (some false))))
def petrinetlaw01_SafeintCommon.f (k : Nat) (a0 : Int) (a1 : Int) : Option (Bool) := (safeint_Gcd.f k a0 a1).bind fun bt132 => ((petrinetref01_Gcd.f k a0 a1).bind fun bt134 => (if bt132.1 = bt134.1 then (petrinetlaw01_SafeintCommon.j0 k a0 a1 (bt132.2 != bt134.2)) else (petrinetlaw01_SafeintCommon.j0 k a0 a1 true)))
theorem petrinetlaw01_SafeintCommon.mono_l : ∀ k, (∀ y0 y1 y2, LeO (petrinetlaw01_SafeintCommon.j0 k y0 y1 y2) (petrinetlaw01_SafeintCommon.j0 (k + 1) y0 y1 y2))
  | 0 => fun _ _ _ r h => by simp [petrinetlaw01_SafeintCommon.j0] at h
  | k + 1 => by
    have ih0 := petrinetlaw01_SafeintCommon.mono_l k
    · intro y0 y1 y2
      unfold petrinetlaw01_SafeintCommon.j0
      repeat' first
      | (with_reducible exact ih0 _ _ _)
      | (with_reducible exact petrinetlaw01_alive.mono _)
      | (with_reducible exact petrinetref01_Gcd.mono _ _ _)
      | (with_reducible exact petrinetref01_Lcm.mono _ _ _)
      | (with_reducible exact safeint_Gcd.mono _ _ _)
      | (with_reducible exact safeint_Lcm.mono _ _ _)
      | (with_reducible exact LeO.refl _)
      | (with_reducible exact LeO.none _)
      | (with_reducible refine LeO.ite ?_ ?_)
      | (with_reducible refine LeO.bind ?_ (fun _ => ?_))
      | exact ih0 _ _ _
      | exact petrinetlaw01_alive.mono _
      | exact petrinetref01_Gcd.mono _ _ _
      | exact petrinetref01_Lcm.mono _ _ _
      | exact safeint_Gcd.mono _ _ _
      | exact safeint_Lcm.mono _ _ _
      | exact LeO.none _
      | refine LeO.ite ?_ ?_
      | refine LeO.bind ?_ (fun _ => ?_)
theorem petrinetlaw01_SafeintCommon.mono : ∀ a0 a1 k, LeO (petrinetlaw01_SafeintCommon.f k a0 a1) (petrinetlaw01_SafeintCommon.f (k + 1) a0 a1) := by
  intro a0 a1 k
  have ih0 := petrinetlaw01_SafeintCommon.mono_l k
  unfold petrinetlaw01_SafeintCommon.f
  repeat' first
      | (with_reducible exact ih0 _ _ _)
      | (with_reducible exact petrinetlaw01_alive.mono _)
      | (with_reducible exact petrinetref01_Gcd.mono _ _ _)
      | (with_reducible exact petrinetref01_Lcm.mono _ _ _)
      | (with_reducible exact safeint_Gcd.mono _ _ _)
      | (with_reducible exact safeint_Lcm.mono _ _ _)
      | (with_reducible exact LeO.refl _)
      | (with_reducible exact LeO.none _)
      | (with_reducible refine LeO.ite ?_ ?_)
      | (with_reducible refine LeO.bind ?_ (fun _ => ?_))
      | exact ih0 _ _ _
      | exact petrinetlaw01_alive.mono _
      | exact petrinetref01_Gcd.mono _ _ _
      | exact petrinetref01_Lcm.mono _ _ _
      | exact safeint_Gcd.mono _ _ _
      | exact safeint_Lcm.mono _ _ _
      | exact LeO.none _
      | refine LeO.ite ?_ ?_
      | refine LeO.bind ?_ (fun _ => ?_)
set_option maxHeartbeats 8000000 in
set_option maxRecDepth 100000 in
theorem petrinetlaw01_SafeintCommon.calls (k : Nat) (a0 : Int) (a1 : Int) (r : Bool) (w : World) (h : petrinetlaw01_SafeintCommon.f k a0 a1 = some r) :
    Calls Try.prog 3 #[.int .i64 a0, .int .i64 a1] w fun e w' => e = .returned (.bool r) ∧ Below w.heap.size w w' := by
  have HB := Aside0.mk (Below.refl w.heap.size w)
  have H : ((safeint_Gcd.f k a0 a1).bind fun bt132 => ((petrinetref01_Gcd.f k a0 a1).bind fun bt134 => (if bt132.1 = bt134.1 then (petrinetlaw01_SafeintCommon.j0 k a0 a1 (bt132.2 != bt134.2)) else (petrinetlaw01_SafeintCommon.j0 k a0 a1 true)))) = some r := h
  clear h
  replace H := Option.bind_eq_some_iff.mp H
  obtain ⟨⟨t132, t133⟩, A30, H⟩ := H
  replace H : ((petrinetref01_Gcd.f k a0 a1).bind fun bt134 => (if t132 = bt134.1 then (petrinetlaw01_SafeintCommon.j0 k a0 a1 (t133 != bt134.2)) else (petrinetlaw01_SafeintCommon.j0 k a0 a1 true))) = some r := H
  have A3 := Aside0.mk A30
  clear A30
  replace H := Option.bind_eq_some_iff.mp H
  obtain ⟨⟨t134, t135⟩, A40, H⟩ := H
  replace H : (if t132 = t134 then (petrinetlaw01_SafeintCommon.j0 k a0 a1 (t133 != t135)) else (petrinetlaw01_SafeintCommon.j0 k a0 a1 true)) = some r := H
  have A4 := Aside0.mk A40
  clear A40
  have HC5 := Aside0.mk H
  clear H
  go_enter Try.func3, Try.ntmps3
  go_upto_region 3 with (first | ((with_reducible refine gate_callee (f := 10) rfl ?_); refine goesL_ (some 16) rfl rfl Try.func10 (by kernel_rfl) rfl #[.int .i64 a0, .int .i64 a1] rfl (by (try simp only [List.map_toArray, List.map_cons, List.map_nil]); first | done | rfl | (simp only [List.length_drop, List.length_take]; rfl)) ?_; (with_reducible refine (safeint_Gcd.calls k a0 a1 t132 t133 _ A3.out).mono ?_); rintro e w' ⟨rfl, ⟨nd, rfl⟩⟩; refine ⟨_, rfl, ?_⟩) | ((with_reducible refine gate_callee (f := 11) rfl ?_); refine goesL_ (some 22) rfl rfl Try.func11 (by kernel_rfl) rfl #[.int .i64 a0, .int .i64 a1] rfl (by (try simp only [List.map_toArray, List.map_cons, List.map_nil]); first | done | rfl | (simp only [List.length_drop, List.length_take]; rfl)) ?_; (with_reducible refine (petrinetref01_Gcd.calls k a0 a1 t134 t135 _ A4.out).mono ?_); rintro e w6 ⟨rfl, hb⟩; refine ⟨_, rfl, ?_⟩; have n0_ := Aside0.mk (below_step (by repeat (first | (with_reducible first | exact HB.out | apply below_alloc | apply pw_below_drewN | apply below_drew1) | exact HB.out)) hb); clear HB; have HB := n0_; clear n0_; (try clear hb); (try clear hb2); (try clear hk); (try clear hi)))
  (try simp only [Act.put, List.setIfInBounds_toArray, List.set_cons_zero, List.set_cons_succ])
  go_cut [32] (fun v32 wc => ∃ (kq : Nat) (x32_4 : Bool), v32 = .bool x32_4 ∧ Aside0 (petrinetlaw01_SafeintCommon.j0 kq a0 a1 x32_4 = some r) ∧ Aside0 (kq ≤ k) ∧ Aside0 (Below w.heap.size w wc))
  case first =>
    have H := HC5.out
    clear HC5
    by_cases c7 : t132 = t134
    · rw [if_pos c7] at H
      have c7b0 : (t132 == t134) = true := beq_iff_eq.mpr c7
      have c7b1 : (t132 != t134) = false := bne_eq_false_iff_eq.mpr c7
      clear c7
      (first | rw [c7b0] | (simp only [i64_w, i32_w]; rw [c7b0]) | skip)
      have H' := Aside0.mk H
      clear H
      go_wp2
      go_meet
      case rel => exact ⟨_, ((t133 != t135)), (by first | rfl | (simp; done) | (simp [*]; done)), H', ⟨by first | omega | exact Nat.le_refl _⟩, ⟨by repeat (first | (with_reducible first | exact HB.out | apply below_alloc | apply pw_below_drewN | apply below_drew1) | exact HB.out)⟩⟩
    · rw [if_neg c7] at H
      have c7b0 : (t132 == t134) = false := beq_eq_false_iff_ne.mpr c7
      have c7b1 : (t132 != t134) = true := bne_iff_ne.mpr c7
      (first | rw [c7b0] | (simp only [i64_w, i32_w]; rw [c7b0]) | skip)
      have H' := Aside0.mk H
      clear H
      go_wp2
      go_meet
      case rel => exact ⟨_, (true), (by first | rfl | (simp; done) | (simp [*]; done)), H', ⟨by first | omega | exact Nat.le_refl _⟩, ⟨by repeat (first | (with_reducible first | exact HB.out | apply below_alloc | apply pw_below_drewN | apply below_drew1) | exact HB.out)⟩⟩
  case rest =>
    clear HC5
    try clear c1
    try clear p2
    try clear c3
    try clear c7
    try clear c7b0
    try clear c7b1
    obtain ⟨kq, x32_4, rfl, HA, HJ4, HB⟩ := hcut
    cases kq with
    | zero => exact absurd HA.out (by simp [petrinetlaw01_SafeintCommon.j0])
    | succ kj4 =>
      have H := HA.out
      clear HA
      simp only [petrinetlaw01_SafeintCommon.j0] at H
      by_cases c8 : x32_4 = true
      · subst c8
        have H1 : (some false) = some r := by rw [if_pos rfl] at H; exact H
        clear H
        have H := H1
        clear H1
        obtain rfl := Option.some.inj H
        go_wp2
        go_ret
        exact ⟨by first | rfl | (simp [errW_none, errW_some] <;> rfl) | (simp [*, errW_none, errW_some] <;> rfl), by repeat (first | (with_reducible first | exact HB.out | apply below_alloc | apply pw_below_drewN | apply below_drew1) | exact HB.out)⟩
      · replace c8 := Bool.eq_false_iff.mpr c8
        subst c8
        have H1 : ((safeint_Lcm.f kj4 a0 a1).bind fun bt136 => ((petrinetref01_Lcm.f kj4 a0 a1).bind fun bt138 => (if bt136.1 = bt138.1 then (if (bt136.2 == bt138.2) = true then ((petrinetlaw01_alive.f kj4).bind fun t140 => (some t140)) else (some false)) else (some false)))) = some r := by rw [if_neg (show ¬ (false = true) by decide)] at H; exact H
        clear H
        have H := H1
        clear H1
        replace H := Option.bind_eq_some_iff.mp H
        obtain ⟨⟨t136, t137⟩, A90, H⟩ := H
        replace H : ((petrinetref01_Lcm.f kj4 a0 a1).bind fun bt138 => (if t136 = bt138.1 then (if (t137 == bt138.2) = true then ((petrinetlaw01_alive.f kj4).bind fun t140 => (some t140)) else (some false)) else (some false))) = some r := H
        have A9 := Aside0.mk A90
        clear A90
        replace H := Option.bind_eq_some_iff.mp H
        obtain ⟨⟨t138, t139⟩, A100, H⟩ := H
        replace H : (if t136 = t138 then (if (t137 == t139) = true then ((petrinetlaw01_alive.f kj4).bind fun t140 => (some t140)) else (some false)) else (some false)) = some r := H
        have A10 := Aside0.mk A100
        clear A100
        by_cases c11 : t136 = t138
        · rw [if_pos c11] at H
          have c11b0 : (t136 == t138) = true := beq_iff_eq.mpr c11
          have c11b1 : (t136 != t138) = false := bne_eq_false_iff_eq.mpr c11
          clear c11
          by_cases c12 : (t137 == t139) = true
          · rw [if_pos c12] at H
            have c12b0 : (t137 == t139) = true := c12
            (try (have c12b1 : decide (t137 = t139) = true := by simpa using c12))
            (try (have c12b2 : (t137 == t139) = true := by simpa using c12))
            clear c12
            replace H := Option.bind_eq_some_iff.mp H
            obtain ⟨t140, A130, H⟩ := H
            replace H : (some t140) = some r := H
            have A13 := Aside0.mk A130
            clear A130
            obtain rfl := Option.some.inj H
            go_wp2_with (first | ((with_reducible refine gate_callee (f := 12) rfl ?_); refine goesL_ (some 36) rfl rfl Try.func12 (by kernel_rfl) rfl #[.int .i64 a0, .int .i64 a1] rfl (by (try simp only [List.map_toArray, List.map_cons, List.map_nil]); first | done | rfl | (simp only [List.length_drop, List.length_take]; rfl)) ?_; (with_reducible refine (safeint_Lcm.calls kj4 a0 a1 t136 t137 _ A9.out).mono ?_); rintro e w14 ⟨rfl, hb⟩; refine ⟨_, rfl, ?_⟩; have n0_ := Aside0.mk (below_step (by repeat (first | (with_reducible first | exact HB.out | apply below_alloc | apply pw_below_drewN | apply below_drew1) | exact HB.out)) hb); clear HB; have HB := n0_; clear n0_; (try clear hb); (try clear hb2); (try clear hk); (try clear hi)) | ((with_reducible refine gate_callee (f := 13) rfl ?_); refine goesL_ (some 42) rfl rfl Try.func13 (by kernel_rfl) rfl #[.int .i64 a0, .int .i64 a1] rfl (by (try simp only [List.map_toArray, List.map_cons, List.map_nil]); first | done | rfl | (simp only [List.length_drop, List.length_take]; rfl)) ?_; (with_reducible refine (petrinetref01_Lcm.calls kj4 a0 a1 t138 t139 _ A10.out).mono ?_); rintro e w' ⟨rfl, ⟨nd, rfl⟩⟩; refine ⟨_, rfl, ?_⟩) | (go_at_call 14; (with_reducible refine (petrinetlaw01_alive.calls kj4  t140 _ A13.out).mono ?_); rintro e w15 ⟨rfl, hb⟩; have n0_ := Aside0.mk (below_step (by repeat (first | (with_reducible first | exact HB.out | apply below_alloc | apply pw_below_drewN | apply below_drew1) | exact HB.out)) hb); clear HB; have HB := n0_; clear n0_; (try clear hb); (try clear hb2); (try clear hk); (try clear hi)))
            go_ret
            exact ⟨by first | rfl | (simp [errW_none, errW_some] <;> rfl) | (simp [*, errW_none, errW_some] <;> rfl), by repeat (first | (with_reducible first | exact HB.out | apply below_alloc | apply pw_below_drewN | apply below_drew1) | exact HB.out)⟩
          · rw [if_neg c12] at H
            have c12b0 : (t137 == t139) = false := by simpa using c12
            (try (have c12b1 : decide (t137 = t139) = false := by simpa using c12))
            (try (have c12b2 : (t137 == t139) = false := by simpa using c12))
            (try (have c12b3 : ¬ (t137 = t139) := by simpa using c12))
            clear c12
            obtain rfl := Option.some.inj H
            go_wp2_with (first | ((with_reducible refine gate_callee (f := 12) rfl ?_); refine goesL_ (some 36) rfl rfl Try.func12 (by kernel_rfl) rfl #[.int .i64 a0, .int .i64 a1] rfl (by (try simp only [List.map_toArray, List.map_cons, List.map_nil]); first | done | rfl | (simp only [List.length_drop, List.length_take]; rfl)) ?_; (with_reducible refine (safeint_Lcm.calls kj4 a0 a1 t136 t137 _ A9.out).mono ?_); rintro e w16 ⟨rfl, hb⟩; refine ⟨_, rfl, ?_⟩; have n0_ := Aside0.mk (below_step (by repeat (first | (with_reducible first | exact HB.out | apply below_alloc | apply pw_below_drewN | apply below_drew1) | exact HB.out)) hb); clear HB; have HB := n0_; clear n0_; (try clear hb); (try clear hb2); (try clear hk); (try clear hi)) | ((with_reducible refine gate_callee (f := 13) rfl ?_); refine goesL_ (some 42) rfl rfl Try.func13 (by kernel_rfl) rfl #[.int .i64 a0, .int .i64 a1] rfl (by (try simp only [List.map_toArray, List.map_cons, List.map_nil]); first | done | rfl | (simp only [List.length_drop, List.length_take]; rfl)) ?_; (with_reducible refine (petrinetref01_Lcm.calls kj4 a0 a1 t138 t139 _ A10.out).mono ?_); rintro e w' ⟨rfl, ⟨nd, rfl⟩⟩; refine ⟨_, rfl, ?_⟩))
            go_ret
            exact ⟨by first | rfl | (simp [errW_none, errW_some] <;> rfl) | (simp [*, errW_none, errW_some] <;> rfl), by repeat (first | (with_reducible first | exact HB.out | apply below_alloc | apply pw_below_drewN | apply below_drew1) | exact HB.out)⟩
        · rw [if_neg c11] at H
          have c11b0 : (t136 == t138) = false := beq_eq_false_iff_ne.mpr c11
          have c11b1 : (t136 != t138) = true := bne_iff_ne.mpr c11
          obtain rfl := Option.some.inj H
          go_wp2_with (first | ((with_reducible refine gate_callee (f := 12) rfl ?_); refine goesL_ (some 36) rfl rfl Try.func12 (by kernel_rfl) rfl #[.int .i64 a0, .int .i64 a1] rfl (by (try simp only [List.map_toArray, List.map_cons, List.map_nil]); first | done | rfl | (simp only [List.length_drop, List.length_take]; rfl)) ?_; (with_reducible refine (safeint_Lcm.calls kj4 a0 a1 t136 t137 _ A9.out).mono ?_); rintro e w17 ⟨rfl, hb⟩; refine ⟨_, rfl, ?_⟩; have n0_ := Aside0.mk (below_step (by repeat (first | (with_reducible first | exact HB.out | apply below_alloc | apply pw_below_drewN | apply below_drew1) | exact HB.out)) hb); clear HB; have HB := n0_; clear n0_; (try clear hb); (try clear hb2); (try clear hk); (try clear hi)) | ((with_reducible refine gate_callee (f := 13) rfl ?_); refine goesL_ (some 42) rfl rfl Try.func13 (by kernel_rfl) rfl #[.int .i64 a0, .int .i64 a1] rfl (by (try simp only [List.map_toArray, List.map_cons, List.map_nil]); first | done | rfl | (simp only [List.length_drop, List.length_take]; rfl)) ?_; (with_reducible refine (petrinetref01_Lcm.calls kj4 a0 a1 t138 t139 _ A10.out).mono ?_); rintro e w' ⟨rfl, ⟨nd, rfl⟩⟩; refine ⟨_, rfl, ?_⟩))
          go_ret
          exact ⟨by first | rfl | (simp [errW_none, errW_some] <;> rfl) | (simp [*, errW_none, errW_some] <;> rfl), by repeat (first | (with_reducible first | exact HB.out | apply below_alloc | apply pw_below_drewN | apply below_drew1) | exact HB.out)⟩

/-- THE ONE PURE STATEMENT of petrinetlaw01_SafeintCommon: yours. -/
def petrinetlaw01_SafeintCommon.Pure : Prop := ∀ (a0 : Int) (a1 : Int), (Lit.int .i64 a0).wf = true → (Lit.int .i64 a1).wf = true → ∃ k, petrinetlaw01_SafeintCommon.f k a0 a1 = some true
theorem petrinetlaw01_SafeintCommon.walk (P : petrinetlaw01_SafeintCommon.Pure) (a0 : Int) (a1 : Int) (w : World) (w0 : (Lit.int .i64 a0).wf = true) (w1 : (Lit.int .i64 a1).wf = true) :
    Calls Try.prog 3 #[.int .i64 a0, .int .i64 a1] w fun e w' => e = .returned (.bool true) ∧ Below w.heap.size w w' := by
  obtain ⟨k, h⟩ := P a0 a1 w0 w1
  refine (petrinetlaw01_SafeintCommon.calls k a0 a1 true w h).mono ?_
  rintro e w' ⟨rfl, hd⟩
  exact ⟨rfl, hd⟩

end Go.Proofs.Ytjkiekdkkempdaa.PAll
