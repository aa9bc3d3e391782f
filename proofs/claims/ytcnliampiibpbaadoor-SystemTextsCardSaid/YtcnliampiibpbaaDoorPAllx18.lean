/- Lean functions for Go functions, each with the proof that the call returns what it says; printed by wip/tools/myprint.py. -/
-- squeezed
-- tight
import Derived.Test.YtcnliampiibpbaaDoorTq
import Derived.Test.YtcnliampiibpbaaDoorPAllx0
import Derived.Test.YtcnliampiibpbaaDoorPAllx16
namespace Go.Proofs.YtcnliampiibpbaaDoor.PAll
open Go.RowKit Go.Proofs.YtcnliampiibpbaaDoorW.PrintWords Go.Proofs.YtcnliampiibpbaaDoorW.PrintLast Go.Proofs.YtcnliampiibpbaaDoorW.PrintMore
attribute [local go_sem] Instr.field asAgg max2_int min2_int max_two min_two max_three min_three max_four min_four   -- for this text's walks alone
set_option linter.unusedVariables false
set_option linter.unusedSimpArgs false

/-! ### petrinetref04_Natural: function 41 -/
def petrinetref04_Natural.l0 : Nat → ByteArray → Int → Int → Int → Option (Int)
 | 0, _, _, _, _ => none
 | k + 1, x0, x1, x5, x6 => if x6 < (x0.size : Int) then (if 0 ≤ x6 then (if (bt x0 x6) < 48 then (some (-1)) else (if (bt x0 x6) > 57 then (some (-1)) else (if (x0.size : Int) > 10 then (some (-1)) else (petrinetref04_Natural.l0 k x0 x1 (wrap64 ((wrap64 ((wrap64 (10 * x5)) + (wrap64 (bt x0 x6)))) - 48)) (wrap64 (x6 + 1)))))) else (none)) else ((petrinetref04_Number.f k x5).bind fun t275 => (if t275.toList = x0.toList then (if x5 > x1 then (some (-1)) else (some x5)) else (some (-1))))
def petrinetref04_Natural.f (k : Nat) (a0 : ByteArray) (a1 : Int) : Option (Int) := petrinetref04_Natural.l0 k a0 a1 0 0
theorem petrinetref04_Natural.mono_l : ∀ k, (∀ y0 y1 y2 y3, LeO (petrinetref04_Natural.l0 k y0 y1 y2 y3) (petrinetref04_Natural.l0 (k + 1) y0 y1 y2 y3))
 | 0 => fun _ _ _ _ r h => by simp [petrinetref04_Natural.l0] at h
 | k + 1 => by
  have ih0 := petrinetref04_Natural.mono_l k
  ·intro y0 y1 y2 y3
   unfold petrinetref04_Natural.l0
   repeat' (with_reducible first | exact ih0 _ _ _ _ | exact petrinetref04_Number.mono _ _ | exact LeO.refl _ | exact LeO.none _ | refine LeO.ite ?_ ?_ | refine LeO.bind ?_ (fun _ => ?_))
theorem petrinetref04_Natural.mono : ∀ a0 a1 k, LeO (petrinetref04_Natural.f k a0 a1) (petrinetref04_Natural.f (k + 1) a0 a1) := by
 intro a0 a1 k
 have ih0 := petrinetref04_Natural.mono_l k
 unfold petrinetref04_Natural.f
 repeat' (with_reducible first | exact ih0 _ _ _ _ | exact petrinetref04_Number.mono _ _ | exact LeO.refl _ | exact LeO.none _ | refine LeO.ite ?_ ?_ | refine LeO.bind ?_ (fun _ => ?_))
set_option maxHeartbeats 8000000 in
set_option maxRecDepth 100000 in
theorem petrinetref04_Natural.calls (k : Nat) (a0 : ByteArray) (a1 : Int) (r : Int) (w : World) (h : petrinetref04_Natural.f k a0 a1 = some r) :
  Calls Tryd.prog 41 #[.string a0, .int .i64 a1] w fun e w' => e = .returned (.int .i64 r) ∧ Drawn0 w w' := by
 have hv30 := Tryd.underlying30; have H : (petrinetref04_Natural.l0 k a0 a1 0 0) = some r := h; clear h; have H' := Aside0.mk H; clear H
 go_enter Tryd.func41, Tryd.ntmps41
 go_wp2
 go_loopg [5, 6] k (fun kq v5 v6 w' => ∃ (x5_1 : Int) (x6_1 : Int), v5 = .int .i64 x5_1 ∧ v6 = .int .i64 x6_1 ∧ Aside0 (petrinetref04_Natural.l0 kq a0 a1 x5_1 x6_1 = some r) ∧ Aside0 (kq ≤ k) ∧ Drawn0 w w')
 case atStart => exact ⟨(0), (0), tq_z, tq_z, H', ⟨Nat.le_refl _⟩, by repeat (first | exact Drawn0.refl _ | apply Drawn0.step)⟩
 case round =>
  clear H'; obtain ⟨x5_1, x6_1, rfl, rfl, HA, HK1, ⟨m1, rfl⟩⟩ := hrel
  cases gk with
  | zero => exact absurd HA.out (by simp [petrinetref04_Natural.l0])
  | succ k1 =>
   have H := HA.out; clear HA
   simp only [petrinetref04_Natural.l0] at H
   revert H; refine tq_dd (fun c3b0 H => ?_) (fun c3b0 H => ?_); rotate_left
   ·revert H; refine tq_o fun t275 A11 H => ?_; revert H; refine tq_rr (fun c12 H => ?_) (fun c12 H => ?_); rotate_left
    ·obtain ⟨c12b0, c12b1⟩ := tq_n c12; obtain rfl := Option.some.inj H
     go_wp2_with (first | ((with_reducible refine gate_callee (f := 22) rfl ?_); refine sq_goes (some 37) Tryd.func22 #[.int .i64 x5_1] ?_; (with_reducible refine (petrinetref04_Number.calls k1 x5_1 t275 _ A11.out).mono ?_); rintro e w' ⟨rfl, ⟨nd, rfl⟩⟩; refine ⟨_, rfl, ?_⟩))
     go_ret
     exact ⟨by first | rfl | (simp; done) | (simp [*]; done), by repeat (first | exact Drawn0.refl _ | apply Drawn0.step)⟩
    obtain ⟨c12b0, c12b1⟩ := tq_e c12; clear c12; revert H; refine tq_rr (fun c13 H => ?_) (fun c13 H => ?_); rotate_left
    ·have c13b0 : decide (a1 < x5_1) = false := decide_eq_false c13; clear c13; obtain rfl := Option.some.inj H
     go_wp2_with (first | ((with_reducible refine gate_callee (f := 22) rfl ?_); refine sq_goes (some 37) Tryd.func22 #[.int .i64 x5_1] ?_; (with_reducible refine (petrinetref04_Number.calls k1 x5_1 t275 _ A11.out).mono ?_); rintro e w' ⟨rfl, ⟨nd, rfl⟩⟩; refine ⟨_, rfl, ?_⟩))
     go_ret
     exact ⟨by first | rfl | (simp; done) | (simp [*]; done), by repeat (first | exact Drawn0.refl _ | apply Drawn0.step)⟩
    have c13b0 : decide (a1 < x5_1) = true := decide_eq_true c13; clear c13; obtain rfl := Option.some.inj H
    go_wp2_with (first | ((with_reducible refine gate_callee (f := 22) rfl ?_); refine sq_goes (some 37) Tryd.func22 #[.int .i64 x5_1] ?_; (with_reducible refine (petrinetref04_Number.calls k1 x5_1 t275 _ A11.out).mono ?_); rintro e w' ⟨rfl, ⟨nd, rfl⟩⟩; refine ⟨_, rfl, ?_⟩))
    go_ret
    exact ⟨by first | rfl | (simp; done) | (simp [*]; done), by repeat (first | exact Drawn0.refl _ | apply Drawn0.step)⟩
   revert H; refine tq_i1 fun c4b0 H => ?_; revert H; refine tq_dd (fun c6b0 H => ?_) (fun c6b0 H => ?_)
   ·obtain rfl := Option.some.inj H; have p5 : 0 ≤ (x6_1 : Int) := sq_d; have q5 : x6_1 < (a0.size : Int) := sq_d; have hx5 := bt_at a0 x6_1; replace p5 := eq_true p5; replace q5 := eq_true q5
    go_wp2
    go_ret
    exact ⟨by first | rfl | (simp; done) | (simp [*]; done), by repeat (first | exact Drawn0.refl _ | apply Drawn0.step)⟩
   have HH_ := Aside0.mk H; clear H; have p5 : 0 ≤ (x6_1 : Int) := sq_d; have q5 : x6_1 < (a0.size : Int) := sq_d; have hx5 := bt_at a0 x6_1; replace p5 := eq_true p5; replace q5 := eq_true q5; have p7 : 0 ≤ (x6_1 : Int) := sq_d; have q7 : x6_1 < (a0.size : Int) := sq_d; have hx7 := bt_at a0 x6_1; replace p7 := eq_true p7; replace q7 := eq_true q7; have H := HH_.out; clear HH_; revert H; refine tq_rr (fun c8 H => ?_) (fun c8 H => ?_)
   ·have c8b0 : decide (57 < (bt a0 x6_1)) = true := decide_eq_true c8; clear c8; obtain rfl := Option.some.inj H
    go_wp2
    go_ret
    exact ⟨by first | rfl | (simp; done) | (simp [*]; done), by repeat (first | exact Drawn0.refl _ | apply Drawn0.step)⟩
   have c8b0 : decide (57 < (bt a0 x6_1)) = false := decide_eq_false c8; clear c8; revert H; refine tq_rr (fun c9 H => ?_) (fun c9 H => ?_)
   ·have c9b0 : decide (10 < (a0.size : Int)) = true := decide_eq_true c9; have c9b1 : decide (10 < a0.size) = true := decide_eq_true (by omega); clear c9; obtain rfl := Option.some.inj H
    go_wp2
    go_ret
    exact ⟨by first | rfl | (simp; done) | (simp [*]; done), by repeat (first | exact Drawn0.refl _ | apply Drawn0.step)⟩
   have c9b0 : decide (10 < (a0.size : Int)) = false := decide_eq_false c9; have c9b1 : decide (10 < a0.size) = false := decide_eq_false (by omega); clear c9; have H' := Aside0.mk H; clear H; have p10 : 0 ≤ (x6_1 : Int) := sq_d; have q10 : x6_1 < (a0.size : Int) := sq_d; have hx10 := bt_at a0 x6_1; replace p10 := eq_true p10; replace q10 := eq_true q10
   go_wp2
   go_roundg k1
   case measure => have := HK1.out; omega
   case rel => exact ⟨(wrap64 ((wrap64 ((wrap64 (10 * x5_1)) + (wrap64 (bt a0 x6_1)))) - 48)), (wrap64 (x6_1 + 1)), tq_z, tq_z, H', ⟨by have := HK1.out; omega⟩, by repeat (first | exact Drawn0.refl _ | apply Drawn0.step)⟩
end Go.Proofs.YtcnliampiibpbaaDoor.PAll
