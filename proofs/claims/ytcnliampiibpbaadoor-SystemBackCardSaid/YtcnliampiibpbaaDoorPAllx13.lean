/- Lean functions for Go functions, each with the proof that the call returns what it says; printed by wip/tools/myprint.py. -/
-- squeezed
-- tight
import Derived.Test.YtcnliampiibpbaaDoorTq
import Derived.Test.YtcnliampiibpbaaDoorPAllx0
namespace Go.Proofs.YtcnliampiibpbaaDoor.PAll
open Go.RowKit Go.Proofs.YtcnliampiibpbaaDoorW.PrintWords Go.Proofs.YtcnliampiibpbaaDoorW.PrintLast Go.Proofs.YtcnliampiibpbaaDoorW.PrintMore
attribute [local go_sem] Instr.field asAgg max2_int min2_int max_two min_two max_three min_three max_four min_four   -- for this text's walks alone
set_option linter.unusedVariables false
set_option linter.unusedSimpArgs false

/-! ### petrinetref09_Name: function 36 -/
mutual
def petrinetref09_Name.j0 : Nat → ByteArray → Bool → Option (Bool)
 | 0, _, _ => none
 | k + 1, x0, x14 => if x14 = true then (some false) else (petrinetref09_Name.l0 k x0 0)
def petrinetref09_Name.l0 : Nat → ByteArray → Int → Option (Bool)
 | 0, _, _ => none
 | k + 1, x0, x3 => if x3 < (x0.size : Int) then (if 0 ≤ x3 then (if (bt x0 x3) ≥ 97 then (if (bt x0 x3) ≤ 122 then (if (bt x0 x3) ≥ 48 then (if (bt x0 x3) ≤ 57 then (petrinetref09_Name.l0 k x0 (wrap64 (x3 + 1))) else (petrinetref09_Name.l0 k x0 (wrap64 (x3 + 1)))) else (petrinetref09_Name.l0 k x0 (wrap64 (x3 + 1)))) else (if (bt x0 x3) ≥ 48 then (if (bt x0 x3) ≤ 57 then (if ((bt x0 x3) = 95) then (petrinetref09_Name.l0 k x0 (wrap64 (x3 + 1))) else (if x3 = 0 then (some false) else (petrinetref09_Name.l0 k x0 (wrap64 (x3 + 1))))) else (if ((bt x0 x3) = 95) then (petrinetref09_Name.l0 k x0 (wrap64 (x3 + 1))) else (if ((bt x0 x3) = 46) then (if x3 = 0 then (some false) else (petrinetref09_Name.l0 k x0 (wrap64 (x3 + 1)))) else (some false)))) else (if ((bt x0 x3) = 95) then (petrinetref09_Name.l0 k x0 (wrap64 (x3 + 1))) else (if ((bt x0 x3) = 46) then (if x3 = 0 then (some false) else (petrinetref09_Name.l0 k x0 (wrap64 (x3 + 1)))) else (some false))))) else (if (bt x0 x3) ≥ 48 then (if (bt x0 x3) ≤ 57 then (if ((bt x0 x3) = 95) then (petrinetref09_Name.l0 k x0 (wrap64 (x3 + 1))) else (if x3 = 0 then (some false) else (petrinetref09_Name.l0 k x0 (wrap64 (x3 + 1))))) else (if ((bt x0 x3) = 95) then (petrinetref09_Name.l0 k x0 (wrap64 (x3 + 1))) else (if ((bt x0 x3) = 46) then (if x3 = 0 then (some false) else (petrinetref09_Name.l0 k x0 (wrap64 (x3 + 1)))) else (some false)))) else (if ((bt x0 x3) = 95) then (petrinetref09_Name.l0 k x0 (wrap64 (x3 + 1))) else (if ((bt x0 x3) = 46) then (if x3 = 0 then (some false) else (petrinetref09_Name.l0 k x0 (wrap64 (x3 + 1)))) else (some false))))) else (none)) else (some true)
end
def petrinetref09_Name.f (k : Nat) (a0 : ByteArray) : Option (Bool) := if (a0.size : Int) < 1 then (petrinetref09_Name.j0 k a0 true) else (petrinetref09_Name.j0 k a0 (decide ((a0.size : Int) > 16)))
theorem petrinetref09_Name.mono_l : ∀ k, (∀ y0 y1, LeO (petrinetref09_Name.j0 k y0 y1) (petrinetref09_Name.j0 (k + 1) y0 y1)) ∧ (∀ y0 y1, LeO (petrinetref09_Name.l0 k y0 y1) (petrinetref09_Name.l0 (k + 1) y0 y1))
 | 0 => ⟨fun _ _ r h => by simp [petrinetref09_Name.j0] at h, fun _ _ r h => by simp [petrinetref09_Name.l0] at h⟩
 | k + 1 => by
  obtain ⟨ih0, ih1⟩ := petrinetref09_Name.mono_l k
  refine ⟨?_, ?_⟩
  all_goals intros
  all_goals first | unfold petrinetref09_Name.j0 | unfold petrinetref09_Name.l0
  all_goals repeat' (with_reducible first | exact ih0 _ _ | exact ih1 _ _ | exact LeO.refl _ | exact LeO.none _ | refine LeO.ite ?_ ?_ | refine LeO.bind ?_ (fun _ => ?_))
theorem petrinetref09_Name.mono : ∀ a0 k, LeO (petrinetref09_Name.f k a0) (petrinetref09_Name.f (k + 1) a0) := by
 intro a0 k
 obtain ⟨ih0, ih1⟩ := petrinetref09_Name.mono_l k
 unfold petrinetref09_Name.f
 repeat' (with_reducible first | exact ih0 _ _ | exact ih1 _ _ | exact LeO.refl _ | exact LeO.none _ | refine LeO.ite ?_ ?_ | refine LeO.bind ?_ (fun _ => ?_))
set_option maxHeartbeats 8000000 in
set_option maxRecDepth 100000 in
theorem petrinetref09_Name.calls (k : Nat) (a0 : ByteArray) (r : Bool) (w : World) (h : petrinetref09_Name.f k a0 = some r) :
  Calls Tryd.prog 36 #[.string a0] w fun e w' => e = .returned (.bool r) ∧ Drawn0 w w' := by
 have hv30 := Tryd.underlying30; have H : (if (a0.size : Int) < 1 then (petrinetref09_Name.j0 k a0 true) else (petrinetref09_Name.j0 k a0 (decide ((a0.size : Int) > 16)))) = some r := h; clear h; have HC2 := Aside0.mk H; clear H
 go_enter Tryd.func36, Tryd.ntmps36
 go_upto_region 1 with (fail)
 go_cut [14] (fun v14 wc => ∃ (kq : Nat) (x14_1 : Bool), v14 = .bool x14_1 ∧ Aside0 (petrinetref09_Name.j0 kq a0 x14_1 = some r) ∧ Aside0 (kq ≤ k) ∧ Drawn0 w wc)
 case first =>
  have H := HC2.out; clear HC2; revert H; refine tq_rr (fun c3 H => ?_) (fun c3 H => ?_); rotate_left
  ·have c3b0 : decide ((a0.size : Int) < 1) = false := decide_eq_false c3; have c3b1 : decide (a0.size < 1) = false := decide_eq_false (by omega); clear c3
   (first | rw [c3b0] | (simp only [i64_w, i32_w]; rw [c3b0]) | skip)
   have H' := Aside0.mk H; clear H
   go_wp2
   go_meet
   case rel => exact ⟨_, (decide ((a0.size : Int) > 16)), tq_z, H', ⟨by first | omega | exact Nat.le_refl _⟩, by repeat (first | exact Drawn0.refl _ | apply Drawn0.step)⟩
  have c3b0 : decide ((a0.size : Int) < 1) = true := decide_eq_true c3; have c3b1 : decide (a0.size < 1) = true := decide_eq_true (by omega); clear c3
  (first | rw [c3b0] | (simp only [i64_w, i32_w]; rw [c3b0]) | skip)
  have H' := Aside0.mk H; clear H
  go_wp2
  go_meet
  case rel => exact ⟨_, (true), tq_z, H', ⟨by first | omega | exact Nat.le_refl _⟩, by repeat (first | exact Drawn0.refl _ | apply Drawn0.step)⟩
 case rest =>
  clear HC2; obtain ⟨kq, x14_1, rfl, HA, HJ1, ⟨mc1, rfl⟩⟩ := hcut
  cases kq with
  | zero => exact absurd HA.out (by simp [petrinetref09_Name.j0])
  | succ kj1 =>
   have H := HA.out; clear HA
   simp only [petrinetref09_Name.j0] at H
   cases x14_1; rotate_left
   ·replace H := tq_t H; obtain rfl := Option.some.inj H
    go_wp2
    go_ret
    exact ⟨by first | rfl | (simp; done) | (simp [*]; done), by repeat (first | exact Drawn0.refl _ | apply Drawn0.step)⟩
   replace H := tq_f H; have H' := Aside0.mk H; clear H
   go_wp2
   go_loopg [3] kj1 (fun kq v3 w' => ∃ (x3_2 : Int), v3 = .int .i64 x3_2 ∧ Aside0 (petrinetref09_Name.l0 kq a0 x3_2 = some r) ∧ Aside0 (kq ≤ kj1) ∧ Drawn0 w w')
   case atStart => exact ⟨(0), tq_z, H', ⟨Nat.le_refl _⟩, by repeat (first | exact Drawn0.refl _ | apply Drawn0.step)⟩
   case round =>
    clear H'
    try clear c4
    obtain ⟨x3_2, rfl, HA, HK2, ⟨m2, rfl⟩⟩ := hrel
    cases gk with
    | zero => exact absurd HA.out (by simp [petrinetref09_Name.l0])
    | succ k2 =>
     have H := HA.out; clear HA
     simp only [petrinetref09_Name.l0] at H
     revert H; refine tq_dd (fun c5b0 H => ?_) (fun c5b0 H => ?_); rotate_left
     ·obtain rfl := Option.some.inj H
      go_wp2
      go_ret
      exact ⟨by first | rfl | (simp; done) | (simp [*]; done), by repeat (first | exact Drawn0.refl _ | apply Drawn0.step)⟩
     revert H; refine tq_i1 fun c6b0 H => ?_; revert H; refine tq_rr (fun c8 H => ?_) (fun c8 H => ?_); rotate_left
     ·have c8b0 : decide (97 ≤ (bt a0 x3_2)) = false := decide_eq_false c8; clear c8; revert H; refine tq_rr (fun c22 H => ?_) (fun c22 H => ?_); rotate_left
      ·have c22b0 : decide (48 ≤ (bt a0 x3_2)) = false := decide_eq_false c22; clear c22; revert H; refine tq_rr (fun c29 H => ?_) (fun c29 H => ?_)
       ·obtain ⟨c29b0, c29b1⟩ := tq_e c29; clear c29; have H' := Aside0.mk H; clear H; have p7 : 0 ≤ (x3_2 : Int) := sq_d; have q7 : x3_2 < (a0.size : Int) := sq_d; have hx7 := bt_at a0 x3_2; replace p7 := eq_true p7; replace q7 := eq_true q7
        go_wp2
        go_roundg k2
        case measure => have := HJ1.out; have := HK2.out; omega
        case rel => exact ⟨(wrap64 (x3_2 + 1)), tq_z, H', ⟨by have := HJ1.out; have := HK2.out; omega⟩, by repeat (first | exact Drawn0.refl _ | apply Drawn0.step)⟩
       obtain ⟨c29b0, c29b1⟩ := tq_n c29; revert H; refine tq_rr (fun c30 H => ?_) (fun c30 H => ?_); rotate_left
       ·obtain ⟨c30b0, c30b1⟩ := tq_n c30; obtain rfl := Option.some.inj H; have p7 : 0 ≤ (x3_2 : Int) := sq_d; have q7 : x3_2 < (a0.size : Int) := sq_d; have hx7 := bt_at a0 x3_2; replace p7 := eq_true p7; replace q7 := eq_true q7
        go_wp2
        go_ret
        exact ⟨by first | rfl | (simp; done) | (simp [*]; done), by repeat (first | exact Drawn0.refl _ | apply Drawn0.step)⟩
       obtain ⟨c30b0, c30b1⟩ := tq_e c30; clear c30; revert H; refine tq_rr (fun c31 H => ?_) (fun c31 H => ?_)
       ·obtain ⟨c31b0, c31b1⟩ := tq_e c31; clear c31; obtain rfl := Option.some.inj H; have p7 : 0 ≤ (x3_2 : Int) := sq_d; have q7 : x3_2 < (a0.size : Int) := sq_d; have hx7 := bt_at a0 x3_2; replace p7 := eq_true p7; replace q7 := eq_true q7
        go_wp2
        go_ret
        exact ⟨by first | rfl | (simp; done) | (simp [*]; done), by repeat (first | exact Drawn0.refl _ | apply Drawn0.step)⟩
       obtain ⟨c31b0, c31b1⟩ := tq_n c31; have H' := Aside0.mk H; clear H; have p7 : 0 ≤ (x3_2 : Int) := sq_d; have q7 : x3_2 < (a0.size : Int) := sq_d; have hx7 := bt_at a0 x3_2; replace p7 := eq_true p7; replace q7 := eq_true q7
       go_wp2
       go_roundg k2
       case measure => have := HJ1.out; have := HK2.out; omega
       case rel => exact ⟨(wrap64 (x3_2 + 1)), tq_z, H', ⟨by have := HJ1.out; have := HK2.out; omega⟩, by repeat (first | exact Drawn0.refl _ | apply Drawn0.step)⟩
      have c22b0 : decide (48 ≤ (bt a0 x3_2)) = true := decide_eq_true c22; clear c22; revert H; refine tq_dd (fun c23b0 H => ?_) (fun c23b0 H => ?_)
      ·revert H; refine tq_rr (fun c24 H => ?_) (fun c24 H => ?_)
       ·obtain ⟨c24b0, c24b1⟩ := tq_e c24; clear c24; have H' := Aside0.mk H; clear H; have p7 : 0 ≤ (x3_2 : Int) := sq_d; have q7 : x3_2 < (a0.size : Int) := sq_d; have hx7 := bt_at a0 x3_2; replace p7 := eq_true p7; replace q7 := eq_true q7
        go_wp2
        go_roundg k2
        case measure => have := HJ1.out; have := HK2.out; omega
        case rel => exact ⟨(wrap64 (x3_2 + 1)), tq_z, H', ⟨by have := HJ1.out; have := HK2.out; omega⟩, by repeat (first | exact Drawn0.refl _ | apply Drawn0.step)⟩
       obtain ⟨c24b0, c24b1⟩ := tq_n c24; revert H; refine tq_rr (fun c25 H => ?_) (fun c25 H => ?_)
       ·obtain ⟨c25b0, c25b1⟩ := tq_e c25; clear c25; obtain rfl := Option.some.inj H; have p7 : 0 ≤ (x3_2 : Int) := sq_d; have q7 : x3_2 < (a0.size : Int) := sq_d; have hx7 := bt_at a0 x3_2; replace p7 := eq_true p7; replace q7 := eq_true q7
        go_wp2
        go_ret
        exact ⟨by first | rfl | (simp; done) | (simp [*]; done), by repeat (first | exact Drawn0.refl _ | apply Drawn0.step)⟩
       obtain ⟨c25b0, c25b1⟩ := tq_n c25; have H' := Aside0.mk H; clear H; have p7 : 0 ≤ (x3_2 : Int) := sq_d; have q7 : x3_2 < (a0.size : Int) := sq_d; have hx7 := bt_at a0 x3_2; replace p7 := eq_true p7; replace q7 := eq_true q7
       go_wp2
       go_roundg k2
       case measure => have := HJ1.out; have := HK2.out; omega
       case rel => exact ⟨(wrap64 (x3_2 + 1)), tq_z, H', ⟨by have := HJ1.out; have := HK2.out; omega⟩, by repeat (first | exact Drawn0.refl _ | apply Drawn0.step)⟩
      revert H; refine tq_rr (fun c26 H => ?_) (fun c26 H => ?_)
      ·obtain ⟨c26b0, c26b1⟩ := tq_e c26; clear c26; have H' := Aside0.mk H; clear H; have p7 : 0 ≤ (x3_2 : Int) := sq_d; have q7 : x3_2 < (a0.size : Int) := sq_d; have hx7 := bt_at a0 x3_2; replace p7 := eq_true p7; replace q7 := eq_true q7
       go_wp2
       go_roundg k2
       case measure => have := HJ1.out; have := HK2.out; omega
       case rel => exact ⟨(wrap64 (x3_2 + 1)), tq_z, H', ⟨by have := HJ1.out; have := HK2.out; omega⟩, by repeat (first | exact Drawn0.refl _ | apply Drawn0.step)⟩
      obtain ⟨c26b0, c26b1⟩ := tq_n c26; revert H; refine tq_rr (fun c27 H => ?_) (fun c27 H => ?_); rotate_left
      ·obtain ⟨c27b0, c27b1⟩ := tq_n c27; obtain rfl := Option.some.inj H; have p7 : 0 ≤ (x3_2 : Int) := sq_d; have q7 : x3_2 < (a0.size : Int) := sq_d; have hx7 := bt_at a0 x3_2; replace p7 := eq_true p7; replace q7 := eq_true q7
       go_wp2
       go_ret
       exact ⟨by first | rfl | (simp; done) | (simp [*]; done), by repeat (first | exact Drawn0.refl _ | apply Drawn0.step)⟩
      obtain ⟨c27b0, c27b1⟩ := tq_e c27; clear c27; revert H; refine tq_rr (fun c28 H => ?_) (fun c28 H => ?_)
      ·obtain ⟨c28b0, c28b1⟩ := tq_e c28; clear c28; obtain rfl := Option.some.inj H; have p7 : 0 ≤ (x3_2 : Int) := sq_d; have q7 : x3_2 < (a0.size : Int) := sq_d; have hx7 := bt_at a0 x3_2; replace p7 := eq_true p7; replace q7 := eq_true q7
       go_wp2
       go_ret
       exact ⟨by first | rfl | (simp; done) | (simp [*]; done), by repeat (first | exact Drawn0.refl _ | apply Drawn0.step)⟩
      obtain ⟨c28b0, c28b1⟩ := tq_n c28; have H' := Aside0.mk H; clear H; have p7 : 0 ≤ (x3_2 : Int) := sq_d; have q7 : x3_2 < (a0.size : Int) := sq_d; have hx7 := bt_at a0 x3_2; replace p7 := eq_true p7; replace q7 := eq_true q7
      go_wp2
      go_roundg k2
      case measure => have := HJ1.out; have := HK2.out; omega
      case rel => exact ⟨(wrap64 (x3_2 + 1)), tq_z, H', ⟨by have := HJ1.out; have := HK2.out; omega⟩, by repeat (first | exact Drawn0.refl _ | apply Drawn0.step)⟩
     have c8b0 : decide (97 ≤ (bt a0 x3_2)) = true := decide_eq_true c8; clear c8; revert H; refine tq_dd (fun c9b0 H => ?_) (fun c9b0 H => ?_)
     ·revert H; refine tq_rr (fun c10 H => ?_) (fun c10 H => ?_); rotate_left
      ·have c10b0 : decide (48 ≤ (bt a0 x3_2)) = false := decide_eq_false c10; clear c10; have H' := Aside0.mk H; clear H; have p7 : 0 ≤ (x3_2 : Int) := sq_d; have q7 : x3_2 < (a0.size : Int) := sq_d; have hx7 := bt_at a0 x3_2; replace p7 := eq_true p7; replace q7 := eq_true q7
       go_wp2
       go_roundg k2
       case measure => have := HJ1.out; have := HK2.out; omega
       case rel => exact ⟨(wrap64 (x3_2 + 1)), tq_z, H', ⟨by have := HJ1.out; have := HK2.out; omega⟩, by repeat (first | exact Drawn0.refl _ | apply Drawn0.step)⟩
      have c10b0 : decide (48 ≤ (bt a0 x3_2)) = true := decide_eq_true c10; clear c10; revert H; refine tq_dd (fun c11b0 H => ?_) (fun c11b0 H => ?_); rotate_left
      ·have H' := Aside0.mk H; clear H; have p7 : 0 ≤ (x3_2 : Int) := sq_d; have q7 : x3_2 < (a0.size : Int) := sq_d; have hx7 := bt_at a0 x3_2; replace p7 := eq_true p7; replace q7 := eq_true q7
       go_wp2
       go_roundg k2
       case measure => have := HJ1.out; have := HK2.out; omega
       case rel => exact ⟨(wrap64 (x3_2 + 1)), tq_z, H', ⟨by have := HJ1.out; have := HK2.out; omega⟩, by repeat (first | exact Drawn0.refl _ | apply Drawn0.step)⟩
      have H' := Aside0.mk H; clear H; have p7 : 0 ≤ (x3_2 : Int) := sq_d; have q7 : x3_2 < (a0.size : Int) := sq_d; have hx7 := bt_at a0 x3_2; replace p7 := eq_true p7; replace q7 := eq_true q7
      go_wp2
      go_roundg k2
      case measure => have := HJ1.out; have := HK2.out; omega
      case rel => exact ⟨(wrap64 (x3_2 + 1)), tq_z, H', ⟨by have := HJ1.out; have := HK2.out; omega⟩, by repeat (first | exact Drawn0.refl _ | apply Drawn0.step)⟩
     revert H; refine tq_rr (fun c12 H => ?_) (fun c12 H => ?_); rotate_left
     ·have c12b0 : decide (48 ≤ (bt a0 x3_2)) = false := decide_eq_false c12; clear c12; revert H; refine tq_rr (fun c19 H => ?_) (fun c19 H => ?_)
      ·obtain ⟨c19b0, c19b1⟩ := tq_e c19; clear c19; have H' := Aside0.mk H; clear H; have p7 : 0 ≤ (x3_2 : Int) := sq_d; have q7 : x3_2 < (a0.size : Int) := sq_d; have hx7 := bt_at a0 x3_2; replace p7 := eq_true p7; replace q7 := eq_true q7
       go_wp2
       go_roundg k2
       case measure => have := HJ1.out; have := HK2.out; omega
       case rel => exact ⟨(wrap64 (x3_2 + 1)), tq_z, H', ⟨by have := HJ1.out; have := HK2.out; omega⟩, by repeat (first | exact Drawn0.refl _ | apply Drawn0.step)⟩
      obtain ⟨c19b0, c19b1⟩ := tq_n c19; revert H; refine tq_rr (fun c20 H => ?_) (fun c20 H => ?_); rotate_left
      ·obtain ⟨c20b0, c20b1⟩ := tq_n c20; obtain rfl := Option.some.inj H; have p7 : 0 ≤ (x3_2 : Int) := sq_d; have q7 : x3_2 < (a0.size : Int) := sq_d; have hx7 := bt_at a0 x3_2; replace p7 := eq_true p7; replace q7 := eq_true q7
       go_wp2
       go_ret
       exact ⟨by first | rfl | (simp; done) | (simp [*]; done), by repeat (first | exact Drawn0.refl _ | apply Drawn0.step)⟩
      obtain ⟨c20b0, c20b1⟩ := tq_e c20; clear c20; revert H; refine tq_rr (fun c21 H => ?_) (fun c21 H => ?_)
      ·obtain ⟨c21b0, c21b1⟩ := tq_e c21; clear c21; obtain rfl := Option.some.inj H; have p7 : 0 ≤ (x3_2 : Int) := sq_d; have q7 : x3_2 < (a0.size : Int) := sq_d; have hx7 := bt_at a0 x3_2; replace p7 := eq_true p7; replace q7 := eq_true q7
       go_wp2
       go_ret
       exact ⟨by first | rfl | (simp; done) | (simp [*]; done), by repeat (first | exact Drawn0.refl _ | apply Drawn0.step)⟩
      obtain ⟨c21b0, c21b1⟩ := tq_n c21; have H' := Aside0.mk H; clear H; have p7 : 0 ≤ (x3_2 : Int) := sq_d; have q7 : x3_2 < (a0.size : Int) := sq_d; have hx7 := bt_at a0 x3_2; replace p7 := eq_true p7; replace q7 := eq_true q7
      go_wp2
      go_roundg k2
      case measure => have := HJ1.out; have := HK2.out; omega
      case rel => exact ⟨(wrap64 (x3_2 + 1)), tq_z, H', ⟨by have := HJ1.out; have := HK2.out; omega⟩, by repeat (first | exact Drawn0.refl _ | apply Drawn0.step)⟩
     have c12b0 : decide (48 ≤ (bt a0 x3_2)) = true := decide_eq_true c12; clear c12; revert H; refine tq_dd (fun c13b0 H => ?_) (fun c13b0 H => ?_)
     ·revert H; refine tq_rr (fun c14 H => ?_) (fun c14 H => ?_)
      ·obtain ⟨c14b0, c14b1⟩ := tq_e c14; clear c14; have H' := Aside0.mk H; clear H; have p7 : 0 ≤ (x3_2 : Int) := sq_d; have q7 : x3_2 < (a0.size : Int) := sq_d; have hx7 := bt_at a0 x3_2; replace p7 := eq_true p7; replace q7 := eq_true q7
       go_wp2
       go_roundg k2
       case measure => have := HJ1.out; have := HK2.out; omega
       case rel => exact ⟨(wrap64 (x3_2 + 1)), tq_z, H', ⟨by have := HJ1.out; have := HK2.out; omega⟩, by repeat (first | exact Drawn0.refl _ | apply Drawn0.step)⟩
      obtain ⟨c14b0, c14b1⟩ := tq_n c14; revert H; refine tq_rr (fun c15 H => ?_) (fun c15 H => ?_)
      ·obtain ⟨c15b0, c15b1⟩ := tq_e c15; clear c15; obtain rfl := Option.some.inj H; have p7 : 0 ≤ (x3_2 : Int) := sq_d; have q7 : x3_2 < (a0.size : Int) := sq_d; have hx7 := bt_at a0 x3_2; replace p7 := eq_true p7; replace q7 := eq_true q7
       go_wp2
       go_ret
       exact ⟨by first | rfl | (simp; done) | (simp [*]; done), by repeat (first | exact Drawn0.refl _ | apply Drawn0.step)⟩
      obtain ⟨c15b0, c15b1⟩ := tq_n c15; have H' := Aside0.mk H; clear H; have p7 : 0 ≤ (x3_2 : Int) := sq_d; have q7 : x3_2 < (a0.size : Int) := sq_d; have hx7 := bt_at a0 x3_2; replace p7 := eq_true p7; replace q7 := eq_true q7
      go_wp2
      go_roundg k2
      case measure => have := HJ1.out; have := HK2.out; omega
      case rel => exact ⟨(wrap64 (x3_2 + 1)), tq_z, H', ⟨by have := HJ1.out; have := HK2.out; omega⟩, by repeat (first | exact Drawn0.refl _ | apply Drawn0.step)⟩
     revert H; refine tq_rr (fun c16 H => ?_) (fun c16 H => ?_)
     ·obtain ⟨c16b0, c16b1⟩ := tq_e c16; clear c16; have H' := Aside0.mk H; clear H; have p7 : 0 ≤ (x3_2 : Int) := sq_d; have q7 : x3_2 < (a0.size : Int) := sq_d; have hx7 := bt_at a0 x3_2; replace p7 := eq_true p7; replace q7 := eq_true q7
      go_wp2
      go_roundg k2
      case measure => have := HJ1.out; have := HK2.out; omega
      case rel => exact ⟨(wrap64 (x3_2 + 1)), tq_z, H', ⟨by have := HJ1.out; have := HK2.out; omega⟩, by repeat (first | exact Drawn0.refl _ | apply Drawn0.step)⟩
     obtain ⟨c16b0, c16b1⟩ := tq_n c16; revert H; refine tq_rr (fun c17 H => ?_) (fun c17 H => ?_); rotate_left
     ·obtain ⟨c17b0, c17b1⟩ := tq_n c17; obtain rfl := Option.some.inj H; have p7 : 0 ≤ (x3_2 : Int) := sq_d; have q7 : x3_2 < (a0.size : Int) := sq_d; have hx7 := bt_at a0 x3_2; replace p7 := eq_true p7; replace q7 := eq_true q7
      go_wp2
      go_ret
      exact ⟨by first | rfl | (simp; done) | (simp [*]; done), by repeat (first | exact Drawn0.refl _ | apply Drawn0.step)⟩
     obtain ⟨c17b0, c17b1⟩ := tq_e c17; clear c17; revert H; refine tq_rr (fun c18 H => ?_) (fun c18 H => ?_)
     ·obtain ⟨c18b0, c18b1⟩ := tq_e c18; clear c18; obtain rfl := Option.some.inj H; have p7 : 0 ≤ (x3_2 : Int) := sq_d; have q7 : x3_2 < (a0.size : Int) := sq_d; have hx7 := bt_at a0 x3_2; replace p7 := eq_true p7; replace q7 := eq_true q7
      go_wp2
      go_ret
      exact ⟨by first | rfl | (simp; done) | (simp [*]; done), by repeat (first | exact Drawn0.refl _ | apply Drawn0.step)⟩
     obtain ⟨c18b0, c18b1⟩ := tq_n c18; have H' := Aside0.mk H; clear H; have p7 : 0 ≤ (x3_2 : Int) := sq_d; have q7 : x3_2 < (a0.size : Int) := sq_d; have hx7 := bt_at a0 x3_2; replace p7 := eq_true p7; replace q7 := eq_true q7
     go_wp2
     go_roundg k2
     case measure => have := HJ1.out; have := HK2.out; omega
     case rel => exact ⟨(wrap64 (x3_2 + 1)), tq_z, H', ⟨by have := HJ1.out; have := HK2.out; omega⟩, by repeat (first | exact Drawn0.refl _ | apply Drawn0.step)⟩
/-! ### petrinetref45_at: function 37 -/
def petrinetref45_at.l0 : Nat → List ByteArray → ByteArray → Int → Option (Int)
 | 0, _, _, _ => none
 | k + 1, x0, x1, x5 => if x5 < (x0.length : Int) then (if 0 ≤ x5 then (if (rdOf ByteArray.empty x0 x5).toList = x1.toList then (some x5) else (petrinetref45_at.l0 k x0 x1 (wrap64 (x5 + 1)))) else (none)) else (some (-1))
def petrinetref45_at.f (k : Nat) (l0 : List ByteArray) (a1 : ByteArray) : Option (Int) := petrinetref45_at.l0 k l0 a1 0
theorem petrinetref45_at.mono_l : ∀ k, (∀ y0 y1 y2, LeO (petrinetref45_at.l0 k y0 y1 y2) (petrinetref45_at.l0 (k + 1) y0 y1 y2))
 | 0 => fun _ _ _ r h => by simp [petrinetref45_at.l0] at h
 | k + 1 => by
  have ih0 := petrinetref45_at.mono_l k
  ·intro y0 y1 y2
   unfold petrinetref45_at.l0
   repeat' (with_reducible first | exact ih0 _ _ _ | exact LeO.refl _ | exact LeO.none _ | refine LeO.ite ?_ ?_ | refine LeO.bind ?_ (fun _ => ?_))
theorem petrinetref45_at.mono : ∀ a0 a1 k, LeO (petrinetref45_at.f k a0 a1) (petrinetref45_at.f (k + 1) a0 a1) := by
 intro a0 a1 k
 have ih0 := petrinetref45_at.mono_l k
 unfold petrinetref45_at.f
 repeat' (with_reducible first | exact ih0 _ _ _ | exact LeO.refl _ | exact LeO.none _ | refine LeO.ite ?_ ?_ | refine LeO.bind ?_ (fun _ => ?_))
set_option maxHeartbeats 8000000 in
set_option maxRecDepth 100000 in
theorem petrinetref45_at.calls (k : Nat) (A0 : Option Addr) (c0 : Nat) (l0 : List ByteArray) (a1 : ByteArray) (r : Int) (w : World) (hr0 : Kd.C Kd.string w A0 l0.length l0) (hc0 : l0.length ≤ c0) (h : petrinetref45_at.f k l0 a1 = some r) :
  Calls Tryd.prog 37 #[.slice A0 l0.length c0, .string a1] w fun e w' => e = .returned (.int .i64 r) ∧ Drawn0 w w' := by
 have hv30 := Tryd.underlying30; have HR0 := Aside0.mk hr0; have HC0 := Aside0.mk hc0; clear hr0 hc0; have H : (petrinetref45_at.l0 k l0 a1 0) = some r := h; clear h; have H' := Aside0.mk H; clear H
 go_enter Tryd.func37, Tryd.ntmps37
 go_wp2
 go_loopg [5] k (fun kq v5 w' => ∃ (x5_1 : Int), v5 = .int .i64 x5_1 ∧ Aside0 (petrinetref45_at.l0 kq l0 a1 x5_1 = some r) ∧ Aside0 (kq ≤ k) ∧ Drawn0 w w')
 case atStart => exact ⟨(0), tq_z, H', ⟨Nat.le_refl _⟩, by repeat (first | exact Drawn0.refl _ | apply Drawn0.step)⟩
 case round =>
  clear H'; obtain ⟨x5_1, rfl, HA, HK1, ⟨m1, rfl⟩⟩ := hrel
  cases gk with
  | zero => exact absurd HA.out (by simp [petrinetref45_at.l0])
  | succ k1 =>
   have H := HA.out; clear HA
   simp only [petrinetref45_at.l0] at H
   revert H; refine tq_dd (fun c3b0 H => ?_) (fun c3b0 H => ?_); rotate_left
   ·obtain rfl := Option.some.inj H
    go_wp2
    go_ret
    exact ⟨by first | rfl | (simp; done) | (simp [*]; done), by repeat (first | exact Drawn0.refl _ | apply Drawn0.step)⟩
   revert H; refine tq_i1 fun c4b0 H => ?_; revert H; refine tq_rr (fun c5 H => ?_) (fun c5 H => ?_)
   ·obtain ⟨c5b0, c5b1⟩ := tq_e c5; clear c5; obtain rfl := Option.some.inj H; have p226 : 0 ≤ (x5_1 : Int) := sq_d; have q226 : x5_1 < (l0.length : Int) := sq_d; have LQ226 := Aside0.mk q226; obtain ⟨ad226, e226, hx226_0⟩ := Kd.at_string HR0.out x5_1 p226 q226; cases e226; replace p226 := eq_true p226; replace q226 := eq_true q226
    go_wp2
    go_ret
    exact ⟨by first | rfl | (simp; done) | (simp [*]; done), by repeat (first | exact Drawn0.refl _ | apply Drawn0.step)⟩
   obtain ⟨c5b0, c5b1⟩ := tq_n c5; have H' := Aside0.mk H; clear H; have p226 : 0 ≤ (x5_1 : Int) := sq_d; have q226 : x5_1 < (l0.length : Int) := sq_d; have LQ226 := Aside0.mk q226; obtain ⟨ad226, e226, hx226_0⟩ := Kd.at_string HR0.out x5_1 p226 q226; cases e226; replace p226 := eq_true p226; replace q226 := eq_true q226
   go_wp2
   go_roundg k1
   case measure => have := HK1.out; omega
   case rel => exact ⟨(wrap64 (x5_1 + 1)), tq_z, H', ⟨by have := HK1.out; omega⟩, by repeat (first | exact Drawn0.refl _ | apply Drawn0.step)⟩
end Go.Proofs.YtcnliampiibpbaaDoor.PAll
