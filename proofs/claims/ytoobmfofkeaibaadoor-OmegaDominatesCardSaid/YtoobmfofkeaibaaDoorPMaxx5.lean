/- Lean functions for Go functions, each with the proof that the call returns what it says; printed by wip/tools/myprint.py. -/
-- squeezed
-- tight
import Derived.Test.YtoobmfofkeaibaaDoorTq
import Derived.Test.YtoobmfofkeaibaaDoorPMaxx0
namespace Go.Proofs.YtoobmfofkeaibaaDoor.PMax
open Go.RowKit Go.Proofs.YtoobmfofkeaibaaDoorW.PrintWords Go.Proofs.YtoobmfofkeaibaaDoorW.PrintLast Go.Proofs.YtoobmfofkeaibaaDoorW.PrintMore
attribute [local go_sem] max2_int min2_int max_two min_two max_three min_three max_four min_four   -- for this text's walks alone
set_option linter.unusedVariables false
set_option linter.unusedSimpArgs false

/-! ### petrinetref05_Valid: function 18 -/
def petrinetref05_Valid.l0 : Nat → List Int → Int → Option (Bool)
 | 0, _, _ => none
 | k + 1, x0, x5 => if x5 < (x0.length : Int) then (if 0 ≤ x5 then (if (rd x0 x5) = (-1) then (petrinetref05_Valid.l0 k x0 (wrap64 (x5 + 1))) else (if (rd x0 x5) < 0 then (some false) else (if (rd x0 x5) > 1048576 then (some false) else (petrinetref05_Valid.l0 k x0 (wrap64 (x5 + 1)))))) else (none)) else (some true)
def petrinetref05_Valid.f (k : Nat) (l0 : List Int) (a1 : Int) : Option (Bool) := if (l0.length : Int) = a1 then (petrinetref05_Valid.l0 k l0 0) else (some false)
theorem petrinetref05_Valid.mono_l : ∀ k, (∀ y0 y1, LeO (petrinetref05_Valid.l0 k y0 y1) (petrinetref05_Valid.l0 (k + 1) y0 y1))
 | 0 => fun _ _ r h => by simp [petrinetref05_Valid.l0] at h
 | k + 1 => by
  have ih0 := petrinetref05_Valid.mono_l k
  ·intro y0 y1
   unfold petrinetref05_Valid.l0
   repeat' (with_reducible first | exact ih0 _ _ | exact LeO.refl _ | exact LeO.none _ | refine LeO.ite ?_ ?_ | refine LeO.bind ?_ (fun _ => ?_))
theorem petrinetref05_Valid.mono : ∀ a0 a1 k, LeO (petrinetref05_Valid.f k a0 a1) (petrinetref05_Valid.f (k + 1) a0 a1) := by
 intro a0 a1 k
 have ih0 := petrinetref05_Valid.mono_l k
 unfold petrinetref05_Valid.f
 repeat' (with_reducible first | exact ih0 _ _ | exact LeO.refl _ | exact LeO.none _ | refine LeO.ite ?_ ?_ | refine LeO.bind ?_ (fun _ => ?_))
set_option maxHeartbeats 8000000 in
set_option maxRecDepth 100000 in
theorem petrinetref05_Valid.calls (k : Nat) (A0 : Option Addr) (c0 : Nat) (l0 : List Int) (a1 : Int) (r : Bool) (w : World) (hr0 : Kd.C (Kd.int .i64) w A0 l0.length l0) (hc0 : l0.length ≤ c0) (h : petrinetref05_Valid.f k l0 a1 = some r) :
  Calls Tryd.prog 18 #[.slice A0 l0.length c0, .int .i64 a1] w fun e w' => e = .returned (.bool r) ∧ Drawn0 w w' := by
 have HR0 := Aside0.mk hr0; have HC0 := Aside0.mk hc0; clear hr0 hc0; have H : (if (l0.length : Int) = a1 then (petrinetref05_Valid.l0 k l0 0) else (some false)) = some r := h; clear h; revert H; refine tq_rr (fun c3 H => ?_) (fun c3 H => ?_); rotate_left
 ·obtain ⟨c3b0, c3b1⟩ := tq_n c3; obtain rfl := Option.some.inj H
  go_enter Tryd.func18, Tryd.ntmps18
  go_wp2
  go_ret
  exact ⟨by first | rfl | (simp; done) | (simp [*]; done), by repeat (first | exact Drawn0.refl _ | apply Drawn0.step)⟩
 obtain ⟨c3b0, c3b1⟩ := tq_e c3; clear c3; have H' := Aside0.mk H; clear H
 go_enter Tryd.func18, Tryd.ntmps18
 go_wp2
 go_loopg [5] k (fun kq v5 w' => ∃ (x5_1 : Int), v5 = .int .i64 x5_1 ∧ Aside0 (petrinetref05_Valid.l0 kq l0 x5_1 = some r) ∧ Aside0 (kq ≤ k) ∧ Drawn0 w w')
 case atStart => exact ⟨(0), tq_z, H', ⟨Nat.le_refl _⟩, by repeat (first | exact Drawn0.refl _ | apply Drawn0.step)⟩
 case round =>
  clear H'
  try clear c3b0
  try clear c3b1
  obtain ⟨x5_1, rfl, HA, HK1, ⟨m1, rfl⟩⟩ := hrel
  cases gk with
  | zero => exact absurd HA.out (by simp [petrinetref05_Valid.l0])
  | succ k1 =>
   have H := HA.out; clear HA
   simp only [petrinetref05_Valid.l0] at H
   revert H; refine tq_dd (fun c4b0 H => ?_) (fun c4b0 H => ?_); rotate_left
   ·obtain rfl := Option.some.inj H
    go_wp2
    go_ret
    exact ⟨by first | rfl | (simp; done) | (simp [*]; done), by repeat (first | exact Drawn0.refl _ | apply Drawn0.step)⟩
   revert H; refine tq_i1 fun c5b0 H => ?_; revert H; refine tq_rr (fun c6 H => ?_) (fun c6 H => ?_)
   ·obtain ⟨c6b0, c6b1⟩ := tq_e c6; clear c6; have H' := Aside0.mk H; clear H; have p213 : 0 ≤ (x5_1 : Int) := sq_d; have q213 : x5_1 < (l0.length : Int) := sq_d; obtain ⟨ad213, e213, hx213_0⟩ := Kd.at_int HR0.out x5_1 p213 q213; cases e213; replace p213 := eq_true p213; replace q213 := eq_true q213
    go_wp2
    go_roundg k1
    case measure => have := HK1.out; omega
    case rel => exact ⟨(wrap64 (x5_1 + 1)), tq_z, H', ⟨by have := HK1.out; omega⟩, by repeat (first | exact Drawn0.refl _ | apply Drawn0.step)⟩
   obtain ⟨c6b0, c6b1⟩ := tq_n c6; have HH_ := Aside0.mk H; clear H; have p213 : 0 ≤ (x5_1 : Int) := sq_d; have q213 : x5_1 < (l0.length : Int) := sq_d; obtain ⟨ad213, e213, hx213_0⟩ := Kd.at_int HR0.out x5_1 p213 q213; cases e213; replace p213 := eq_true p213; replace q213 := eq_true q213; have p214 : 0 ≤ (x5_1 : Int) := sq_d; have q214 : x5_1 < (l0.length : Int) := sq_d; obtain ⟨ad214, e214, hx214_0⟩ := Kd.at_int HR0.out x5_1 p214 q214; obtain rfl : ad213 = ad214 := (by injection e214); replace p214 := eq_true p214; replace q214 := eq_true q214; have H := HH_.out; clear HH_; revert H; refine tq_dd (fun c7b0 H => ?_) (fun c7b0 H => ?_)
   ·obtain rfl := Option.some.inj H
    go_wp2
    go_ret
    exact ⟨by first | rfl | (simp; done) | (simp [*]; done), by repeat (first | exact Drawn0.refl _ | apply Drawn0.step)⟩
   have HH_ := Aside0.mk H; clear H; have p215 : 0 ≤ (x5_1 : Int) := sq_d; have q215 : x5_1 < (l0.length : Int) := sq_d; obtain ⟨ad215, e215, hx215_0⟩ := Kd.at_int HR0.out x5_1 p215 q215; obtain rfl : ad213 = ad215 := (by injection e215); replace p215 := eq_true p215; replace q215 := eq_true q215; have H := HH_.out; clear HH_; revert H; refine tq_rr (fun c8 H => ?_) (fun c8 H => ?_)
   ·have c8b0 : decide (1048576 < (rd l0 x5_1)) = true := decide_eq_true c8; clear c8; obtain rfl := Option.some.inj H
    go_wp2
    go_ret
    exact ⟨by first | rfl | (simp; done) | (simp [*]; done), by repeat (first | exact Drawn0.refl _ | apply Drawn0.step)⟩
   have c8b0 : decide (1048576 < (rd l0 x5_1)) = false := decide_eq_false c8; clear c8; have H' := Aside0.mk H; clear H
   go_wp2
   go_roundg k1
   case measure => have := HK1.out; omega
   case rel => exact ⟨(wrap64 (x5_1 + 1)), tq_z, H', ⟨by have := HK1.out; omega⟩, by repeat (first | exact Drawn0.refl _ | apply Drawn0.step)⟩
/-! ### petrinetref05_more: function 31 -/
def petrinetref05_more.f (a0 : Int) (a1 : Int) : Option (Bool) := if a0 = (-1) then (some (a1 != (-1))) else (if a1 = (-1) then (some false) else (some (decide (a0 > a1))))
set_option maxHeartbeats 8000000 in
set_option maxRecDepth 100000 in
theorem petrinetref05_more.calls (a0 : Int) (a1 : Int) (r : Bool) (w : World) (h : petrinetref05_more.f a0 a1 = some r) :
  Calls Tryd.prog 31 #[.int .i64 a0, .int .i64 a1] w fun e w' => e = .returned (.bool r) ∧ Drawn0 w w' := by
 have H : (if a0 = (-1) then (some (a1 != (-1))) else (if a1 = (-1) then (some false) else (some (decide (a0 > a1))))) = some r := h; clear h; revert H; refine tq_rr (fun c3 H => ?_) (fun c3 H => ?_)
 ·obtain ⟨c3b0, c3b1⟩ := tq_e c3; clear c3; obtain rfl := Option.some.inj H
  go_enter Tryd.func31, Tryd.ntmps31
  go_wp2
  go_ret
  exact ⟨by first | rfl | (simp; done) | (simp [*]; done), by repeat (first | exact Drawn0.refl _ | apply Drawn0.step)⟩
 obtain ⟨c3b0, c3b1⟩ := tq_n c3; revert H; refine tq_rr (fun c4 H => ?_) (fun c4 H => ?_); rotate_left
 ·obtain ⟨c4b0, c4b1⟩ := tq_n c4; obtain rfl := Option.some.inj H
  go_enter Tryd.func31, Tryd.ntmps31
  go_wp2
  go_ret
  exact ⟨by first | rfl | (simp; done) | (simp [*]; done), by repeat (first | exact Drawn0.refl _ | apply Drawn0.step)⟩
 obtain ⟨c4b0, c4b1⟩ := tq_e c4; clear c4; obtain rfl := Option.some.inj H
 go_enter Tryd.func31, Tryd.ntmps31
 go_wp2
 go_ret
 exact ⟨by first | rfl | (simp; done) | (simp [*]; done), by repeat (first | exact Drawn0.refl _ | apply Drawn0.step)⟩
/-! ### petrinetref05_Leq: function 10 -/
mutual
def petrinetref05_Leq.j0 : Nat → List Int → List Int → Bool → Option (Bool)
 | 0, _, _, _ => none
 | k + 1, x0, x1, x17 => if x17 = true then (some false) else (petrinetref05_Leq.l0 k x0 x1 0)
def petrinetref05_Leq.l0 : Nat → List Int → List Int → Int → Option (Bool)
 | 0, _, _, _ => none
 | k + 1, x0, x1, x5 => if x5 < (x0.length : Int) then (if 0 ≤ x5 then (if x5 < (x1.length : Int) then ((petrinetref05_more.f (rd x0 x5) (rd x1 x5)).bind fun t220 => (if t220 = true then (some false) else (petrinetref05_Leq.l0 k x0 x1 (wrap64 (x5 + 1))))) else (none)) else (none)) else (some true)
end
def petrinetref05_Leq.f (k : Nat) (l0 : List Int) (l1 : List Int) : Option (Bool) := (petrinetref05_Valid.f k l0 (l1.length : Int)).bind fun t216 => (if t216 = true then ((petrinetref05_Valid.f k l1 (l1.length : Int)).bind fun t217 => (petrinetref05_Leq.j0 k l0 l1 (!t217))) else (petrinetref05_Leq.j0 k l0 l1 true))
theorem petrinetref05_Leq.mono_l : ∀ k, (∀ y0 y1 y2, LeO (petrinetref05_Leq.j0 k y0 y1 y2) (petrinetref05_Leq.j0 (k + 1) y0 y1 y2)) ∧ (∀ y0 y1 y2, LeO (petrinetref05_Leq.l0 k y0 y1 y2) (petrinetref05_Leq.l0 (k + 1) y0 y1 y2))
 | 0 => ⟨fun _ _ _ r h => by simp [petrinetref05_Leq.j0] at h, fun _ _ _ r h => by simp [petrinetref05_Leq.l0] at h⟩
 | k + 1 => by
  obtain ⟨ih0, ih1⟩ := petrinetref05_Leq.mono_l k
  refine ⟨?_, ?_⟩
  all_goals intros
  all_goals first | unfold petrinetref05_Leq.j0 | unfold petrinetref05_Leq.l0
  all_goals repeat' (with_reducible first | exact ih0 _ _ _ | exact ih1 _ _ _ | exact petrinetref05_Valid.mono _ _ _ | exact LeO.refl _ | exact LeO.none _ | refine LeO.ite ?_ ?_ | refine LeO.bind ?_ (fun _ => ?_))
theorem petrinetref05_Leq.mono : ∀ a0 a1 k, LeO (petrinetref05_Leq.f k a0 a1) (petrinetref05_Leq.f (k + 1) a0 a1) := by
 intro a0 a1 k
 obtain ⟨ih0, ih1⟩ := petrinetref05_Leq.mono_l k
 unfold petrinetref05_Leq.f
 repeat' (with_reducible first | exact ih0 _ _ _ | exact ih1 _ _ _ | exact petrinetref05_Valid.mono _ _ _ | exact LeO.refl _ | exact LeO.none _ | refine LeO.ite ?_ ?_ | refine LeO.bind ?_ (fun _ => ?_))
set_option maxHeartbeats 8000000 in
set_option maxRecDepth 100000 in
theorem petrinetref05_Leq.calls (k : Nat) (A0 : Option Addr) (c0 : Nat) (l0 : List Int) (A1 : Option Addr) (c1 : Nat) (l1 : List Int) (r : Bool) (w : World) (hr0 : Kd.C (Kd.int .i64) w A0 l0.length l0) (hc0 : l0.length ≤ c0) (hr1 : Kd.C (Kd.int .i64) w A1 l1.length l1) (hc1 : l1.length ≤ c1) (h : petrinetref05_Leq.f k l0 l1 = some r) :
  Calls Tryd.prog 10 #[.slice A0 l0.length c0, .slice A1 l1.length c1] w fun e w' => e = .returned (.bool r) ∧ Drawn0 w w' := by
 have HR0 := Aside0.mk hr0; have HC0 := Aside0.mk hc0; clear hr0 hc0; have HR1 := Aside0.mk hr1; have HC1 := Aside0.mk hc1; clear hr1 hc1; have H : ((petrinetref05_Valid.f k l0 (l1.length : Int)).bind fun t216 => (if t216 = true then ((petrinetref05_Valid.f k l1 (l1.length : Int)).bind fun t217 => (petrinetref05_Leq.j0 k l0 l1 (!t217))) else (petrinetref05_Leq.j0 k l0 l1 true))) = some r := h; clear h; have HC3 := Aside0.mk H; clear H
 go_enter Tryd.func10, Tryd.ntmps10
 go_upto_region 1 with (fail)
 repeat (go_quiet (fail); go_upto_region 1 with (fail))
 go_cut [17] (fun v17 wc => ∃ (kq : Nat) (x17_2 : Bool), v17 = .bool x17_2 ∧ Aside0 (petrinetref05_Leq.j0 kq l0 l1 x17_2 = some r) ∧ Aside0 (kq ≤ k) ∧ Drawn0 w wc)
 case first =>
  have H := HC3.out; clear HC3; revert H; refine tq_o fun t216 A4 H => ?_; cases t216
  ·replace H := tq_f H; have H' := Aside0.mk H; clear H
   go_wp2_with (first | (go_at_call 18; (with_reducible refine (petrinetref05_Valid.calls k _ _ l0 (l1.length : Int) false _ ?s1 ?s2 A4.out).mono ?_); (case s1 => exact sq_kc (HR0.out)); (case s2 => exact HC0.out); rintro e w' ⟨rfl, ⟨nd, rfl⟩⟩; (try first | exact ⟨rfl, _, World.drewN_drewN _ _ _⟩ | exact ⟨rfl, _, Eq.trans (World.drewN_drewN _ _ _) (congrArg (World.drewN _) (Nat.add_assoc _ _ _))⟩)))
   repeat (go_quiet (first | (go_at_call 18; (with_reducible refine (petrinetref05_Valid.calls k _ _ l0 (l1.length : Int) false _ ?s1 ?s2 A4.out).mono ?_); (case s1 => exact sq_kc (HR0.out)); (case s2 => exact HC0.out); rintro e w' ⟨rfl, ⟨nd, rfl⟩⟩; (try first | exact ⟨rfl, _, World.drewN_drewN _ _ _⟩ | exact ⟨rfl, _, Eq.trans (World.drewN_drewN _ _ _) (congrArg (World.drewN _) (Nat.add_assoc _ _ _))⟩))); try go_wp2_with (first | (go_at_call 18; (with_reducible refine (petrinetref05_Valid.calls k _ _ l0 (l1.length : Int) false _ ?s1 ?s2 A4.out).mono ?_); (case s1 => exact sq_kc (HR0.out)); (case s2 => exact HC0.out); rintro e w' ⟨rfl, ⟨nd, rfl⟩⟩; (try first | exact ⟨rfl, _, World.drewN_drewN _ _ _⟩ | exact ⟨rfl, _, Eq.trans (World.drewN_drewN _ _ _) (congrArg (World.drewN _) (Nat.add_assoc _ _ _))⟩))))
   go_meet
   case rel => exact ⟨_, (true), tq_z, H', ⟨by first | omega | exact Nat.le_refl _⟩, by repeat (first | exact Drawn0.refl _ | apply Drawn0.step)⟩
  replace H := tq_t H; revert H; refine tq_o fun t217 A6 H => ?_; have H' := Aside0.mk H; clear H
  go_wp2_with (first | (go_at_call 18; (with_reducible refine (petrinetref05_Valid.calls k _ _ l0 (l1.length : Int) true _ ?s1 ?s2 A4.out).mono ?_); (case s1 => exact sq_kc (HR0.out)); (case s2 => exact HC0.out); rintro e w' ⟨rfl, ⟨nd, rfl⟩⟩; (try first | exact ⟨rfl, _, World.drewN_drewN _ _ _⟩ | exact ⟨rfl, _, Eq.trans (World.drewN_drewN _ _ _) (congrArg (World.drewN _) (Nat.add_assoc _ _ _))⟩)) | (go_at_call 18; (with_reducible refine (petrinetref05_Valid.calls k _ _ l1 (l1.length : Int) t217 _ ?s1 ?s2 A6.out).mono ?_); (case s1 => exact sq_kc (HR1.out)); (case s2 => exact HC1.out); rintro e w' ⟨rfl, ⟨nd, rfl⟩⟩; (try first | exact ⟨rfl, _, World.drewN_drewN _ _ _⟩ | exact ⟨rfl, _, Eq.trans (World.drewN_drewN _ _ _) (congrArg (World.drewN _) (Nat.add_assoc _ _ _))⟩)))
  repeat (go_quiet (first | (go_at_call 18; (with_reducible refine (petrinetref05_Valid.calls k _ _ l0 (l1.length : Int) true _ ?s1 ?s2 A4.out).mono ?_); (case s1 => exact sq_kc (HR0.out)); (case s2 => exact HC0.out); rintro e w' ⟨rfl, ⟨nd, rfl⟩⟩; (try first | exact ⟨rfl, _, World.drewN_drewN _ _ _⟩ | exact ⟨rfl, _, Eq.trans (World.drewN_drewN _ _ _) (congrArg (World.drewN _) (Nat.add_assoc _ _ _))⟩)) | (go_at_call 18; (with_reducible refine (petrinetref05_Valid.calls k _ _ l1 (l1.length : Int) t217 _ ?s1 ?s2 A6.out).mono ?_); (case s1 => exact sq_kc (HR1.out)); (case s2 => exact HC1.out); rintro e w' ⟨rfl, ⟨nd, rfl⟩⟩; (try first | exact ⟨rfl, _, World.drewN_drewN _ _ _⟩ | exact ⟨rfl, _, Eq.trans (World.drewN_drewN _ _ _) (congrArg (World.drewN _) (Nat.add_assoc _ _ _))⟩))); try go_wp2_with (first | (go_at_call 18; (with_reducible refine (petrinetref05_Valid.calls k _ _ l0 (l1.length : Int) true _ ?s1 ?s2 A4.out).mono ?_); (case s1 => exact sq_kc (HR0.out)); (case s2 => exact HC0.out); rintro e w' ⟨rfl, ⟨nd, rfl⟩⟩; (try first | exact ⟨rfl, _, World.drewN_drewN _ _ _⟩ | exact ⟨rfl, _, Eq.trans (World.drewN_drewN _ _ _) (congrArg (World.drewN _) (Nat.add_assoc _ _ _))⟩)) | (go_at_call 18; (with_reducible refine (petrinetref05_Valid.calls k _ _ l1 (l1.length : Int) t217 _ ?s1 ?s2 A6.out).mono ?_); (case s1 => exact sq_kc (HR1.out)); (case s2 => exact HC1.out); rintro e w' ⟨rfl, ⟨nd, rfl⟩⟩; (try first | exact ⟨rfl, _, World.drewN_drewN _ _ _⟩ | exact ⟨rfl, _, Eq.trans (World.drewN_drewN _ _ _) (congrArg (World.drewN _) (Nat.add_assoc _ _ _))⟩))))
  go_meet
  case rel => exact ⟨_, (!t217), tq_z, H', ⟨by first | omega | exact Nat.le_refl _⟩, by repeat (first | exact Drawn0.refl _ | apply Drawn0.step)⟩
 case rest =>
  clear HC3; obtain ⟨kq, x17_2, rfl, HA, HJ2, ⟨mc2, rfl⟩⟩ := hcut
  cases kq with
  | zero => exact absurd HA.out (by simp [petrinetref05_Leq.j0])
  | succ kj2 =>
   have H := HA.out; clear HA
   simp only [petrinetref05_Leq.j0] at H
   cases x17_2; rotate_left
   ·replace H := tq_t H; obtain rfl := Option.some.inj H
    go_wp2
    repeat (go_quiet (fail); try go_wp2)
    go_ret
    exact ⟨by first | rfl | (simp; done) | (simp [*]; done), by repeat (first | exact Drawn0.refl _ | apply Drawn0.step)⟩
   replace H := tq_f H; have H' := Aside0.mk H; clear H
   go_wp2
   repeat (go_quiet (fail); try go_wp2)
   go_loopg [5] kj2 (fun kq v5 w' => ∃ (x5_2 : Int), v5 = .int .i64 x5_2 ∧ Aside0 (petrinetref05_Leq.l0 kq l0 l1 x5_2 = some r) ∧ Aside0 (kq ≤ kj2) ∧ Drawn0 w w')
   case atStart => exact ⟨(0), tq_z, H', ⟨Nat.le_refl _⟩, by repeat (first | exact Drawn0.refl _ | apply Drawn0.step)⟩
   case round =>
    clear H'
    try clear c7
    obtain ⟨x5_2, rfl, HA, HK2, ⟨m2, rfl⟩⟩ := hrel
    cases gk with
    | zero => exact absurd HA.out (by simp [petrinetref05_Leq.l0])
    | succ k2 =>
     have H := HA.out; clear HA
     simp only [petrinetref05_Leq.l0] at H
     revert H; refine tq_dd (fun c8b0 H => ?_) (fun c8b0 H => ?_); rotate_left
     ·obtain rfl := Option.some.inj H
      go_wp2
      repeat (go_quiet (fail); try go_wp2)
      go_ret
      exact ⟨by first | rfl | (simp; done) | (simp [*]; done), by repeat (first | exact Drawn0.refl _ | apply Drawn0.step)⟩
     revert H; refine tq_i1 fun c9b0 H => ?_; revert H; refine tq_i1 fun c10b0 H => ?_; revert H; refine tq_o fun t220 A11 H => ?_; cases t220; rotate_left
     ·replace H := tq_t H; obtain rfl := Option.some.inj H; have p218 : 0 ≤ (x5_2 : Int) := sq_d; have q218 : x5_2 < (l0.length : Int) := sq_d; obtain ⟨ad218, e218, hx218_0⟩ := Kd.at_int HR0.out x5_2 p218 q218; cases e218; replace p218 := eq_true p218; replace q218 := eq_true q218; have p219 : 0 ≤ (x5_2 : Int) := sq_d; have q219 : x5_2 < (l1.length : Int) := sq_d; obtain ⟨ad219, e219, hx219_0⟩ := Kd.at_int HR1.out x5_2 p219 q219; cases e219; replace p219 := eq_true p219; replace q219 := eq_true q219
      go_wp2_with (first | (go_at_call 31; (with_reducible refine (petrinetref05_more.calls (rd l0 x5_2) (rd l1 x5_2) true _ A11.out).mono ?_); rintro e w' ⟨rfl, ⟨nd, rfl⟩⟩; (try first | exact ⟨rfl, _, World.drewN_drewN _ _ _⟩ | exact ⟨rfl, _, Eq.trans (World.drewN_drewN _ _ _) (congrArg (World.drewN _) (Nat.add_assoc _ _ _))⟩)))
      repeat (go_quiet (first | (go_at_call 31; (with_reducible refine (petrinetref05_more.calls (rd l0 x5_2) (rd l1 x5_2) true _ A11.out).mono ?_); rintro e w' ⟨rfl, ⟨nd, rfl⟩⟩; (try first | exact ⟨rfl, _, World.drewN_drewN _ _ _⟩ | exact ⟨rfl, _, Eq.trans (World.drewN_drewN _ _ _) (congrArg (World.drewN _) (Nat.add_assoc _ _ _))⟩))); try go_wp2_with (first | (go_at_call 31; (with_reducible refine (petrinetref05_more.calls (rd l0 x5_2) (rd l1 x5_2) true _ A11.out).mono ?_); rintro e w' ⟨rfl, ⟨nd, rfl⟩⟩; (try first | exact ⟨rfl, _, World.drewN_drewN _ _ _⟩ | exact ⟨rfl, _, Eq.trans (World.drewN_drewN _ _ _) (congrArg (World.drewN _) (Nat.add_assoc _ _ _))⟩))))
      go_ret
      exact ⟨by first | rfl | (simp; done) | (simp [*]; done), by repeat (first | exact Drawn0.refl _ | apply Drawn0.step)⟩
     replace H := tq_f H; have H' := Aside0.mk H; clear H; have p218 : 0 ≤ (x5_2 : Int) := sq_d; have q218 : x5_2 < (l0.length : Int) := sq_d; obtain ⟨ad218, e218, hx218_0⟩ := Kd.at_int HR0.out x5_2 p218 q218; cases e218; replace p218 := eq_true p218; replace q218 := eq_true q218; have p219 : 0 ≤ (x5_2 : Int) := sq_d; have q219 : x5_2 < (l1.length : Int) := sq_d; obtain ⟨ad219, e219, hx219_0⟩ := Kd.at_int HR1.out x5_2 p219 q219; cases e219; replace p219 := eq_true p219; replace q219 := eq_true q219
     go_wp2_with (first | (go_at_call 31; (with_reducible refine (petrinetref05_more.calls (rd l0 x5_2) (rd l1 x5_2) false _ A11.out).mono ?_); rintro e w' ⟨rfl, ⟨nd, rfl⟩⟩; (try first | exact ⟨rfl, _, World.drewN_drewN _ _ _⟩ | exact ⟨rfl, _, Eq.trans (World.drewN_drewN _ _ _) (congrArg (World.drewN _) (Nat.add_assoc _ _ _))⟩)))
     repeat (go_quiet (first | (go_at_call 31; (with_reducible refine (petrinetref05_more.calls (rd l0 x5_2) (rd l1 x5_2) false _ A11.out).mono ?_); rintro e w' ⟨rfl, ⟨nd, rfl⟩⟩; (try first | exact ⟨rfl, _, World.drewN_drewN _ _ _⟩ | exact ⟨rfl, _, Eq.trans (World.drewN_drewN _ _ _) (congrArg (World.drewN _) (Nat.add_assoc _ _ _))⟩))); try go_wp2_with (first | (go_at_call 31; (with_reducible refine (petrinetref05_more.calls (rd l0 x5_2) (rd l1 x5_2) false _ A11.out).mono ?_); rintro e w' ⟨rfl, ⟨nd, rfl⟩⟩; (try first | exact ⟨rfl, _, World.drewN_drewN _ _ _⟩ | exact ⟨rfl, _, Eq.trans (World.drewN_drewN _ _ _) (congrArg (World.drewN _) (Nat.add_assoc _ _ _))⟩))))
     go_roundg k2
     case measure => have := HJ2.out; have := HK2.out; omega
     case rel => exact ⟨(wrap64 (x5_2 + 1)), tq_z, H', ⟨by have := HJ2.out; have := HK2.out; omega⟩, by repeat (first | exact Drawn0.refl _ | apply Drawn0.step)⟩
end Go.Proofs.YtoobmfofkeaibaaDoor.PMax
