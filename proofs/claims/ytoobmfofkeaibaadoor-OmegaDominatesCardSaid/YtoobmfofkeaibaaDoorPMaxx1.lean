/- Lean functions for Go functions, each with the proof that the call returns what it says; printed by wip/tools/myprint.py. -/
-- squeezed
-- tight
import Derived.Test.YtoobmfofkeaibaaDoorTq
import Derived.Test.YtoobmfofkeaibaaDoorPMaxx0
namespace Go.Proofs.YtoobmfofkeaibaaDoor.PMax
open Go.RowKit Go.Proofs.YtoobmfofkeaibaaDoorW.PrintWords Go.Proofs.YtoobmfofkeaibaaDoorW.PrintLast Go.Proofs.YtoobmfofkeaibaaDoorW.PrintMore
attribute [local go_sem] max2_int min2_int max_two min_two max_three min_three max_four min_four   -- for this text's walks alone
set_option linter.unusedVariables false
set_option linter.unusedSimpArgs false

/-- What a listed package-level variable holds: strconv's table of powers of ten. -/
structure LaidW (w : World) : Prop where
 low : 0 < w.heap.size
 tab : Lib.TabIs Tryd.prog w "internal/strconv.uint64pow10" .u64 Lib.pow10Tab
theorem laid_g0 : Tryd.prog.globalNamed "internal/strconv.uint64pow10" = some 0 := by kernel_rfl
theorem LaidW.below {w W : World} (h : LaidW w) (hb : Below w.heap.size w W) : LaidW W := by
 have hs := hb.size
 have hl := h.low
 exact ⟨by omega, var?_below hb laid_g0 (by omega) h.tab⟩

/-! ### marking_Valid: function 34 -/
def marking_Valid.l0 : Nat → List Int → Int → Int → Option (Bool)
 | 0, _, _, _ => none
 | k + 1, x11, x12, x13 => if x13 < x12 then (if 0 ≤ x13 then (if x13 < (x11.length : Int) then (if (rd x11 x13) < 0 then (some false) else (if (rd x11 x13) > 1048576 then (some false) else (marking_Valid.l0 k x11 x12 (wrap64 (x13 + 1))))) else (none)) else (none)) else (some true)
def marking_Valid.f (k : Nat) (l0 : List Int) (a1 : Int) : Option (Bool) := if (l0.length : Int) = a1 then (marking_Valid.l0 k l0 (l0.length : Int) 0) else (some false)
theorem marking_Valid.mono_l : ∀ k, (∀ y0 y1 y2, LeO (marking_Valid.l0 k y0 y1 y2) (marking_Valid.l0 (k + 1) y0 y1 y2))
 | 0 => fun _ _ _ r h => by simp [marking_Valid.l0] at h
 | k + 1 => by
  have ih0 := marking_Valid.mono_l k
  ·intro y0 y1 y2
   unfold marking_Valid.l0
   repeat' (with_reducible first | exact ih0 _ _ _ | exact LeO.refl _ | exact LeO.none _ | refine LeO.ite ?_ ?_ | refine LeO.bind ?_ (fun _ => ?_))
theorem marking_Valid.mono : ∀ a0 a1 k, LeO (marking_Valid.f k a0 a1) (marking_Valid.f (k + 1) a0 a1) := by
 intro a0 a1 k
 have ih0 := marking_Valid.mono_l k
 unfold marking_Valid.f
 repeat' (with_reducible first | exact ih0 _ _ _ | exact LeO.refl _ | exact LeO.none _ | refine LeO.ite ?_ ?_ | refine LeO.bind ?_ (fun _ => ?_))
set_option maxHeartbeats 8000000 in
set_option maxRecDepth 100000 in
theorem marking_Valid.calls (k : Nat) (A0 : Option Addr) (c0 : Nat) (l0 : List Int) (a1 : Int) (r : Bool) (w : World) (hr0 : Kd.C (Kd.int .i64) w A0 l0.length l0) (hc0 : l0.length ≤ c0) (h : marking_Valid.f k l0 a1 = some r) :
  Calls Tryd.prog 34 #[.slice A0 l0.length c0, .int .i64 a1] w fun e w' => e = .returned (.bool r) ∧ Drawn0 w w' := by
 have HR0 := Aside0.mk hr0; have HC0 := Aside0.mk hc0; clear hr0 hc0; have H : (if (l0.length : Int) = a1 then (marking_Valid.l0 k l0 (l0.length : Int) 0) else (some false)) = some r := h; clear h; revert H; refine tq_rr (fun c3 H => ?_) (fun c3 H => ?_); rotate_left
 ·obtain ⟨c3b0, c3b1⟩ := tq_n c3; obtain rfl := Option.some.inj H
  go_enter Tryd.func34, Tryd.ntmps34
  go_wp2
  go_ret
  exact ⟨by first | rfl | (simp; done) | (simp [*]; done), by repeat (first | exact Drawn0.refl _ | apply Drawn0.step)⟩
 obtain ⟨c3b0, c3b1⟩ := tq_e c3; clear c3; have H' := Aside0.mk H; clear H
 go_enter Tryd.func34, Tryd.ntmps34
 go_wp2
 go_loopg [13] k (fun kq v13 w' => ∃ (x13_1 : Int), v13 = .int .i64 x13_1 ∧ Aside0 (marking_Valid.l0 kq l0 (l0.length : Int) x13_1 = some r) ∧ Aside0 (kq ≤ k) ∧ Drawn0 w w')
 case atStart => exact ⟨(0), tq_z, H', ⟨Nat.le_refl _⟩, by repeat (first | exact Drawn0.refl _ | apply Drawn0.step)⟩
 case round =>
  clear H'
  try clear c3b0
  try clear c3b1
  obtain ⟨x13_1, rfl, HA, HK1, ⟨m1, rfl⟩⟩ := hrel
  cases gk with
  | zero => exact absurd HA.out (by simp [marking_Valid.l0])
  | succ k1 =>
   have H := HA.out; clear HA
   simp only [marking_Valid.l0] at H
   revert H; refine tq_dd (fun c4b0 H => ?_) (fun c4b0 H => ?_); rotate_left
   ·obtain rfl := Option.some.inj H
    go_wp2
    go_ret
    exact ⟨by first | rfl | (simp; done) | (simp [*]; done), by repeat (first | exact Drawn0.refl _ | apply Drawn0.step)⟩
   revert H; refine tq_i1 fun c5b0 H => ?_; revert H; refine tq_i1 fun c6b0 H => ?_; revert H; refine tq_dd (fun c7b0 H => ?_) (fun c7b0 H => ?_)
   ·obtain rfl := Option.some.inj H; have p101 : 0 ≤ (x13_1 : Int) := sq_d; have q101 : x13_1 < (l0.length : Int) := sq_d; obtain ⟨ad101, e101, hx101_0⟩ := Kd.at_int HR0.out x13_1 p101 q101; cases e101; replace p101 := eq_true p101; replace q101 := eq_true q101
    go_wp2
    go_ret
    exact ⟨by first | rfl | (simp; done) | (simp [*]; done), by repeat (first | exact Drawn0.refl _ | apply Drawn0.step)⟩
   revert H; refine tq_rr (fun c8 H => ?_) (fun c8 H => ?_)
   ·have c8b0 : decide (1048576 < (rd l0 x13_1)) = true := decide_eq_true c8; clear c8; obtain rfl := Option.some.inj H; have p101 : 0 ≤ (x13_1 : Int) := sq_d; have q101 : x13_1 < (l0.length : Int) := sq_d; obtain ⟨ad101, e101, hx101_0⟩ := Kd.at_int HR0.out x13_1 p101 q101; cases e101; replace p101 := eq_true p101; replace q101 := eq_true q101
    go_wp2
    go_ret
    exact ⟨by first | rfl | (simp; done) | (simp [*]; done), by repeat (first | exact Drawn0.refl _ | apply Drawn0.step)⟩
   have c8b0 : decide (1048576 < (rd l0 x13_1)) = false := decide_eq_false c8; clear c8; have H' := Aside0.mk H; clear H; have p101 : 0 ≤ (x13_1 : Int) := sq_d; have q101 : x13_1 < (l0.length : Int) := sq_d; obtain ⟨ad101, e101, hx101_0⟩ := Kd.at_int HR0.out x13_1 p101 q101; cases e101; replace p101 := eq_true p101; replace q101 := eq_true q101
   go_wp2
   go_roundg k1
   case measure => have := HK1.out; omega
   case rel => exact ⟨(wrap64 (x13_1 + 1)), tq_z, H', ⟨by have := HK1.out; omega⟩, by repeat (first | exact Drawn0.refl _ | apply Drawn0.step)⟩
/-! ### omega_Valid: function 17 -/
def omega_Valid.l0 : Nat → List Int → Int → Int → Option (Bool)
 | 0, _, _, _ => none
 | k + 1, x11, x12, x13 => if x13 < x12 then (if 0 ≤ x13 then (if x13 < (x11.length : Int) then (if (rd x11 x13) = (-1) then (omega_Valid.l0 k x11 x12 (wrap64 (x13 + 1))) else ((marking_Valid.f k (([rd x11 x13] : List Int)) 1).bind fun t106 => (if t106 = true then (omega_Valid.l0 k x11 x12 (wrap64 (x13 + 1))) else (some false)))) else (none)) else (none)) else (some true)
def omega_Valid.f (k : Nat) (l0 : List Int) (a1 : Int) : Option (Bool) := if (l0.length : Int) = a1 then (omega_Valid.l0 k l0 (l0.length : Int) 0) else (some false)
theorem omega_Valid.mono_l : ∀ k, (∀ y0 y1 y2, LeO (omega_Valid.l0 k y0 y1 y2) (omega_Valid.l0 (k + 1) y0 y1 y2))
 | 0 => fun _ _ _ r h => by simp [omega_Valid.l0] at h
 | k + 1 => by
  have ih0 := omega_Valid.mono_l k
  ·intro y0 y1 y2
   unfold omega_Valid.l0
   repeat' (with_reducible first | exact ih0 _ _ _ | exact marking_Valid.mono _ _ _ | exact LeO.refl _ | exact LeO.none _ | refine LeO.ite ?_ ?_ | refine LeO.bind ?_ (fun _ => ?_))
theorem omega_Valid.mono : ∀ a0 a1 k, LeO (omega_Valid.f k a0 a1) (omega_Valid.f (k + 1) a0 a1) := by
 intro a0 a1 k
 have ih0 := omega_Valid.mono_l k
 unfold omega_Valid.f
 repeat' (with_reducible first | exact ih0 _ _ _ | exact marking_Valid.mono _ _ _ | exact LeO.refl _ | exact LeO.none _ | refine LeO.ite ?_ ?_ | refine LeO.bind ?_ (fun _ => ?_))
set_option maxHeartbeats 8000000 in
set_option maxRecDepth 100000 in
theorem omega_Valid.calls (k : Nat) (A0 : Option Addr) (c0 : Nat) (l0 : List Int) (a1 : Int) (r : Bool) (w : World) (hr0 : Kd.C (Kd.int .i64) w A0 l0.length l0) (hc0 : l0.length ≤ c0) (h : omega_Valid.f k l0 a1 = some r) :
  Calls Tryd.prog 17 #[.slice A0 l0.length c0, .int .i64 a1] w fun e w' => e = .returned (.bool r) ∧ Below w.heap.size w w' := by
 have HR0 := Aside0.mk hr0; have HC0 := Aside0.mk hc0; clear hr0 hc0; have HB := Aside0.mk (Below.refl w.heap.size w); have H : (if (l0.length : Int) = a1 then (omega_Valid.l0 k l0 (l0.length : Int) 0) else (some false)) = some r := h; clear h; revert H; refine tq_rr (fun c3 H => ?_) (fun c3 H => ?_); rotate_left
 ·obtain ⟨c3b0, c3b1⟩ := tq_n c3; obtain rfl := Option.some.inj H
  go_enter Tryd.func17, Tryd.ntmps17
  go_wp2
  go_ret
  exact tq_v (sq_bl HB.out)
 obtain ⟨c3b0, c3b1⟩ := tq_e c3; clear c3; have H' := Aside0.mk H; clear H
 go_enter Tryd.func17, Tryd.ntmps17
 go_wp2
 go_loopg [13] k (fun kq v13 w' => ∃ (x13_1 : Int), v13 = .int .i64 x13_1 ∧ Aside0 (omega_Valid.l0 kq l0 (l0.length : Int) x13_1 = some r) ∧ Aside0 (kq ≤ k) ∧ Aside0 (Below w.heap.size w w'))
 case atStart => exact ⟨(0), tq_z, H', ⟨Nat.le_refl _⟩, ⟨sq_bl HB.out⟩⟩
 case round =>
  clear H'
  try clear c3b0
  try clear c3b1
  obtain ⟨x13_1, rfl, HA, HK1, HB⟩ := hrel
  cases gk with
  | zero => exact absurd HA.out (by simp [omega_Valid.l0])
  | succ k1 =>
   have H := HA.out; clear HA
   simp only [omega_Valid.l0] at H
   revert H; refine tq_dd (fun c4b0 H => ?_) (fun c4b0 H => ?_); rotate_left
   ·obtain rfl := Option.some.inj H
    go_wp2
    go_ret
    exact tq_v (sq_bl HB.out)
   revert H; refine tq_i1 fun c5b0 H => ?_; revert H; refine tq_i1 fun c6b0 H => ?_; revert H; refine tq_rr (fun c7 H => ?_) (fun c7 H => ?_)
   ·obtain ⟨c7b0, c7b1⟩ := tq_e c7; clear c7; have H' := Aside0.mk H; clear H; have p102 : 0 ≤ (x13_1 : Int) := sq_d; have q102 : x13_1 < (l0.length : Int) := sq_d; obtain ⟨ad102, e102, hx102_0⟩ := Kd.at_int HR0.out x13_1 p102 q102; cases e102; replace hx102_0 := tq_hx HB hx102_0; replace p102 := eq_true p102; replace q102 := eq_true q102
    go_wp2
    go_roundg k1
    case measure => have := HK1.out; omega
    case rel => exact ⟨(wrap64 (x13_1 + 1)), tq_z, H', ⟨by have := HK1.out; omega⟩, ⟨sq_bl HB.out⟩⟩
   obtain ⟨c7b0, c7b1⟩ := tq_n c7; obtain ⟨y103, hy103⟩ : ∃ y_ : List Int, y_ = (([rd l0 x13_1] : List Int)) := ⟨_, rfl⟩; replace H : ((marking_Valid.f k1 y103 1).bind fun t106 => (if t106 = true then (omega_Valid.l0 k1 l0 (l0.length : Int) (wrap64 (x13_1 + 1))) else (some false))) = some r := by first | (rw [hy103]; exact H) | exact H
   have Ny103 := Aside0.mk hy103; clear hy103; revert H; refine tq_o fun t106 A8 H => ?_; cases t106
   ·replace H := tq_f H; obtain rfl := Option.some.inj H; have p102 : 0 ≤ (x13_1 : Int) := sq_d; have q102 : x13_1 < (l0.length : Int) := sq_d; obtain ⟨ad102, e102, hx102_0⟩ := Kd.at_int HR0.out x13_1 p102 q102; cases e102; replace hx102_0 := tq_hx HB hx102_0; replace p102 := eq_true p102; replace q102 := eq_true q102
    go_wp2_with (first | ((with_reducible refine gate_dst (N := 21) rfl ?_); (try (refine gate_guard (by rfl) ?_; dsimp only)); refine Kd.R_lit (Kd.int .i64) _ 3 ?hg (N := 21) ?hd (xs := ([rd l0 x13_1] : List Int)) (inner := [.int .i64 (rd l0 x13_1)]) (ok := fun _ => True) (okp := fun _ => True) ?hr ?hp (fun _ hk => hk) trivial (Below.refl _ _) (Nat.le_refl _) (by simp) ?_; (case hd => rfl); (case hg => rfl); (case hr => first | (go_simp; done) | (go_simp; rfl)); (case hp => exact (Reps.one (show Kd.M (Kd.int .i64) _ _ _ (rd l0 x13_1) [.int .i64 (rd l0 x13_1)] from rfl) (Reps.none _ _))); intro v104 w13 ho14 hb hg_ hnew_; clear hg_ hnew_; (first | rw [← Ny103.out] at ho14 | (simp only [Int.reduceToNat] at ho14; rw [← Ny103.out] at ho14)); have HO105 := Aside0.mk (Kd.R_lower ho14 (below_size (sq_bl HB.out))); replace HB := tq_s HB hb; clear hb ho14; obtain ⟨Ao15, co15, eo15⟩ := Kd.R_slice HO105.out; subst eo15) | (go_at_call 34; (with_reducible refine (marking_Valid.calls k1 _ _ y103 1 false _ ?s1 ?s2 A8.out).mono ?_); (case s1 => exact sq_kc ((Kd.R_reads' HO105.out).2.2)); (case s2 => exact (Kd.R_reads' HO105.out).2.1); rintro e w' ⟨rfl, ⟨nd, rfl⟩⟩))
    go_ret
    exact tq_v (sq_bl HB.out)
   replace H := tq_t H; have H' := Aside0.mk H; clear H; have p102 : 0 ≤ (x13_1 : Int) := sq_d; have q102 : x13_1 < (l0.length : Int) := sq_d; obtain ⟨ad102, e102, hx102_0⟩ := Kd.at_int HR0.out x13_1 p102 q102; cases e102; replace hx102_0 := tq_hx HB hx102_0; replace p102 := eq_true p102; replace q102 := eq_true q102
   go_wp2_with (first | ((with_reducible refine gate_dst (N := 21) rfl ?_); (try (refine gate_guard (by rfl) ?_; dsimp only)); refine Kd.R_lit (Kd.int .i64) _ 3 ?hg (N := 21) ?hd (xs := ([rd l0 x13_1] : List Int)) (inner := [.int .i64 (rd l0 x13_1)]) (ok := fun _ => True) (okp := fun _ => True) ?hr ?hp (fun _ hk => hk) trivial (Below.refl _ _) (Nat.le_refl _) (by simp) ?_; (case hd => rfl); (case hg => rfl); (case hr => first | (go_simp; done) | (go_simp; rfl)); (case hp => exact (Reps.one (show Kd.M (Kd.int .i64) _ _ _ (rd l0 x13_1) [.int .i64 (rd l0 x13_1)] from rfl) (Reps.none _ _))); intro v104 w10 ho11 hb hg_ hnew_; clear hg_ hnew_; (first | rw [← Ny103.out] at ho11 | (simp only [Int.reduceToNat] at ho11; rw [← Ny103.out] at ho11)); have HO105 := Aside0.mk (Kd.R_lower ho11 (below_size (sq_bl HB.out))); replace HB := tq_s HB hb; clear hb ho11; obtain ⟨Ao12, co12, eo12⟩ := Kd.R_slice HO105.out; subst eo12) | (go_at_call 34; (with_reducible refine (marking_Valid.calls k1 _ _ y103 1 true _ ?s1 ?s2 A8.out).mono ?_); (case s1 => exact sq_kc ((Kd.R_reads' HO105.out).2.2)); (case s2 => exact (Kd.R_reads' HO105.out).2.1); rintro e w' ⟨rfl, ⟨nd, rfl⟩⟩))
   go_roundg k1
   case measure => have := HK1.out; omega
   case rel => exact ⟨(wrap64 (x13_1 + 1)), tq_z, H', ⟨by have := HK1.out; omega⟩, ⟨sq_bl HB.out⟩⟩
/-! ### marking_Leq: function 29 -/
def marking_Leq.l0 : Nat → List Int → List Int → Int → Int → Option (Bool)
 | 0, _, _, _, _ => none
 | k + 1, x0, x1, x12, x13 => if x13 < x12 then (if 0 ≤ x13 then (if x13 < (x0.length : Int) then (if x13 < (x1.length : Int) then (if (rd x0 x13) > (rd x1 x13) then (some false) else (marking_Leq.l0 k x0 x1 x12 (wrap64 (x13 + 1)))) else (none)) else (none)) else (none)) else (some true)
def marking_Leq.f (k : Nat) (l0 : List Int) (l1 : List Int) : Option (Bool) := if (l0.length : Int) = (l1.length : Int) then (marking_Leq.l0 k l0 l1 (l0.length : Int) 0) else (some false)
theorem marking_Leq.mono_l : ∀ k, (∀ y0 y1 y2 y3, LeO (marking_Leq.l0 k y0 y1 y2 y3) (marking_Leq.l0 (k + 1) y0 y1 y2 y3))
 | 0 => fun _ _ _ _ r h => by simp [marking_Leq.l0] at h
 | k + 1 => by
  have ih0 := marking_Leq.mono_l k
  ·intro y0 y1 y2 y3
   unfold marking_Leq.l0
   repeat' (with_reducible first | exact ih0 _ _ _ _ | exact LeO.refl _ | exact LeO.none _ | refine LeO.ite ?_ ?_ | refine LeO.bind ?_ (fun _ => ?_))
theorem marking_Leq.mono : ∀ a0 a1 k, LeO (marking_Leq.f k a0 a1) (marking_Leq.f (k + 1) a0 a1) := by
 intro a0 a1 k
 have ih0 := marking_Leq.mono_l k
 unfold marking_Leq.f
 repeat' (with_reducible first | exact ih0 _ _ _ _ | exact LeO.refl _ | exact LeO.none _ | refine LeO.ite ?_ ?_ | refine LeO.bind ?_ (fun _ => ?_))
set_option maxHeartbeats 8000000 in
set_option maxRecDepth 100000 in
theorem marking_Leq.calls (k : Nat) (A0 : Option Addr) (c0 : Nat) (l0 : List Int) (A1 : Option Addr) (c1 : Nat) (l1 : List Int) (r : Bool) (w : World) (hr0 : Kd.C (Kd.int .i64) w A0 l0.length l0) (hc0 : l0.length ≤ c0) (hr1 : Kd.C (Kd.int .i64) w A1 l1.length l1) (hc1 : l1.length ≤ c1) (h : marking_Leq.f k l0 l1 = some r) :
  Calls Tryd.prog 29 #[.slice A0 l0.length c0, .slice A1 l1.length c1] w fun e w' => e = .returned (.bool r) ∧ Drawn0 w w' := by
 have HR0 := Aside0.mk hr0; have HC0 := Aside0.mk hc0; clear hr0 hc0; have HR1 := Aside0.mk hr1; have HC1 := Aside0.mk hc1; clear hr1 hc1; have H : (if (l0.length : Int) = (l1.length : Int) then (marking_Leq.l0 k l0 l1 (l0.length : Int) 0) else (some false)) = some r := h; clear h; revert H; refine tq_rr (fun c3 H => ?_) (fun c3 H => ?_); rotate_left
 ·obtain ⟨c3b0, c3b1⟩ := tq_n c3; have c3b2 : (l0.length == l1.length) = false := by first | simpa using c3 | (simp at c3 ⊢; omega)
  obtain rfl := Option.some.inj H
  go_enter Tryd.func29, Tryd.ntmps29
  go_wp2
  repeat (go_quiet (fail); try go_wp2)
  go_ret
  exact ⟨by first | rfl | (simp; done) | (simp [*]; done), by repeat (first | exact Drawn0.refl _ | apply Drawn0.step)⟩
 obtain ⟨c3b0, c3b1⟩ := tq_e c3; have c3b2 : (l0.length == l1.length) = true := by first | simpa using c3 | (simp at c3 ⊢; omega)
 clear c3; have H' := Aside0.mk H; clear H
 go_enter Tryd.func29, Tryd.ntmps29
 go_wp2
 repeat (go_quiet (fail); try go_wp2)
 go_loopg [13] k (fun kq v13 w' => ∃ (x13_1 : Int), v13 = .int .i64 x13_1 ∧ Aside0 (marking_Leq.l0 kq l0 l1 (l0.length : Int) x13_1 = some r) ∧ Aside0 (kq ≤ k) ∧ Drawn0 w w')
 case atStart => exact ⟨(0), tq_z, H', ⟨Nat.le_refl _⟩, by repeat (first | exact Drawn0.refl _ | apply Drawn0.step)⟩
 case round =>
  clear H'
  try clear c3b0
  try clear c3b1
  try clear c3b2
  obtain ⟨x13_1, rfl, HA, HK1, ⟨m1, rfl⟩⟩ := hrel
  cases gk with
  | zero => exact absurd HA.out (by simp [marking_Leq.l0])
  | succ k1 =>
   have H := HA.out; clear HA
   simp only [marking_Leq.l0] at H
   revert H; refine tq_dd (fun c4b0 H => ?_) (fun c4b0 H => ?_); rotate_left
   ·obtain rfl := Option.some.inj H
    go_wp2
    repeat (go_quiet (fail); try go_wp2)
    go_ret
    exact ⟨by first | rfl | (simp; done) | (simp [*]; done), by repeat (first | exact Drawn0.refl _ | apply Drawn0.step)⟩
   revert H; refine tq_i1 fun c5b0 H => ?_; revert H; refine tq_i1 fun c6b0 H => ?_; revert H; refine tq_i1 fun c7b0 H => ?_; have HH_ := Aside0.mk H; clear H; have p107 : 0 ≤ (x13_1 : Int) := sq_d; have q107 : x13_1 < (l0.length : Int) := sq_d; obtain ⟨ad107, e107, hx107_0⟩ := Kd.at_int HR0.out x13_1 p107 q107; cases e107; replace p107 := eq_true p107; replace q107 := eq_true q107; have p108 : 0 ≤ (x13_1 : Int) := sq_d; have q108 : x13_1 < (l1.length : Int) := sq_d; obtain ⟨ad108, e108, hx108_0⟩ := Kd.at_int HR1.out x13_1 p108 q108; cases e108; replace p108 := eq_true p108; replace q108 := eq_true q108; have H := HH_.out; clear HH_; revert H; refine tq_rr (fun c8 H => ?_) (fun c8 H => ?_)
   ·have c8b0 : decide ((rd l1 x13_1) < (rd l0 x13_1)) = true := decide_eq_true c8; clear c8; obtain rfl := Option.some.inj H
    go_wp2
    repeat (go_quiet (fail); try go_wp2)
    go_ret
    exact ⟨by first | rfl | (simp; done) | (simp [*]; done), by repeat (first | exact Drawn0.refl _ | apply Drawn0.step)⟩
   have c8b0 : decide ((rd l1 x13_1) < (rd l0 x13_1)) = false := decide_eq_false c8; clear c8; have H' := Aside0.mk H; clear H
   go_wp2
   repeat (go_quiet (fail); try go_wp2)
   go_roundg k1
   case measure => have := HK1.out; omega
   case rel => exact ⟨(wrap64 (x13_1 + 1)), tq_z, H', ⟨by have := HK1.out; omega⟩, by repeat (first | exact Drawn0.refl _ | apply Drawn0.step)⟩
/-! ### omega_rank: function 32 -/
def omega_rank.f (a0 : Int) : Option (Int) := if a0 = (-1) then (some 1048577) else (some a0)
set_option maxHeartbeats 8000000 in
set_option maxRecDepth 100000 in
theorem omega_rank.calls (a0 : Int) (r : Int) (w : World) (h : omega_rank.f a0 = some r) :
  Calls Tryd.prog 32 #[.int .i64 a0] w fun e w' => e = .returned (.int .i64 r) ∧ Drawn0 w w' := by
 have H : (if a0 = (-1) then (some 1048577) else (some a0)) = some r := h; clear h; revert H; refine tq_rr (fun c2 H => ?_) (fun c2 H => ?_); rotate_left
 ·obtain ⟨c2b0, c2b1⟩ := tq_n c2; obtain rfl := Option.some.inj H
  go_enter Tryd.func32, Tryd.ntmps32
  go_wp2
  go_ret
  exact ⟨by first | rfl | (simp; done) | (simp [*]; done), by repeat (first | exact Drawn0.refl _ | apply Drawn0.step)⟩
 obtain ⟨c2b0, c2b1⟩ := tq_e c2; clear c2; obtain rfl := Option.some.inj H
 go_enter Tryd.func32, Tryd.ntmps32
 go_wp2
 go_ret
 exact ⟨by first | rfl | (simp; done) | (simp [*]; done), by repeat (first | exact Drawn0.refl _ | apply Drawn0.step)⟩
/-! ### omega_ranks: function 30 -/
def omega_ranks.l0 : Nat → List Int → List Int → Int → Int → Option (List Int)
 | 0, _, _, _, _ => none
 | k + 1, x3, x9, x10, x11 => if x11 < x10 then (if 0 ≤ x11 then (if x11 < (x9.length : Int) then ((omega_rank.f (rd x9 x11)).bind fun t113 => (if x11 < (x3.length : Int) then (omega_ranks.l0 k (x3.set (x11 : Int).toNat t113) x9 x10 (wrap64 (x11 + 1))) else (none))) else (none)) else (none)) else (some x3)
def omega_ranks.f (k : Nat) (l0 : List Int) : Option (List Int) := if 0 ≤ (l0.length : Int) then (if ((l0.length : Int) : Int).toNat ≤ 35184372088832 then (omega_ranks.l0 k (List.replicate ((l0.length : Int) : Int).toNat 0) l0 (l0.length : Int) 0) else (none)) else (none)
theorem omega_ranks.mono_l : ∀ k, (∀ y0 y1 y2 y3, LeO (omega_ranks.l0 k y0 y1 y2 y3) (omega_ranks.l0 (k + 1) y0 y1 y2 y3))
 | 0 => fun _ _ _ _ r h => by simp [omega_ranks.l0] at h
 | k + 1 => by
  have ih0 := omega_ranks.mono_l k
  ·intro y0 y1 y2 y3
   unfold omega_ranks.l0
   repeat' (with_reducible first | exact ih0 _ _ _ _ | exact LeO.refl _ | exact LeO.none _ | refine LeO.ite ?_ ?_ | refine LeO.bind ?_ (fun _ => ?_))
theorem omega_ranks.mono : ∀ a0 k, LeO (omega_ranks.f k a0) (omega_ranks.f (k + 1) a0) := by
 intro a0 k
 have ih0 := omega_ranks.mono_l k
 unfold omega_ranks.f
 repeat' (with_reducible first | exact ih0 _ _ _ _ | exact LeO.refl _ | exact LeO.none _ | refine LeO.ite ?_ ?_ | refine LeO.bind ?_ (fun _ => ?_))
set_option maxHeartbeats 8000000 in
set_option maxRecDepth 100000 in
theorem omega_ranks.calls (k : Nat) (A0 : Option Addr) (c0 : Nat) (l0 : List Int) (r : List Int) (w : World) (hr0 : Kd.C (Kd.int .i64) w A0 l0.length l0) (hc0 : l0.length ≤ c0) (h : omega_ranks.f k l0 = some r) :
  Calls Tryd.prog 30 #[.slice A0 l0.length c0] w fun e w' => ∃ v0_ : Value, e = .returned (v0_) ∧ Kd.R (Kd.int .i64) 3 w' w.heap.size (fun _ => True) v0_ r ∧ Below w.heap.size w w' := by
 have HR0 := Aside0.mk hr0; have HC0 := Aside0.mk hc0; clear hr0 hc0; have HB := Aside0.mk (Below.refl w.heap.size w); have H : (if 0 ≤ (l0.length : Int) then (if ((l0.length : Int) : Int).toNat ≤ 35184372088832 then (omega_ranks.l0 k (List.replicate ((l0.length : Int) : Int).toNat 0) l0 (l0.length : Int) 0) else (none)) else (none)) = some r := h; clear h; revert H; refine tq_ie fun c2b0 c2b1 H => ?_; revert H; refine tq_ie fun c3b0 c3b1 H => ?_; obtain ⟨y109, hy109⟩ : ∃ y_ : List Int, y_ = (List.replicate ((l0.length : Int) : Int).toNat 0) := ⟨_, rfl⟩; replace H : (omega_ranks.l0 k y109 l0 (l0.length : Int) 0) = some r := by first | (rw [hy109]; exact H) | exact H
 have Ny109 := Aside0.mk hy109; clear hy109; have H' := Aside0.mk H; clear H
 go_enter Tryd.func30, Tryd.ntmps30
 go_wp2_with (first | ((with_reducible refine gate_dst (N := 8) rfl ?_); refine Kd.R_make (Kd.int .i64) _ 3 rfl (N := 8) rfl 22 _ _ rfl (l0.length : Int) rfl rfl Tryd.underlying22 (.int .i64 0) 8 info3 rfl (by decide) (by omega) 0 (ok := fun _ => True) (okp := fun _ => True) rfl (fun _ hk => hk) trivial sq_d (Nat.le_trans (Nat.mul_le_mul_right _ (sq_d : (l0.length : Int).toNat ≤ 35184372088832)) (by omega)) (Below.refl _ _) (Nat.le_refl _) ?_; intro v110 w4 ho5 hb hg_ hnew_; clear hg_ hnew_; (first | rw [← Ny109.out] at ho5 | (simp only [Int.reduceToNat] at ho5; rw [← Ny109.out] at ho5)); have HO111 := Aside0.mk (Kd.R_lower ho5 (below_size (sq_bl HB.out))); replace HB := tq_s HB hb; clear hb ho5))
 go_loopg [11] k (fun kq v11 w' => ∃ (x3_1 : List Int) (x11_1 : Int), v11 = .int .i64 x11_1 ∧ Aside0 (omega_ranks.l0 kq x3_1 l0 (l0.length : Int) x11_1 = some r) ∧ Aside0 (kq ≤ k) ∧ Aside0 (Kd.R (Kd.int .i64) 3 w' w.heap.size (fun _ => True) v110 x3_1) ∧ Aside0 (Below w.heap.size w w'))
 case atStart => exact ⟨(y109), (0), tq_z, H', ⟨Nat.le_refl _⟩, ⟨sq_kr HO111.out⟩, ⟨sq_bl HB.out⟩⟩
 case round =>
  clear H'
  try clear c2b0
  try clear c2b1
  try clear c3b0
  try clear c3b1
  obtain ⟨x3_1, x11_1, rfl, HA, HK1, HO_3, HB⟩ := hrel
  cases gk with
  | zero => exact absurd HA.out (by simp [omega_ranks.l0])
  | succ k1 =>
   have H := HA.out; clear HA
   simp only [omega_ranks.l0] at H
   revert H; refine tq_dd (fun c6b0 H => ?_) (fun c6b0 H => ?_); rotate_left
   ·obtain rfl := Option.some.inj H
    go_wp2
    go_ret
    exact ⟨_, tq_v ⟨sq_kr HO_3.out, sq_bl HB.out⟩⟩
   revert H; refine tq_i1 fun c7b0 H => ?_; revert H; refine tq_i1 fun c8b0 H => ?_; revert H; refine tq_o fun t113 A9 H => ?_; revert H; refine tq_i1 fun c10b0 H => ?_; obtain ⟨y114, hy114⟩ : ∃ y_ : List Int, y_ = (x3_1.set (x11_1 : Int).toNat t113) := ⟨_, rfl⟩; replace H : (omega_ranks.l0 k1 y114 l0 (l0.length : Int) (wrap64 (x11_1 + 1))) = some r := by first | (rw [hy114]; exact H) | exact H
   have Ny114 := Aside0.mk hy114; clear hy114; have H' := Aside0.mk H; clear H; have p112 : 0 ≤ (x11_1 : Int) := sq_d; have q112 : x11_1 < (l0.length : Int) := sq_d; obtain ⟨ad112, e112, hx112_0⟩ := Kd.at_int HR0.out x11_1 p112 q112; cases e112; replace hx112_0 := tq_hx HB hx112_0; replace p112 := eq_true p112; replace q112 := eq_true q112
   go_wp2_with (first | ((with_reducible refine gate_callee (f := 32) rfl ?_); refine sq_goes (some 19) Tryd.func32 #[.int .i64 (rd l0 x11_1)] ?_; (with_reducible refine (omega_rank.calls (rd l0 x11_1) t113 _ A9.out).mono ?_); rintro e w' ⟨rfl, ⟨nd, rfl⟩⟩; refine ⟨_, rfl, ?_⟩; (try (rw [drewN_self wr]; generalize hq_ : World.drewN wr _ = wr; have n0_ : Aside0 (Kd.R (Kd.int .i64) 3 wr w.heap.size (fun _ => True) v110 x3_1) := ⟨by rw [← hq_]; exact (sq_kr HO_3.out)⟩; have n1_ : Aside0 (Below w.heap.size w wr) := ⟨by rw [← hq_]; exact (sq_bl HB.out)⟩; clear HO_3 HB hq_; have HO_3 := n0_; have HB := n1_; clear n0_ n1_)); have p11 : 0 ≤ (x11_1 : Int) := sq_d; have q11 : (x11_1 : Int) < ((x3_1.length : Int) : Int) := sq_d; obtain ⟨go11, co11, eo11, gb11, gl11, cl11, HG11⟩ := Kd.R_form HO_3.out (by omega); (first | cases eo11 | (injection eo11 with ea_ en_ ec_; (first | subst ea_ | (injection ea_ with ea_; subst ea_)); subst ec_; clear en_)); have GB11 := Aside0.mk gb11; have GG11 := Aside0.mk HG11; clear gb11 gl11 HG11; obtain ⟨hx11_0, hf11_0⟩ := Kd.R_celln 0 HO_3.out (x11_1 : Int) p11 q11; replace p11 := eq_true p11; replace q11 := eq_true q11; obtain ⟨hy12_, hz12_⟩ := Kd.R_celln 0 HO_3.out (x11_1 : Int) sq_d sq_d; have HP12 := Kd.R_putg HO_3.out (x11_1 : Int) t113) | ((with_reducible refine gate_store (t := 3) (p := 20) rfl ?_); refine store_event (t := 3) (p := 20) (v := ?vo_w13) (w1 := (wr.setCell ⟨go11, (x11_1 : Int).toNat, none⟩ (.int .i64 t113))) ?hg ?ho ?hn ?hr ?_; (case ho => rfl); (case hg => rfl); (case hn => rfl); (case hr => first | (go_simp; done) | (go_simp; rfl)); intro w13 hw; have hg : wr.grownBy w13 (some go11) := (by rw [hw]; exact HP12.2); have hp_ : Kd.R (Kd.int .i64) 3 w13 w.heap.size (fun _ => True) (.slice (some ⟨go11, 0, none⟩) x3_1.length co11) y114 := (by rw [hw, Ny114.out]; exact HP12.1); clear HP12; replace HO_3 := Aside0.mk hp_; replace HB := Aside0.mk (by rw [hw]; exact below_set (HB.out) GB11.out : Below w.heap.size w w13); clear hg hw hp_))
   go_roundg k1
   case measure => have := HK1.out; omega
   case rel => exact ⟨(y114), (wrap64 (x11_1 + 1)), tq_z, H', ⟨by have := HK1.out; omega⟩, ⟨sq_kr HO_3.out⟩, ⟨sq_bl HB.out⟩⟩
/-! ### omega_Leq: function 9 -/
def omega_Leq.f (k : Nat) (l0 : List Int) (l1 : List Int) : Option (Bool) := (omega_Valid.f k l0 (l1.length : Int)).bind fun t115 => (if t115 = true then ((omega_Valid.f k l1 (l1.length : Int)).bind fun t116 => (if t116 = true then ((omega_ranks.f k l0).bind fun t117 => ((omega_ranks.f k l1).bind fun t120 => ((marking_Leq.f k t117 t120).bind fun t123 => (some t123)))) else (some false))) else (some false))
theorem omega_Leq.mono : ∀ a0 a1 k, LeO (omega_Leq.f k a0 a1) (omega_Leq.f (k + 1) a0 a1) := by
 intro a0 a1 k
 unfold omega_Leq.f
 repeat' (with_reducible first | exact marking_Leq.mono _ _ _ | exact omega_Valid.mono _ _ _ | exact omega_ranks.mono _ _ | exact LeO.refl _ | exact LeO.none _ | refine LeO.ite ?_ ?_ | refine LeO.bind ?_ (fun _ => ?_))
set_option maxHeartbeats 8000000 in
set_option maxRecDepth 100000 in
theorem omega_Leq.calls (k : Nat) (A0 : Option Addr) (c0 : Nat) (l0 : List Int) (A1 : Option Addr) (c1 : Nat) (l1 : List Int) (r : Bool) (w : World) (hr0 : Kd.C (Kd.int .i64) w A0 l0.length l0) (hc0 : l0.length ≤ c0) (hr1 : Kd.C (Kd.int .i64) w A1 l1.length l1) (hc1 : l1.length ≤ c1) (h : omega_Leq.f k l0 l1 = some r) :
  Calls Tryd.prog 9 #[.slice A0 l0.length c0, .slice A1 l1.length c1] w fun e w' => e = .returned (.bool r) ∧ Below w.heap.size w w' := by
 have HR0 := Aside0.mk hr0; have HC0 := Aside0.mk hc0; clear hr0 hc0; have HR1 := Aside0.mk hr1; have HC1 := Aside0.mk hc1; clear hr1 hc1; have HB := Aside0.mk (Below.refl w.heap.size w); have H : ((omega_Valid.f k l0 (l1.length : Int)).bind fun t115 => (if t115 = true then ((omega_Valid.f k l1 (l1.length : Int)).bind fun t116 => (if t116 = true then ((omega_ranks.f k l0).bind fun t117 => ((omega_ranks.f k l1).bind fun t120 => ((marking_Leq.f k t117 t120).bind fun t123 => (some t123)))) else (some false))) else (some false))) = some r := h; clear h; revert H; refine tq_o fun t115 A3 H => ?_; cases t115
 ·replace H := tq_f H; obtain rfl := Option.some.inj H
  go_enter Tryd.func9, Tryd.ntmps9
  go_wp2_with (first | ((with_reducible refine gate_callee (f := 17) rfl ?_); refine sq_goes (some 8) Tryd.func17 #[.slice A0 l0.length c0, .int .i64 (l1.length : Int)] ?_; (with_reducible refine (omega_Valid.calls k _ _ l0 (l1.length : Int) false _ ?s1 ?s2 A3.out).mono ?_); (case s1 => exact sq_kc (HR0.out)); (case s2 => exact HC0.out); rintro e w18 ⟨rfl, hb⟩; refine ⟨_, rfl, ?_⟩; replace HB := tq_s HB hb; (try clear hb)))
  go_ret
  exact tq_v (sq_bl HB.out)
 replace H := tq_t H; revert H; refine tq_o fun t116 A5 H => ?_; cases t116
 ·replace H := tq_f H; obtain rfl := Option.some.inj H
  go_enter Tryd.func9, Tryd.ntmps9
  go_wp2_with (first | ((with_reducible refine gate_callee (f := 17) rfl ?_); refine sq_goes (some 8) Tryd.func17 #[.slice A0 l0.length c0, .int .i64 (l1.length : Int)] ?_; (with_reducible refine (omega_Valid.calls k _ _ l0 (l1.length : Int) true _ ?s1 ?s2 A3.out).mono ?_); (case s1 => exact sq_kc (HR0.out)); (case s2 => exact HC0.out); rintro e w16 ⟨rfl, hb⟩; refine ⟨_, rfl, ?_⟩; replace HB := tq_s HB hb; (try clear hb)) | (go_at_call 17; (with_reducible refine (omega_Valid.calls k _ _ l1 (l1.length : Int) false _ ?s1 ?s2 A5.out).mono ?_); (case s1 => exact tq_c HR1 HB); (case s2 => exact HC1.out); rintro e w17 ⟨rfl, hb⟩; replace HB := tq_s HB hb; (try clear hb)))
  go_ret
  exact tq_v (sq_bl HB.out)
 replace H := tq_t H; revert H; refine tq_o fun t117 A7 H => ?_; revert H; refine tq_o fun t120 A8 H => ?_; revert H; refine tq_o fun t123 A9 H => ?_; obtain rfl := Option.some.inj H
 go_enter Tryd.func9, Tryd.ntmps9
 go_wp2_with (first | ((with_reducible refine gate_callee (f := 17) rfl ?_); refine sq_goes (some 8) Tryd.func17 #[.slice A0 l0.length c0, .int .i64 (l1.length : Int)] ?_; (with_reducible refine (omega_Valid.calls k _ _ l0 (l1.length : Int) true _ ?s1 ?s2 A3.out).mono ?_); (case s1 => exact sq_kc (HR0.out)); (case s2 => exact HC0.out); rintro e w10 ⟨rfl, hb⟩; refine ⟨_, rfl, ?_⟩; replace HB := tq_s HB hb; (try clear hb)) | (go_at_call 17; (with_reducible refine (omega_Valid.calls k _ _ l1 (l1.length : Int) true _ ?s1 ?s2 A5.out).mono ?_); (case s1 => exact tq_c HR1 HB); (case s2 => exact HC1.out); rintro e w11 ⟨rfl, hb⟩; replace HB := tq_s HB hb; (try clear hb)) | (go_at_call 30; (with_reducible refine (omega_ranks.calls k _ _ l0 t117 _ ?s1 ?s2 A7.out).mono ?_); (case s1 => exact tq_c HR0 HB); (case s2 => exact HC0.out); rintro e w12 ⟨v118, rfl, ho0, hb⟩; have HO119 := Aside0.mk (Kd.R_lower ho0 (below_size (sq_bl HB.out))); replace HB := tq_s HB hb; (try clear hb); (try clear ho0)) | (go_at_call 30; (with_reducible refine (omega_ranks.calls k _ _ l1 t120 _ ?s1 ?s2 A8.out).mono ?_); (case s1 => exact tq_c HR1 HB); (case s2 => exact HC1.out); rintro e w13 ⟨v121, rfl, ho0, hb⟩; have HO122 := Aside0.mk (Kd.R_lower (Kd.R_new' ho0 (Kd.R_lt (sq_kr HO119.out))) (below_size (sq_bl HB.out))); replace HO119 := Aside0.mk (Kd.R_elder' (sq_kr HO119.out) (Kd.R_base ho0) hb); replace HB := tq_s HB hb; (try clear hb); (try clear ho0); obtain ⟨Ao14, co14, eo14⟩ := Kd.R_slice HO119.out; subst eo14; obtain ⟨Ao15, co15, eo15⟩ := Kd.R_slice HO122.out; subst eo15) | (go_at_call 29; (with_reducible refine (marking_Leq.calls k _ _ t117 _ _ t120 t123 _ ?s1 ?s2 ?s3 ?s4 A9.out).mono ?_); (case s1 => exact sq_kc ((Kd.R_reads' HO119.out).2.2)); (case s2 => exact (Kd.R_reads' HO119.out).2.1); (case s3 => exact sq_kc ((Kd.R_reads' HO122.out).2.2)); (case s4 => exact (Kd.R_reads' HO122.out).2.1); rintro e w' ⟨rfl, ⟨nd, rfl⟩⟩))
 go_ret
 exact tq_v (sq_bl HB.out)
/-! ### omega_Covers: function 11 -/
def omega_Covers.l0 : Nat → List Int → List Int → List Int → Int → Int → Option (Bool)
 | 0, _, _, _, _, _ => none
 | k + 1, x0, x1, x7, x8, x9 => if x9 < x8 then (if 0 ≤ x9 then (if x9 < (x7.length : Int) then (if (rd x7 x9) = (-1) then (some false) else (omega_Covers.l0 k x0 x1 x7 x8 (wrap64 (x9 + 1)))) else (none)) else (none)) else ((omega_Leq.f k x1 x0).bind fun t125 => (some t125))
def omega_Covers.f (k : Nat) (l0 : List Int) (l1 : List Int) : Option (Bool) := omega_Covers.l0 k l0 l1 l1 (l1.length : Int) 0
theorem omega_Covers.mono_l : ∀ k, (∀ y0 y1 y2 y3 y4, LeO (omega_Covers.l0 k y0 y1 y2 y3 y4) (omega_Covers.l0 (k + 1) y0 y1 y2 y3 y4))
 | 0 => fun _ _ _ _ _ r h => by simp [omega_Covers.l0] at h
 | k + 1 => by
  have ih0 := omega_Covers.mono_l k
  ·intro y0 y1 y2 y3 y4
   unfold omega_Covers.l0
   repeat' (with_reducible first | exact ih0 _ _ _ _ _ | exact omega_Leq.mono _ _ _ | exact LeO.refl _ | exact LeO.none _ | refine LeO.ite ?_ ?_ | refine LeO.bind ?_ (fun _ => ?_))
theorem omega_Covers.mono : ∀ a0 a1 k, LeO (omega_Covers.f k a0 a1) (omega_Covers.f (k + 1) a0 a1) := by
 intro a0 a1 k
 have ih0 := omega_Covers.mono_l k
 unfold omega_Covers.f
 repeat' (with_reducible first | exact ih0 _ _ _ _ _ | exact omega_Leq.mono _ _ _ | exact LeO.refl _ | exact LeO.none _ | refine LeO.ite ?_ ?_ | refine LeO.bind ?_ (fun _ => ?_))
set_option maxHeartbeats 8000000 in
set_option maxRecDepth 100000 in
theorem omega_Covers.calls (k : Nat) (A0 : Option Addr) (c0 : Nat) (l0 : List Int) (A1 : Option Addr) (c1 : Nat) (l1 : List Int) (r : Bool) (w : World) (hr0 : Kd.C (Kd.int .i64) w A0 l0.length l0) (hc0 : l0.length ≤ c0) (hr1 : Kd.C (Kd.int .i64) w A1 l1.length l1) (hc1 : l1.length ≤ c1) (h : omega_Covers.f k l0 l1 = some r) :
  Calls Tryd.prog 11 #[.slice A0 l0.length c0, .slice A1 l1.length c1] w fun e w' => e = .returned (.bool r) ∧ Below w.heap.size w w' := by
 have HR0 := Aside0.mk hr0; have HC0 := Aside0.mk hc0; clear hr0 hc0; have HR1 := Aside0.mk hr1; have HC1 := Aside0.mk hc1; clear hr1 hc1; have HB := Aside0.mk (Below.refl w.heap.size w); have H : (omega_Covers.l0 k l0 l1 l1 (l1.length : Int) 0) = some r := h; clear h; have H' := Aside0.mk H; clear H
 go_enter Tryd.func11, Tryd.ntmps11
 go_wp2
 go_loopg [9] k (fun kq v9 w' => ∃ (x9_1 : Int), v9 = .int .i64 x9_1 ∧ Aside0 (omega_Covers.l0 kq l0 l1 l1 (l1.length : Int) x9_1 = some r) ∧ Aside0 (kq ≤ k) ∧ Aside0 (Below w.heap.size w w'))
 case atStart => exact ⟨(0), tq_z, H', ⟨Nat.le_refl _⟩, ⟨sq_bl HB.out⟩⟩
 case round =>
  clear H'; obtain ⟨x9_1, rfl, HA, HK1, HB⟩ := hrel
  cases gk with
  | zero => exact absurd HA.out (by simp [omega_Covers.l0])
  | succ k1 =>
   have H := HA.out; clear HA
   simp only [omega_Covers.l0] at H
   revert H; refine tq_dd (fun c3b0 H => ?_) (fun c3b0 H => ?_); rotate_left
   ·revert H; refine tq_o fun t125 A7 H => ?_; obtain rfl := Option.some.inj H
    go_wp2_with (first | ((with_reducible refine gate_callee (f := 9) rfl ?_); refine sq_goes (some 18) Tryd.func9 #[.slice A1 l1.length c1, .slice A0 l0.length c0] ?_; (with_reducible refine (omega_Leq.calls k1 _ _ l1 _ _ l0 t125 _ ?s1 ?s2 ?s3 ?s4 A7.out).mono ?_); (case s1 => exact tq_c HR1 HB); (case s2 => exact HC1.out); (case s3 => exact tq_c HR0 HB); (case s4 => exact HC0.out); rintro e w8 ⟨rfl, hb⟩; refine ⟨_, rfl, ?_⟩; replace HB := tq_s HB hb; (try clear hb)))
    go_ret
    exact tq_v (sq_bl HB.out)
   revert H; refine tq_i1 fun c4b0 H => ?_; revert H; refine tq_i1 fun c5b0 H => ?_; revert H; refine tq_rr (fun c6 H => ?_) (fun c6 H => ?_)
   ·obtain ⟨c6b0, c6b1⟩ := tq_e c6; clear c6; obtain rfl := Option.some.inj H; have p124 : 0 ≤ (x9_1 : Int) := sq_d; have q124 : x9_1 < (l1.length : Int) := sq_d; obtain ⟨ad124, e124, hx124_0⟩ := Kd.at_int HR1.out x9_1 p124 q124; cases e124; replace hx124_0 := tq_hx HB hx124_0; replace p124 := eq_true p124; replace q124 := eq_true q124
    go_wp2
    go_ret
    exact tq_v (sq_bl HB.out)
   obtain ⟨c6b0, c6b1⟩ := tq_n c6; have H' := Aside0.mk H; clear H; have p124 : 0 ≤ (x9_1 : Int) := sq_d; have q124 : x9_1 < (l1.length : Int) := sq_d; obtain ⟨ad124, e124, hx124_0⟩ := Kd.at_int HR1.out x9_1 p124 q124; cases e124; replace hx124_0 := tq_hx HB hx124_0; replace p124 := eq_true p124; replace q124 := eq_true q124
   go_wp2
   go_roundg k1
   case measure => have := HK1.out; omega
   case rel => exact ⟨(wrap64 (x9_1 + 1)), tq_z, H', ⟨by have := HK1.out; omega⟩, ⟨sq_bl HB.out⟩⟩
end Go.Proofs.YtoobmfofkeaibaaDoor.PMax
