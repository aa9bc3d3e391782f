/- Lean functions for Go functions, each with the proof that the call returns what it says; printed by wip/tools/myprint.py. -/
-- squeezed
-- tight
import Derived.Test.YtoobmfofkeaibaaDoorTq
import Derived.Test.YtoobmfofkeaibaaDoorPMaxx0
import Derived.Test.YtoobmfofkeaibaaDoorPMaxx1
namespace Go.Proofs.YtoobmfofkeaibaaDoor.PMax
open Go.RowKit Go.Proofs.YtoobmfofkeaibaaDoorW.PrintWords Go.Proofs.YtoobmfofkeaibaaDoorW.PrintLast Go.Proofs.YtoobmfofkeaibaaDoorW.PrintMore
attribute [local go_sem] max2_int min2_int max_two min_two max_three min_three max_four min_four   -- for this text's walks alone
set_option linter.unusedVariables false
set_option linter.unusedSimpArgs false

/-! ### omega_extended_below: function 38 -/
def omega_extended_below.f (k : Nat) (l0 : List Int) (l1 : List Int) : Option (Bool) := (omega_Leq.f k l0 l1).bind fun t162 => (if t162 = true then ((omega_Leq.f k l1 l0).bind fun t163 => (some (!t163))) else (some false))
theorem omega_extended_below.mono : ∀ a0 a1 k, LeO (omega_extended_below.f k a0 a1) (omega_extended_below.f (k + 1) a0 a1) := by
 intro a0 a1 k
 unfold omega_extended_below.f
 repeat' (with_reducible first | exact omega_Leq.mono _ _ _ | exact LeO.refl _ | exact LeO.none _ | refine LeO.ite ?_ ?_ | refine LeO.bind ?_ (fun _ => ?_))
set_option maxHeartbeats 8000000 in
set_option maxRecDepth 100000 in
theorem omega_extended_below.calls (k : Nat) (A0 : Option Addr) (c0 : Nat) (l0 : List Int) (A1 : Option Addr) (c1 : Nat) (l1 : List Int) (r : Bool) (w : World) (hr0 : Kd.C (Kd.int .i64) w A0 l0.length l0) (hc0 : l0.length ≤ c0) (hr1 : Kd.C (Kd.int .i64) w A1 l1.length l1) (hc1 : l1.length ≤ c1) (h : omega_extended_below.f k l0 l1 = some r) :
  Calls Tryd.prog 38 #[.slice A0 l0.length c0, .slice A1 l1.length c1] w fun e w' => e = .returned (.bool r) ∧ Below w.heap.size w w' := by
 have HR0 := Aside0.mk hr0; have HC0 := Aside0.mk hc0; clear hr0 hc0; have HR1 := Aside0.mk hr1; have HC1 := Aside0.mk hc1; clear hr1 hc1; have HB := Aside0.mk (Below.refl w.heap.size w); have H : ((omega_Leq.f k l0 l1).bind fun t162 => (if t162 = true then ((omega_Leq.f k l1 l0).bind fun t163 => (some (!t163))) else (some false))) = some r := h; clear h; revert H; refine tq_o fun t162 A3 H => ?_; cases t162
 ·replace H := tq_f H; obtain rfl := Option.some.inj H
  go_enter Tryd.func38, Tryd.ntmps38
  go_wp2_with (first | ((with_reducible refine gate_callee (f := 9) rfl ?_); refine sq_goes (some 7) Tryd.func9 #[.slice A0 l0.length c0, .slice A1 l1.length c1] ?_; (with_reducible refine (omega_Leq.calls k _ _ l0 _ _ l1 false _ ?s1 ?s2 ?s3 ?s4 A3.out).mono ?_); (case s1 => exact sq_kc (HR0.out)); (case s2 => exact HC0.out); (case s3 => exact sq_kc (HR1.out)); (case s4 => exact HC1.out); rintro e w8 ⟨rfl, hb⟩; refine ⟨_, rfl, ?_⟩; replace HB := tq_s HB hb; (try clear hb)))
  go_ret
  exact tq_v (sq_bl HB.out)
 replace H := tq_t H; revert H; refine tq_o fun t163 A5 H => ?_; obtain rfl := Option.some.inj H
 go_enter Tryd.func38, Tryd.ntmps38
 go_wp2_with (first | ((with_reducible refine gate_callee (f := 9) rfl ?_); refine sq_goes (some 7) Tryd.func9 #[.slice A0 l0.length c0, .slice A1 l1.length c1] ?_; (with_reducible refine (omega_Leq.calls k _ _ l0 _ _ l1 true _ ?s1 ?s2 ?s3 ?s4 A3.out).mono ?_); (case s1 => exact sq_kc (HR0.out)); (case s2 => exact HC0.out); (case s3 => exact sq_kc (HR1.out)); (case s4 => exact HC1.out); rintro e w6 ⟨rfl, hb⟩; refine ⟨_, rfl, ?_⟩; replace HB := tq_s HB hb; (try clear hb)) | (go_at_call 9; (with_reducible refine (omega_Leq.calls k _ _ l1 _ _ l0 t163 _ ?s1 ?s2 ?s3 ?s4 A5.out).mono ?_); (case s1 => exact tq_c HR1 HB); (case s2 => exact HC1.out); (case s3 => exact tq_c HR0 HB); (case s4 => exact HC0.out); rintro e w7 ⟨rfl, hb⟩; replace HB := tq_s HB hb; (try clear hb)))
 go_ret
 exact tq_v (sq_bl HB.out)
/-! ### omega_some: function 37 -/
def omega_some.l0 : Nat → List Int → List (List Int) → Int → Int → Option (Bool)
 | 0, _, _, _, _ => none
 | k + 1, x1, x7, x8, x9 => if x9 < x8 then (if 0 ≤ x9 then (if x9 < (x7.length : Int) then ((omega_extended_below.f k x1 (rd_L2 x7 x9)).bind fun t165 => (if t165 = true then (some true) else (omega_some.l0 k x1 x7 x8 (wrap64 (x9 + 1))))) else (none)) else (none)) else (some false)
def omega_some.f (k : Nat) (l0 : List (List Int)) (l1 : List Int) : Option (Bool) := omega_some.l0 k l1 l0 (l0.length : Int) 0
theorem omega_some.mono_l : ∀ k, (∀ y0 y1 y2 y3, LeO (omega_some.l0 k y0 y1 y2 y3) (omega_some.l0 (k + 1) y0 y1 y2 y3))
 | 0 => fun _ _ _ _ r h => by simp [omega_some.l0] at h
 | k + 1 => by
  have ih0 := omega_some.mono_l k
  ·intro y0 y1 y2 y3
   unfold omega_some.l0
   repeat' (with_reducible first | exact ih0 _ _ _ _ | exact omega_extended_below.mono _ _ _ | exact LeO.refl _ | exact LeO.none _ | refine LeO.ite ?_ ?_ | refine LeO.bind ?_ (fun _ => ?_))
theorem omega_some.mono : ∀ a0 a1 k, LeO (omega_some.f k a0 a1) (omega_some.f (k + 1) a0 a1) := by
 intro a0 a1 k
 have ih0 := omega_some.mono_l k
 unfold omega_some.f
 repeat' (with_reducible first | exact ih0 _ _ _ _ | exact omega_extended_below.mono _ _ _ | exact LeO.refl _ | exact LeO.none _ | refine LeO.ite ?_ ?_ | refine LeO.bind ?_ (fun _ => ?_))
set_option maxHeartbeats 8000000 in
set_option maxRecDepth 100000 in
theorem omega_some.calls (k : Nat) (A0 : Option Addr) (c0 : Nat) (l0 : List (List Int)) (A1 : Option Addr) (c1 : Nat) (l1 : List Int) (r : Bool) (w : World) (hr0 : Kd.C (Kd.slice 3 (Kd.int .i64)) w A0 l0.length l0) (hc0 : l0.length ≤ c0) (hr1 : Kd.C (Kd.int .i64) w A1 l1.length l1) (hc1 : l1.length ≤ c1) (h : omega_some.f k l0 l1 = some r) :
  Calls Tryd.prog 37 #[.slice A0 l0.length c0, .func (.func 38) #[.slice A1 l1.length c1] #[]] w fun e w' => e = .returned (.bool r) ∧ Below w.heap.size w w' := by
 have HR0 := Aside0.mk hr0; have HC0 := Aside0.mk hc0; clear hr0 hc0; have HR1 := Aside0.mk hr1; have HC1 := Aside0.mk hc1; clear hr1 hc1; have HB := Aside0.mk (Below.refl w.heap.size w); have H : (omega_some.l0 k l1 l0 (l0.length : Int) 0) = some r := h; clear h; have H' := Aside0.mk H; clear H
 go_enter Tryd.func37, Tryd.ntmps37
 go_wp2
 go_loopg [9] k (fun kq v9 w' => ∃ (x9_1 : Int), v9 = .int .i64 x9_1 ∧ Aside0 (omega_some.l0 kq l1 l0 (l0.length : Int) x9_1 = some r) ∧ Aside0 (kq ≤ k) ∧ Aside0 (Below w.heap.size w w'))
 case atStart => exact ⟨(0), tq_z, H', ⟨Nat.le_refl _⟩, ⟨sq_bl HB.out⟩⟩
 case round =>
  clear H'; obtain ⟨x9_1, rfl, HA, HK1, HB⟩ := hrel
  cases gk with
  | zero => exact absurd HA.out (by simp [omega_some.l0])
  | succ k1 =>
   have H := HA.out; clear HA
   simp only [omega_some.l0] at H
   revert H; refine tq_dd (fun c3b0 H => ?_) (fun c3b0 H => ?_); rotate_left
   ·obtain rfl := Option.some.inj H
    go_wp2
    go_ret
    exact tq_v (sq_bl HB.out)
   revert H; refine tq_i1 fun c4b0 H => ?_; revert H; refine tq_i1 fun c5b0 H => ?_; revert H; refine tq_o fun t165 A6 H => ?_; cases t165; rotate_left
   ·replace H := tq_t H; obtain rfl := Option.some.inj H; have p164 : 0 ≤ (x9_1 : Int) := sq_d; have q164 : x9_1 < (l0.length : Int) := sq_d; obtain ⟨ad164, A164_0, c164_0, e164, hx164_0, hl164_0, hi164_0⟩ := at_L2 HR0.out x9_1 p164 q164; cases e164; replace hx164_0 := tq_hx HB hx164_0; have HR164_0 := Aside0.mk hi164_0; have HC164_0 := Aside0.mk hl164_0; clear hi164_0 hl164_0; replace p164 := eq_true p164; replace q164 := eq_true q164
    go_wp2_with (first | ((with_reducible refine gate_calleeV 38 rfl ?_); refine goesM_ (some 15) rfl rfl #[.slice A1 l1.length c1] Tryd.func38 (by kernel_rfl) rfl #[.slice A164_0 (rd_L2 l0 x9_1).length c164_0] #[.slice A1 l1.length c1, .slice A164_0 (rd_L2 l0 x9_1).length c164_0] rfl (by (try simp only [List.map_toArray, List.map_cons, List.map_nil]); first | done | rfl | (simp only [List.length_drop, List.length_take]; rfl)) rfl rfl ?_; (with_reducible refine (omega_extended_below.calls k1 _ _ l1 _ _ (rd_L2 l0 x9_1) true _ ?s1 ?s2 ?s3 ?s4 A6.out).mono ?_); (case s1 => exact tq_c HR1 HB); (case s2 => exact HC1.out); (case s3 => exact tq_c HR164_0 HB); (case s4 => exact HC164_0.out); rintro e w8 ⟨rfl, hb⟩; refine ⟨_, rfl, ?_⟩; replace HB := tq_s HB hb; (try clear hb)))
    go_ret
    exact tq_v (sq_bl HB.out)
   replace H := tq_f H; have H' := Aside0.mk H; clear H; have p164 : 0 ≤ (x9_1 : Int) := sq_d; have q164 : x9_1 < (l0.length : Int) := sq_d; obtain ⟨ad164, A164_0, c164_0, e164, hx164_0, hl164_0, hi164_0⟩ := at_L2 HR0.out x9_1 p164 q164; cases e164; replace hx164_0 := tq_hx HB hx164_0; have HR164_0 := Aside0.mk hi164_0; have HC164_0 := Aside0.mk hl164_0; clear hi164_0 hl164_0; replace p164 := eq_true p164; replace q164 := eq_true q164
   go_wp2_with (first | ((with_reducible refine gate_calleeV 38 rfl ?_); refine goesM_ (some 15) rfl rfl #[.slice A1 l1.length c1] Tryd.func38 (by kernel_rfl) rfl #[.slice A164_0 (rd_L2 l0 x9_1).length c164_0] #[.slice A1 l1.length c1, .slice A164_0 (rd_L2 l0 x9_1).length c164_0] rfl (by (try simp only [List.map_toArray, List.map_cons, List.map_nil]); first | done | rfl | (simp only [List.length_drop, List.length_take]; rfl)) rfl rfl ?_; (with_reducible refine (omega_extended_below.calls k1 _ _ l1 _ _ (rd_L2 l0 x9_1) false _ ?s1 ?s2 ?s3 ?s4 A6.out).mono ?_); (case s1 => exact tq_c HR1 HB); (case s2 => exact HC1.out); (case s3 => exact tq_c HR164_0 HB); (case s4 => exact HC164_0.out); rintro e w9 ⟨rfl, hb⟩; refine ⟨_, rfl, ?_⟩; replace HB := tq_s HB hb; (try clear hb)))
   go_roundg k1
   case measure => have := HK1.out; omega
   case rel => exact ⟨(wrap64 (x9_1 + 1)), tq_z, H', ⟨by have := HK1.out; omega⟩, ⟨sq_bl HB.out⟩⟩
/-! ### marking_Compare: function 39 -/
def marking_Compare.l0 : Nat → List Int → List Int → Int → Int → Option (Int)
 | 0, _, _, _, _ => none
 | k + 1, x0, x1, x10, x11 => if x11 < x10 then (if 0 ≤ x11 then (if x11 < (x0.length : Int) then (if x11 < (x1.length : Int) then (if (rd x0 x11) < (rd x1 x11) then (some (-1)) else (if (rd x0 x11) > (rd x1 x11) then (some 1) else (marking_Compare.l0 k x0 x1 x10 (wrap64 (x11 + 1))))) else (none)) else (none)) else (none)) else (if (x0.length : Int) < (x1.length : Int) then (some (-1)) else (if (x0.length : Int) > (x1.length : Int) then (some 1) else (some 0)))
def marking_Compare.f (k : Nat) (l0 : List Int) (l1 : List Int) : Option (Int) := marking_Compare.l0 k l0 l1 (mn (l0.length : Int) (l1.length : Int)) 0
theorem marking_Compare.mono_l : ∀ k, (∀ y0 y1 y2 y3, LeO (marking_Compare.l0 k y0 y1 y2 y3) (marking_Compare.l0 (k + 1) y0 y1 y2 y3))
 | 0 => fun _ _ _ _ r h => by simp [marking_Compare.l0] at h
 | k + 1 => by
  have ih0 := marking_Compare.mono_l k
  ·intro y0 y1 y2 y3
   unfold marking_Compare.l0
   repeat' (with_reducible first | exact ih0 _ _ _ _ | exact LeO.refl _ | exact LeO.none _ | refine LeO.ite ?_ ?_ | refine LeO.bind ?_ (fun _ => ?_))
theorem marking_Compare.mono : ∀ a0 a1 k, LeO (marking_Compare.f k a0 a1) (marking_Compare.f (k + 1) a0 a1) := by
 intro a0 a1 k
 have ih0 := marking_Compare.mono_l k
 unfold marking_Compare.f
 repeat' (with_reducible first | exact ih0 _ _ _ _ | exact LeO.refl _ | exact LeO.none _ | refine LeO.ite ?_ ?_ | refine LeO.bind ?_ (fun _ => ?_))
set_option maxHeartbeats 8000000 in
set_option maxRecDepth 100000 in
theorem marking_Compare.calls (k : Nat) (A0 : Option Addr) (c0 : Nat) (l0 : List Int) (A1 : Option Addr) (c1 : Nat) (l1 : List Int) (r : Int) (w : World) (hr0 : Kd.C (Kd.int .i64) w A0 l0.length l0) (hc0 : l0.length ≤ c0) (hr1 : Kd.C (Kd.int .i64) w A1 l1.length l1) (hc1 : l1.length ≤ c1) (h : marking_Compare.f k l0 l1 = some r) :
  Calls Tryd.prog 39 #[.slice A0 l0.length c0, .slice A1 l1.length c1] w fun e w' => e = .returned (.int .i64 r) ∧ Below w.heap.size w w' := by
 have HR0 := Aside0.mk hr0; have HC0 := Aside0.mk hc0; clear hr0 hc0; have HR1 := Aside0.mk hr1; have HC1 := Aside0.mk hc1; clear hr1 hc1; have HB := Aside0.mk (Below.refl w.heap.size w); have H : (marking_Compare.l0 k l0 l1 (mn (l0.length : Int) (l1.length : Int)) 0) = some r := h; clear h; obtain ⟨ji3, hji3⟩ : ∃ j_ : Int, (mn (l0.length : Int) (l1.length : Int)) = j_ := ⟨_, rfl⟩; replace H : (marking_Compare.l0 k l0 l1 ji3 0) = some r := by first | (rw [hji3] at H; exact H) | (simp only [hji3] at H ⊢; exact H)
 (try (have hji3l : 0 ≤ ji3 := by (rw [← hji3]; unfold mn; (repeat' split) <;> omega)))
 (try (have hji3m : 0 ≤ ji3 := by omega))
 have hji3_ : (if (l1.length : Int) < (l0.length : Int) then (l1.length : Int) else (l0.length : Int)) = ji3 := hji3
 (try (have hji3n : (if l1.length < l0.length then (l1.length : Int) else (l0.length : Int)) = ji3 := by have h_ := hji3_; (repeat' split at h_) <;> (repeat' split) <;> omega))
 have H' := Aside0.mk H; clear H
 go_enter Tryd.func39, Tryd.ntmps39
 go_wp2
 repeat (go_quiet (fail); try go_wp2)
 go_loopg [11] k (fun kq v11 w' => ∃ (x11_1 : Int), v11 = .int .i64 x11_1 ∧ Aside0 (marking_Compare.l0 kq l0 l1 ji3 x11_1 = some r) ∧ Aside0 (kq ≤ k) ∧ Aside0 (Below w.heap.size w w'))
 case atStart => exact ⟨(0), tq_z, H', ⟨Nat.le_refl _⟩, ⟨sq_bl HB.out⟩⟩
 case round =>
  clear H'; obtain ⟨x11_1, rfl, HA, HK1, HB⟩ := hrel
  cases gk with
  | zero => exact absurd HA.out (by simp [marking_Compare.l0])
  | succ k1 =>
   have H := HA.out; clear HA
   simp only [marking_Compare.l0] at H
   revert H; refine tq_dd (fun c4b0 H => ?_) (fun c4b0 H => ?_); rotate_left
   ·revert H; refine tq_rr (fun c10 H => ?_) (fun c10 H => ?_)
    ·have c10b0 : decide ((l0.length : Int) < (l1.length : Int)) = true := decide_eq_true c10; have c10b1 : decide (l0.length < l1.length) = true := decide_eq_true (Int.ofNat_lt.mp c10); clear c10; obtain rfl := Option.some.inj H
     go_wp2
     repeat (go_quiet (fail); try go_wp2)
     go_ret
     exact ⟨by first | rfl | (simp [errW_none, errW_some] <;> rfl) | (simp only [← hji3]; first | rfl | (simp [errW_none, errW_some] <;> rfl)) | (simp [*, errW_none, errW_some] <;> rfl), sq_bl HB.out⟩
    have c10b0 : decide ((l0.length : Int) < (l1.length : Int)) = false := decide_eq_false c10; have c10b1 : decide (l0.length < l1.length) = false := decide_eq_false (fun h => c10 (Int.ofNat_lt.mpr h)); clear c10; revert H; refine tq_rr (fun c11 H => ?_) (fun c11 H => ?_); rotate_left
    ·have c11b0 : decide ((l1.length : Int) < (l0.length : Int)) = false := decide_eq_false c11; have c11b1 : decide (l1.length < l0.length) = false := decide_eq_false (fun h => c11 (Int.ofNat_lt.mpr h)); clear c11; obtain rfl := Option.some.inj H
     go_wp2
     repeat (go_quiet (fail); try go_wp2)
     go_ret
     exact ⟨by first | rfl | (simp [errW_none, errW_some] <;> rfl) | (simp only [← hji3]; first | rfl | (simp [errW_none, errW_some] <;> rfl)) | (simp [*, errW_none, errW_some] <;> rfl), sq_bl HB.out⟩
    have c11b0 : decide ((l1.length : Int) < (l0.length : Int)) = true := decide_eq_true c11; have c11b1 : decide (l1.length < l0.length) = true := decide_eq_true (Int.ofNat_lt.mp c11); clear c11; obtain rfl := Option.some.inj H
    go_wp2
    repeat (go_quiet (fail); try go_wp2)
    go_ret
    exact ⟨by first | rfl | (simp [errW_none, errW_some] <;> rfl) | (simp only [← hji3]; first | rfl | (simp [errW_none, errW_some] <;> rfl)) | (simp [*, errW_none, errW_some] <;> rfl), sq_bl HB.out⟩
   revert H; refine tq_i1 fun c5b0 H => ?_; revert H; refine tq_i1 fun c6b0 H => ?_; revert H; refine tq_i1 fun c7b0 H => ?_; have HH_ := Aside0.mk H; clear H; have p166 : 0 ≤ (x11_1 : Int) := sq_d; have q166 : x11_1 < (l0.length : Int) := sq_d; obtain ⟨ad166, e166, hx166_0⟩ := Kd.at_int HR0.out x11_1 p166 q166; cases e166; replace hx166_0 := tq_hx HB hx166_0; replace p166 := eq_true p166; replace q166 := eq_true q166; have p167 : 0 ≤ (x11_1 : Int) := sq_d; have q167 : x11_1 < (l1.length : Int) := sq_d; obtain ⟨ad167, e167, hx167_0⟩ := Kd.at_int HR1.out x11_1 p167 q167; cases e167; replace hx167_0 := tq_hx HB hx167_0; replace p167 := eq_true p167; replace q167 := eq_true q167; have H := HH_.out; clear HH_; revert H; refine tq_dd (fun c8b0 H => ?_) (fun c8b0 H => ?_)
   ·obtain rfl := Option.some.inj H
    go_wp2
    repeat (go_quiet (fail); try go_wp2)
    go_ret
    exact ⟨by first | rfl | (simp [errW_none, errW_some] <;> rfl) | (simp only [← hji3]; first | rfl | (simp [errW_none, errW_some] <;> rfl)) | (simp [*, errW_none, errW_some] <;> rfl), sq_bl HB.out⟩
   have HH_ := Aside0.mk H; clear H; have p168 : 0 ≤ (x11_1 : Int) := sq_d; have q168 : x11_1 < (l0.length : Int) := sq_d; obtain ⟨ad168, e168, hx168_0⟩ := Kd.at_int HR0.out x11_1 p168 q168; obtain rfl : ad166 = ad168 := (by injection e168); replace hx168_0 := tq_hx HB hx168_0; replace p168 := eq_true p168; replace q168 := eq_true q168; have p169 : 0 ≤ (x11_1 : Int) := sq_d; have q169 : x11_1 < (l1.length : Int) := sq_d; obtain ⟨ad169, e169, hx169_0⟩ := Kd.at_int HR1.out x11_1 p169 q169; obtain rfl : ad167 = ad169 := (by injection e169); replace hx169_0 := tq_hx HB hx169_0; replace p169 := eq_true p169; replace q169 := eq_true q169; have H := HH_.out; clear HH_; revert H; refine tq_rr (fun c9 H => ?_) (fun c9 H => ?_)
   ·have c9b0 : decide ((rd l1 x11_1) < (rd l0 x11_1)) = true := decide_eq_true c9; clear c9; obtain rfl := Option.some.inj H
    go_wp2
    repeat (go_quiet (fail); try go_wp2)
    go_ret
    exact ⟨by first | rfl | (simp [errW_none, errW_some] <;> rfl) | (simp only [← hji3]; first | rfl | (simp [errW_none, errW_some] <;> rfl)) | (simp [*, errW_none, errW_some] <;> rfl), sq_bl HB.out⟩
   have c9b0 : decide ((rd l1 x11_1) < (rd l0 x11_1)) = false := decide_eq_false c9; clear c9; have H' := Aside0.mk H; clear H
   go_wp2
   repeat (go_quiet (fail); try go_wp2)
   go_roundg k1
   case measure => have := HK1.out; omega
   case rel => exact ⟨(wrap64 (x11_1 + 1)), tq_z, H', ⟨by have := HK1.out; omega⟩, ⟨sq_bl HB.out⟩⟩
end Go.Proofs.YtoobmfofkeaibaaDoor.PMax
