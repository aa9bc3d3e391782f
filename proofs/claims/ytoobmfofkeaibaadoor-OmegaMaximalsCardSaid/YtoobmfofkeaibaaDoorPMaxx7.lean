/- Lean functions for Go functions, each with the proof that the call returns what it says; printed by wip/tools/myprint.py. -/
-- squeezed
-- tight
import Derived.Test.YtoobmfofkeaibaaDoorTq
import Derived.Test.YtoobmfofkeaibaaDoorPMaxx0
import Derived.Test.YtoobmfofkeaibaaDoorPMaxx5
namespace Go.Proofs.YtoobmfofkeaibaaDoor.PMax
open Go.RowKit Go.Proofs.YtoobmfofkeaibaaDoorW.PrintWords Go.Proofs.YtoobmfofkeaibaaDoorW.PrintLast Go.Proofs.YtoobmfofkeaibaaDoorW.PrintMore
attribute [local go_sem] max2_int min2_int max_two min_two max_three min_three max_four min_four   -- for this text's walks alone
set_option linter.unusedVariables false
set_option linter.unusedSimpArgs false

/-! ### petrinetref04_Copy: function 33 -/
def petrinetref04_Copy.l0 : Nat → List Int → List Int → Int → Option (List Int)
 | 0, _, _, _ => none
 | k + 1, x0, x3, x4 => if x4 < (x0.length : Int) then (if 0 ≤ x4 then (if x3.length < 17592186044416 then (petrinetref04_Copy.l0 k x0 (x3 ++ [rd x0 x4]) (wrap64 (x4 + 1))) else (none)) else (none)) else (some x3)
def petrinetref04_Copy.f (k : Nat) (l0 : List Int) : Option (List Int) := petrinetref04_Copy.l0 k l0 ([] : List Int) 0
theorem petrinetref04_Copy.mono_l : ∀ k, (∀ y0 y1 y2, LeO (petrinetref04_Copy.l0 k y0 y1 y2) (petrinetref04_Copy.l0 (k + 1) y0 y1 y2))
 | 0 => fun _ _ _ r h => by simp [petrinetref04_Copy.l0] at h
 | k + 1 => by
  have ih0 := petrinetref04_Copy.mono_l k
  ·intro y0 y1 y2
   unfold petrinetref04_Copy.l0
   repeat' (with_reducible first | exact ih0 _ _ _ | exact LeO.refl _ | exact LeO.none _ | refine LeO.ite ?_ ?_ | refine LeO.bind ?_ (fun _ => ?_))
theorem petrinetref04_Copy.mono : ∀ a0 k, LeO (petrinetref04_Copy.f k a0) (petrinetref04_Copy.f (k + 1) a0) := by
 intro a0 k
 have ih0 := petrinetref04_Copy.mono_l k
 unfold petrinetref04_Copy.f
 repeat' (with_reducible first | exact ih0 _ _ _ | exact LeO.refl _ | exact LeO.none _ | refine LeO.ite ?_ ?_ | refine LeO.bind ?_ (fun _ => ?_))
set_option maxHeartbeats 8000000 in
set_option maxRecDepth 100000 in
theorem petrinetref04_Copy.calls (k : Nat) (A0 : Option Addr) (c0 : Nat) (l0 : List Int) (r : List Int) (w : World) (hr0 : Kd.C (Kd.int .i64) w A0 l0.length l0) (hc0 : l0.length ≤ c0) (h : petrinetref04_Copy.f k l0 = some r) :
  Calls Tryd.prog 33 #[.slice A0 l0.length c0] w fun e w' => ∃ v0_ : Value, e = .returned (v0_) ∧ Kd.R (Kd.int .i64) 3 w' w.heap.size (fun _ => True) v0_ r ∧ Below w.heap.size w w' := by
 have HR0 := Aside0.mk hr0; have HC0 := Aside0.mk hc0; clear hr0 hc0; have HB := Aside0.mk (Below.refl w.heap.size w); have H : (petrinetref04_Copy.l0 k l0 ([] : List Int) 0) = some r := h; clear h; have H' := Aside0.mk H; clear H
 go_enter Tryd.func33, Tryd.ntmps33
 go_wp2
 go_loopg [3, 4] k (fun kq v3 v4 w' => ∃ (x3_1 : List Int) (x4_1 : Int), v4 = .int .i64 x4_1 ∧ Aside0 (petrinetref04_Copy.l0 kq l0 x3_1 x4_1 = some r) ∧ Aside0 (kq ≤ k) ∧ Aside0 (Kd.R (Kd.int .i64) 3 w' w.heap.size (fun _ => True) v3 x3_1) ∧ Aside0 (Below w.heap.size w w'))
 case atStart => exact ⟨(([] : List Int)), (0), tq_z, H', ⟨Nat.le_refl _⟩, ⟨by first | exact Kd.R_nil _ _ _ _ _ | exact Kd.N_nil _ _ _ _ _ | exact Kd.V_nil _ _ _ _ _ | exact Kd.Q_nil _ _ _ _ _ | exact Kd.S_nil _ _ _ _ _⟩, ⟨sq_bl HB.out⟩⟩
 case round =>
  clear H'; obtain ⟨x3_1, x4_1, rfl, HA, HK1, HO_3, HB⟩ := hrel
  cases gk with
  | zero => exact absurd HA.out (by simp [petrinetref04_Copy.l0])
  | succ k1 =>
   have H := HA.out; clear HA
   simp only [petrinetref04_Copy.l0] at H
   revert H; refine tq_dd (fun c2b0 H => ?_) (fun c2b0 H => ?_); rotate_left
   ·obtain rfl := Option.some.inj H
    go_wp2
    go_ret
    exact ⟨_, tq_v ⟨sq_kr HO_3.out, sq_bl HB.out⟩⟩
   revert H; refine tq_i1 fun c3b0 H => ?_; revert H; refine tq_i fun c4 H => ?_; have LMc4 := Aside0.mk c4; clear c4; obtain ⟨y235, hy235⟩ : ∃ y_ : List Int, y_ = (x3_1 ++ [rd l0 x4_1]) := ⟨_, rfl⟩; replace H : (petrinetref04_Copy.l0 k1 l0 y235 (wrap64 (x4_1 + 1))) = some r := by first | (rw [hy235]; exact H) | exact H
   have Ny235 := Aside0.mk hy235; clear hy235; have H' := Aside0.mk H; clear H; have p234 : 0 ≤ (x4_1 : Int) := sq_d; have q234 : x4_1 < (l0.length : Int) := sq_d; obtain ⟨ad234, e234, hx234_0⟩ := Kd.at_int HR0.out x4_1 p234 q234; cases e234; replace hx234_0 := tq_hx HB hx234_0; replace p234 := eq_true p234; replace q234 := eq_true q234
   go_wp2_with (first | ((with_reducible refine gate_builtin (b := .append) (xs := #[.tmp 11, .tmp 16]) rfl ?_); at_builtin; refine Kd.R_append (Kd.int .i64) (w0 := w) w.heap.size rfl (.tmp 11) (.tmp 16) 22 3 (.int .i64 0) 8 rfl Tryd.underlying22 info3 rfl (by decide) (by omega) u3 x3_1 (rd l0 x4_1) [.int .i64 (rd l0 x4_1)] (fun _ => True) (fun _ => False) rfl rfl ?aP (fun _ hk => hk.elim) ?aF ?aO ?aB ?aS ?aL ?_; (case aP => exact rfl); (case aB => exact (sq_bl HB.out)); (case aF => exact (fun _ _ => trivial)); (case aO => exact (sq_kr HO_3.out)); (case aS => exact (below_size (sq_bl HB.out))); (case aL => have := LMc4.out; omega); intro v236 w5 ho hb hg hat; rw [← Ny235.out] at ho; replace HB := Aside0.mk hb; have HO237 := Aside0.mk ho; clear HO_3; clear ho hb hg hat))
   go_roundg k1
   case measure => have := HK1.out; omega
   case rel => exact ⟨(y235), (wrap64 (x4_1 + 1)), tq_z, H', ⟨by have := HK1.out; omega⟩, ⟨sq_kr HO237.out⟩, ⟨sq_bl HB.out⟩⟩
/-! ### petrinetref05_before: function 40 -/
def petrinetref05_before.l0 : Nat → List Int → List Int → Int → Option (Bool)
 | 0, _, _, _ => none
 | k + 1, x0, x1, x5 => if x5 < (x0.length : Int) then (if 0 ≤ x5 then (if x5 < (x1.length : Int) then (if (rd x0 x5) = (rd x1 x5) then (petrinetref05_before.l0 k x0 x1 (wrap64 (x5 + 1))) else ((petrinetref05_more.f (rd x1 x5) (rd x0 x5)).bind fun t242 => (some t242))) else (none)) else (none)) else (some false)
def petrinetref05_before.f (k : Nat) (l0 : List Int) (l1 : List Int) : Option (Bool) := petrinetref05_before.l0 k l0 l1 0
theorem petrinetref05_before.mono_l : ∀ k, (∀ y0 y1 y2, LeO (petrinetref05_before.l0 k y0 y1 y2) (petrinetref05_before.l0 (k + 1) y0 y1 y2))
 | 0 => fun _ _ _ r h => by simp [petrinetref05_before.l0] at h
 | k + 1 => by
  have ih0 := petrinetref05_before.mono_l k
  ·intro y0 y1 y2
   unfold petrinetref05_before.l0
   repeat' (with_reducible first | exact ih0 _ _ _ | exact LeO.refl _ | exact LeO.none _ | refine LeO.ite ?_ ?_ | refine LeO.bind ?_ (fun _ => ?_))
theorem petrinetref05_before.mono : ∀ a0 a1 k, LeO (petrinetref05_before.f k a0 a1) (petrinetref05_before.f (k + 1) a0 a1) := by
 intro a0 a1 k
 have ih0 := petrinetref05_before.mono_l k
 unfold petrinetref05_before.f
 repeat' (with_reducible first | exact ih0 _ _ _ | exact LeO.refl _ | exact LeO.none _ | refine LeO.ite ?_ ?_ | refine LeO.bind ?_ (fun _ => ?_))
set_option maxHeartbeats 8000000 in
set_option maxRecDepth 100000 in
theorem petrinetref05_before.calls (k : Nat) (A0 : Option Addr) (c0 : Nat) (l0 : List Int) (A1 : Option Addr) (c1 : Nat) (l1 : List Int) (r : Bool) (w : World) (hr0 : Kd.C (Kd.int .i64) w A0 l0.length l0) (hc0 : l0.length ≤ c0) (hr1 : Kd.C (Kd.int .i64) w A1 l1.length l1) (hc1 : l1.length ≤ c1) (h : petrinetref05_before.f k l0 l1 = some r) :
  Calls Tryd.prog 40 #[.slice A0 l0.length c0, .slice A1 l1.length c1] w fun e w' => e = .returned (.bool r) ∧ Drawn0 w w' := by
 have HR0 := Aside0.mk hr0; have HC0 := Aside0.mk hc0; clear hr0 hc0; have HR1 := Aside0.mk hr1; have HC1 := Aside0.mk hc1; clear hr1 hc1; have H : (petrinetref05_before.l0 k l0 l1 0) = some r := h; clear h; have H' := Aside0.mk H; clear H
 go_enter Tryd.func40, Tryd.ntmps40
 go_wp2
 repeat (go_quiet (fail); try go_wp2)
 go_loopg [5] k (fun kq v5 w' => ∃ (x5_1 : Int), v5 = .int .i64 x5_1 ∧ Aside0 (petrinetref05_before.l0 kq l0 l1 x5_1 = some r) ∧ Aside0 (kq ≤ k) ∧ Drawn0 w w')
 case atStart => exact ⟨(0), tq_z, H', ⟨Nat.le_refl _⟩, by repeat (first | exact Drawn0.refl _ | apply Drawn0.step)⟩
 case round =>
  clear H'; obtain ⟨x5_1, rfl, HA, HK1, ⟨m1, rfl⟩⟩ := hrel
  cases gk with
  | zero => exact absurd HA.out (by simp [petrinetref05_before.l0])
  | succ k1 =>
   have H := HA.out; clear HA
   simp only [petrinetref05_before.l0] at H
   revert H; refine tq_dd (fun c3b0 H => ?_) (fun c3b0 H => ?_); rotate_left
   ·obtain rfl := Option.some.inj H
    go_wp2
    repeat (go_quiet (fail); try go_wp2)
    go_ret
    exact ⟨by first | rfl | (simp; done) | (simp [*]; done), by repeat (first | exact Drawn0.refl _ | apply Drawn0.step)⟩
   revert H; refine tq_i1 fun c4b0 H => ?_; revert H; refine tq_i1 fun c5b0 H => ?_; revert H; refine tq_rr (fun c6 H => ?_) (fun c6 H => ?_)
   ·obtain ⟨c6b0, c6b1⟩ := tq_e c6; clear c6; have H' := Aside0.mk H; clear H; have p238 : 0 ≤ (x5_1 : Int) := sq_d; have q238 : x5_1 < (l0.length : Int) := sq_d; obtain ⟨ad238, e238, hx238_0⟩ := Kd.at_int HR0.out x5_1 p238 q238; cases e238; replace p238 := eq_true p238; replace q238 := eq_true q238; have p239 : 0 ≤ (x5_1 : Int) := sq_d; have q239 : x5_1 < (l1.length : Int) := sq_d; obtain ⟨ad239, e239, hx239_0⟩ := Kd.at_int HR1.out x5_1 p239 q239; cases e239; replace p239 := eq_true p239; replace q239 := eq_true q239
    go_wp2
    repeat (go_quiet (fail); try go_wp2)
    go_roundg k1
    case measure => have := HK1.out; omega
    case rel => exact ⟨(wrap64 (x5_1 + 1)), tq_z, H', ⟨by have := HK1.out; omega⟩, by repeat (first | exact Drawn0.refl _ | apply Drawn0.step)⟩
   obtain ⟨c6b0, c6b1⟩ := tq_n c6; revert H; refine tq_o fun t242 A7 H => ?_; obtain rfl := Option.some.inj H; have p238 : 0 ≤ (x5_1 : Int) := sq_d; have q238 : x5_1 < (l0.length : Int) := sq_d; obtain ⟨ad238, e238, hx238_0⟩ := Kd.at_int HR0.out x5_1 p238 q238; cases e238; replace p238 := eq_true p238; replace q238 := eq_true q238; have p239 : 0 ≤ (x5_1 : Int) := sq_d; have q239 : x5_1 < (l1.length : Int) := sq_d; obtain ⟨ad239, e239, hx239_0⟩ := Kd.at_int HR1.out x5_1 p239 q239; cases e239; replace p239 := eq_true p239; replace q239 := eq_true q239; have p240 : 0 ≤ (x5_1 : Int) := sq_d; have q240 : x5_1 < (l1.length : Int) := sq_d; obtain ⟨ad240, e240, hx240_0⟩ := Kd.at_int HR1.out x5_1 p240 q240; obtain rfl : ad239 = ad240 := (by injection e240); replace p240 := eq_true p240; replace q240 := eq_true q240; have p241 : 0 ≤ (x5_1 : Int) := sq_d; have q241 : x5_1 < (l0.length : Int) := sq_d; obtain ⟨ad241, e241, hx241_0⟩ := Kd.at_int HR0.out x5_1 p241 q241; obtain rfl : ad238 = ad241 := (by injection e241); replace p241 := eq_true p241; replace q241 := eq_true q241
   go_wp2_with (first | (go_at_call 31; (with_reducible refine (petrinetref05_more.calls (rd l1 x5_1) (rd l0 x5_1) t242 _ A7.out).mono ?_); rintro e w' ⟨rfl, ⟨nd, rfl⟩⟩; (try first | exact ⟨rfl, _, World.drewN_drewN _ _ _⟩ | exact ⟨rfl, _, Eq.trans (World.drewN_drewN _ _ _) (congrArg (World.drewN _) (Nat.add_assoc _ _ _))⟩)))
   repeat (go_quiet (first | (go_at_call 31; (with_reducible refine (petrinetref05_more.calls (rd l1 x5_1) (rd l0 x5_1) t242 _ A7.out).mono ?_); rintro e w' ⟨rfl, ⟨nd, rfl⟩⟩; (try first | exact ⟨rfl, _, World.drewN_drewN _ _ _⟩ | exact ⟨rfl, _, Eq.trans (World.drewN_drewN _ _ _) (congrArg (World.drewN _) (Nat.add_assoc _ _ _))⟩))); try go_wp2_with (first | (go_at_call 31; (with_reducible refine (petrinetref05_more.calls (rd l1 x5_1) (rd l0 x5_1) t242 _ A7.out).mono ?_); rintro e w' ⟨rfl, ⟨nd, rfl⟩⟩; (try first | exact ⟨rfl, _, World.drewN_drewN _ _ _⟩ | exact ⟨rfl, _, Eq.trans (World.drewN_drewN _ _ _) (congrArg (World.drewN _) (Nat.add_assoc _ _ _))⟩))))
   go_ret
   exact ⟨by first | rfl | (simp; done) | (simp [*]; done), by repeat (first | exact Drawn0.refl _ | apply Drawn0.step)⟩
end Go.Proofs.YtoobmfofkeaibaaDoor.PMax
