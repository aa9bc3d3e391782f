/- Lean functions for Go functions, each with the proof that the call returns what it says; printed by wip/tools/myprint.py. -/
-- squeezed
-- tight
import Derived.Test.YtoobmfofkeaibaaDoorTq
import Derived.Test.YtoobmfofkeaibaaDoorPMaxx0
import Derived.Test.YtoobmfofkeaibaaDoorPMaxx1
import Derived.Test.YtoobmfofkeaibaaDoorPMaxx2
import Derived.Test.YtoobmfofkeaibaaDoorPMaxx4
import Derived.Test.YtoobmfofkeaibaaDoorPMaxx6
namespace Go.Proofs.YtoobmfofkeaibaaDoor.PMax
open Go.RowKit Go.Proofs.YtoobmfofkeaibaaDoorW.PrintWords Go.Proofs.YtoobmfofkeaibaaDoorW.PrintLast Go.Proofs.YtoobmfofkeaibaaDoorW.PrintMore
attribute [local go_sem] max2_int min2_int max_two min_two max_three min_three max_four min_four   -- for this text's walks alone
set_option linter.unusedVariables false
set_option linter.unusedSimpArgs false

/-! ### petrinetlaw05_OmegaDominates: function 7 -/
mutual
def petrinetlaw05_OmegaDominates.l0 : Nat → List (List Int) → List (List Int) → Int → Option (Bool)
 | 0, _, _, _ => none
 | k + 1, x3, x4, x5 => if x5 < (x4.length : Int) then (petrinetlaw05_OmegaDominates.l1 k x3 x4 x5 false 0) else (petrinetlaw05_OmegaDominates.l2 k x3 x4 0)
def petrinetlaw05_OmegaDominates.l1 : Nat → List (List Int) → List (List Int) → Int → Bool → Int → Option (Bool)
 | 0, _, _, _, _, _ => none
 | k + 1, x3, x4, x5, x6, x7 => if x7 < (x3.length : Int) then (if x6 = true then (petrinetlaw05_OmegaDominates.l1 k x3 x4 x5 true (wrap64 (x7 + 1))) else (if 0 ≤ x5 then (if x5 < (x4.length : Int) then (if 0 ≤ x7 then ((omega_Leq.f k (rd_L2 x4 x5) (rd_L2 x3 x7)).bind fun t299 => (petrinetlaw05_OmegaDominates.l1 k x3 x4 x5 t299 (wrap64 (x7 + 1)))) else (none)) else (none)) else (none))) else (if x6 = true then (petrinetlaw05_OmegaDominates.l0 k x3 x4 (wrap64 (x5 + 1))) else (some false))
def petrinetlaw05_OmegaDominates.l2 : Nat → List (List Int) → List (List Int) → Int → Option (Bool)
 | 0, _, _, _ => none
 | k + 1, x3, x4, x8 => if x8 < (x3.length : Int) then (petrinetlaw05_OmegaDominates.l3 k x3 x4 x8 0) else (if ((decide ((x3.length : Int) > 0)) == (decide ((x4.length : Int) > 0))) = true then ((petrinetlaw05_exampleHolds.f k).bind fun t300 => (some t300)) else (some false))
def petrinetlaw05_OmegaDominates.l3 : Nat → List (List Int) → List (List Int) → Int → Int → Option (Bool)
 | 0, _, _, _, _ => none
 | k + 1, x3, x4, x8, x9 => if x9 < (x3.length : Int) then (if x8 = x9 then (petrinetlaw05_OmegaDominates.l3 k x3 x4 x8 (wrap64 (x9 + 1))) else (if 0 ≤ x8 then (if x8 < (x3.length : Int) then (if 0 ≤ x9 then ((omega_Leq.f k (rd_L2 x3 x8) (rd_L2 x3 x9)).bind fun t303 => (if t303 = true then (some false) else (petrinetlaw05_OmegaDominates.l3 k x3 x4 x8 (wrap64 (x9 + 1))))) else (none)) else (none)) else (none))) else (petrinetlaw05_OmegaDominates.l2 k x3 x4 (wrap64 (x8 + 1)))
end
def petrinetlaw05_OmegaDominates.f (k : Nat) (l0 : List (List Int)) : Option (Bool) := if (l0.length : Int) > 60 then ((petrinetlaw05_exampleHolds.f k).bind fun t290 => (some t290)) else ((omega_Maximal.f k l0).bind fun t291 => ((petrinetref05_Considered.f k l0).bind fun t294 => (petrinetlaw05_OmegaDominates.l0 k t291 t294 0)))
theorem petrinetlaw05_OmegaDominates.mono_l : ∀ k, (∀ y0 y1 y2, LeO (petrinetlaw05_OmegaDominates.l0 k y0 y1 y2) (petrinetlaw05_OmegaDominates.l0 (k + 1) y0 y1 y2)) ∧ (∀ y0 y1 y2 y3 y4, LeO (petrinetlaw05_OmegaDominates.l1 k y0 y1 y2 y3 y4) (petrinetlaw05_OmegaDominates.l1 (k + 1) y0 y1 y2 y3 y4)) ∧ (∀ y0 y1 y2, LeO (petrinetlaw05_OmegaDominates.l2 k y0 y1 y2) (petrinetlaw05_OmegaDominates.l2 (k + 1) y0 y1 y2)) ∧ (∀ y0 y1 y2 y3, LeO (petrinetlaw05_OmegaDominates.l3 k y0 y1 y2 y3) (petrinetlaw05_OmegaDominates.l3 (k + 1) y0 y1 y2 y3))
 | 0 => ⟨fun _ _ _ r h => by simp [petrinetlaw05_OmegaDominates.l0] at h, fun _ _ _ _ _ r h => by simp [petrinetlaw05_OmegaDominates.l1] at h, fun _ _ _ r h => by simp [petrinetlaw05_OmegaDominates.l2] at h, fun _ _ _ _ r h => by simp [petrinetlaw05_OmegaDominates.l3] at h⟩
 | k + 1 => by
  obtain ⟨ih0, ih1, ih2, ih3⟩ := petrinetlaw05_OmegaDominates.mono_l k
  refine ⟨?_, ?_, ?_, ?_⟩
  all_goals intros
  all_goals first | unfold petrinetlaw05_OmegaDominates.l0 | unfold petrinetlaw05_OmegaDominates.l1 | unfold petrinetlaw05_OmegaDominates.l2 | unfold petrinetlaw05_OmegaDominates.l3
  all_goals repeat' (with_reducible first | exact ih0 _ _ _ | exact ih1 _ _ _ _ _ | exact ih2 _ _ _ | exact ih3 _ _ _ _ | exact omega_Leq.mono _ _ _ | exact omega_Maximal.mono _ _ | exact petrinetlaw05_exampleHolds.mono _ | exact petrinetref05_Considered.mono _ _ | exact LeO.refl _ | exact LeO.none _ | refine LeO.ite ?_ ?_ | refine LeO.bind ?_ (fun _ => ?_))
theorem petrinetlaw05_OmegaDominates.mono : ∀ a0 k, LeO (petrinetlaw05_OmegaDominates.f k a0) (petrinetlaw05_OmegaDominates.f (k + 1) a0) := by
 intro a0 k
 obtain ⟨ih0, ih1, ih2, ih3⟩ := petrinetlaw05_OmegaDominates.mono_l k
 unfold petrinetlaw05_OmegaDominates.f
 repeat' (with_reducible first | exact ih0 _ _ _ | exact ih1 _ _ _ _ _ | exact ih2 _ _ _ | exact ih3 _ _ _ _ | exact omega_Leq.mono _ _ _ | exact omega_Maximal.mono _ _ | exact petrinetlaw05_exampleHolds.mono _ | exact petrinetref05_Considered.mono _ _ | exact LeO.refl _ | exact LeO.none _ | refine LeO.ite ?_ ?_ | refine LeO.bind ?_ (fun _ => ?_))
def petrinetlaw05_OmegaDominates.T12 : Bool × List (List Nat × List Nat) := (true, [([], []), ([0], [0]), ([1], [1]), ([1], [1]), ([2, 3, 1], [1, 2, 3]), ([4, 1], [1, 4]), ([1], [1]), ([1], [1]), ([6, 7, 1], [1, 6, 7]), ([8, 1], [1, 8]), ([5, 9, 1, 1], [1, 5, 9]), ([1, 10], [1, 10]), ([11, 10, 0, 1, 2, 3, 4, 5, 6, 7, 8, 9, 10, 11], [0, 11])])
def petrinetlaw05_OmegaDominates.B12 : List Nat := [0, 1, 3, 3, 15, 31, 3, 3, 195, 451, 1023, 2047, 4095]
theorem petrinetlaw05_OmegaDominates.tab12 : rtab .any (opsOf Tryd.f7 12) = petrinetlaw05_OmegaDominates.T12 := by kernel_rfl
theorem petrinetlaw05_OmegaDominates.bits12 : waitsOk petrinetlaw05_OmegaDominates.T12.2 petrinetlaw05_OmegaDominates.B12 = true := by kernel_rfl
def petrinetlaw05_OmegaDominates.T21 : Bool × List (List Nat × List Nat) := (true, [([], []), ([], []), ([0, 1], [0, 1]), ([2], [2]), ([3], [3]), ([3], [3]), ([4, 5, 3], [3, 4, 5]), ([6, 3], [3, 6]), ([3], [3]), ([3], [3]), ([8, 9, 3], [3, 8, 9]), ([10, 3], [3, 10]), ([7, 11, 3, 3], [3, 7, 11]), ([3, 12], [3, 12])])
def petrinetlaw05_OmegaDominates.B21 : List Nat := [0, 0, 3, 7, 15, 15, 63, 127, 15, 15, 783, 1807, 4095, 8191]
theorem petrinetlaw05_OmegaDominates.tab21 : rtab .any (opsOf Tryd.f7 21) = petrinetlaw05_OmegaDominates.T21 := by kernel_rfl
theorem petrinetlaw05_OmegaDominates.bits21 : waitsOk petrinetlaw05_OmegaDominates.T21.2 petrinetlaw05_OmegaDominates.B21 = true := by kernel_rfl
set_option maxHeartbeats 8000000 in
set_option maxRecDepth 100000 in
theorem petrinetlaw05_OmegaDominates.calls (k : Nat) (A0 : Option Addr) (c0 : Nat) (l0 : List (List Int)) (r : Bool) (w : World) (hL : LaidW w) (hr0 : Kd.C (Kd.slice 3 (Kd.int .i64)) w A0 l0.length l0) (hc0 : l0.length ≤ c0) (h : petrinetlaw05_OmegaDominates.f k l0 = some r) :
  Calls Tryd.prog 7 #[.slice A0 l0.length c0] w fun e w' => e = .returned (.bool r) ∧ Below w.heap.size w w' := by
 have HLW := Aside0.mk hL; clear hL; have HR0 := Aside0.mk hr0; have HC0 := Aside0.mk hc0; clear hr0 hc0; have HB := Aside0.mk (Below.refl w.heap.size w); have H : (if (l0.length : Int) > 60 then ((petrinetlaw05_exampleHolds.f k).bind fun t290 => (some t290)) else ((omega_Maximal.f k l0).bind fun t291 => ((petrinetref05_Considered.f k l0).bind fun t294 => (petrinetlaw05_OmegaDominates.l0 k t291 t294 0)))) = some r := h; clear h; revert H; refine tq_rr (fun c2 H => ?_) (fun c2 H => ?_)
 ·have c2b0 : decide (60 < (l0.length : Int)) = true := decide_eq_true c2; have c2b1 : decide (60 < l0.length) = true := decide_eq_true (by omega); clear c2; revert H; refine tq_o fun t290 A3 H => ?_; obtain rfl := Option.some.inj H
  go_enter Tryd.func7, Tryd.ntmps7
  go_wp2_with (first | ((with_reducible refine gate_callee (f := 16) rfl ?_); refine sq_goes (some 13) Tryd.func16 #[] ?_; (with_reducible refine (petrinetlaw05_exampleHolds.calls k  t290 _ ?s1 A3.out).mono ?_); (case s1 => exact LaidW.below HLW.out (sq_bl HB.out)); rintro e w4 ⟨rfl, hb⟩; refine ⟨_, rfl, ?_⟩; replace HB := tq_s HB hb; (try clear hb)))
  go_ret
  exact tq_v (sq_bl HB.out)
 have c2b0 : decide (60 < (l0.length : Int)) = false := decide_eq_false c2; have c2b1 : decide (60 < l0.length) = false := decide_eq_false (by omega); clear c2; revert H; refine tq_o fun t291 A5 H => ?_; revert H; refine tq_o fun t294 A6 H => ?_; have H' := Aside0.mk H; clear H
 go_enter Tryd.func7, Tryd.ntmps7
 go_wp2_with (first | ((with_reducible refine gate_callee (f := 24) rfl ?_); refine sq_goes (some 15) Tryd.func24 #[.slice A0 l0.length c0] ?_; (with_reducible refine (omega_Maximal.calls k (fun k_ => k_ < w.heap.size) _ _ l0 t291 _ ?s1 A5.out).mono ?_); (case s1 => exact Kd.V_mk HC0.out (Kd.F_below (Kd.C_F (Kd.heap_slice 3 (Kd.heap_int .i64)) HR0.out) (sq_bl HB.out))); rintro e w7 ⟨v292, rfl, ho0, hb⟩; refine ⟨_, rfl, ?_⟩; have HO293 := Aside0.mk (Kd.N_lower (Kd.N_mono (ok' := fun k_ => True) ho0 (fun k_ hk_ => trivial)) (below_size (sq_bl HB.out))); replace HB := tq_s HB hb; (try clear hb); (try clear ho0)) | ((with_reducible refine gate_callee (f := 26) rfl ?_); refine sq_goes (some 17) Tryd.func26 #[.slice A0 l0.length c0] ?_; (with_reducible refine (petrinetref05_Considered.calls k (fun k_ => k_ < w.heap.size) _ _ l0 t294 _ ?s1 A6.out).mono ?_); (case s1 => exact Kd.V_mk HC0.out (Kd.F_below (Kd.C_F (Kd.heap_slice 3 (Kd.heap_int .i64)) HR0.out) (sq_bl HB.out))); rintro e w8 ⟨v295, rfl, ho0, hb⟩; refine ⟨_, rfl, ?_⟩; have HO296 := Aside0.mk (Kd.N_lower (Kd.N_mono (ok' := fun k_ => some k_ ≠ (v292 : Value).ownBlock) ho0 (fun k_ hk_ => Or.elim hk_ (fun hs_ => fun e_ => Nat.not_le.2 hs_ (Kd.N_base HO293.out k_ e_.symm)) (fun hn_ => (Kd.fresh' (Kd.N_lt (by (with_reducible repeat (first | apply Kd.N_alloc | apply Kd.N_drewN | apply Kd.N_drew)); exact HO293.out)) k_ hn_)))) (below_size (sq_bl HB.out))); replace HO293 := Aside0.mk (Kd.N_elder' (by (with_reducible repeat (first | apply Kd.N_alloc | apply Kd.N_drewN | apply Kd.N_drew)); exact HO293.out) (Kd.N_base ho0) hb); replace HB := tq_s HB hb; (try clear hb); (try clear ho0)))
 go_loopg [5] k (fun kq v5 w' => ∃ (x5_1 : Int), v5 = .int .i64 x5_1 ∧ Aside0 (petrinetlaw05_OmegaDominates.l0 kq t291 t294 x5_1 = some r) ∧ Aside0 (kq ≤ k) ∧ Aside0 (Kd.N (Kd.slice 3 (Kd.int .i64)) 22 w' w.heap.size (fun k_ => some k_ ≠ (v295 : Value).ownBlock) v292 t291) ∧ Aside0 (Kd.N (Kd.slice 3 (Kd.int .i64)) 22 w' w.heap.size (fun k_ => some k_ ≠ (v292 : Value).ownBlock) v295 t294) ∧ Aside0 (Below w.heap.size w w'))
 case atStart => exact ⟨(0), tq_z, H', ⟨Nat.le_refl _⟩, ⟨by (with_reducible repeat (first | apply Kd.N_alloc | apply Kd.N_drewN | apply Kd.N_drew)); exact Kd.N_mono HO293.out (fun _ hk => hk.2)⟩, ⟨by (with_reducible repeat (first | apply Kd.N_alloc | apply Kd.N_drewN | apply Kd.N_drew)); exact HO296.out⟩, ⟨sq_bl HB.out⟩⟩
 case round =>
  clear H'
  try clear c2b0
  try clear c2b1
  obtain ⟨x5_1, rfl, HA, HK1, HO_3, HO_4, HB⟩ := hrel
  cases gk with
  | zero => exact absurd HA.out (by simp [petrinetlaw05_OmegaDominates.l0])
  | succ k1 =>
   have H := HA.out; clear HA
   simp only [petrinetlaw05_OmegaDominates.l0] at H
   revert H; refine tq_dd (fun c9b0 H => ?_) (fun c9b0 H => ?_)
   ·have H' := Aside0.mk H; clear H; obtain ⟨Ao10, co10, eo10⟩ := Kd.N_slice HO_4.out; subst eo10
    go_wp2
    go_loopg [6, 7] k1 (fun kq v6 v7 w' => ∃ (x6_2 : Bool) (x7_2 : Int), v6 = .bool x6_2 ∧ v7 = .int .i64 x7_2 ∧ Aside0 (petrinetlaw05_OmegaDominates.l1 kq t291 t294 x5_1 x6_2 x7_2 = some r) ∧ Aside0 (kq ≤ k1) ∧ Aside0 (Kd.N (Kd.slice 3 (Kd.int .i64)) 22 w' w.heap.size (fun k_ => some k_ ≠ ((.slice Ao10 t294.length co10) : Value).ownBlock) v292 t291) ∧ Aside0 (Kd.N (Kd.slice 3 (Kd.int .i64)) 22 w' w.heap.size (fun k_ => some k_ ≠ (v292 : Value).ownBlock) (.slice Ao10 t294.length co10) t294) ∧ Aside0 (Below w.heap.size w w'))
    case atStart => exact ⟨(false), (0), tq_z, tq_z, H', ⟨Nat.le_refl _⟩, ⟨by (with_reducible repeat (first | apply Kd.N_alloc | apply Kd.N_drewN | apply Kd.N_drew)); exact HO_3.out⟩, ⟨by (with_reducible repeat (first | apply Kd.N_alloc | apply Kd.N_drewN | apply Kd.N_drew)); exact HO_4.out⟩, ⟨sq_bl HB.out⟩⟩
    case round =>
     clear H'
     try clear c9b0
     obtain ⟨x6_2, x7_2, rfl, rfl, HA, HK2, HO_3, HO_4, HB⟩ := hrel
     cases gk with
     | zero => exact absurd HA.out (by simp [petrinetlaw05_OmegaDominates.l1])
     | succ k2 =>
      have H := HA.out; clear HA
      simp only [petrinetlaw05_OmegaDominates.l1] at H
      revert H; refine tq_dd (fun c11b0 H => ?_) (fun c11b0 H => ?_); rotate_left
      ·cases x6_2
       ·replace H := tq_f H; obtain rfl := Option.some.inj H; obtain ⟨Ao24, co24, eo24⟩ := Kd.N_slice HO_3.out; subst eo24
        go_wp2
        go_ret
        exact tq_v (sq_bl HB.out)
       replace H := tq_t H; have H' := Aside0.mk H; clear H; obtain ⟨Ao23, co23, eo23⟩ := Kd.N_slice HO_3.out; subst eo23
       go_wp2
       go_roundg k2
       case measure => have := HK1.out; have := HK2.out; omega
       case rel => exact ⟨(wrap64 (x5_1 + 1)), tq_z, H', ⟨by have := HK1.out; have := HK2.out; omega⟩, ⟨by (with_reducible repeat (first | apply Kd.N_alloc | apply Kd.N_drewN | apply Kd.N_drew)); exact HO_3.out⟩, ⟨by (with_reducible repeat (first | apply Kd.N_alloc | apply Kd.N_drewN | apply Kd.N_drew)); exact HO_4.out⟩, ⟨sq_bl HB.out⟩⟩
      cases x6_2; rotate_left
      ·replace H := tq_t H; have H' := Aside0.mk H; clear H; obtain ⟨Ao13, co13, eo13⟩ := Kd.N_slice HO_3.out; subst eo13
       try go_wp2
       replace HO_3 := Aside0.mk (Kd.N_drew HO_3.out); replace HO_4 := Aside0.mk (Kd.N_drew HO_4.out); replace HB := Aside0.mk (below_drew1 HB.out); refine start_ (n := 13) (S := fun w' => True) (ds := []) #[false, false, false, false, false, false, false, false, false, false, false, false, false] (by kernel_rfl) rfl rfl trivial (fun hHeld => ?_); refine with_tabW petrinetlaw05_OmegaDominates.tab12 petrinetlaw05_OmegaDominates.bits12 (fun HT_ HW_ => ?_)
       generalize wr.drew = w14 at HO_3 HO_4 HB hHeld ⊢
       refine sq_p 0 30 (sqm 13 1) HT_.out ?_; refine sq_p 1 31 (sqm 13 3) HT_.out ?_; refine sq_u 2 32 (sqm 13 7) HT_.out ?_; refine sq_u 3 33 (sqm 13 15) HT_.out ?_; refine sq_u 4 34 (sqm 13 31) HT_.out ?_; refine sq_u 5 35 (sqm 13 63) HT_.out ?_; refine sq_u 6 36 (sqm 13 127) HT_.out ?_; refine sq_u 7 37 (sqm 13 255) HT_.out ?_; refine sq_u 8 38 (sqm 13 511) HT_.out ?_; refine sq_u 9 39 (sqm 13 1023) HT_.out ?_; refine sq_u 10 40 (sqm 13 2047) HT_.out ?_; refine sq_p 11 41 (sqm 13 4095) HT_.out ?_; refine sq_p 12 6 (sqm 13 8191) HT_.out ?_; refine done_ (done_of HT_.out (by kernel_rfl)) ?_
       try go_wp2
       go_roundg k2
       case measure => have := HK1.out; have := HK2.out; omega
       case rel => exact ⟨(true), (wrap64 (x7_2 + 1)), tq_z, tq_z, H', ⟨by have := HK1.out; have := HK2.out; omega⟩, ⟨by (with_reducible repeat (first | apply Kd.N_alloc | apply Kd.N_drewN | apply Kd.N_drew)); exact HO_3.out⟩, ⟨by (with_reducible repeat (first | apply Kd.N_alloc | apply Kd.N_drewN | apply Kd.N_drew)); exact HO_4.out⟩, ⟨sq_bl HB.out⟩⟩
      replace H := tq_f H; revert H; refine tq_i1 fun c15b0 H => ?_; revert H; refine tq_i1 fun c16b0 H => ?_; revert H; refine tq_i1 fun c17b0 H => ?_; revert H; refine tq_o fun t299 A18 H => ?_; have H' := Aside0.mk H; clear H; obtain ⟨Ao19, co19, eo19⟩ := Kd.N_slice HO_3.out; subst eo19
      try go_wp2
      replace HO_3 := Aside0.mk (Kd.N_drew HO_3.out); replace HO_4 := Aside0.mk (Kd.N_drew HO_4.out); replace HB := Aside0.mk (below_drew1 HB.out); have p297 : 0 ≤ (x5_1 : Int) := sq_d; have q297 : x5_1 < (t294.length : Int) := sq_d; obtain ⟨ad297, A297_0, c297_0, e297, hx297_0, hl297_0, hi297_0⟩ := at_L2 (Kd.N_reads' HO_4.out).2.2 x5_1 p297 q297; cases e297; obtain ⟨ce297, hce297, hMe297, hcc297⟩ := Kd.N_get HO_4.out [] x5_1 p297 (by first | exact q297 | exact sq_d | (have e_ := (Kd.N_reads' HO_4.out).1; omega)); obtain ⟨ua297_0, uc297_0, rfl, ul297_0, ge297_0⟩ := Kd.FK_slice_open hMe297; have hv297_0 := hcc297 0 _ rfl; rw [Nat.add_zero, show ((Kd.slice 3 (Kd.int .i64))).sz = 1 from rfl, Nat.mul_one] at hv297_0; replace hv297_0 := Option.some.inj (hv297_0.symm.trans hx297_0)
      injection hv297_0 with hva_ hvn_ hvc_
      rw [hva_] at ge297_0; rw [hvc_] at ul297_0; have HL297_0 := Aside0.mk (show Kd.V (Kd.int .i64) 3 _ w.heap.size _ _ (rd_L2 t294 x5_1) from Kd.V_mk ul297_0 ge297_0); clear hva_ hvn_ hvc_ ge297_0 ul297_0; clear hcc297 hce297; have HR297_0 := Aside0.mk hi297_0; have HC297_0 := Aside0.mk hl297_0; clear hi297_0 hl297_0; replace p297 := eq_true p297; replace q297 := eq_true q297; have p298 : 0 ≤ (x7_2 : Int) := sq_d; have q298 : x7_2 < (t291.length : Int) := sq_d; obtain ⟨ad298, A298_0, c298_0, e298, hx298_0, hl298_0, hi298_0⟩ := at_L2 (Kd.N_reads' HO_3.out).2.2 x7_2 p298 q298; cases e298; obtain ⟨ce298, hce298, hMe298, hcc298⟩ := Kd.N_get HO_3.out [] x7_2 p298 (by first | exact q298 | exact sq_d | (have e_ := (Kd.N_reads' HO_3.out).1; omega)); obtain ⟨ua298_0, uc298_0, rfl, ul298_0, ge298_0⟩ := Kd.FK_slice_open hMe298; have hv298_0 := hcc298 0 _ rfl; rw [Nat.add_zero, show ((Kd.slice 3 (Kd.int .i64))).sz = 1 from rfl, Nat.mul_one] at hv298_0; replace hv298_0 := Option.some.inj (hv298_0.symm.trans hx298_0)
      injection hv298_0 with hva_ hvn_ hvc_
      rw [hva_] at ge298_0; rw [hvc_] at ul298_0; have HL298_0 := Aside0.mk (show Kd.V (Kd.int .i64) 3 _ w.heap.size _ _ (rd_L2 t291 x7_2) from Kd.V_mk ul298_0 ge298_0); clear hva_ hvn_ hvc_ ge298_0 ul298_0; clear hcc298 hce298; have HR298_0 := Aside0.mk hi298_0; have HC298_0 := Aside0.mk hl298_0; clear hi298_0 hl298_0; replace p298 := eq_true p298; replace q298 := eq_true q298; refine start_ (n := 13) (S := fun w' => w'.cell? (ad297.add (x5_1).toNat) = some (.slice A297_0 (rd_L2 t294 x5_1).length c297_0) ∧ w'.cell? (ad298.add (x7_2).toNat) = some (.slice A298_0 (rd_L2 t291 x7_2).length c298_0)) (ds := []) #[false, false, false, false, false, false, false, false, false, false, false, false, false] (by kernel_rfl) rfl rfl ⟨hx297_0, hx298_0⟩ (fun hHeld => ?_); refine with_tabW petrinetlaw05_OmegaDominates.tab12 petrinetlaw05_OmegaDominates.bits12 (fun HT_ HW_ => ?_)
      generalize wr.drew = w20 at HO_3 HO_4 HB HL297_0 HL298_0 HR297_0 HR298_0 hx297_0 hx298_0 hHeld ⊢
      refine sq_p 0 30 (sqm 13 1) HT_.out ?_; refine sq_p 1 31 (sqm 13 3) HT_.out ?_; refine sq_p 2 32 (sqm 13 7) HT_.out ?_; refine sq_p 3 33 (sqm 13 15) HT_.out ?_; refine sq_p 4 34 (sqm 13 31) HT_.out ?_; refine sq_p 6 36 (sqm 13 95) HT_.out ?_; refine sq_p 7 37 (sqm 13 223) HT_.out ?_; refine sq_p 8 38 (sqm 13 479) HT_.out ?_; refine sq_t 5 35 (sqm 13 511) HT_.out HW_.out hHeld ?_; refine sq_t 9 39 (sqm 13 1023) HT_.out HW_.out hHeld ?_; refine one_ (i := 10) (N := some 40) (sqm 13 2047) rfl rfl (one_of HT_.out (by kernel_rfl)) (by decide) (fun K hK => ?_); refine goes_ Tryd.func9 (by kernel_rfl) rfl #[.slice A297_0 (rd_L2 t294 x5_1).length c297_0, .slice A298_0 (rd_L2 t291 x7_2).length c298_0] (by rfl) rfl rfl (by (try simp only [List.map_toArray, List.map_cons, List.map_nil]); first | done | rfl | (simp only [List.length_drop, List.length_take]; rfl)) ?_
      with_reducible refine (omega_Leq.calls k2 _ _ (rd_L2 t294 x5_1) _ _ (rd_L2 t291 x7_2) t299 _ ?s1 ?s2 ?s3 ?s4 A18.out).mono ?_
      (case s1 => repeat (first | exact (by repeat (first | (with_reducible exact HR297_0.out) | (with_reducible refine Kd.C_alloc ?_ _) | (with_reducible refine Kd.C_drewN ?_ _) | (with_reducible refine Kd.C_drew ?_) | exact HR297_0.out)) | (with_reducible refine Kd.C_alloc ?_ _) | (with_reducible refine Kd.C_drewN ?_ _) | (with_reducible refine Kd.C_drew ?_)))
      (case s2 => exact HC297_0.out)
      (case s3 => repeat (first | exact (by repeat (first | (with_reducible exact HR298_0.out) | (with_reducible refine Kd.C_alloc ?_ _) | (with_reducible refine Kd.C_drewN ?_ _) | (with_reducible refine Kd.C_drew ?_) | exact HR298_0.out)) | (with_reducible refine Kd.C_alloc ?_ _) | (with_reducible refine Kd.C_drewN ?_ _) | (with_reducible refine Kd.C_drew ?_)))
      (case s4 => exact HC298_0.out)
      rintro e w21 ⟨rfl, hb⟩
      have HS0_ := (hb.cell (World.block_lt_of_cell? _ _ (hHeld.1))).trans (hHeld.1); have HS1_ := (hb.cell (World.block_lt_of_cell? _ _ (hHeld.2))).trans (hHeld.2); refine ⟨_, rfl, ?_⟩; replace HO_3 := Aside0.mk (Kd.N_below (by (with_reducible repeat (first | apply Kd.N_alloc | apply Kd.N_drewN | apply Kd.N_drew)); exact HO_3.out) hb); replace HO_4 := Aside0.mk (Kd.N_below (by (with_reducible repeat (first | apply Kd.N_alloc | apply Kd.N_drewN | apply Kd.N_drew)); exact HO_4.out) hb); replace HL297_0 := Aside0.mk (Kd.V_below (by (with_reducible repeat (first | apply Kd.V_alloc | apply Kd.V_drewN | apply Kd.V_drew)); exact HL297_0.out) hb); replace HL298_0 := Aside0.mk (Kd.V_below (by (with_reducible repeat (first | apply Kd.V_alloc | apply Kd.V_drewN | apply Kd.V_drew)); exact HL298_0.out) hb); replace HR297_0 := Aside0.mk (Kd.C_below (by repeat (first | (with_reducible exact HR297_0.out) | (with_reducible refine Kd.C_alloc ?_ _) | (with_reducible refine Kd.C_drewN ?_ _) | (with_reducible refine Kd.C_drew ?_) | exact HR297_0.out)) hb); replace HR298_0 := Aside0.mk (Kd.C_below (by repeat (first | (with_reducible exact HR298_0.out) | (with_reducible refine Kd.C_alloc ?_ _) | (with_reducible refine Kd.C_drewN ?_ _) | (with_reducible refine Kd.C_drew ?_) | exact HR298_0.out)) hb); replace HB := tq_s HB hb
      (try clear hb)
      (try clear hb2)
      (try clear hk)
      (try clear hi)
      refine hK.out _ _ ⟨HS0_, HS1_⟩ (fun hHeld => ?_); clear hK K; refine norm_ (a' := ?_) ?_ ?_; rotate_left
      ·show Act.put _ (some 40) _ = _
       simp only [Act.put, List.setIfInBounds_toArray, List.set_cons_zero, List.set_cons_succ, i64_w, i32_w]
       rfl
      refine sq_p 11 41 (sqm 13 4095) HT_.out ?_; refine sq_p 12 6 (sqm 13 8191) HT_.out ?_; refine done_ (done_of HT_.out (by kernel_rfl)) ?_
      try go_wp2
      go_roundg k2
      case measure => have := HK1.out; have := HK2.out; omega
      case rel => exact ⟨(t299), (wrap64 (x7_2 + 1)), tq_z, tq_z, H', ⟨by have := HK1.out; have := HK2.out; omega⟩, ⟨by (with_reducible repeat (first | apply Kd.N_alloc | apply Kd.N_drewN | apply Kd.N_drew)); exact HO_3.out⟩, ⟨by (with_reducible repeat (first | apply Kd.N_alloc | apply Kd.N_drewN | apply Kd.N_drew)); exact HO_4.out⟩, ⟨sq_bl HB.out⟩⟩
   have H' := Aside0.mk H; clear H; obtain ⟨Ao25, co25, eo25⟩ := Kd.N_slice HO_4.out; subst eo25
   go_wp2
   go_loopg [8] k1 (fun kq v8 w' => ∃ (x8_2 : Int), v8 = .int .i64 x8_2 ∧ Aside0 (petrinetlaw05_OmegaDominates.l2 kq t291 t294 x8_2 = some r) ∧ Aside0 (kq ≤ k1) ∧ Aside0 (Kd.N (Kd.slice 3 (Kd.int .i64)) 22 w' w.heap.size (fun k_ => some k_ ≠ ((.slice Ao25 t294.length co25) : Value).ownBlock) v292 t291) ∧ Aside0 (Kd.N (Kd.slice 3 (Kd.int .i64)) 22 w' w.heap.size (fun k_ => some k_ ≠ (v292 : Value).ownBlock) (.slice Ao25 t294.length co25) t294) ∧ Aside0 (Below w.heap.size w w'))
   case atStart => exact ⟨(0), tq_z, H', ⟨Nat.le_refl _⟩, ⟨by (with_reducible repeat (first | apply Kd.N_alloc | apply Kd.N_drewN | apply Kd.N_drew)); exact HO_3.out⟩, ⟨by (with_reducible repeat (first | apply Kd.N_alloc | apply Kd.N_drewN | apply Kd.N_drew)); exact HO_4.out⟩, ⟨sq_bl HB.out⟩⟩
   case round =>
    clear H'
    try clear c9b0
    obtain ⟨x8_2, rfl, HA, HK2, HO_3, HO_4, HB⟩ := hrel
    cases gk with
    | zero => exact absurd HA.out (by simp [petrinetlaw05_OmegaDominates.l2])
    | succ k2 =>
     have H := HA.out; clear HA
     simp only [petrinetlaw05_OmegaDominates.l2] at H
     revert H; refine tq_dd (fun c26b0 H => ?_) (fun c26b0 H => ?_); rotate_left
     ·revert H; refine tq_rr (fun c40 H => ?_) (fun c40 H => ?_); rotate_left
      ·have c40b0 : ((decide ((t291.length : Int) > 0)) == (decide ((t294.length : Int) > 0))) = false := by simpa using c40
       (try (have c40b1 : decide ((decide ((t291.length : Int) > 0)) = (decide ((t294.length : Int) > 0))) = false := by simpa using c40))
       (try (have c40b2 : ((decide ((t291.length : Int) > 0)) == (decide ((t294.length : Int) > 0))) = false := by simpa using c40))
       (try (have c40b3 : ¬ ((decide ((t291.length : Int) > 0)) = (decide ((t294.length : Int) > 0))) := by simpa using c40))
       clear c40; obtain rfl := Option.some.inj H; obtain ⟨Ao44, co44, eo44⟩ := Kd.N_slice HO_3.out; subst eo44
       obtain ⟨b1_, hb1_⟩ : ∃ b : Bool, decide ((t291.length : Int) > 0) = b := ⟨_, rfl⟩
       obtain ⟨b2_, hb2_⟩ : ∃ b : Bool, decide ((t294.length : Int) > 0) = b := ⟨_, rfl⟩
       have hb3_ : decide (0 < t291.length) = b1_ := by rw [← hb1_]; exact decide_eq_decide.2 (by omega)
       have hb4_ : decide (0 < t294.length) = b2_ := by rw [← hb2_]; exact decide_eq_decide.2 (by omega)
       rw [hb1_, hb2_] at c40b0
       try clear c40b1
       try clear c40b2
       try clear c40b3
       cases b1_ <;> cases b2_ <;> first | (exact absurd c40b0 (by decide)) | (go_wp2; go_ret; exact tq_v (sq_bl HB.out))
      have c40b0 : ((decide ((t291.length : Int) > 0)) == (decide ((t294.length : Int) > 0))) = true := c40
      (try (have c40b1 : decide ((decide ((t291.length : Int) > 0)) = (decide ((t294.length : Int) > 0))) = true := by simpa using c40))
      (try (have c40b2 : ((decide ((t291.length : Int) > 0)) == (decide ((t294.length : Int) > 0))) = true := by simpa using c40))
      clear c40; revert H; refine tq_o fun t300 A41 H => ?_; obtain rfl := Option.some.inj H; obtain ⟨Ao42, co42, eo42⟩ := Kd.N_slice HO_3.out; subst eo42
      obtain ⟨b1_, hb1_⟩ : ∃ b : Bool, decide ((t291.length : Int) > 0) = b := ⟨_, rfl⟩
      obtain ⟨b2_, hb2_⟩ : ∃ b : Bool, decide ((t294.length : Int) > 0) = b := ⟨_, rfl⟩
      have hb3_ : decide (0 < t291.length) = b1_ := by rw [← hb1_]; exact decide_eq_decide.2 (by omega)
      have hb4_ : decide (0 < t294.length) = b2_ := by rw [← hb2_]; exact decide_eq_decide.2 (by omega)
      rw [hb1_, hb2_] at c40b0
      try clear c40b1
      try clear c40b2
      try clear c40b3
      cases b1_ <;> cases b2_ <;> first | (exact absurd c40b0 (by decide)) | (go_wp2_with (first | (go_at_call 16; (with_reducible refine (petrinetlaw05_exampleHolds.calls k2  t300 _ ?s1 A41.out).mono ?_); (case s1 => exact LaidW.below HLW.out (sq_bl HB.out)); rintro e w43 ⟨rfl, hb⟩; replace HO_3 := Aside0.mk (Kd.N_below (by (with_reducible repeat (first | apply Kd.N_alloc | apply Kd.N_drewN | apply Kd.N_drew)); exact HO_3.out) hb); replace HO_4 := Aside0.mk (Kd.N_below (by (with_reducible repeat (first | apply Kd.N_alloc | apply Kd.N_drewN | apply Kd.N_drew)); exact HO_4.out) hb); replace HB := tq_s HB hb; (try clear hb); (try clear hb2); (try clear hk); (try clear hi))); go_ret; exact tq_v (sq_bl HB.out))
     have H' := Aside0.mk H; clear H; obtain ⟨Ao27, co27, eo27⟩ := Kd.N_slice HO_3.out; subst eo27
     go_wp2
     go_loopg [9] k2 (fun kq v9 w' => ∃ (x9_3 : Int), v9 = .int .i64 x9_3 ∧ Aside0 (petrinetlaw05_OmegaDominates.l3 kq t291 t294 x8_2 x9_3 = some r) ∧ Aside0 (kq ≤ k2) ∧ Aside0 (Kd.N (Kd.slice 3 (Kd.int .i64)) 22 w' w.heap.size (fun k_ => some k_ ≠ ((.slice Ao25 t294.length co25) : Value).ownBlock) (.slice Ao27 t291.length co27) t291) ∧ Aside0 (Kd.N (Kd.slice 3 (Kd.int .i64)) 22 w' w.heap.size (fun k_ => some k_ ≠ ((.slice Ao27 t291.length co27) : Value).ownBlock) (.slice Ao25 t294.length co25) t294) ∧ Aside0 (Below w.heap.size w w'))
     case atStart => exact ⟨(0), tq_z, H', ⟨Nat.le_refl _⟩, ⟨by (with_reducible repeat (first | apply Kd.N_alloc | apply Kd.N_drewN | apply Kd.N_drew)); exact HO_3.out⟩, ⟨by (with_reducible repeat (first | apply Kd.N_alloc | apply Kd.N_drewN | apply Kd.N_drew)); exact HO_4.out⟩, ⟨sq_bl HB.out⟩⟩
     case round =>
      clear H'
      try clear c26b0
      obtain ⟨x9_3, rfl, HA, HK3, HO_3, HO_4, HB⟩ := hrel
      cases gk with
      | zero => exact absurd HA.out (by simp [petrinetlaw05_OmegaDominates.l3])
      | succ k3 =>
       have H := HA.out; clear HA
       simp only [petrinetlaw05_OmegaDominates.l3] at H
       revert H; refine tq_dd (fun c28b0 H => ?_) (fun c28b0 H => ?_); rotate_left
       ·have H' := Aside0.mk H; clear H
        go_wp2
        go_roundg k3
        case measure => have := HK1.out; have := HK2.out; have := HK3.out; omega
        case rel => exact ⟨(wrap64 (x8_2 + 1)), tq_z, H', ⟨by have := HK1.out; have := HK2.out; have := HK3.out; omega⟩, ⟨by (with_reducible repeat (first | apply Kd.N_alloc | apply Kd.N_drewN | apply Kd.N_drew)); exact HO_3.out⟩, ⟨by (with_reducible repeat (first | apply Kd.N_alloc | apply Kd.N_drewN | apply Kd.N_drew)); exact HO_4.out⟩, ⟨sq_bl HB.out⟩⟩
       revert H; refine tq_rr (fun c29 H => ?_) (fun c29 H => ?_)
       ·obtain ⟨c29b0, c29b1⟩ := tq_e c29; clear c29; have H' := Aside0.mk H; clear H
        try go_wp2
        replace HO_3 := Aside0.mk (Kd.N_drew HO_3.out); replace HO_4 := Aside0.mk (Kd.N_drew HO_4.out); replace HB := Aside0.mk (below_drew1 HB.out); refine start_ (n := 14) (S := fun w' => True) (ds := []) #[false, false, false, false, false, false, false, false, false, false, false, false, false, false] (by kernel_rfl) rfl rfl trivial (fun hHeld => ?_); refine with_tabW petrinetlaw05_OmegaDominates.tab21 petrinetlaw05_OmegaDominates.bits21 (fun HT_ HW_ => ?_)
        generalize wr.drew = w30 at HO_3 HO_4 HB hHeld ⊢
        refine sq_p 0 56 (sqm 14 1) HT_.out ?_; refine sq_p 1 57 (sqm 14 3) HT_.out ?_; refine sq_p 2 58 (sqm 14 7) HT_.out ?_; refine sq_p 3 59 (sqm 14 15) HT_.out ?_; refine sq_u 4 60 (sqm 14 31) HT_.out ?_; refine sq_u 5 61 (sqm 14 63) HT_.out ?_; refine sq_u 6 62 (sqm 14 127) HT_.out ?_; refine sq_u 7 63 (sqm 14 255) HT_.out ?_; refine sq_u 8 64 (sqm 14 511) HT_.out ?_; refine sq_u 9 65 (sqm 14 1023) HT_.out ?_; refine sq_u 10 66 (sqm 14 2047) HT_.out ?_; refine sq_u 11 67 (sqm 14 4095) HT_.out ?_; refine sq_u 12 68 (sqm 14 8191) HT_.out ?_; refine sq_p 13 69 (sqm 14 16383) HT_.out ?_; refine done_ (done_of HT_.out (by kernel_rfl)) ?_
        try go_wp2
        go_roundg k3
        case measure => have := HK1.out; have := HK2.out; have := HK3.out; omega
        case rel => exact ⟨(wrap64 (x9_3 + 1)), tq_z, H', ⟨by have := HK1.out; have := HK2.out; have := HK3.out; omega⟩, ⟨by (with_reducible repeat (first | apply Kd.N_alloc | apply Kd.N_drewN | apply Kd.N_drew)); exact HO_3.out⟩, ⟨by (with_reducible repeat (first | apply Kd.N_alloc | apply Kd.N_drewN | apply Kd.N_drew)); exact HO_4.out⟩, ⟨sq_bl HB.out⟩⟩
       obtain ⟨c29b0, c29b1⟩ := tq_n c29; revert H; refine tq_i1 fun c31b0 H => ?_; revert H; refine tq_i1 fun c32b0 H => ?_; revert H; refine tq_i1 fun c33b0 H => ?_; revert H; refine tq_o fun t303 A34 H => ?_; cases t303; rotate_left
       ·replace H := tq_t H; obtain rfl := Option.some.inj H
        try go_wp2
        replace HO_3 := Aside0.mk (Kd.N_drew HO_3.out); replace HO_4 := Aside0.mk (Kd.N_drew HO_4.out); replace HB := Aside0.mk (below_drew1 HB.out); have p301 : 0 ≤ (x8_2 : Int) := sq_d; have q301 : x8_2 < (t291.length : Int) := sq_d; obtain ⟨ad301, A301_0, c301_0, e301, hx301_0, hl301_0, hi301_0⟩ := at_L2 (Kd.N_reads' HO_3.out).2.2 x8_2 p301 q301; cases e301; obtain ⟨ce301, hce301, hMe301, hcc301⟩ := Kd.N_get HO_3.out [] x8_2 p301 (by first | exact q301 | exact sq_d | (have e_ := (Kd.N_reads' HO_3.out).1; omega)); obtain ⟨ua301_0, uc301_0, rfl, ul301_0, ge301_0⟩ := Kd.FK_slice_open hMe301; have hv301_0 := hcc301 0 _ rfl; rw [Nat.add_zero, show ((Kd.slice 3 (Kd.int .i64))).sz = 1 from rfl, Nat.mul_one] at hv301_0; replace hv301_0 := Option.some.inj (hv301_0.symm.trans hx301_0)
        injection hv301_0 with hva_ hvn_ hvc_
        rw [hva_] at ge301_0; rw [hvc_] at ul301_0; have HL301_0 := Aside0.mk (show Kd.V (Kd.int .i64) 3 _ w.heap.size _ _ (rd_L2 t291 x8_2) from Kd.V_mk ul301_0 ge301_0); clear hva_ hvn_ hvc_ ge301_0 ul301_0; clear hcc301 hce301; have HR301_0 := Aside0.mk hi301_0; have HC301_0 := Aside0.mk hl301_0; clear hi301_0 hl301_0; replace p301 := eq_true p301; replace q301 := eq_true q301; have p302 : 0 ≤ (x9_3 : Int) := sq_d; have q302 : x9_3 < (t291.length : Int) := sq_d; obtain ⟨ad302, A302_0, c302_0, e302, hx302_0, hl302_0, hi302_0⟩ := at_L2 (Kd.N_reads' HO_3.out).2.2 x9_3 p302 q302; obtain rfl : ad301 = ad302 := (by injection e302); obtain ⟨ce302, hce302, hMe302, hcc302⟩ := Kd.N_get HO_3.out [] x9_3 p302 (by first | exact q302 | exact sq_d | (have e_ := (Kd.N_reads' HO_3.out).1; omega)); obtain ⟨ua302_0, uc302_0, rfl, ul302_0, ge302_0⟩ := Kd.FK_slice_open hMe302; have hv302_0 := hcc302 0 _ rfl; rw [Nat.add_zero, show ((Kd.slice 3 (Kd.int .i64))).sz = 1 from rfl, Nat.mul_one] at hv302_0; replace hv302_0 := Option.some.inj (hv302_0.symm.trans hx302_0)
        injection hv302_0 with hva_ hvn_ hvc_
        rw [hva_] at ge302_0; rw [hvc_] at ul302_0; have HL302_0 := Aside0.mk (show Kd.V (Kd.int .i64) 3 _ w.heap.size _ _ (rd_L2 t291 x9_3) from Kd.V_mk ul302_0 ge302_0); clear hva_ hvn_ hvc_ ge302_0 ul302_0; clear hcc302 hce302; have HR302_0 := Aside0.mk hi302_0; have HC302_0 := Aside0.mk hl302_0; clear hi302_0 hl302_0; replace p302 := eq_true p302; replace q302 := eq_true q302; refine start_ (n := 14) (S := fun w' => w'.cell? (ad301.add (x8_2).toNat) = some (.slice A301_0 (rd_L2 t291 x8_2).length c301_0) ∧ w'.cell? (ad301.add (x9_3).toNat) = some (.slice A302_0 (rd_L2 t291 x9_3).length c302_0)) (ds := []) #[false, false, false, false, false, false, false, false, false, false, false, false, false, false] (by kernel_rfl) rfl rfl ⟨hx301_0, hx302_0⟩ (fun hHeld => ?_); refine with_tabW petrinetlaw05_OmegaDominates.tab21 petrinetlaw05_OmegaDominates.bits21 (fun HT_ HW_ => ?_)
        generalize wr.drew = w36 at HO_3 HO_4 HB HL301_0 HL302_0 HR301_0 HR302_0 hx301_0 hx302_0 hHeld ⊢
        refine sq_p 0 56 (sqm 14 1) HT_.out ?_; refine sq_p 1 57 (sqm 14 3) HT_.out ?_; refine sq_p 2 58 (sqm 14 7) HT_.out ?_; refine sq_p 3 59 (sqm 14 15) HT_.out ?_; refine sq_p 4 60 (sqm 14 31) HT_.out ?_; refine sq_p 5 61 (sqm 14 63) HT_.out ?_; refine sq_p 6 62 (sqm 14 127) HT_.out ?_; refine sq_p 8 64 (sqm 14 383) HT_.out ?_; refine sq_p 9 65 (sqm 14 895) HT_.out ?_; refine sq_p 10 66 (sqm 14 1919) HT_.out ?_; refine sq_t 7 63 (sqm 14 2047) HT_.out HW_.out hHeld ?_; refine sq_t 11 67 (sqm 14 4095) HT_.out HW_.out hHeld ?_; refine one_ (i := 12) (N := some 68) (sqm 14 8191) rfl rfl (one_of HT_.out (by kernel_rfl)) (by decide) (fun K hK => ?_); refine goes_ Tryd.func9 (by kernel_rfl) rfl #[.slice A301_0 (rd_L2 t291 x8_2).length c301_0, .slice A302_0 (rd_L2 t291 x9_3).length c302_0] (by rfl) rfl rfl (by (try simp only [List.map_toArray, List.map_cons, List.map_nil]); first | done | rfl | (simp only [List.length_drop, List.length_take]; rfl)) ?_
        with_reducible refine (omega_Leq.calls k3 _ _ (rd_L2 t291 x8_2) _ _ (rd_L2 t291 x9_3) true _ ?s1 ?s2 ?s3 ?s4 A34.out).mono ?_
        (case s1 => repeat (first | exact (by repeat (first | (with_reducible exact HR301_0.out) | (with_reducible refine Kd.C_alloc ?_ _) | (with_reducible refine Kd.C_drewN ?_ _) | (with_reducible refine Kd.C_drew ?_) | exact HR301_0.out)) | (with_reducible refine Kd.C_alloc ?_ _) | (with_reducible refine Kd.C_drewN ?_ _) | (with_reducible refine Kd.C_drew ?_)))
        (case s2 => exact HC301_0.out)
        (case s3 => repeat (first | exact (by repeat (first | (with_reducible exact HR302_0.out) | (with_reducible refine Kd.C_alloc ?_ _) | (with_reducible refine Kd.C_drewN ?_ _) | (with_reducible refine Kd.C_drew ?_) | exact HR302_0.out)) | (with_reducible refine Kd.C_alloc ?_ _) | (with_reducible refine Kd.C_drewN ?_ _) | (with_reducible refine Kd.C_drew ?_)))
        (case s4 => exact HC302_0.out)
        rintro e w37 ⟨rfl, hb⟩
        have HS0_ := (hb.cell (World.block_lt_of_cell? _ _ (hHeld.1))).trans (hHeld.1); have HS1_ := (hb.cell (World.block_lt_of_cell? _ _ (hHeld.2))).trans (hHeld.2); refine ⟨_, rfl, ?_⟩; replace HO_3 := Aside0.mk (Kd.N_below (by (with_reducible repeat (first | apply Kd.N_alloc | apply Kd.N_drewN | apply Kd.N_drew)); exact HO_3.out) hb); replace HO_4 := Aside0.mk (Kd.N_below (by (with_reducible repeat (first | apply Kd.N_alloc | apply Kd.N_drewN | apply Kd.N_drew)); exact HO_4.out) hb); replace HL301_0 := Aside0.mk (Kd.V_below (by (with_reducible repeat (first | apply Kd.V_alloc | apply Kd.V_drewN | apply Kd.V_drew)); exact HL301_0.out) hb); replace HL302_0 := Aside0.mk (Kd.V_below (by (with_reducible repeat (first | apply Kd.V_alloc | apply Kd.V_drewN | apply Kd.V_drew)); exact HL302_0.out) hb); replace HR301_0 := Aside0.mk (Kd.C_below (by repeat (first | (with_reducible exact HR301_0.out) | (with_reducible refine Kd.C_alloc ?_ _) | (with_reducible refine Kd.C_drewN ?_ _) | (with_reducible refine Kd.C_drew ?_) | exact HR301_0.out)) hb); replace HR302_0 := Aside0.mk (Kd.C_below (by repeat (first | (with_reducible exact HR302_0.out) | (with_reducible refine Kd.C_alloc ?_ _) | (with_reducible refine Kd.C_drewN ?_ _) | (with_reducible refine Kd.C_drew ?_) | exact HR302_0.out)) hb); replace HB := tq_s HB hb
        (try clear hb)
        (try clear hb2)
        (try clear hk)
        (try clear hi)
        refine hK.out _ _ ⟨HS0_, HS1_⟩ (fun hHeld => ?_); clear hK K; refine norm_ (a' := ?_) ?_ ?_; rotate_left
        ·show Act.put _ (some 68) _ = _
         simp only [Act.put, List.setIfInBounds_toArray, List.set_cons_zero, List.set_cons_succ, i64_w, i32_w]
         rfl
        refine sq_p 13 69 (sqm 14 16383) HT_.out ?_; refine done_ (done_of HT_.out (by kernel_rfl)) ?_
        try go_wp2
        go_ret
        exact tq_v (sq_bl HB.out)
       replace H := tq_f H; have H' := Aside0.mk H; clear H
       try go_wp2
       replace HO_3 := Aside0.mk (Kd.N_drew HO_3.out); replace HO_4 := Aside0.mk (Kd.N_drew HO_4.out); replace HB := Aside0.mk (below_drew1 HB.out); have p301 : 0 ≤ (x8_2 : Int) := sq_d; have q301 : x8_2 < (t291.length : Int) := sq_d; obtain ⟨ad301, A301_0, c301_0, e301, hx301_0, hl301_0, hi301_0⟩ := at_L2 (Kd.N_reads' HO_3.out).2.2 x8_2 p301 q301; cases e301; obtain ⟨ce301, hce301, hMe301, hcc301⟩ := Kd.N_get HO_3.out [] x8_2 p301 (by first | exact q301 | exact sq_d | (have e_ := (Kd.N_reads' HO_3.out).1; omega)); obtain ⟨ua301_0, uc301_0, rfl, ul301_0, ge301_0⟩ := Kd.FK_slice_open hMe301; have hv301_0 := hcc301 0 _ rfl; rw [Nat.add_zero, show ((Kd.slice 3 (Kd.int .i64))).sz = 1 from rfl, Nat.mul_one] at hv301_0; replace hv301_0 := Option.some.inj (hv301_0.symm.trans hx301_0)
       injection hv301_0 with hva_ hvn_ hvc_
       rw [hva_] at ge301_0; rw [hvc_] at ul301_0; have HL301_0 := Aside0.mk (show Kd.V (Kd.int .i64) 3 _ w.heap.size _ _ (rd_L2 t291 x8_2) from Kd.V_mk ul301_0 ge301_0); clear hva_ hvn_ hvc_ ge301_0 ul301_0; clear hcc301 hce301; have HR301_0 := Aside0.mk hi301_0; have HC301_0 := Aside0.mk hl301_0; clear hi301_0 hl301_0; replace p301 := eq_true p301; replace q301 := eq_true q301; have p302 : 0 ≤ (x9_3 : Int) := sq_d; have q302 : x9_3 < (t291.length : Int) := sq_d; obtain ⟨ad302, A302_0, c302_0, e302, hx302_0, hl302_0, hi302_0⟩ := at_L2 (Kd.N_reads' HO_3.out).2.2 x9_3 p302 q302; obtain rfl : ad301 = ad302 := (by injection e302); obtain ⟨ce302, hce302, hMe302, hcc302⟩ := Kd.N_get HO_3.out [] x9_3 p302 (by first | exact q302 | exact sq_d | (have e_ := (Kd.N_reads' HO_3.out).1; omega)); obtain ⟨ua302_0, uc302_0, rfl, ul302_0, ge302_0⟩ := Kd.FK_slice_open hMe302; have hv302_0 := hcc302 0 _ rfl; rw [Nat.add_zero, show ((Kd.slice 3 (Kd.int .i64))).sz = 1 from rfl, Nat.mul_one] at hv302_0; replace hv302_0 := Option.some.inj (hv302_0.symm.trans hx302_0)
       injection hv302_0 with hva_ hvn_ hvc_
       rw [hva_] at ge302_0; rw [hvc_] at ul302_0; have HL302_0 := Aside0.mk (show Kd.V (Kd.int .i64) 3 _ w.heap.size _ _ (rd_L2 t291 x9_3) from Kd.V_mk ul302_0 ge302_0); clear hva_ hvn_ hvc_ ge302_0 ul302_0; clear hcc302 hce302; have HR302_0 := Aside0.mk hi302_0; have HC302_0 := Aside0.mk hl302_0; clear hi302_0 hl302_0; replace p302 := eq_true p302; replace q302 := eq_true q302; refine start_ (n := 14) (S := fun w' => w'.cell? (ad301.add (x8_2).toNat) = some (.slice A301_0 (rd_L2 t291 x8_2).length c301_0) ∧ w'.cell? (ad301.add (x9_3).toNat) = some (.slice A302_0 (rd_L2 t291 x9_3).length c302_0)) (ds := []) #[false, false, false, false, false, false, false, false, false, false, false, false, false, false] (by kernel_rfl) rfl rfl ⟨hx301_0, hx302_0⟩ (fun hHeld => ?_); refine with_tabW petrinetlaw05_OmegaDominates.tab21 petrinetlaw05_OmegaDominates.bits21 (fun HT_ HW_ => ?_)
       generalize wr.drew = w38 at HO_3 HO_4 HB HL301_0 HL302_0 HR301_0 HR302_0 hx301_0 hx302_0 hHeld ⊢
       refine sq_p 0 56 (sqm 14 1) HT_.out ?_; refine sq_p 1 57 (sqm 14 3) HT_.out ?_; refine sq_p 2 58 (sqm 14 7) HT_.out ?_; refine sq_p 3 59 (sqm 14 15) HT_.out ?_; refine sq_p 4 60 (sqm 14 31) HT_.out ?_; refine sq_p 5 61 (sqm 14 63) HT_.out ?_; refine sq_p 6 62 (sqm 14 127) HT_.out ?_; refine sq_p 8 64 (sqm 14 383) HT_.out ?_; refine sq_p 9 65 (sqm 14 895) HT_.out ?_; refine sq_p 10 66 (sqm 14 1919) HT_.out ?_; refine sq_t 7 63 (sqm 14 2047) HT_.out HW_.out hHeld ?_; refine sq_t 11 67 (sqm 14 4095) HT_.out HW_.out hHeld ?_; refine one_ (i := 12) (N := some 68) (sqm 14 8191) rfl rfl (one_of HT_.out (by kernel_rfl)) (by decide) (fun K hK => ?_); refine goes_ Tryd.func9 (by kernel_rfl) rfl #[.slice A301_0 (rd_L2 t291 x8_2).length c301_0, .slice A302_0 (rd_L2 t291 x9_3).length c302_0] (by rfl) rfl rfl (by (try simp only [List.map_toArray, List.map_cons, List.map_nil]); first | done | rfl | (simp only [List.length_drop, List.length_take]; rfl)) ?_
       with_reducible refine (omega_Leq.calls k3 _ _ (rd_L2 t291 x8_2) _ _ (rd_L2 t291 x9_3) false _ ?s1 ?s2 ?s3 ?s4 A34.out).mono ?_
       (case s1 => repeat (first | exact (by repeat (first | (with_reducible exact HR301_0.out) | (with_reducible refine Kd.C_alloc ?_ _) | (with_reducible refine Kd.C_drewN ?_ _) | (with_reducible refine Kd.C_drew ?_) | exact HR301_0.out)) | (with_reducible refine Kd.C_alloc ?_ _) | (with_reducible refine Kd.C_drewN ?_ _) | (with_reducible refine Kd.C_drew ?_)))
       (case s2 => exact HC301_0.out)
       (case s3 => repeat (first | exact (by repeat (first | (with_reducible exact HR302_0.out) | (with_reducible refine Kd.C_alloc ?_ _) | (with_reducible refine Kd.C_drewN ?_ _) | (with_reducible refine Kd.C_drew ?_) | exact HR302_0.out)) | (with_reducible refine Kd.C_alloc ?_ _) | (with_reducible refine Kd.C_drewN ?_ _) | (with_reducible refine Kd.C_drew ?_)))
       (case s4 => exact HC302_0.out)
       rintro e w39 ⟨rfl, hb⟩
       have HS0_ := (hb.cell (World.block_lt_of_cell? _ _ (hHeld.1))).trans (hHeld.1); have HS1_ := (hb.cell (World.block_lt_of_cell? _ _ (hHeld.2))).trans (hHeld.2); refine ⟨_, rfl, ?_⟩; replace HO_3 := Aside0.mk (Kd.N_below (by (with_reducible repeat (first | apply Kd.N_alloc | apply Kd.N_drewN | apply Kd.N_drew)); exact HO_3.out) hb); replace HO_4 := Aside0.mk (Kd.N_below (by (with_reducible repeat (first | apply Kd.N_alloc | apply Kd.N_drewN | apply Kd.N_drew)); exact HO_4.out) hb); replace HL301_0 := Aside0.mk (Kd.V_below (by (with_reducible repeat (first | apply Kd.V_alloc | apply Kd.V_drewN | apply Kd.V_drew)); exact HL301_0.out) hb); replace HL302_0 := Aside0.mk (Kd.V_below (by (with_reducible repeat (first | apply Kd.V_alloc | apply Kd.V_drewN | apply Kd.V_drew)); exact HL302_0.out) hb); replace HR301_0 := Aside0.mk (Kd.C_below (by repeat (first | (with_reducible exact HR301_0.out) | (with_reducible refine Kd.C_alloc ?_ _) | (with_reducible refine Kd.C_drewN ?_ _) | (with_reducible refine Kd.C_drew ?_) | exact HR301_0.out)) hb); replace HR302_0 := Aside0.mk (Kd.C_below (by repeat (first | (with_reducible exact HR302_0.out) | (with_reducible refine Kd.C_alloc ?_ _) | (with_reducible refine Kd.C_drewN ?_ _) | (with_reducible refine Kd.C_drew ?_) | exact HR302_0.out)) hb); replace HB := tq_s HB hb
       (try clear hb)
       (try clear hb2)
       (try clear hk)
       (try clear hi)
       refine hK.out _ _ ⟨HS0_, HS1_⟩ (fun hHeld => ?_); clear hK K; refine norm_ (a' := ?_) ?_ ?_; rotate_left
       ·show Act.put _ (some 68) _ = _
        simp only [Act.put, List.setIfInBounds_toArray, List.set_cons_zero, List.set_cons_succ, i64_w, i32_w]
        rfl
       refine sq_p 13 69 (sqm 14 16383) HT_.out ?_; refine done_ (done_of HT_.out (by kernel_rfl)) ?_
       try go_wp2
       go_roundg k3
       case measure => have := HK1.out; have := HK2.out; have := HK3.out; omega
       case rel => exact ⟨(wrap64 (x9_3 + 1)), tq_z, H', ⟨by have := HK1.out; have := HK2.out; have := HK3.out; omega⟩, ⟨by (with_reducible repeat (first | apply Kd.N_alloc | apply Kd.N_drewN | apply Kd.N_drew)); exact HO_3.out⟩, ⟨by (with_reducible repeat (first | apply Kd.N_alloc | apply Kd.N_drewN | apply Kd.N_drew)); exact HO_4.out⟩, ⟨sq_bl HB.out⟩⟩
end Go.Proofs.YtoobmfofkeaibaaDoor.PMax
