/- Lean functions for Go functions, each with the proof that the call returns what it says; printed by wip/tools/myprint.py. -/
-- squeezed
import Derived.Test.YtcnliampiibpbaaPAllx0
import Derived.Test.YtcnliampiibpbaaPAllx13
namespace Go.Proofs.Ytcnliampiibpbaa.PAll
open Go.RowKit Go.Proofs.YtcnliampiibpbaaW.PrintWords Go.Proofs.YtcnliampiibpbaaW.PrintLast Go.Proofs.YtcnliampiibpbaaW.PrintMore
attribute [local go_sem] Instr.field asAgg max2_int min2_int max_two min_two max_three min_three max_four min_four   -- for this text's walks alone
set_option linter.unusedVariables false
set_option linter.unusedSimpArgs false

/-! ### petrinetref07_Paths: function 45 -/
mutual
def petrinetref07_Paths.l0 : Nat → List (List Int) → List (List Bool) → Int → Option ((List (List Bool)))
 | 0, _, _, _ => none
 | k + 1, x0, x3, x4 => if x4 < (x0.length : Int) then (petrinetref07_Paths.l1 k x0 x3 x4 0) else (some x3)
def petrinetref07_Paths.l1 : Nat → List (List Int) → List (List Bool) → Int → Int → Option ((List (List Bool)))
 | 0, _, _, _, _ => none
 | k + 1, x0, x3, x4, x5 => if x5 < (x0.length : Int) then (petrinetref07_Paths.l2 k x0 x3 x4 x5 0) else (petrinetref07_Paths.l0 k x0 x3 (wrap64 (x4 + 1)))
def petrinetref07_Paths.l2 : Nat → List (List Int) → List (List Bool) → Int → Int → Int → Option ((List (List Bool)))
 | 0, _, _, _, _, _ => none
 | k + 1, x0, x3, x4, x5, x6 => if x6 < (x0.length : Int) then (if 0 ≤ x5 then (if x5 < (x3.length : Int) then (if 0 ≤ x6 then (if x6 < ((rd_L6 x3 x5).length : Int) then (if rdOf false (rd_L6 x3 x5) x6 = true then (petrinetref07_Paths.l2 k x0 (x3.set (x5 : Int).toNat ((rd_L6 x3 x5).set (x6 : Int).toNat true)) x4 x5 (wrap64 (x6 + 1))) else (if 0 ≤ x4 then (if x4 < ((rd_L6 x3 x5).length : Int) then (if rdOf false (rd_L6 x3 x5) x4 = true then (if x4 < (x3.length : Int) then (if x6 < ((rd_L6 x3 x4).length : Int) then (petrinetref07_Paths.l2 k x0 (x3.set (x5 : Int).toNat ((rd_L6 x3 x5).set (x6 : Int).toNat (rdOf false (rd_L6 x3 x4) x6))) x4 x5 (wrap64 (x6 + 1))) else (none)) else (none)) else (petrinetref07_Paths.l2 k x0 (x3.set (x5 : Int).toNat ((rd_L6 x3 x5).set (x6 : Int).toNat false)) x4 x5 (wrap64 (x6 + 1)))) else (none)) else (none))) else (none)) else (none)) else (none)) else (none)) else (petrinetref07_Paths.l1 k x0 x3 x4 (wrap64 (x5 + 1)))
end
def petrinetref07_Paths.f (k : Nat) (l0 : List (List Int)) : Option ((List (List Bool))) := (petrinetref07_Table.f k l0).bind fun t261 => (petrinetref07_Paths.l0 k l0 t261 0)
theorem petrinetref07_Paths.mono_l : ∀ k, (∀ y0 y1 y2, LeO (petrinetref07_Paths.l0 k y0 y1 y2) (petrinetref07_Paths.l0 (k + 1) y0 y1 y2)) ∧ (∀ y0 y1 y2 y3, LeO (petrinetref07_Paths.l1 k y0 y1 y2 y3) (petrinetref07_Paths.l1 (k + 1) y0 y1 y2 y3)) ∧ (∀ y0 y1 y2 y3 y4, LeO (petrinetref07_Paths.l2 k y0 y1 y2 y3 y4) (petrinetref07_Paths.l2 (k + 1) y0 y1 y2 y3 y4))
 | 0 => ⟨fun _ _ _ r h => by simp [petrinetref07_Paths.l0] at h, fun _ _ _ _ r h => by simp [petrinetref07_Paths.l1] at h, fun _ _ _ _ _ r h => by simp [petrinetref07_Paths.l2] at h⟩
 | k + 1 => by
  obtain ⟨ih0, ih1, ih2⟩ := petrinetref07_Paths.mono_l k
  refine ⟨?_, ?_, ?_⟩
  ·intro y0 y1 y2
   unfold petrinetref07_Paths.l0
   repeat' first
   | (with_reducible exact ih0 _ _ _)
   | (with_reducible exact ih1 _ _ _ _)
   | (with_reducible exact ih2 _ _ _ _ _)
   | (with_reducible exact petrinetref07_Table.mono _ _)
   | (with_reducible exact LeO.refl _)
   | (with_reducible exact LeO.none _)
   | (with_reducible refine LeO.ite ?_ ?_)
   | (with_reducible refine LeO.bind ?_ (fun _ => ?_))
  ·intro y0 y1 y2 y3
   unfold petrinetref07_Paths.l1
   repeat' first
   | (with_reducible exact ih0 _ _ _)
   | (with_reducible exact ih1 _ _ _ _)
   | (with_reducible exact ih2 _ _ _ _ _)
   | (with_reducible exact petrinetref07_Table.mono _ _)
   | (with_reducible exact LeO.refl _)
   | (with_reducible exact LeO.none _)
   | (with_reducible refine LeO.ite ?_ ?_)
   | (with_reducible refine LeO.bind ?_ (fun _ => ?_))
  ·intro y0 y1 y2 y3 y4
   unfold petrinetref07_Paths.l2
   repeat' first
   | (with_reducible exact ih0 _ _ _)
   | (with_reducible exact ih1 _ _ _ _)
   | (with_reducible exact ih2 _ _ _ _ _)
   | (with_reducible exact petrinetref07_Table.mono _ _)
   | (with_reducible exact LeO.refl _)
   | (with_reducible exact LeO.none _)
   | (with_reducible refine LeO.ite ?_ ?_)
   | (with_reducible refine LeO.bind ?_ (fun _ => ?_))
theorem petrinetref07_Paths.mono : ∀ a0 k, LeO (petrinetref07_Paths.f k a0) (petrinetref07_Paths.f (k + 1) a0) := by
 intro a0 k
 obtain ⟨ih0, ih1, ih2⟩ := petrinetref07_Paths.mono_l k
 unfold petrinetref07_Paths.f
 repeat' first
   | (with_reducible exact ih0 _ _ _)
   | (with_reducible exact ih1 _ _ _ _)
   | (with_reducible exact ih2 _ _ _ _ _)
   | (with_reducible exact petrinetref07_Table.mono _ _)
   | (with_reducible exact LeO.refl _)
   | (with_reducible exact LeO.none _)
   | (with_reducible refine LeO.ite ?_ ?_)
   | (with_reducible refine LeO.bind ?_ (fun _ => ?_))
def petrinetref07_Paths.T11 : Bool × List (List Nat × List Nat) := (true, [([], []), ([], []), ([0, 1], [0, 1]), ([2], [2]), ([], []), ([], []), ([], []), ([5, 6], [5, 6]), ([7], [7]), ([], []), ([8, 9], [8, 9]), ([10], [10]), ([11], [11]), ([12], [12]), ([12], [12]), ([13, 14, 12], [12, 13, 14]), ([15, 12], [12, 15]), ([12], [12]), ([16, 17, 12], [12, 16, 17]), ([18, 12], [12, 18]), ([19, 12, 12], [12, 19]), ([20], [20]), ([20], [20]), ([21, 22, 20], [20, 21, 22]), ([23, 20], [20, 23]), ([20], [20]), ([24, 25, 20], [20, 24, 25]), ([26, 20], [20, 26]), ([20, 27, 12], [12, 20, 27]), ([12, 28], [12, 28]), ([3, 4, 0, 1, 2, 3, 4, 5, 6, 7, 8, 9, 10, 11, 12, 13, 14, 15, 16, 17, 18, 19, 20, 21, 22, 23, 24, 25, 26, 27, 28, 29], [3, 4]), ([30, 29, 20, 0, 1, 2, 3, 4, 5, 6, 7, 8, 9, 10, 11, 12, 13, 14, 15, 16, 17, 18, 19, 20, 21, 22, 23, 24, 25, 26, 27, 28, 29], [29, 30])])
def petrinetref07_Paths.B11 : List Nat := [0, 0, 3, 7, 0, 0, 0, 96, 224, 0, 992, 2016, 4064, 8160, 8160, 32736, 65504, 8160, 262112, 524256, 1048544, 2097120, 2097120, 8388576, 16777184, 2097120, 67108832, 134217696, 268435424, 536870880, 1073741823, 2147483647]
theorem petrinetref07_Paths.tab11 : rtab .any (opsOf Try.f45 11) = petrinetref07_Paths.T11 := by kernel_rfl
theorem petrinetref07_Paths.bits11 : waitsOk petrinetref07_Paths.T11.2 petrinetref07_Paths.B11 = true := by kernel_rfl
set_option maxHeartbeats 8000000 in
set_option maxRecDepth 100000 in
theorem petrinetref07_Paths.calls (k : Nat) (A0 : Option Addr) (c0 : Nat) (l0 : List (List Int)) (r : List (List Bool)) (w : World) (hr0 : Kd.C (Kd.slice 3 (Kd.int .i64)) w A0 l0.length l0) (hc0 : l0.length ≤ c0) (h : petrinetref07_Paths.f k l0 = some r) :
  Calls Try.prog 45 #[.slice A0 l0.length c0] w fun e w' => ∃ v0_ : Value, e = .returned (v0_) ∧ Kd.S (Kd.slice 4 Kd.bool) 50 w' w.heap.size (fun _ => True) v0_ r ∧ Below w.heap.size w w' := by
 have hv30 := Try.underlying30
 have HR0 := Aside0.mk hr0
 have HC0 := Aside0.mk hc0
 clear hr0 hc0
 have HB := Aside0.mk (Below.refl w.heap.size w)
 have H : ((petrinetref07_Table.f k l0).bind fun t261 => (petrinetref07_Paths.l0 k l0 t261 0)) = some r := h
 clear h
 replace H := Option.bind_eq_some_iff.mp H
 obtain ⟨t261, A20, H⟩ := H
 replace H : (petrinetref07_Paths.l0 k l0 t261 0) = some r := H
 have A2 := Aside0.mk A20
 clear A20
 have H' := Aside0.mk H
 clear H
 go_enter Try.func45, Try.ntmps45
 go_wp2_with (first | ((with_reducible refine gate_callee (f := 47) rfl ?_); refine sq_goes (some 8) Try.func47 #[.slice A0 l0.length c0] ?_; (with_reducible refine (petrinetref07_Table.calls k _ _ l0 t261 _ ?side1 ?side2 A2.out).mono ?_); (case side1 => exact sq_kc (HR0.out)); (case side2 => exact HC0.out); rintro e w3 ⟨v262, rfl, ho0, hb⟩; refine ⟨_, rfl, ?_⟩; have n0_ := Aside0.mk (Kd.S_lower ho0 (below_size (sq_bl HB.out))); have n1_ := Aside0.mk (below_step (sq_bl HB.out) hb); clear HB; have HO263 := n0_; have HB := n1_; clear n0_ n1_; (try clear hb); (try clear ho0)))
 go_loopg [4] k (fun kq v4 w' => ∃ (x3_1 : List (List Bool)) (x4_1 : Int), v4 = .int .i64 x4_1 ∧ Aside0 (petrinetref07_Paths.l0 kq l0 x3_1 x4_1 = some r) ∧ Aside0 (kq ≤ k) ∧ Aside0 (Kd.S (Kd.slice 4 Kd.bool) 50 w' w.heap.size (fun _ => True) v262 x3_1) ∧ Aside0 (Below w.heap.size w w'))
 case atStart => exact ⟨(t261), (0), (by first | rfl | (simp; done) | (simp [*]; done)), H', ⟨Nat.le_refl _⟩, ⟨by (with_reducible repeat (first | apply Kd.S_alloc | apply Kd.S_drewN | apply Kd.S_drew)); exact HO263.out⟩, ⟨sq_bl HB.out⟩⟩
 case round =>
  clear H'
  obtain ⟨x3_1, x4_1, rfl, HA, HK1, HO_3, HB⟩ := hrel
  cases gk with
  | zero => exact absurd HA.out (by simp [petrinetref07_Paths.l0])
  | succ k1 =>
   have H := HA.out
   clear HA
   simp only [petrinetref07_Paths.l0] at H
   by_cases c4 : x4_1 < (l0.length : Int)
   rotate_left
   ·rw [if_neg c4] at H
    have c4b0 : decide (x4_1 < (l0.length : Int)) = false := decide_eq_false c4
    clear c4
    obtain rfl := Option.some.inj H
    go_wp2
    go_ret
    exact ⟨_, by first | rfl | (simp [errW_none, errW_some] <;> rfl) | (simp [*, errW_none, errW_some] <;> rfl), by (with_reducible repeat (first | apply Kd.S_alloc | apply Kd.S_drewN | apply Kd.S_drew)); exact HO_3.out, sq_bl HB.out⟩
   rw [if_pos c4] at H
   have c4b0 : decide (x4_1 < (l0.length : Int)) = true := decide_eq_true c4
   clear c4
   have H' := Aside0.mk H
   clear H
   go_wp2
   go_loopg [5] k1 (fun kq v5 w' => ∃ (x3_2 : List (List Bool)) (x5_2 : Int), v5 = .int .i64 x5_2 ∧ Aside0 (petrinetref07_Paths.l1 kq l0 x3_2 x4_1 x5_2 = some r) ∧ Aside0 (kq ≤ k1) ∧ Aside0 (Kd.S (Kd.slice 4 Kd.bool) 50 w' w.heap.size (fun _ => True) v262 x3_2) ∧ Aside0 (Below w.heap.size w w'))
   case atStart => exact ⟨(x3_1), (0), (by first | rfl | (simp; done) | (simp [*]; done)), H', ⟨Nat.le_refl _⟩, ⟨by (with_reducible repeat (first | apply Kd.S_alloc | apply Kd.S_drewN | apply Kd.S_drew)); exact HO_3.out⟩, ⟨sq_bl HB.out⟩⟩
   case round =>
    clear H'
    try clear c4b0
    obtain ⟨x3_2, x5_2, rfl, HA, HK2, HO_3, HB⟩ := hrel
    cases gk with
    | zero => exact absurd HA.out (by simp [petrinetref07_Paths.l1])
    | succ k2 =>
     have H := HA.out
     clear HA
     simp only [petrinetref07_Paths.l1] at H
     by_cases c5 : x5_2 < (l0.length : Int)
     rotate_left
     ·rw [if_neg c5] at H
      have c5b0 : decide (x5_2 < (l0.length : Int)) = false := decide_eq_false c5
      clear c5
      have H' := Aside0.mk H
      clear H
      go_wp2
      go_roundg k2
      case measure => have := HK1.out; have := HK2.out; omega
      case rel => exact ⟨(x3_2), (wrap64 (x4_1 + 1)), (by first | rfl | (simp; done) | (simp [*]; done)), H', ⟨by have := HK1.out; have := HK2.out; omega⟩, ⟨by (with_reducible repeat (first | apply Kd.S_alloc | apply Kd.S_drewN | apply Kd.S_drew)); exact HO_3.out⟩, ⟨sq_bl HB.out⟩⟩
     rw [if_pos c5] at H
     have c5b0 : decide (x5_2 < (l0.length : Int)) = true := decide_eq_true c5
     clear c5
     have H' := Aside0.mk H
     clear H
     go_wp2
     go_loopg [6] k2 (fun kq v6 w' => ∃ (x3_3 : List (List Bool)) (x6_3 : Int), v6 = .int .i64 x6_3 ∧ Aside0 (petrinetref07_Paths.l2 kq l0 x3_3 x4_1 x5_2 x6_3 = some r) ∧ Aside0 (kq ≤ k2) ∧ Aside0 (Kd.S (Kd.slice 4 Kd.bool) 50 w' w.heap.size (fun _ => True) v262 x3_3) ∧ Aside0 (Below w.heap.size w w'))
     case atStart => exact ⟨(x3_2), (0), (by first | rfl | (simp; done) | (simp [*]; done)), H', ⟨Nat.le_refl _⟩, ⟨by (with_reducible repeat (first | apply Kd.S_alloc | apply Kd.S_drewN | apply Kd.S_drew)); exact HO_3.out⟩, ⟨sq_bl HB.out⟩⟩
     case round =>
      clear H'
      try clear c5b0
      obtain ⟨x3_3, x6_3, rfl, HA, HK3, HO_3, HB⟩ := hrel
      cases gk with
      | zero => exact absurd HA.out (by simp [petrinetref07_Paths.l2])
      | succ k3 =>
       have H := HA.out
       clear HA
       simp only [petrinetref07_Paths.l2] at H
       by_cases c6 : x6_3 < (l0.length : Int)
       rotate_left
       ·rw [if_neg c6] at H
        have c6b0 : decide (x6_3 < (l0.length : Int)) = false := decide_eq_false c6
        clear c6
        have H' := Aside0.mk H
        clear H
        go_wp2
        go_roundg k3
        case measure => have := HK1.out; have := HK2.out; have := HK3.out; omega
        case rel => exact ⟨(x3_3), (wrap64 (x5_2 + 1)), (by first | rfl | (simp; done) | (simp [*]; done)), H', ⟨by have := HK1.out; have := HK2.out; have := HK3.out; omega⟩, ⟨by (with_reducible repeat (first | apply Kd.S_alloc | apply Kd.S_drewN | apply Kd.S_drew)); exact HO_3.out⟩, ⟨sq_bl HB.out⟩⟩
       rw [if_pos c6] at H
       have c6b0 : decide (x6_3 < (l0.length : Int)) = true := decide_eq_true c6
       clear c6
       by_cases c7 : 0 ≤ x5_2
       rotate_left
       ·rw [if_neg c7] at H
        exact absurd H (by simp)
       rw [if_pos c7] at H
       have c7b0 : decide (0 ≤ x5_2) = true := decide_eq_true c7
       clear c7
       by_cases c8 : x5_2 < (x3_3.length : Int)
       rotate_left
       ·rw [if_neg c8] at H
        exact absurd H (by simp)
       rw [if_pos c8] at H
       have c8b0 : decide (x5_2 < (x3_3.length : Int)) = true := decide_eq_true c8
       clear c8
       by_cases c9 : 0 ≤ x6_3
       rotate_left
       ·rw [if_neg c9] at H
        exact absurd H (by simp)
       rw [if_pos c9] at H
       have c9b0 : decide (0 ≤ x6_3) = true := decide_eq_true c9
       clear c9
       by_cases c10 : x6_3 < ((rd_L6 x3_3 x5_2).length : Int)
       rotate_left
       ·rw [if_neg c10] at H
        exact absurd H (by simp)
       rw [if_pos c10] at H
       have c10b0 : decide (x6_3 < ((rd_L6 x3_3 x5_2).length : Int)) = true := decide_eq_true c10
       clear c10
       obtain ⟨bq11, hbq11⟩ : ∃ b_ : Bool, b_ = (rdOf false (rd_L6 x3_3 x5_2) x6_3) := ⟨_, rfl⟩
       replace H : (if bq11 = true then (petrinetref07_Paths.l2 k3 l0 (x3_3.set (x5_2 : Int).toNat ((rd_L6 x3_3 x5_2).set (x6_3 : Int).toNat true)) x4_1 x5_2 (wrap64 (x6_3 + 1))) else (if 0 ≤ x4_1 then (if x4_1 < ((rd_L6 x3_3 x5_2).length : Int) then (if rdOf false (rd_L6 x3_3 x5_2) x4_1 = true then (if x4_1 < (x3_3.length : Int) then (if x6_3 < ((rd_L6 x3_3 x4_1).length : Int) then (petrinetref07_Paths.l2 k3 l0 (x3_3.set (x5_2 : Int).toNat ((rd_L6 x3_3 x5_2).set (x6_3 : Int).toNat (rdOf false (rd_L6 x3_3 x4_1) x6_3))) x4_1 x5_2 (wrap64 (x6_3 + 1))) else (none)) else (none)) else (petrinetref07_Paths.l2 k3 l0 (x3_3.set (x5_2 : Int).toNat ((rd_L6 x3_3 x5_2).set (x6_3 : Int).toNat false)) x4_1 x5_2 (wrap64 (x6_3 + 1)))) else (none)) else (none))) = some r := by rw [← hbq11] at H; exact H
       have Nbq11 := Aside0.mk hbq11
       clear hbq11
       by_cases c12 : bq11 = true
       ·subst c12
        have H1 : (petrinetref07_Paths.l2 k3 l0 (x3_3.set (x5_2 : Int).toNat ((rd_L6 x3_3 x5_2).set (x6_3 : Int).toNat true)) x4_1 x5_2 (wrap64 (x6_3 + 1))) = some r := by rw [if_pos rfl] at H; exact H
        clear H
        have H := H1
        clear H1
        obtain ⟨y267, hy267⟩ : ∃ y_ : List Bool, y_ = ((rd_L6 x3_3 x5_2).set (x6_3 : Int).toNat true) := ⟨_, rfl⟩
        replace H : (petrinetref07_Paths.l2 k3 l0 (x3_3.set (x5_2 : Int).toNat y267) x4_1 x5_2 (wrap64 (x6_3 + 1))) = some r := by first | (rw [hy267]; with_reducible exact H) | (have H2_ := (Option.bind_some _ _).symm.trans H; rw [hy267]; with_reducible exact H2_) | (have H2_ := (Option.bind_some _ _).symm.trans H; with_reducible exact H2_) | with_reducible exact H | (rw [hy267]; exact H) | exact H
        have Ny267 := Aside0.mk hy267
        clear hy267
        obtain ⟨y269, hy269⟩ : ∃ y_ : List (List Bool), y_ = (x3_3.set (x5_2 : Int).toNat y267) := ⟨_, rfl⟩
        replace H : (petrinetref07_Paths.l2 k3 l0 y269 x4_1 x5_2 (wrap64 (x6_3 + 1))) = some r := by first | (rw [hy269]; with_reducible exact H) | (have H2_ := (Option.bind_some _ _).symm.trans H; rw [hy269]; with_reducible exact H2_) | (have H2_ := (Option.bind_some _ _).symm.trans H; with_reducible exact H2_) | with_reducible exact H | (rw [hy269]; exact H) | exact H
        have Ny269 := Aside0.mk hy269
        clear hy269
        have H' := Aside0.mk H
        clear H
        try go_wp2
        have n0_ := Aside0.mk (Kd.S_drew HO_3.out)
        have n1_ := Aside0.mk (below_drew1 HB.out)
        clear HO_3
        clear HB
        have HO_3 := n0_
        have HB := n1_
        clear n0_ n1_
        obtain ⟨Ao15, co15, eo15⟩ := Kd.S_slice HO_3.out
        (first | subst eo15 | (injection eo15 with f1_ f2_ f3_; have f4_ := f1_.symm; have f5_ := f3_.symm; clear f1_ f2_ f3_; subst f4_; subst f5_))
        have p264 : 0 ≤ (x5_2 : Int) := sq_d
        have q264 : x5_2 < (x3_3.length : Int) := sq_d
        have LQ264 := Aside0.mk q264
        obtain ⟨ad264, A264_0, c264_0, e264, hx264_0, hl264_0, hi264_0⟩ := at_L6 (Kd.S_reads' HO_3.out).2.2 x5_2 p264 q264
        cases e264
        obtain ⟨ce264, hce264, hMe264, hcc264⟩ := Kd.S_get HO_3.out [] x5_2 p264 (by first | exact q264 | exact sq_d | (have e_ := (Kd.S_reads' HO_3.out).1; omega))
        obtain ⟨ve264_0, rfl, ge264_0⟩ := hMe264
        have hv264_0 := hcc264 0 _ rfl
        rw [Nat.add_zero, show ((Kd.slice 4 Kd.bool)).sz = 1 from rfl, Nat.mul_one] at hv264_0
        replace hv264_0 := Option.some.inj (hv264_0.symm.trans hx264_0)
        rw [hv264_0] at ge264_0
        have HL264_0 := Aside0.mk (show Kd.R Kd.bool 4 _ _ _ _ (rd_L6 x3_3 x5_2) from ge264_0)
        clear hv264_0 ge264_0
        have HX264_0 := Aside0.mk hx264_0
        clear hcc264 hce264
        have HR264_0 := Aside0.mk hi264_0
        have HC264_0 := Aside0.mk hl264_0
        clear hi264_0 hl264_0
        replace p264 := eq_true p264
        replace q264 := eq_true q264
        have p265 : 0 ≤ (x5_2 : Int) := sq_d
        have q265 : x5_2 < (x3_3.length : Int) := sq_d
        have LQ265 := Aside0.mk q265
        obtain ⟨ad265, A265_0, c265_0, e265, hx265_0, hl265_0, hi265_0⟩ := at_L6 (Kd.S_reads' HO_3.out).2.2 x5_2 p265 q265
        obtain rfl : ad264 = ad265 := (by injection e265)
        obtain ⟨ce265, hce265, hMe265, hcc265⟩ := Kd.S_get HO_3.out [] x5_2 p265 (by first | exact q265 | exact sq_d | (have e_ := (Kd.S_reads' HO_3.out).1; omega))
        obtain ⟨ve265_0, rfl, ge265_0⟩ := hMe265
        have hv265_0 := hcc265 0 _ rfl
        rw [Nat.add_zero, show ((Kd.slice 4 Kd.bool)).sz = 1 from rfl, Nat.mul_one] at hv265_0
        replace hv265_0 := Option.some.inj (hv265_0.symm.trans hx265_0)
        rw [hv265_0] at ge265_0
        have HL265_0 := Aside0.mk (show Kd.R Kd.bool 4 _ _ _ _ (rd_L6 x3_3 x5_2) from ge265_0)
        clear hv265_0 ge265_0
        have HX265_0 := Aside0.mk hx265_0
        clear hcc265 hce265
        have HR265_0 := Aside0.mk hi265_0
        have HC265_0 := Aside0.mk hl265_0
        clear hi265_0 hl265_0
        replace p265 := eq_true p265
        replace q265 := eq_true q265
        have ea_ := Option.some.inj (hx264_0.symm.trans hx265_0)
        injection ea_ with ea_ en_ ec_
        subst ea_
        subst ec_
        clear en_
        have p266 : 0 ≤ (x6_3 : Int) := sq_d
        have q266 : x6_3 < ((rd_L6 x3_3 x5_2).length : Int) := sq_d
        obtain ⟨ad266, e266, hx266_0⟩ := Kd.at_bool (by repeat (first | (with_reducible exact HR265_0.out) | (with_reducible refine Kd.C_alloc ?_ _) | (with_reducible refine Kd.C_drewN ?_ _) | (with_reducible refine Kd.C_drew ?_) | exact HR265_0.out)) x6_3 p266 q266
        (try rw [← Nbq11.out] at hx266_0)
        cases e266
        replace p266 := eq_true p266
        replace q266 := eq_true q266
        have p13 : 0 ≤ (x6_3 : Int) := sq_d
        have q13 : (x6_3 : Int) < (((rd_L6 x3_3 x5_2).length : Int) : Int) := sq_d
        obtain ⟨go13, co13, eo13, gb13, gl13, cl13, HG13⟩ := Kd.R_form HL264_0.out (by omega)
        (first | cases eo13 | (injection eo13 with ea_ en_ ec_; (first | subst ea_ | (injection ea_ with ea_; subst ea_)); subst ec_; clear en_))
        have GB13 := Aside0.mk gb13
        have GG13 := Aside0.mk HG13
        clear gb13 gl13 HG13
        (first | simp only [add_plain] at hx266_0 | skip)
        obtain ⟨hx13_0, hf13_0⟩ := Kd.R_celln false HL264_0.out (x6_3 : Int) p13 q13
        replace p13 := eq_true p13
        replace q13 := eq_true q13
        have hq16 : (x5_2 : Int) < (x3_3.length : Int) := (by have h_ : (x5_2 : Int) < ((x3_3.length : Int) : Int) := sq_d; first | exact h_ | (have e_ := (Kd.S_reads' HO_3.out).1; omega) | simpa only [List.length_set, List.length_set] using h_)
        obtain ⟨oki16, ce16, hcl16, hM16, hcc16, hok16, hbk16⟩ := Kd.S_borrow HO_3.out [] (x5_2 : Int) sq_d hq16
        obtain ⟨ve16_0, rfl, ge16_0⟩ := hM16
        have hv16 := hcc16 0 _ rfl
        rw [Nat.add_zero, show ((Kd.slice 4 Kd.bool)).sz = 1 from rfl, Nat.mul_one] at hv16
        replace hv16 := Option.some.inj (hv16.symm.trans HX264_0.out)
        subst hv16
        clear hcc16 hcl16
        replace ge16_0 := (show Kd.R Kd.bool 4 _ _ _ _ (rd_L6 x3_3 x5_2) from ge16_0)
        have HP16 := Kd.R_putg ge16_0 (x6_3 : Int) true
        rw [← Ny267.out] at HP16
        have HS16 := hbk16 HP16.2 (fun k_ e_ => by injection e_ with e_; subst e_; exact ge16_0.1 _ rfl) (x' := y267) (Kd.M_row HP16.1)
        rw [← Ny269.out] at HS16
        have HQ16 := Aside0.mk HS16
        clear HP16 HS16 hbk16 hok16
        refine start_ (n := 32) (S := fun w' => w'.cell? (ad264.add (x5_2).toNat) = some (.slice (some ⟨go13, 0, none⟩) (rd_L6 x3_3 x5_2).length c264_0) ∧ w'.cell? (ad264.add (x5_2).toNat) = some (.slice (some ⟨go13, 0, none⟩) (rd_L6 x3_3 x5_2).length c264_0) ∧ w'.cell? ⟨go13, (x6_3).toNat, none⟩ = some (.bool true)) (ds := [31]) #[false, false, false, false, false, false, false, false, false, false, false, false, false, false, false, false, false, false, false, false, false, false, false, false, false, false, false, false, false, false, false, false] (by kernel_rfl) rfl rfl ⟨hx264_0, hx265_0, hx266_0⟩ (fun hHeld => ?_); refine with_tabW petrinetref07_Paths.tab11 petrinetref07_Paths.bits11 (fun HT_ HW_ => ?_)
        generalize wr.drew = w14 at HO_3 HB GG13 HL264_0 HL265_0 HQ16 HR264_0 HR265_0 HX264_0 HX265_0 hf13_0 hx13_0 hx264_0 hx265_0 hx266_0 hHeld ⊢
        refine sq_p 0 27 (sqm 32 1) HT_.out ?_
        refine sq_p 1 28 (sqm 32 3) HT_.out ?_
        refine sq_p 2 29 (sqm 32 7) HT_.out ?_
        refine sq_p 4 31 (sqm 32 23) HT_.out ?_
        refine sq_p 5 32 (sqm 32 55) HT_.out ?_
        refine sq_p 6 33 (sqm 32 119) HT_.out ?_
        refine sq_p 7 34 (sqm 32 247) HT_.out ?_
        refine sq_p 9 36 (sqm 32 759) HT_.out ?_
        refine sq_t 3 30 (sqm 32 767) HT_.out HW_.out hHeld ?_
        refine sq_t 8 35 (sqm 32 1023) HT_.out HW_.out hHeld ?_
        refine sq_p 10 37 (sqm 32 2047) HT_.out ?_
        refine sq_t 11 38 (sqm 32 4095) HT_.out HW_.out hHeld ?_
        refine sq_p 12 39 (sqm 32 8191) HT_.out ?_
        refine sq_u 13 40 (sqm 32 16383) HT_.out ?_
        refine sq_u 14 41 (sqm 32 32767) HT_.out ?_
        refine sq_u 15 42 (sqm 32 65535) HT_.out ?_
        refine sq_u 16 43 (sqm 32 131071) HT_.out ?_
        refine sq_u 17 44 (sqm 32 262143) HT_.out ?_
        refine sq_u 18 45 (sqm 32 524287) HT_.out ?_
        refine sq_u 19 46 (sqm 32 1048575) HT_.out ?_
        refine sq_u 20 47 (sqm 32 2097151) HT_.out ?_
        refine sq_u 21 48 (sqm 32 4194303) HT_.out ?_
        refine sq_u 22 49 (sqm 32 8388607) HT_.out ?_
        refine sq_u 23 50 (sqm 32 16777215) HT_.out ?_
        refine sq_u 24 51 (sqm 32 33554431) HT_.out ?_
        refine sq_u 25 52 (sqm 32 67108863) HT_.out ?_
        refine sq_u 26 53 (sqm 32 134217727) HT_.out ?_
        refine sq_u 27 54 (sqm 32 268435455) HT_.out ?_
        refine sq_u 28 55 (sqm 32 536870911) HT_.out ?_
        refine sq_p 29 56 (sqm 32 1073741823) HT_.out ?_
        refine sq_p 30 57 (sqm 32 2147483647) HT_.out ?_
        refine last_ (i := 31) (N := none) (sqm 32 4294967295) rfl rfl (one_of HT_.out (by kernel_rfl)) (by decide) (fun K hK => ?_)
        refine skip_ (w1 := ?_) (by rfl) rfl ?_ ?_
        rotate_left
        ·go_simp
         rfl
        refine hK.out _ _ ?_
        clear hK K
        refine done_ (done_of HT_.out (by kernel_rfl)) ?_
        try go_wp2
        go_roundg k3
        case measure => have := HK1.out; have := HK2.out; have := HK3.out; omega
        case rel => exact ⟨(y269), (wrap64 (x6_3 + 1)), (by first | rfl | (simp; done) | (simp [*]; done)), H', ⟨by have := HK1.out; have := HK2.out; have := HK3.out; omega⟩, ⟨by (with_reducible repeat (first | apply Kd.S_alloc | apply Kd.S_drewN | apply Kd.S_drew)); exact HQ16.out⟩, ⟨sq_bs HB.out⟩⟩
       replace c12 := Bool.eq_false_iff.mpr c12
       subst c12
       have H1 : (if 0 ≤ x4_1 then (if x4_1 < ((rd_L6 x3_3 x5_2).length : Int) then (if rdOf false (rd_L6 x3_3 x5_2) x4_1 = true then (if x4_1 < (x3_3.length : Int) then (if x6_3 < ((rd_L6 x3_3 x4_1).length : Int) then (petrinetref07_Paths.l2 k3 l0 (x3_3.set (x5_2 : Int).toNat ((rd_L6 x3_3 x5_2).set (x6_3 : Int).toNat (rdOf false (rd_L6 x3_3 x4_1) x6_3))) x4_1 x5_2 (wrap64 (x6_3 + 1))) else (none)) else (none)) else (petrinetref07_Paths.l2 k3 l0 (x3_3.set (x5_2 : Int).toNat ((rd_L6 x3_3 x5_2).set (x6_3 : Int).toNat false)) x4_1 x5_2 (wrap64 (x6_3 + 1)))) else (none)) else (none)) = some r := by rw [if_neg (show ¬ (false = true) by decide)] at H; exact H
       clear H
       have H := H1
       clear H1
       by_cases c18 : 0 ≤ x4_1
       rotate_left
       ·rw [if_neg c18] at H
        exact absurd H (by simp)
       rw [if_pos c18] at H
       have c18b0 : decide (0 ≤ x4_1) = true := decide_eq_true c18
       clear c18
       by_cases c19 : x4_1 < ((rd_L6 x3_3 x5_2).length : Int)
       rotate_left
       ·rw [if_neg c19] at H
        exact absurd H (by simp)
       rw [if_pos c19] at H
       have c19b0 : decide (x4_1 < ((rd_L6 x3_3 x5_2).length : Int)) = true := decide_eq_true c19
       clear c19
       obtain ⟨bq20, hbq20⟩ : ∃ b_ : Bool, b_ = (rdOf false (rd_L6 x3_3 x5_2) x4_1) := ⟨_, rfl⟩
       replace H : (if bq20 = true then (if x4_1 < (x3_3.length : Int) then (if x6_3 < ((rd_L6 x3_3 x4_1).length : Int) then (petrinetref07_Paths.l2 k3 l0 (x3_3.set (x5_2 : Int).toNat ((rd_L6 x3_3 x5_2).set (x6_3 : Int).toNat (rdOf false (rd_L6 x3_3 x4_1) x6_3))) x4_1 x5_2 (wrap64 (x6_3 + 1))) else (none)) else (none)) else (petrinetref07_Paths.l2 k3 l0 (x3_3.set (x5_2 : Int).toNat ((rd_L6 x3_3 x5_2).set (x6_3 : Int).toNat false)) x4_1 x5_2 (wrap64 (x6_3 + 1)))) = some r := by rw [← hbq20] at H; exact H
       have Nbq20 := Aside0.mk hbq20
       clear hbq20
       by_cases c21 : bq20 = true
       rotate_left
       ·replace c21 := Bool.eq_false_iff.mpr c21
        subst c21
        have H1 : (petrinetref07_Paths.l2 k3 l0 (x3_3.set (x5_2 : Int).toNat ((rd_L6 x3_3 x5_2).set (x6_3 : Int).toNat false)) x4_1 x5_2 (wrap64 (x6_3 + 1))) = some r := by rw [if_neg (show ¬ (false = true) by decide)] at H; exact H
        clear H
        have H := H1
        clear H1
        obtain ⟨y277, hy277⟩ : ∃ y_ : List Bool, y_ = ((rd_L6 x3_3 x5_2).set (x6_3 : Int).toNat false) := ⟨_, rfl⟩
        replace H : (petrinetref07_Paths.l2 k3 l0 (x3_3.set (x5_2 : Int).toNat y277) x4_1 x5_2 (wrap64 (x6_3 + 1))) = some r := by first | (rw [hy277]; with_reducible exact H) | (have H2_ := (Option.bind_some _ _).symm.trans H; rw [hy277]; with_reducible exact H2_) | (have H2_ := (Option.bind_some _ _).symm.trans H; with_reducible exact H2_) | with_reducible exact H | (rw [hy277]; exact H) | exact H
        have Ny277 := Aside0.mk hy277
        clear hy277
        obtain ⟨y279, hy279⟩ : ∃ y_ : List (List Bool), y_ = (x3_3.set (x5_2 : Int).toNat y277) := ⟨_, rfl⟩
        replace H : (petrinetref07_Paths.l2 k3 l0 y279 x4_1 x5_2 (wrap64 (x6_3 + 1))) = some r := by first | (rw [hy279]; with_reducible exact H) | (have H2_ := (Option.bind_some _ _).symm.trans H; rw [hy279]; with_reducible exact H2_) | (have H2_ := (Option.bind_some _ _).symm.trans H; with_reducible exact H2_) | with_reducible exact H | (rw [hy279]; exact H) | exact H
        have Ny279 := Aside0.mk hy279
        clear hy279
        have H' := Aside0.mk H
        clear H
        try go_wp2
        have n0_ := Aside0.mk (Kd.S_drew HO_3.out)
        have n1_ := Aside0.mk (below_drew1 HB.out)
        clear HO_3
        clear HB
        have HO_3 := n0_
        have HB := n1_
        clear n0_ n1_
        obtain ⟨Ao31, co31, eo31⟩ := Kd.S_slice HO_3.out
        (first | subst eo31 | (injection eo31 with f1_ f2_ f3_; have f4_ := f1_.symm; have f5_ := f3_.symm; clear f1_ f2_ f3_; subst f4_; subst f5_))
        have p264 : 0 ≤ (x5_2 : Int) := sq_d
        have q264 : x5_2 < (x3_3.length : Int) := sq_d
        have LQ264 := Aside0.mk q264
        obtain ⟨ad264, A264_0, c264_0, e264, hx264_0, hl264_0, hi264_0⟩ := at_L6 (Kd.S_reads' HO_3.out).2.2 x5_2 p264 q264
        cases e264
        obtain ⟨ce264, hce264, hMe264, hcc264⟩ := Kd.S_get HO_3.out [] x5_2 p264 (by first | exact q264 | exact sq_d | (have e_ := (Kd.S_reads' HO_3.out).1; omega))
        obtain ⟨ve264_0, rfl, ge264_0⟩ := hMe264
        have hv264_0 := hcc264 0 _ rfl
        rw [Nat.add_zero, show ((Kd.slice 4 Kd.bool)).sz = 1 from rfl, Nat.mul_one] at hv264_0
        replace hv264_0 := Option.some.inj (hv264_0.symm.trans hx264_0)
        rw [hv264_0] at ge264_0
        have HL264_0 := Aside0.mk (show Kd.R Kd.bool 4 _ _ _ _ (rd_L6 x3_3 x5_2) from ge264_0)
        clear hv264_0 ge264_0
        have HX264_0 := Aside0.mk hx264_0
        clear hcc264 hce264
        have HR264_0 := Aside0.mk hi264_0
        have HC264_0 := Aside0.mk hl264_0
        clear hi264_0 hl264_0
        replace p264 := eq_true p264
        replace q264 := eq_true q264
        have p265 : 0 ≤ (x5_2 : Int) := sq_d
        have q265 : x5_2 < (x3_3.length : Int) := sq_d
        have LQ265 := Aside0.mk q265
        obtain ⟨ad265, A265_0, c265_0, e265, hx265_0, hl265_0, hi265_0⟩ := at_L6 (Kd.S_reads' HO_3.out).2.2 x5_2 p265 q265
        obtain rfl : ad264 = ad265 := (by injection e265)
        obtain ⟨ce265, hce265, hMe265, hcc265⟩ := Kd.S_get HO_3.out [] x5_2 p265 (by first | exact q265 | exact sq_d | (have e_ := (Kd.S_reads' HO_3.out).1; omega))
        obtain ⟨ve265_0, rfl, ge265_0⟩ := hMe265
        have hv265_0 := hcc265 0 _ rfl
        rw [Nat.add_zero, show ((Kd.slice 4 Kd.bool)).sz = 1 from rfl, Nat.mul_one] at hv265_0
        replace hv265_0 := Option.some.inj (hv265_0.symm.trans hx265_0)
        rw [hv265_0] at ge265_0
        have HL265_0 := Aside0.mk (show Kd.R Kd.bool 4 _ _ _ _ (rd_L6 x3_3 x5_2) from ge265_0)
        clear hv265_0 ge265_0
        have HX265_0 := Aside0.mk hx265_0
        clear hcc265 hce265
        have HR265_0 := Aside0.mk hi265_0
        have HC265_0 := Aside0.mk hl265_0
        clear hi265_0 hl265_0
        replace p265 := eq_true p265
        replace q265 := eq_true q265
        have ea_ := Option.some.inj (hx264_0.symm.trans hx265_0)
        injection ea_ with ea_ en_ ec_
        subst ea_
        subst ec_
        clear en_
        have p266 : 0 ≤ (x6_3 : Int) := sq_d
        have q266 : x6_3 < ((rd_L6 x3_3 x5_2).length : Int) := sq_d
        obtain ⟨ad266, e266, hx266_0⟩ := Kd.at_bool (by repeat (first | (with_reducible exact HR265_0.out) | (with_reducible refine Kd.C_alloc ?_ _) | (with_reducible refine Kd.C_drewN ?_ _) | (with_reducible refine Kd.C_drew ?_) | exact HR265_0.out)) x6_3 p266 q266
        (try rw [← Nbq11.out] at hx266_0)
        (try rw [← Nbq20.out] at hx266_0)
        cases e266
        replace p266 := eq_true p266
        replace q266 := eq_true q266
        have p270 : 0 ≤ (x5_2 : Int) := sq_d
        have q270 : x5_2 < (x3_3.length : Int) := sq_d
        have LQ270 := Aside0.mk q270
        obtain ⟨ad270, A270_0, c270_0, e270, hx270_0, hl270_0, hi270_0⟩ := at_L6 (Kd.S_reads' HO_3.out).2.2 x5_2 p270 q270
        obtain rfl : ad264 = ad270 := (by injection e270)
        obtain ⟨ce270, hce270, hMe270, hcc270⟩ := Kd.S_get HO_3.out [] x5_2 p270 (by first | exact q270 | exact sq_d | (have e_ := (Kd.S_reads' HO_3.out).1; omega))
        obtain ⟨ve270_0, rfl, ge270_0⟩ := hMe270
        have hv270_0 := hcc270 0 _ rfl
        rw [Nat.add_zero, show ((Kd.slice 4 Kd.bool)).sz = 1 from rfl, Nat.mul_one] at hv270_0
        replace hv270_0 := Option.some.inj (hv270_0.symm.trans hx270_0)
        rw [hv270_0] at ge270_0
        have HL270_0 := Aside0.mk (show Kd.R Kd.bool 4 _ _ _ _ (rd_L6 x3_3 x5_2) from ge270_0)
        clear hv270_0 ge270_0
        have HX270_0 := Aside0.mk hx270_0
        clear hcc270 hce270
        have HR270_0 := Aside0.mk hi270_0
        have HC270_0 := Aside0.mk hl270_0
        clear hi270_0 hl270_0
        replace p270 := eq_true p270
        replace q270 := eq_true q270
        have ea_ := Option.some.inj (hx264_0.symm.trans hx270_0)
        injection ea_ with ea_ en_ ec_
        subst ea_
        subst ec_
        clear en_
        have p271 : 0 ≤ (x4_1 : Int) := sq_d
        have q271 : x4_1 < ((rd_L6 x3_3 x5_2).length : Int) := sq_d
        obtain ⟨ad271, e271, hx271_0⟩ := Kd.at_bool (by repeat (first | (with_reducible exact HR270_0.out) | (with_reducible refine Kd.C_alloc ?_ _) | (with_reducible refine Kd.C_drewN ?_ _) | (with_reducible refine Kd.C_drew ?_) | exact HR270_0.out)) x4_1 p271 q271
        (try rw [← Nbq11.out] at hx271_0)
        (try rw [← Nbq20.out] at hx271_0)
        cases e271
        replace p271 := eq_true p271
        replace q271 := eq_true q271
        have p29 : 0 ≤ (x6_3 : Int) := sq_d
        have q29 : (x6_3 : Int) < (((rd_L6 x3_3 x5_2).length : Int) : Int) := sq_d
        obtain ⟨go29, co29, eo29, gb29, gl29, cl29, HG29⟩ := Kd.R_form HL264_0.out (by omega)
        (first | cases eo29 | (injection eo29 with ea_ en_ ec_; (first | subst ea_ | (injection ea_ with ea_; subst ea_)); subst ec_; clear en_))
        have GB29 := Aside0.mk gb29
        have GG29 := Aside0.mk HG29
        clear gb29 gl29 HG29
        (try simp only [add_plain] at hx266_0)
        (first | simp only [add_plain] at hx271_0 | skip)
        obtain ⟨hx29_0, hf29_0⟩ := Kd.R_celln false HL264_0.out (x6_3 : Int) p29 q29
        replace p29 := eq_true p29
        replace q29 := eq_true q29
        have hq32 : (x5_2 : Int) < (x3_3.length : Int) := (by have h_ : (x5_2 : Int) < ((x3_3.length : Int) : Int) := sq_d; first | exact h_ | (have e_ := (Kd.S_reads' HO_3.out).1; omega) | simpa only [List.length_set, List.length_set] using h_)
        obtain ⟨oki32, ce32, hcl32, hM32, hcc32, hok32, hbk32⟩ := Kd.S_borrow HO_3.out [] (x5_2 : Int) sq_d hq32
        obtain ⟨ve32_0, rfl, ge32_0⟩ := hM32
        have hv32 := hcc32 0 _ rfl
        rw [Nat.add_zero, show ((Kd.slice 4 Kd.bool)).sz = 1 from rfl, Nat.mul_one] at hv32
        replace hv32 := Option.some.inj (hv32.symm.trans HX264_0.out)
        subst hv32
        clear hcc32 hcl32
        replace ge32_0 := (show Kd.R Kd.bool 4 _ _ _ _ (rd_L6 x3_3 x5_2) from ge32_0)
        have HP32 := Kd.R_putg ge32_0 (x6_3 : Int) false
        rw [← Ny277.out] at HP32
        have HS32 := hbk32 HP32.2 (fun k_ e_ => by injection e_ with e_; subst e_; exact ge32_0.1 _ rfl) (x' := y277) (Kd.M_row HP32.1)
        rw [← Ny279.out] at HS32
        have HQ32 := Aside0.mk HS32
        clear HP32 HS32 hbk32 hok32
        refine start_ (n := 32) (S := fun w' => w'.cell? (ad264.add (x5_2).toNat) = some (.slice (some ⟨go29, 0, none⟩) (rd_L6 x3_3 x5_2).length c264_0) ∧ w'.cell? (ad264.add (x5_2).toNat) = some (.slice (some ⟨go29, 0, none⟩) (rd_L6 x3_3 x5_2).length c264_0) ∧ w'.cell? ⟨go29, (x6_3).toNat, none⟩ = some (.bool false) ∧ w'.cell? (ad264.add (x5_2).toNat) = some (.slice (some ⟨go29, 0, none⟩) (rd_L6 x3_3 x5_2).length c264_0) ∧ w'.cell? ⟨go29, (x4_1).toNat, none⟩ = some (.bool false)) (ds := [31]) #[false, false, false, false, false, false, false, false, false, false, false, false, false, false, false, false, false, false, false, false, false, false, false, false, false, false, false, false, false, false, false, false] (by kernel_rfl) rfl rfl ⟨hx264_0, hx265_0, hx266_0, hx270_0, hx271_0⟩ (fun hHeld => ?_); refine with_tabW petrinetref07_Paths.tab11 petrinetref07_Paths.bits11 (fun HT_ HW_ => ?_)
        generalize wr.drew = w30 at HO_3 HB GG29 HL264_0 HL265_0 HL270_0 HQ32 HR264_0 HR265_0 HR270_0 HX264_0 HX265_0 HX270_0 hf29_0 hx264_0 hx265_0 hx266_0 hx270_0 hx271_0 hx29_0 hHeld ⊢
        refine sq_p 0 27 (sqm 32 1) HT_.out ?_
        refine sq_p 1 28 (sqm 32 3) HT_.out ?_
        refine sq_p 2 29 (sqm 32 7) HT_.out ?_
        refine sq_p 4 31 (sqm 32 23) HT_.out ?_
        refine sq_p 5 32 (sqm 32 55) HT_.out ?_
        refine sq_p 6 33 (sqm 32 119) HT_.out ?_
        refine sq_p 7 34 (sqm 32 247) HT_.out ?_
        refine sq_p 9 36 (sqm 32 759) HT_.out ?_
        refine sq_t 3 30 (sqm 32 767) HT_.out HW_.out hHeld ?_
        refine sq_t 8 35 (sqm 32 1023) HT_.out HW_.out hHeld ?_
        refine sq_p 10 37 (sqm 32 2047) HT_.out ?_
        refine sq_t 11 38 (sqm 32 4095) HT_.out HW_.out hHeld ?_
        refine sq_p 12 39 (sqm 32 8191) HT_.out ?_
        refine sq_p 13 40 (sqm 32 16383) HT_.out ?_
        refine sq_p 14 41 (sqm 32 32767) HT_.out ?_
        refine sq_p 15 42 (sqm 32 65535) HT_.out ?_
        refine sq_p 17 44 (sqm 32 196607) HT_.out ?_
        refine sq_t 16 43 (sqm 32 262143) HT_.out HW_.out hHeld ?_
        refine sq_p 18 45 (sqm 32 524287) HT_.out ?_
        refine sq_t 19 46 (sqm 32 1048575) HT_.out HW_.out hHeld ?_
        refine sq_p 20 47 (sqm 32 2097151) HT_.out ?_
        refine sq_u 21 48 (sqm 32 4194303) HT_.out ?_
        refine sq_u 22 49 (sqm 32 8388607) HT_.out ?_
        refine sq_u 23 50 (sqm 32 16777215) HT_.out ?_
        refine sq_u 24 51 (sqm 32 33554431) HT_.out ?_
        refine sq_u 25 52 (sqm 32 67108863) HT_.out ?_
        refine sq_u 26 53 (sqm 32 134217727) HT_.out ?_
        refine sq_u 27 54 (sqm 32 268435455) HT_.out ?_
        refine sq_p 28 55 (sqm 32 536870911) HT_.out ?_
        refine sq_p 29 56 (sqm 32 1073741823) HT_.out ?_
        refine sq_p 30 57 (sqm 32 2147483647) HT_.out ?_
        refine last_ (i := 31) (N := none) (sqm 32 4294967295) rfl rfl (one_of HT_.out (by kernel_rfl)) (by decide) (fun K hK => ?_)
        refine skip_ (w1 := ?_) (by rfl) rfl ?_ ?_
        rotate_left
        ·go_simp
         rfl
        refine hK.out _ _ ?_
        clear hK K
        refine done_ (done_of HT_.out (by kernel_rfl)) ?_
        try go_wp2
        go_roundg k3
        case measure => have := HK1.out; have := HK2.out; have := HK3.out; omega
        case rel => exact ⟨(y279), (wrap64 (x6_3 + 1)), (by first | rfl | (simp; done) | (simp [*]; done)), H', ⟨by have := HK1.out; have := HK2.out; have := HK3.out; omega⟩, ⟨by (with_reducible repeat (first | apply Kd.S_alloc | apply Kd.S_drewN | apply Kd.S_drew)); exact HQ32.out⟩, ⟨sq_bs HB.out⟩⟩
       subst c21
       have H1 : (if x4_1 < (x3_3.length : Int) then (if x6_3 < ((rd_L6 x3_3 x4_1).length : Int) then (petrinetref07_Paths.l2 k3 l0 (x3_3.set (x5_2 : Int).toNat ((rd_L6 x3_3 x5_2).set (x6_3 : Int).toNat (rdOf false (rd_L6 x3_3 x4_1) x6_3))) x4_1 x5_2 (wrap64 (x6_3 + 1))) else (none)) else (none)) = some r := by rw [if_pos rfl] at H; exact H
       clear H
       have H := H1
       clear H1
       by_cases c22 : x4_1 < (x3_3.length : Int)
       rotate_left
       ·rw [if_neg c22] at H
        exact absurd H (by simp)
       rw [if_pos c22] at H
       have c22b0 : decide (x4_1 < (x3_3.length : Int)) = true := decide_eq_true c22
       clear c22
       by_cases c23 : x6_3 < ((rd_L6 x3_3 x4_1).length : Int)
       rotate_left
       ·rw [if_neg c23] at H
        exact absurd H (by simp)
       rw [if_pos c23] at H
       have c23b0 : decide (x6_3 < ((rd_L6 x3_3 x4_1).length : Int)) = true := decide_eq_true c23
       clear c23
       obtain ⟨y274, hy274⟩ : ∃ y_ : List Bool, y_ = ((rd_L6 x3_3 x5_2).set (x6_3 : Int).toNat (rdOf false (rd_L6 x3_3 x4_1) x6_3)) := ⟨_, rfl⟩
       replace H : (petrinetref07_Paths.l2 k3 l0 (x3_3.set (x5_2 : Int).toNat y274) x4_1 x5_2 (wrap64 (x6_3 + 1))) = some r := by first | (rw [hy274]; with_reducible exact H) | (have H2_ := (Option.bind_some _ _).symm.trans H; rw [hy274]; with_reducible exact H2_) | (have H2_ := (Option.bind_some _ _).symm.trans H; with_reducible exact H2_) | with_reducible exact H | (rw [hy274]; exact H) | exact H
       have Ny274 := Aside0.mk hy274
       clear hy274
       obtain ⟨y276, hy276⟩ : ∃ y_ : List (List Bool), y_ = (x3_3.set (x5_2 : Int).toNat y274) := ⟨_, rfl⟩
       replace H : (petrinetref07_Paths.l2 k3 l0 y276 x4_1 x5_2 (wrap64 (x6_3 + 1))) = some r := by first | (rw [hy276]; with_reducible exact H) | (have H2_ := (Option.bind_some _ _).symm.trans H; rw [hy276]; with_reducible exact H2_) | (have H2_ := (Option.bind_some _ _).symm.trans H; with_reducible exact H2_) | with_reducible exact H | (rw [hy276]; exact H) | exact H
       have Ny276 := Aside0.mk hy276
       clear hy276
       have H' := Aside0.mk H
       clear H
       try go_wp2
       have n0_ := Aside0.mk (Kd.S_drew HO_3.out)
       have n1_ := Aside0.mk (below_drew1 HB.out)
       clear HO_3
       clear HB
       have HO_3 := n0_
       have HB := n1_
       clear n0_ n1_
       obtain ⟨Ao26, co26, eo26⟩ := Kd.S_slice HO_3.out
       (first | subst eo26 | (injection eo26 with f1_ f2_ f3_; have f4_ := f1_.symm; have f5_ := f3_.symm; clear f1_ f2_ f3_; subst f4_; subst f5_))
       have p264 : 0 ≤ (x5_2 : Int) := sq_d
       have q264 : x5_2 < (x3_3.length : Int) := sq_d
       have LQ264 := Aside0.mk q264
       obtain ⟨ad264, A264_0, c264_0, e264, hx264_0, hl264_0, hi264_0⟩ := at_L6 (Kd.S_reads' HO_3.out).2.2 x5_2 p264 q264
       cases e264
       obtain ⟨ce264, hce264, hMe264, hcc264⟩ := Kd.S_get HO_3.out [] x5_2 p264 (by first | exact q264 | exact sq_d | (have e_ := (Kd.S_reads' HO_3.out).1; omega))
       obtain ⟨ve264_0, rfl, ge264_0⟩ := hMe264
       have hv264_0 := hcc264 0 _ rfl
       rw [Nat.add_zero, show ((Kd.slice 4 Kd.bool)).sz = 1 from rfl, Nat.mul_one] at hv264_0
       replace hv264_0 := Option.some.inj (hv264_0.symm.trans hx264_0)
       rw [hv264_0] at ge264_0
       have HL264_0 := Aside0.mk (show Kd.R Kd.bool 4 _ _ _ _ (rd_L6 x3_3 x5_2) from ge264_0)
       clear hv264_0 ge264_0
       have HX264_0 := Aside0.mk hx264_0
       clear hcc264 hce264
       have HR264_0 := Aside0.mk hi264_0
       have HC264_0 := Aside0.mk hl264_0
       clear hi264_0 hl264_0
       replace p264 := eq_true p264
       replace q264 := eq_true q264
       have p265 : 0 ≤ (x5_2 : Int) := sq_d
       have q265 : x5_2 < (x3_3.length : Int) := sq_d
       have LQ265 := Aside0.mk q265
       obtain ⟨ad265, A265_0, c265_0, e265, hx265_0, hl265_0, hi265_0⟩ := at_L6 (Kd.S_reads' HO_3.out).2.2 x5_2 p265 q265
       obtain rfl : ad264 = ad265 := (by injection e265)
       obtain ⟨ce265, hce265, hMe265, hcc265⟩ := Kd.S_get HO_3.out [] x5_2 p265 (by first | exact q265 | exact sq_d | (have e_ := (Kd.S_reads' HO_3.out).1; omega))
       obtain ⟨ve265_0, rfl, ge265_0⟩ := hMe265
       have hv265_0 := hcc265 0 _ rfl
       rw [Nat.add_zero, show ((Kd.slice 4 Kd.bool)).sz = 1 from rfl, Nat.mul_one] at hv265_0
       replace hv265_0 := Option.some.inj (hv265_0.symm.trans hx265_0)
       rw [hv265_0] at ge265_0
       have HL265_0 := Aside0.mk (show Kd.R Kd.bool 4 _ _ _ _ (rd_L6 x3_3 x5_2) from ge265_0)
       clear hv265_0 ge265_0
       have HX265_0 := Aside0.mk hx265_0
       clear hcc265 hce265
       have HR265_0 := Aside0.mk hi265_0
       have HC265_0 := Aside0.mk hl265_0
       clear hi265_0 hl265_0
       replace p265 := eq_true p265
       replace q265 := eq_true q265
       have ea_ := Option.some.inj (hx264_0.symm.trans hx265_0)
       injection ea_ with ea_ en_ ec_
       subst ea_
       subst ec_
       clear en_
       have p266 : 0 ≤ (x6_3 : Int) := sq_d
       have q266 : x6_3 < ((rd_L6 x3_3 x5_2).length : Int) := sq_d
       obtain ⟨ad266, e266, hx266_0⟩ := Kd.at_bool (by repeat (first | (with_reducible exact HR265_0.out) | (with_reducible refine Kd.C_alloc ?_ _) | (with_reducible refine Kd.C_drewN ?_ _) | (with_reducible refine Kd.C_drew ?_) | exact HR265_0.out)) x6_3 p266 q266
       (try rw [← Nbq11.out] at hx266_0)
       (try rw [← Nbq20.out] at hx266_0)
       cases e266
       replace p266 := eq_true p266
       replace q266 := eq_true q266
       have p270 : 0 ≤ (x5_2 : Int) := sq_d
       have q270 : x5_2 < (x3_3.length : Int) := sq_d
       have LQ270 := Aside0.mk q270
       obtain ⟨ad270, A270_0, c270_0, e270, hx270_0, hl270_0, hi270_0⟩ := at_L6 (Kd.S_reads' HO_3.out).2.2 x5_2 p270 q270
       obtain rfl : ad264 = ad270 := (by injection e270)
       obtain ⟨ce270, hce270, hMe270, hcc270⟩ := Kd.S_get HO_3.out [] x5_2 p270 (by first | exact q270 | exact sq_d | (have e_ := (Kd.S_reads' HO_3.out).1; omega))
       obtain ⟨ve270_0, rfl, ge270_0⟩ := hMe270
       have hv270_0 := hcc270 0 _ rfl
       rw [Nat.add_zero, show ((Kd.slice 4 Kd.bool)).sz = 1 from rfl, Nat.mul_one] at hv270_0
       replace hv270_0 := Option.some.inj (hv270_0.symm.trans hx270_0)
       rw [hv270_0] at ge270_0
       have HL270_0 := Aside0.mk (show Kd.R Kd.bool 4 _ _ _ _ (rd_L6 x3_3 x5_2) from ge270_0)
       clear hv270_0 ge270_0
       have HX270_0 := Aside0.mk hx270_0
       clear hcc270 hce270
       have HR270_0 := Aside0.mk hi270_0
       have HC270_0 := Aside0.mk hl270_0
       clear hi270_0 hl270_0
       replace p270 := eq_true p270
       replace q270 := eq_true q270
       have ea_ := Option.some.inj (hx264_0.symm.trans hx270_0)
       injection ea_ with ea_ en_ ec_
       subst ea_
       subst ec_
       clear en_
       have p271 : 0 ≤ (x4_1 : Int) := sq_d
       have q271 : x4_1 < ((rd_L6 x3_3 x5_2).length : Int) := sq_d
       obtain ⟨ad271, e271, hx271_0⟩ := Kd.at_bool (by repeat (first | (with_reducible exact HR270_0.out) | (with_reducible refine Kd.C_alloc ?_ _) | (with_reducible refine Kd.C_drewN ?_ _) | (with_reducible refine Kd.C_drew ?_) | exact HR270_0.out)) x4_1 p271 q271
       (try rw [← Nbq11.out] at hx271_0)
       (try rw [← Nbq20.out] at hx271_0)
       cases e271
       replace p271 := eq_true p271
       replace q271 := eq_true q271
       have p272 : 0 ≤ (x4_1 : Int) := sq_d
       have q272 : x4_1 < (x3_3.length : Int) := sq_d
       have LQ272 := Aside0.mk q272
       obtain ⟨ad272, A272_0, c272_0, e272, hx272_0, hl272_0, hi272_0⟩ := at_L6 (Kd.S_reads' HO_3.out).2.2 x4_1 p272 q272
       obtain rfl : ad264 = ad272 := (by injection e272)
       obtain ⟨ce272, hce272, hMe272, hcc272⟩ := Kd.S_get HO_3.out [] x4_1 p272 (by first | exact q272 | exact sq_d | (have e_ := (Kd.S_reads' HO_3.out).1; omega))
       obtain ⟨ve272_0, rfl, ge272_0⟩ := hMe272
       have hv272_0 := hcc272 0 _ rfl
       rw [Nat.add_zero, show ((Kd.slice 4 Kd.bool)).sz = 1 from rfl, Nat.mul_one] at hv272_0
       replace hv272_0 := Option.some.inj (hv272_0.symm.trans hx272_0)
       rw [hv272_0] at ge272_0
       have HL272_0 := Aside0.mk (show Kd.R Kd.bool 4 _ _ _ _ (rd_L6 x3_3 x4_1) from ge272_0)
       clear hv272_0 ge272_0
       have HX272_0 := Aside0.mk hx272_0
       clear hcc272 hce272
       have HR272_0 := Aside0.mk hi272_0
       have HC272_0 := Aside0.mk hl272_0
       clear hi272_0 hl272_0
       replace p272 := eq_true p272
       replace q272 := eq_true q272
       have p273 : 0 ≤ (x6_3 : Int) := sq_d
       have q273 : x6_3 < ((rd_L6 x3_3 x4_1).length : Int) := sq_d
       obtain ⟨ad273, e273, hx273_0⟩ := Kd.at_bool (by repeat (first | (with_reducible exact HR272_0.out) | (with_reducible refine Kd.C_alloc ?_ _) | (with_reducible refine Kd.C_drewN ?_ _) | (with_reducible refine Kd.C_drew ?_) | exact HR272_0.out)) x6_3 p273 q273
       (try rw [← Nbq11.out] at hx273_0)
       (try rw [← Nbq20.out] at hx273_0)
       cases e273
       replace p273 := eq_true p273
       replace q273 := eq_true q273
       have p24 : 0 ≤ (x6_3 : Int) := sq_d
       have q24 : (x6_3 : Int) < (((rd_L6 x3_3 x5_2).length : Int) : Int) := sq_d
       obtain ⟨go24, co24, eo24, gb24, gl24, cl24, HG24⟩ := Kd.R_form HL264_0.out (by omega)
       (first | cases eo24 | (injection eo24 with ea_ en_ ec_; (first | subst ea_ | (injection ea_ with ea_; subst ea_)); subst ec_; clear en_))
       have GB24 := Aside0.mk gb24
       have GG24 := Aside0.mk HG24
       clear gb24 gl24 HG24
       (try simp only [add_plain] at hx266_0)
       (first | simp only [add_plain] at hx271_0 | skip)
       obtain ⟨hx24_0, hf24_0⟩ := Kd.R_celln false HL264_0.out (x6_3 : Int) p24 q24
       replace p24 := eq_true p24
       replace q24 := eq_true q24
       have hq27 : (x5_2 : Int) < (x3_3.length : Int) := (by have h_ : (x5_2 : Int) < ((x3_3.length : Int) : Int) := sq_d; first | exact h_ | (have e_ := (Kd.S_reads' HO_3.out).1; omega) | simpa only [List.length_set, List.length_set] using h_)
       obtain ⟨oki27, ce27, hcl27, hM27, hcc27, hok27, hbk27⟩ := Kd.S_borrow HO_3.out [] (x5_2 : Int) sq_d hq27
       obtain ⟨ve27_0, rfl, ge27_0⟩ := hM27
       have hv27 := hcc27 0 _ rfl
       rw [Nat.add_zero, show ((Kd.slice 4 Kd.bool)).sz = 1 from rfl, Nat.mul_one] at hv27
       replace hv27 := Option.some.inj (hv27.symm.trans HX264_0.out)
       subst hv27
       clear hcc27 hcl27
       replace ge27_0 := (show Kd.R Kd.bool 4 _ _ _ _ (rd_L6 x3_3 x5_2) from ge27_0)
       have HP27 := Kd.R_putg ge27_0 (x6_3 : Int) (rdOf false (rd_L6 x3_3 x4_1) x6_3)
       rw [← Ny274.out] at HP27
       have HS27 := hbk27 HP27.2 (fun k_ e_ => by injection e_ with e_; subst e_; exact ge27_0.1 _ rfl) (x' := y274) (Kd.M_row HP27.1)
       rw [← Ny276.out] at HS27
       have HQ27 := Aside0.mk HS27
       clear HP27 HS27 hbk27 hok27
       refine start_ (n := 32) (S := fun w' => w'.cell? (ad264.add (x5_2).toNat) = some (.slice (some ⟨go24, 0, none⟩) (rd_L6 x3_3 x5_2).length c264_0) ∧ w'.cell? (ad264.add (x5_2).toNat) = some (.slice (some ⟨go24, 0, none⟩) (rd_L6 x3_3 x5_2).length c264_0) ∧ w'.cell? ⟨go24, (x6_3).toNat, none⟩ = some (.bool false) ∧ w'.cell? (ad264.add (x5_2).toNat) = some (.slice (some ⟨go24, 0, none⟩) (rd_L6 x3_3 x5_2).length c264_0) ∧ w'.cell? ⟨go24, (x4_1).toNat, none⟩ = some (.bool true) ∧ w'.cell? (ad264.add (x4_1).toNat) = some (.slice (some ad273) (rd_L6 x3_3 x4_1).length c272_0) ∧ w'.cell? (ad273.add (x6_3).toNat) = some (.bool (rdOf false (rd_L6 x3_3 x4_1) x6_3))) (ds := [31]) #[false, false, false, false, false, false, false, false, false, false, false, false, false, false, false, false, false, false, false, false, false, false, false, false, false, false, false, false, false, false, false, false] (by kernel_rfl) rfl rfl ⟨hx264_0, hx265_0, hx266_0, hx270_0, hx271_0, hx272_0, hx273_0⟩ (fun hHeld => ?_); refine with_tabW petrinetref07_Paths.tab11 petrinetref07_Paths.bits11 (fun HT_ HW_ => ?_)
       generalize wr.drew = w25 at HO_3 HB GG24 HL264_0 HL265_0 HL270_0 HL272_0 HQ27 HR264_0 HR265_0 HR270_0 HR272_0 HX264_0 HX265_0 HX270_0 HX272_0 hf24_0 hx24_0 hx264_0 hx265_0 hx266_0 hx270_0 hx271_0 hx272_0 hx273_0 hHeld ⊢
       refine sq_p 0 27 (sqm 32 1) HT_.out ?_
       refine sq_p 1 28 (sqm 32 3) HT_.out ?_
       refine sq_p 2 29 (sqm 32 7) HT_.out ?_
       refine sq_p 4 31 (sqm 32 23) HT_.out ?_
       refine sq_p 5 32 (sqm 32 55) HT_.out ?_
       refine sq_p 6 33 (sqm 32 119) HT_.out ?_
       refine sq_p 7 34 (sqm 32 247) HT_.out ?_
       refine sq_p 9 36 (sqm 32 759) HT_.out ?_
       refine sq_t 3 30 (sqm 32 767) HT_.out HW_.out hHeld ?_
       refine sq_t 8 35 (sqm 32 1023) HT_.out HW_.out hHeld ?_
       refine sq_p 10 37 (sqm 32 2047) HT_.out ?_
       refine sq_t 11 38 (sqm 32 4095) HT_.out HW_.out hHeld ?_
       refine sq_p 12 39 (sqm 32 8191) HT_.out ?_
       refine sq_p 13 40 (sqm 32 16383) HT_.out ?_
       refine sq_p 14 41 (sqm 32 32767) HT_.out ?_
       refine sq_p 15 42 (sqm 32 65535) HT_.out ?_
       refine sq_p 17 44 (sqm 32 196607) HT_.out ?_
       refine sq_t 16 43 (sqm 32 262143) HT_.out HW_.out hHeld ?_
       refine sq_p 18 45 (sqm 32 524287) HT_.out ?_
       refine sq_t 19 46 (sqm 32 1048575) HT_.out HW_.out hHeld ?_
       refine sq_p 20 47 (sqm 32 2097151) HT_.out ?_
       refine sq_p 21 48 (sqm 32 4194303) HT_.out ?_
       refine sq_p 22 49 (sqm 32 8388607) HT_.out ?_
       refine sq_p 23 50 (sqm 32 16777215) HT_.out ?_
       refine sq_p 25 52 (sqm 32 50331647) HT_.out ?_
       refine sq_t 24 51 (sqm 32 67108863) HT_.out HW_.out hHeld ?_
       refine sq_p 26 53 (sqm 32 134217727) HT_.out ?_
       refine sq_t 27 54 (sqm 32 268435455) HT_.out HW_.out hHeld ?_
       refine sq_p 28 55 (sqm 32 536870911) HT_.out ?_
       refine sq_p 29 56 (sqm 32 1073741823) HT_.out ?_
       refine sq_p 30 57 (sqm 32 2147483647) HT_.out ?_
       refine last_ (i := 31) (N := none) (sqm 32 4294967295) rfl rfl (one_of HT_.out (by kernel_rfl)) (by decide) (fun K hK => ?_)
       refine skip_ (w1 := ?_) (by rfl) rfl ?_ ?_
       rotate_left
       ·go_simp
        rfl
       refine hK.out _ _ ?_
       clear hK K
       refine done_ (done_of HT_.out (by kernel_rfl)) ?_
       try go_wp2
       go_roundg k3
       case measure => have := HK1.out; have := HK2.out; have := HK3.out; omega
       case rel => exact ⟨(y276), (wrap64 (x6_3 + 1)), (by first | rfl | (simp; done) | (simp [*]; done)), H', ⟨by have := HK1.out; have := HK2.out; have := HK3.out; omega⟩, ⟨by (with_reducible repeat (first | apply Kd.S_alloc | apply Kd.S_drewN | apply Kd.S_drew)); exact HQ27.out⟩, ⟨sq_bs HB.out⟩⟩
end Go.Proofs.Ytcnliampiibpbaa.PAll
