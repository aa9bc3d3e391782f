/- Lean functions for Go functions, each with the proof that the call returns what it says; printed by wip/tools/myprint.py. -/
-- squeezed
import Derived.Test.YtcnliampiibpbaaPAllx0
import Derived.Test.YtcnliampiibpbaaPAllx2
namespace Go.Proofs.Ytcnliampiibpbaa.PAll
open Go.RowKit Go.Proofs.YtcnliampiibpbaaW.PrintWords Go.Proofs.YtcnliampiibpbaaW.PrintLast Go.Proofs.YtcnliampiibpbaaW.PrintMore
attribute [local go_sem] Instr.field asAgg max2_int min2_int max_two min_two max_three min_three max_four min_four   -- for this text's walks alone
set_option linter.unusedVariables false
set_option linter.unusedSimpArgs false

/-! ### system_Check: function 10 -/
mutual
def system_Check.j0 : Nat → Bool → Int → List ByteArray → List (S44) → Option (Int × Int)
 | 0, _, _, _, _ => none
 | k + 1, x23, x106000, x106001, x106002 => if x23 = true then (some (2, 0)) else (system_Check.l0 k x106001 (x106001.length : Int) 0 x106000 x106001 x106002)
def system_Check.l0 : Nat → List ByteArray → Int → Int → Int → List ByteArray → List (S44) → Option (Int × Int)
 | 0, _, _, _, _, _, _ => none
 | k + 1, x26, x27, x28, x106000, x106001, x106002 => if x28 < x27 then (if 0 ≤ x28 then (if x28 < (x26.length : Int) then ((system_name.f (rdOf ByteArray.empty x26 x28)).bind fun t108 => (if t108 = true then (if x28 ≤ (x106001.length : Int) then (system_Check.l1 k x28 (rdOf ByteArray.empty x26 x28) x26 x27 x28 (x106001.take (x28 : Int).toNat) ((x106001.take (x28 : Int).toNat).length : Int) 0 x106000 x106001 x106002) else (none)) else (some (5, x28)))) else (none)) else (none)) else (system_Check.l2 k x106002 (x106002.length : Int) 0 x106000 x106001 x106002)
def system_Check.l1 : Nat → Int → ByteArray → List ByteArray → Int → Int → List ByteArray → Int → Int → Int → List ByteArray → List (S44) → Option (Int × Int)
 | 0, _, _, _, _, _, _, _, _, _, _, _ => none
 | k + 1, x3, x4, x26, x27, x28, x41, x42, x43, x106000, x106001, x106002 => if x43 < x42 then (if 0 ≤ x43 then (if x43 < (x41.length : Int) then (if x4.toList = (rdOf ByteArray.empty x41 x43).toList then (some (6, x3)) else (system_Check.l1 k x3 x4 x26 x27 x28 x41 x42 (wrap64 (x43 + 1)) x106000 x106001 x106002)) else (none)) else (none)) else (system_Check.l0 k x26 x27 (wrap64 (x28 + 1)) x106000 x106001 x106002)
def system_Check.l2 : Nat → List (S44) → Int → Int → Int → List ByteArray → List (S44) → Option (Int × Int)
 | 0, _, _, _, _, _, _ => none
 | k + 1, x55, x56, x57, x106000, x106001, x106002 => if x57 < x56 then (if 0 ≤ x57 then (if x57 < (x55.length : Int) then ((system_Check_1.f ((rd_T44 x55 x57).f0) x106000).bind fun t113 => (if t113 = true then ((system_Check_1.f ((rd_T44 x55 x57).f2) x106000).bind fun t114 => (if t114 = true then ((system_Check_1.f ((rd_T44 x55 x57).f1) (x106001.length : Int)).bind fun t115 => (system_Check.j4 k x57 x55 x56 x57 (!t115) x106000 x106001 x106002 ((rd_T44 x55 x57).f0) ((rd_T44 x55 x57).f1) ((rd_T44 x55 x57).f2))) else (system_Check.j4 k x57 x55 x56 x57 true x106000 x106001 x106002 ((rd_T44 x55 x57).f0) ((rd_T44 x55 x57).f1) ((rd_T44 x55 x57).f2)))) else (system_Check.j4 k x57 x55 x56 x57 true x106000 x106001 x106002 ((rd_T44 x55 x57).f0) ((rd_T44 x55 x57).f1) ((rd_T44 x55 x57).f2)))) else (none)) else (none)) else (some (0, 0))
def system_Check.j4 : Nat → Int → List (S44) → Int → Int → Bool → Int → List ByteArray → List (S44) → Int → Int → Int → Option (Int × Int)
 | 0, _, _, _, _, _, _, _, _, _, _, _ => none
 | k + 1, x8, x55, x56, x57, x87, x106000, x106001, x106002, x113000, x113001, x113002 => if x87 = true then (some (1, x8)) else (if x8 > 0 then (if 0 ≤ (wrap64 (x8 - 1)) then (if (wrap64 (x8 - 1)) < (x106002.length : Int) then ((system_before.f ((rd_T44 x106002 (wrap64 (x8 - 1))).f0) ((rd_T44 x106002 (wrap64 (x8 - 1))).f1) ((rd_T44 x106002 (wrap64 (x8 - 1))).f2) x113000 x113001 x113002).bind fun t117 => (if t117 = true then (system_Check.l2 k x55 x56 (wrap64 (x57 + 1)) x106000 x106001 x106002) else (some (8, x8)))) else (none)) else (none)) else (system_Check.l2 k x55 x56 (wrap64 (x57 + 1)) x106000 x106001 x106002))
end
def system_Check.f (k : Nat) (a0_0 : Int) (l0_1 : List ByteArray) (l0_2 : List (S44)) : Option (Int × Int) := if a0_0 < 1 then (system_Check.j0 k true a0_0 l0_1 l0_2) else (if a0_0 > 200 then (system_Check.j0 k true a0_0 l0_1 l0_2) else (system_Check.j0 k (decide ((l0_1.length : Int) > 24)) a0_0 l0_1 l0_2))
theorem system_Check.mono_l : ∀ k, (∀ y0 y1 y2 y3, LeO (system_Check.j0 k y0 y1 y2 y3) (system_Check.j0 (k + 1) y0 y1 y2 y3)) ∧ (∀ y0 y1 y2 y3 y4 y5, LeO (system_Check.l0 k y0 y1 y2 y3 y4 y5) (system_Check.l0 (k + 1) y0 y1 y2 y3 y4 y5)) ∧ (∀ y0 y1 y2 y3 y4 y5 y6 y7 y8 y9 y10, LeO (system_Check.l1 k y0 y1 y2 y3 y4 y5 y6 y7 y8 y9 y10) (system_Check.l1 (k + 1) y0 y1 y2 y3 y4 y5 y6 y7 y8 y9 y10)) ∧ (∀ y0 y1 y2 y3 y4 y5, LeO (system_Check.l2 k y0 y1 y2 y3 y4 y5) (system_Check.l2 (k + 1) y0 y1 y2 y3 y4 y5)) ∧ (∀ y0 y1 y2 y3 y4 y5 y6 y7 y8 y9 y10, LeO (system_Check.j4 k y0 y1 y2 y3 y4 y5 y6 y7 y8 y9 y10) (system_Check.j4 (k + 1) y0 y1 y2 y3 y4 y5 y6 y7 y8 y9 y10))
 | 0 => ⟨fun _ _ _ _ r h => by simp [system_Check.j0] at h, fun _ _ _ _ _ _ r h => by simp [system_Check.l0] at h, fun _ _ _ _ _ _ _ _ _ _ _ r h => by simp [system_Check.l1] at h, fun _ _ _ _ _ _ r h => by simp [system_Check.l2] at h, fun _ _ _ _ _ _ _ _ _ _ _ r h => by simp [system_Check.j4] at h⟩
 | k + 1 => by
  obtain ⟨ih0, ih1, ih2, ih3, ih4⟩ := system_Check.mono_l k
  refine ⟨?_, ?_, ?_, ?_, ?_⟩
  ·intro y0 y1 y2 y3
   unfold system_Check.j0
   repeat' first
   | (with_reducible exact ih0 _ _ _ _)
   | (with_reducible exact ih1 _ _ _ _ _ _)
   | (with_reducible exact ih2 _ _ _ _ _ _ _ _ _ _ _)
   | (with_reducible exact ih3 _ _ _ _ _ _)
   | (with_reducible exact ih4 _ _ _ _ _ _ _ _ _ _ _)
   | (with_reducible exact LeO.refl _)
   | (with_reducible exact LeO.none _)
   | (with_reducible refine LeO.ite ?_ ?_)
   | (with_reducible refine LeO.bind ?_ (fun _ => ?_))
  ·intro y0 y1 y2 y3 y4 y5
   unfold system_Check.l0
   repeat' first
   | (with_reducible exact ih0 _ _ _ _)
   | (with_reducible exact ih1 _ _ _ _ _ _)
   | (with_reducible exact ih2 _ _ _ _ _ _ _ _ _ _ _)
   | (with_reducible exact ih3 _ _ _ _ _ _)
   | (with_reducible exact ih4 _ _ _ _ _ _ _ _ _ _ _)
   | (with_reducible exact LeO.refl _)
   | (with_reducible exact LeO.none _)
   | (with_reducible refine LeO.ite ?_ ?_)
   | (with_reducible refine LeO.bind ?_ (fun _ => ?_))
  ·intro y0 y1 y2 y3 y4 y5 y6 y7 y8 y9 y10
   unfold system_Check.l1
   repeat' first
   | (with_reducible exact ih0 _ _ _ _)
   | (with_reducible exact ih1 _ _ _ _ _ _)
   | (with_reducible exact ih2 _ _ _ _ _ _ _ _ _ _ _)
   | (with_reducible exact ih3 _ _ _ _ _ _)
   | (with_reducible exact ih4 _ _ _ _ _ _ _ _ _ _ _)
   | (with_reducible exact LeO.refl _)
   | (with_reducible exact LeO.none _)
   | (with_reducible refine LeO.ite ?_ ?_)
   | (with_reducible refine LeO.bind ?_ (fun _ => ?_))
  ·intro y0 y1 y2 y3 y4 y5
   unfold system_Check.l2
   repeat' first
   | (with_reducible exact ih0 _ _ _ _)
   | (with_reducible exact ih1 _ _ _ _ _ _)
   | (with_reducible exact ih2 _ _ _ _ _ _ _ _ _ _ _)
   | (with_reducible exact ih3 _ _ _ _ _ _)
   | (with_reducible exact ih4 _ _ _ _ _ _ _ _ _ _ _)
   | (with_reducible exact LeO.refl _)
   | (with_reducible exact LeO.none _)
   | (with_reducible refine LeO.ite ?_ ?_)
   | (with_reducible refine LeO.bind ?_ (fun _ => ?_))
  ·intro y0 y1 y2 y3 y4 y5 y6 y7 y8 y9 y10
   unfold system_Check.j4
   repeat' first
   | (with_reducible exact ih0 _ _ _ _)
   | (with_reducible exact ih1 _ _ _ _ _ _)
   | (with_reducible exact ih2 _ _ _ _ _ _ _ _ _ _ _)
   | (with_reducible exact ih3 _ _ _ _ _ _)
   | (with_reducible exact ih4 _ _ _ _ _ _ _ _ _ _ _)
   | (with_reducible exact LeO.refl _)
   | (with_reducible exact LeO.none _)
   | (with_reducible refine LeO.ite ?_ ?_)
   | (with_reducible refine LeO.bind ?_ (fun _ => ?_))
theorem system_Check.mono : ∀ a0 a1 a2 k, LeO (system_Check.f k a0 a1 a2) (system_Check.f (k + 1) a0 a1 a2) := by
 intro a0 a1 a2 k
 obtain ⟨ih0, ih1, ih2, ih3, ih4⟩ := system_Check.mono_l k
 unfold system_Check.f
 repeat' first
   | (with_reducible exact ih0 _ _ _ _)
   | (with_reducible exact ih1 _ _ _ _ _ _)
   | (with_reducible exact ih2 _ _ _ _ _ _ _ _ _ _ _)
   | (with_reducible exact ih3 _ _ _ _ _ _)
   | (with_reducible exact ih4 _ _ _ _ _ _ _ _ _ _ _)
   | (with_reducible exact LeO.refl _)
   | (with_reducible exact LeO.none _)
   | (with_reducible refine LeO.ite ?_ ?_)
   | (with_reducible refine LeO.bind ?_ (fun _ => ?_))
def system_Check.T21 : Bool × List (List Nat × List Nat) := (true, [([], []), ([0], [0]), ([1], [1]), ([2], [2]), ([3, 2], [2, 3]), ([2], [2]), ([5, 2], [2, 5]), ([4, 6, 2], [2, 4, 6]), ([7, 2], [2, 7]), ([2], [2]), ([8, 9, 2, 2], [2, 8, 9]), ([10, 2], [2, 10]), ([2, 11], [2, 11])])
def system_Check.B21 : List Nat := [0, 1, 3, 7, 15, 7, 39, 127, 255, 7, 1023, 2047, 4095]
theorem system_Check.tab21 : rtab .any (opsOf Try.f10 21) = system_Check.T21 := by kernel_rfl
theorem system_Check.bits21 : waitsOk system_Check.T21.2 system_Check.B21 = true := by kernel_rfl
set_option maxHeartbeats 8000000 in
set_option maxRecDepth 100000 in
theorem system_Check.calls (k : Nat) (a0_0 : Int) (A0_1 : Option Addr) (c0_1 : Nat) (l0_1 : List ByteArray) (A0_2 : Option Addr) (c0_2 : Nat) (l0_2 : List (S44)) (r1 : Int) (r2 : Int) (w : World) (hr0_1 : Kd.C Kd.string w A0_1 l0_1.length l0_1) (hc0_1 : l0_1.length ≤ c0_1) (hr0_2 : Kd.C k44 w A0_2 l0_2.length l0_2) (hc0_2 : l0_2.length ≤ c0_2) (h : system_Check.f k a0_0 l0_1 l0_2 = some (r1, r2)) :
  Calls Try.prog 10 #[.agg #[.int .i64 a0_0, .slice A0_1 l0_1.length c0_1, .slice A0_2 l0_2.length c0_2]] w fun e w' => e = .returned (.agg #[.int .i64 r1, .int .i64 r2]) ∧ Below w.heap.size w w' := by
 have hv30 := Try.underlying30
 have hu25 := Try.underlying25
 have hu30 := Try.underlying30
 have hu44 := Try.underlying44
 have HR0_1 := Aside0.mk hr0_1
 have HC0_1 := Aside0.mk hc0_1
 clear hr0_1 hc0_1
 have HR0_2 := Aside0.mk hr0_2
 have HC0_2 := Aside0.mk hc0_2
 clear hr0_2 hc0_2
 have HB := Aside0.mk (Below.refl w.heap.size w)
 have H : (if a0_0 < 1 then (system_Check.j0 k true a0_0 l0_1 l0_2) else (if a0_0 > 200 then (system_Check.j0 k true a0_0 l0_1 l0_2) else (system_Check.j0 k (decide ((l0_1.length : Int) > 24)) a0_0 l0_1 l0_2))) = some (r1, r2) := h
 clear h
 have HC2 := Aside0.mk H
 clear H
 go_enter Try.func10, Try.ntmps10
 go_upto_region 1 with (first | ((with_reducible refine gate_dst (N := 1) rfl ?_); (try (refine gate_guard (by rfl) ?_; dsimp only)); refine sq_box 1 #[.int .i64 a0_0, .slice A0_1 l0_1.length c0_1, .slice A0_2 l0_2.length c0_2] 25 ?_; intro gb105 hg w3 hbox hb; have n0_ := Aside0.mk (below_step (sq_bl HB.out) hb); have n1_ := Aside0.mk (hbox); have n2_ := Aside0.mk ((by rw [hg]; exact (below_size (sq_bl HB.out)) : w.heap.size ≤ gb105)); have n3_ := Aside0.mk ((by rw [hg]; exact (below_size (sq_bl HB.out)) : w.heap.size ≤ gb105)); clear HB; have HB := n0_; have BK105 := n1_; have GW105 := n2_; have GE105 := n3_; clear n0_ n1_ n2_ n3_; clear hb hbox hg) | ((with_reducible refine gate_dst (N := 2) rfl ?_); (try (refine gate_guard (by rfl) ?_; dsimp only)); refine sq_box 2 #[.int .i64 0, .int .i64 0] 30 ?_; intro gb106 hg w4 hbox hb; have n0_ := Aside0.mk (blk_below (g := gb105) (o := .cells #[.int .i64 a0_0, .slice A0_1 l0_1.length c0_1, .slice A0_2 l0_2.length c0_2] 25 (0, 0)) (sq_bk BK105.out) hb); have n1_ := Aside0.mk (below_step (sq_bs HB.out) hb); have n2_ := Aside0.mk (hbox); have n3_ := Aside0.mk ((by rw [hg]; exact (below_size (sq_bs HB.out)) : w.heap.size ≤ gb106)); have n4_ := Aside0.mk ((by rw [hg]; exact (below_size (sq_bs HB.out)) : w.heap.size ≤ gb106)); have n5_ := Aside0.mk ((by rw [hg]; exact Nat.ne_of_lt (blk_lt (g := gb105) (o := .cells #[.int .i64 a0_0, .slice A0_1 l0_1.length c0_1, .slice A0_2 l0_2.length c0_2] 25 (0, 0)) (sq_bk BK105.out)) : gb105 ≠ gb106)); have n6_ := Aside0.mk ((by rw [hg]; exact Nat.ne_of_gt (blk_lt (g := gb105) (o := .cells #[.int .i64 a0_0, .slice A0_1 l0_1.length c0_1, .slice A0_2 l0_2.length c0_2] 25 (0, 0)) (sq_bk BK105.out)) : gb106 ≠ gb105)); clear BK105; clear HB; have BK105 := n0_; have HB := n1_; have BK106 := n2_; have GW106 := n3_; have GE106 := n4_; have NB105_106 := n5_; have NB106_105 := n6_; clear n0_ n1_ n2_ n3_ n4_ n5_ n6_; clear hb hbox hg))
 (try simp only [Act.put, List.setIfInBounds_toArray, List.set_cons_zero, List.set_cons_succ])
 go_cut [23] (fun v23 wc => ∃ (kq : Nat) (x23_1 : Bool), v23 = .bool x23_1 ∧ Aside0 (system_Check.j0 kq x23_1 a0_0 l0_1 l0_2 = some (r1, r2)) ∧ Aside0 (kq ≤ k) ∧ Aside0 (wc.heap[gb105]? = some (.cells #[.int .i64 a0_0, (.slice A0_1 l0_1.length c0_1), (.slice A0_2 l0_2.length c0_2)] 25 (0, 0))) ∧ Aside0 (wc.heap[gb106]? = some (.cells #[.int .i64 0, .int .i64 0] 30 (0, 0))) ∧ Aside0 (Below w.heap.size w wc))
 case first =>
  have H := HC2.out
  clear HC2
  have HH_ := Aside0.mk H
  clear H
  have hnb6 := NB105_106.out
  have hnc6 := NB106_105.out
  have hcz7_0 : w4.cell? ⟨gb105, 0, none⟩ = some (.int .i64 a0_0) := (blk_cell BK105.out 0).trans rfl
  have hcz7_1 : w4.cell? ⟨gb105, 1, none⟩ = some (.slice A0_1 l0_1.length c0_1) := (blk_cell BK105.out 1).trans rfl
  have hcz7_2 : w4.cell? ⟨gb105, 2, none⟩ = some (.slice A0_2 l0_2.length c0_2) := (blk_cell BK105.out 2).trans rfl
  have hfz7_0 := blk_frozen BK105.out 0
  have hfz7_1 := blk_frozen BK105.out 1
  have hfz7_2 := blk_frozen BK105.out 2
  have H := HH_.out
  clear HH_
  by_cases c5 : a0_0 < 1
  ·rw [if_pos c5] at H
   have c5b0 : decide (a0_0 < 1) = true := decide_eq_true c5
   clear c5
   (first | rw [c5b0] | (simp only [i64_w, i32_w]; rw [c5b0]) | skip)
   have H' := Aside0.mk H
   clear H
   go_wp2
   go_meet
   case rel => exact ⟨_, (true), (by first | rfl | (simp; done) | (simp [*]; done)), H', ⟨by first | omega | exact Nat.le_refl _⟩, ⟨sq_bk BK105.out⟩, ⟨sq_bk BK106.out⟩, ⟨sq_bs HB.out⟩⟩
  rw [if_neg c5] at H
  have c5b0 : decide (a0_0 < 1) = false := decide_eq_false c5
  clear c5
  (first | rw [c5b0] | (simp only [i64_w, i32_w]; rw [c5b0]) | skip)
  by_cases c8 : a0_0 > 200
  rotate_left
  ·rw [if_neg c8] at H
   have c8b0 : decide (200 < a0_0) = false := decide_eq_false c8
   clear c8
   have H' := Aside0.mk H
   clear H
   go_wp2
   go_meet
   case rel => exact ⟨_, (decide ((l0_1.length : Int) > 24)), (by first | rfl | (simp; done) | (simp [*]; done)), H', ⟨by first | omega | exact Nat.le_refl _⟩, ⟨sq_bk BK105.out⟩, ⟨sq_bk BK106.out⟩, ⟨sq_bs HB.out⟩⟩
  rw [if_pos c8] at H
  have c8b0 : decide (200 < a0_0) = true := decide_eq_true c8
  clear c8
  have H' := Aside0.mk H
  clear H
  go_wp2
  go_meet
  case rel => exact ⟨_, (true), (by first | rfl | (simp; done) | (simp [*]; done)), H', ⟨by first | omega | exact Nat.le_refl _⟩, ⟨sq_bk BK105.out⟩, ⟨sq_bk BK106.out⟩, ⟨sq_bs HB.out⟩⟩
 case rest =>
  clear HC2
  obtain ⟨kq, x23_1, rfl, HA, HJ1, BK105, BK106, HB⟩ := hcut
  cases kq with
  | zero => exact absurd HA.out (by simp [system_Check.j0])
  | succ kj1 =>
   have H := HA.out
   clear HA
   simp only [system_Check.j0] at H
   by_cases c13 : x23_1 = true
   ·subst c13
    have H1 : (some (2, 0)) = some (r1, r2) := by rw [if_pos rfl] at H; exact H
    clear H
    have H := H1
    clear H1
    simp only [Option.some.injEq, Prod.mk.injEq] at H
    obtain ⟨rfl, rfl⟩ := H
    have hnb14 := NB106_105.out
    have hnc14 := NB105_106.out
    have hcz15_0 : wc.cell? ⟨gb106, 0, none⟩ = some (.int .i64 0) := (blk_cell BK106.out 0).trans rfl
    have hcz15_1 : wc.cell? ⟨gb106, 1, none⟩ = some (.int .i64 0) := (blk_cell BK106.out 1).trans rfl
    have hfz15_0 := blk_frozen BK106.out 0
    have hfz15_1 := blk_frozen BK106.out 1
    go_wp2
    refine bodyPost_ret (results_cell_row rfl _ _ gb106 30 #[.int .i64 2, .int .i64 0] (0, 0) _ rfl (by (with_reducible repeat (first | refine blk_drewN ?_ _ | refine blk_drew ?_ | refine blk_alloc ?_ _)); refine blk_put (cs := #[.int .i64 2, .int .i64 0]) ?_ 1 _ rfl; (with_reducible repeat (first | refine blk_drewN ?_ _ | refine blk_drew ?_ | refine blk_alloc ?_ _)); refine blk_put (cs := #[.int .i64 0, .int .i64 0]) ?_ 0 _ rfl; (with_reducible repeat (first | refine blk_drewN ?_ _ | refine blk_drew ?_ | refine blk_alloc ?_ _)); exact BK106.out) Try.underlying30 rfl (by kernel_rfl)) rfl ?_
    exact ⟨by first | rfl | (simp [errW_none, errW_some] <;> rfl) | (simp [*, errW_none, errW_some] <;> rfl), sq_bs HB.out⟩
   replace c13 := Bool.eq_false_iff.mpr c13
   subst c13
   have H1 : (system_Check.l0 kj1 l0_1 (l0_1.length : Int) 0 a0_0 l0_1 l0_2) = some (r1, r2) := by rw [if_neg (show ¬ (false = true) by decide)] at H; exact H
   clear H
   have H := H1
   clear H1
   have H' := Aside0.mk H
   clear H
   have hnb16 := NB105_106.out
   have hnc16 := NB106_105.out
   have hcz17_0 : wc.cell? ⟨gb105, 0, none⟩ = some (.int .i64 a0_0) := (blk_cell BK105.out 0).trans rfl
   have hcz17_1 : wc.cell? ⟨gb105, 1, none⟩ = some (.slice A0_1 l0_1.length c0_1) := (blk_cell BK105.out 1).trans rfl
   have hcz17_2 : wc.cell? ⟨gb105, 2, none⟩ = some (.slice A0_2 l0_2.length c0_2) := (blk_cell BK105.out 2).trans rfl
   have hfz17_0 := blk_frozen BK105.out 0
   have hfz17_1 := blk_frozen BK105.out 1
   have hfz17_2 := blk_frozen BK105.out 2
   go_wp2
   go_loopg [28] kj1 (fun kq v28 w' => ∃ (x28_2 : Int) (x107000_2 : Int) (x107001_2 : Int), v28 = .int .i64 x28_2 ∧ Aside0 (system_Check.l0 kq l0_1 (l0_1.length : Int) x28_2 a0_0 l0_1 l0_2 = some (r1, r2)) ∧ Aside0 (kq ≤ kj1) ∧ Aside0 (w'.heap[gb105]? = some (.cells #[.int .i64 a0_0, (.slice A0_1 l0_1.length c0_1), (.slice A0_2 l0_2.length c0_2)] 25 (0, 0))) ∧ Aside0 (w'.heap[gb106]? = some (.cells #[.int .i64 x107000_2, .int .i64 x107001_2] 30 (0, 0))) ∧ Aside0 (Below w.heap.size w w'))
   case atStart => exact ⟨(0), (0), (0), (by first | rfl | (simp; done) | (simp [*]; done)), H', ⟨Nat.le_refl _⟩, ⟨sq_bk BK105.out⟩, ⟨sq_bk BK106.out⟩, ⟨sq_bs HB.out⟩⟩
   case round =>
    clear H'
    try clear c13
    try clear hcz17_0
    try clear hcz17_1
    try clear hcz17_2
    try clear hfz17_0
    try clear hfz17_1
    try clear hfz17_2
    obtain ⟨x28_2, x107000_2, x107001_2, rfl, HA, HK2, BK105, BK106, HB⟩ := hrel
    cases gk with
    | zero => exact absurd HA.out (by simp [system_Check.l0])
    | succ k2 =>
     have H := HA.out
     clear HA
     simp only [system_Check.l0] at H
     by_cases c18 : x28_2 < (l0_1.length : Int)
     ·rw [if_pos c18] at H
      have c18b0 : decide (x28_2 < (l0_1.length : Int)) = true := decide_eq_true c18
      clear c18
      by_cases c19 : 0 ≤ x28_2
      rotate_left
      ·rw [if_neg c19] at H
       exact absurd H (by simp)
      rw [if_pos c19] at H
      have c19b0 : decide (0 ≤ x28_2) = true := decide_eq_true c19
      clear c19
      by_cases c20 : x28_2 < (l0_1.length : Int)
      rotate_left
      ·rw [if_neg c20] at H
       exact absurd H (by simp)
      rw [if_pos c20] at H
      have c20b0 : decide (x28_2 < (l0_1.length : Int)) = true := decide_eq_true c20
      clear c20
      replace H := Option.bind_eq_some_iff.mp H
      obtain ⟨t108, A210, H⟩ := H
      replace H : (if t108 = true then (if x28_2 ≤ (l0_1.length : Int) then (system_Check.l1 k2 x28_2 (rdOf ByteArray.empty l0_1 x28_2) l0_1 (l0_1.length : Int) x28_2 (l0_1.take (x28_2 : Int).toNat) ((l0_1.take (x28_2 : Int).toNat).length : Int) 0 a0_0 l0_1 l0_2) else (none)) else (some (5, x28_2))) = some (r1, r2) := H
      have A21 := Aside0.mk A210
      clear A210
      by_cases c22 : t108 = true
      rotate_left
      ·replace c22 := Bool.eq_false_iff.mpr c22
       subst c22
       have H1 : (some (5, x28_2)) = some (r1, r2) := by rw [if_neg (show ¬ (false = true) by decide)] at H; exact H
       clear H
       have H := H1
       clear H1
       simp only [Option.some.injEq, Prod.mk.injEq] at H
       obtain ⟨rfl, rfl⟩ := H
       have p107 : 0 ≤ (x28_2 : Int) := sq_d
       have q107 : x28_2 < (l0_1.length : Int) := sq_d
       have LQ107 := Aside0.mk q107
       obtain ⟨ad107, e107, hx107_0⟩ := Kd.at_string HR0_1.out x28_2 p107 q107
       cases e107
       replace hx107_0 := (HB.out.cell (World.block_lt_of_cell? w _ hx107_0)).trans hx107_0
       replace p107 := eq_true p107
       replace q107 := eq_true q107
       go_wp2_with (first | ((with_reducible refine gate_callee (f := 25) rfl ?_); refine sq_goes (some 34) Try.func25 #[.string (rdOf ByteArray.empty l0_1 x28_2)] ?_; (with_reducible refine (system_name.calls (rdOf ByteArray.empty l0_1 x28_2) false _ A21.out).mono ?_); rintro e w35 ⟨rfl, hb⟩; refine ⟨_, rfl, ?_⟩; have n0_ := Aside0.mk (blk_below (g := gb105) (o := .cells #[.int .i64 a0_0, .slice (some ad107) l0_1.length c0_1, .slice A0_2 l0_2.length c0_2] 25 (0, 0)) (sq_bk BK105.out) hb); have n1_ := Aside0.mk (blk_below (g := gb106) (o := .cells #[.int .i64 x107000_2, .int .i64 x107001_2] 30 (0, 0)) (sq_bk BK106.out) hb); have n2_ := Aside0.mk (below_step (sq_bs HB.out) hb); clear BK105; clear BK106; clear HB; have BK105 := n0_; have BK106 := n1_; have HB := n2_; clear n0_ n1_ n2_; (try clear hb); have hnb36 := NB106_105.out; have hnc36 := NB105_106.out; have hcz37_0 : w35.cell? ⟨gb106, 0, none⟩ = some (.int .i64 x107000_2) := (blk_cell BK106.out 0).trans rfl; have hcz37_1 : w35.cell? ⟨gb106, 1, none⟩ = some (.int .i64 x107001_2) := (blk_cell BK106.out 1).trans rfl; have hfz37_0 := blk_frozen BK106.out 0; have hfz37_1 := blk_frozen BK106.out 1))
       refine bodyPost_ret (results_cell_row rfl _ _ gb106 30 #[.int .i64 5, .int .i64 x28_2] (0, 0) _ rfl (by (with_reducible repeat (first | refine blk_drewN ?_ _ | refine blk_drew ?_ | refine blk_alloc ?_ _)); refine blk_put (cs := #[.int .i64 5, .int .i64 x107001_2]) ?_ 1 _ rfl; (with_reducible repeat (first | refine blk_drewN ?_ _ | refine blk_drew ?_ | refine blk_alloc ?_ _)); refine blk_put (cs := #[.int .i64 x107000_2, .int .i64 x107001_2]) ?_ 0 _ rfl; (with_reducible repeat (first | refine blk_drewN ?_ _ | refine blk_drew ?_ | refine blk_alloc ?_ _)); exact BK106.out) Try.underlying30 rfl (by kernel_rfl)) rfl ?_
       exact ⟨by first | rfl | (simp [errW_none, errW_some] <;> rfl) | (simp [*, errW_none, errW_some] <;> rfl), sq_bs HB.out⟩
      subst c22
      have H1 : (if x28_2 ≤ (l0_1.length : Int) then (system_Check.l1 k2 x28_2 (rdOf ByteArray.empty l0_1 x28_2) l0_1 (l0_1.length : Int) x28_2 (l0_1.take (x28_2 : Int).toNat) ((l0_1.take (x28_2 : Int).toNat).length : Int) 0 a0_0 l0_1 l0_2) else (none)) = some (r1, r2) := by rw [if_pos rfl] at H; exact H
      clear H
      have H := H1
      clear H1
      have c23b0 := eq_true (sq_d : 0 ≤ x28_2)
      by_cases c24 : x28_2 ≤ (l0_1.length : Int)
      rotate_left
      ·rw [if_neg c24] at H
       exact absurd H (by simp)
      rw [if_pos c24] at H
      have c24b0 := eq_true c24
      have c24b1 : decide (x28_2 ≤ (l0_1.length : Int)) = true := decide_eq_true c24
      clear c24
      have H' := Aside0.mk H
      clear H
      have p107 : 0 ≤ (x28_2 : Int) := sq_d
      have q107 : x28_2 < (l0_1.length : Int) := sq_d
      have LQ107 := Aside0.mk q107
      obtain ⟨ad107, e107, hx107_0⟩ := Kd.at_string HR0_1.out x28_2 p107 q107
      cases e107
      replace hx107_0 := (HB.out.cell (World.block_lt_of_cell? w _ hx107_0)).trans hx107_0
      replace p107 := eq_true p107
      replace q107 := eq_true q107
      go_wp2_with (first | ((with_reducible refine gate_callee (f := 25) rfl ?_); refine sq_goes (some 34) Try.func25 #[.string (rdOf ByteArray.empty l0_1 x28_2)] ?_; (with_reducible refine (system_name.calls (rdOf ByteArray.empty l0_1 x28_2) true _ A21.out).mono ?_); rintro e w25 ⟨rfl, hb⟩; refine ⟨_, rfl, ?_⟩; have n0_ := Aside0.mk (blk_below (g := gb105) (o := .cells #[.int .i64 a0_0, .slice (some ad107) l0_1.length c0_1, .slice A0_2 l0_2.length c0_2] 25 (0, 0)) (sq_bk BK105.out) hb); have n1_ := Aside0.mk (blk_below (g := gb106) (o := .cells #[.int .i64 x107000_2, .int .i64 x107001_2] 30 (0, 0)) (sq_bk BK106.out) hb); have n2_ := Aside0.mk (below_step (sq_bs HB.out) hb); clear BK105; clear BK106; clear HB; have BK105 := n0_; have BK106 := n1_; have HB := n2_; clear n0_ n1_ n2_; (try clear hb); have hnb26 := NB105_106.out; have hnc26 := NB106_105.out; have hcz27_0 : w25.cell? ⟨gb105, 0, none⟩ = some (.int .i64 a0_0) := (blk_cell BK105.out 0).trans rfl; have hcz27_1 : w25.cell? ⟨gb105, 1, none⟩ = some (.slice (some ad107) l0_1.length c0_1) := (blk_cell BK105.out 1).trans rfl; have hcz27_2 : w25.cell? ⟨gb105, 2, none⟩ = some (.slice A0_2 l0_2.length c0_2) := (blk_cell BK105.out 2).trans rfl; have hfz27_0 := blk_frozen BK105.out 0; have hfz27_1 := blk_frozen BK105.out 1; have hfz27_2 := blk_frozen BK105.out 2; obtain ⟨i028, hi028, _, hsz28, _⟩ := info_parts info9; obtain ⟨hcut28, hA28, hC28⟩ := print_take_of (P := Try.prog) Value.string (⟨#[]⟩ : ByteArray) 22 9 .i64 Try.underlying22 hi028 hsz28 (some ad107) c0_1 l0_1 x28_2 sq_d sq_d HC0_1.out; have HR109 := Aside0.mk (Kd.C_of_reads (h1 := fun _ => rfl) (hA28 _ (Kd.reads_of_C HR0_1.out))); have HC109 := Aside0.mk hC28; clear hA28 hC28 hi028 hsz28))
      go_loopg [43] k2 (fun kq v43 w' => ∃ (x43_3 : Int) (x107000_3 : Int) (x107001_3 : Int), v43 = .int .i64 x43_3 ∧ Aside0 (system_Check.l1 kq x28_2 (rdOf ByteArray.empty l0_1 x28_2) l0_1 (l0_1.length : Int) x28_2 (l0_1.take (x28_2 : Int).toNat) ((l0_1.take (x28_2 : Int).toNat).length : Int) x43_3 a0_0 l0_1 l0_2 = some (r1, r2)) ∧ Aside0 (kq ≤ k2) ∧ Aside0 (w'.heap[gb105]? = some (.cells #[.int .i64 a0_0, (.slice (some ad107) l0_1.length c0_1), (.slice A0_2 l0_2.length c0_2)] 25 (0, 0))) ∧ Aside0 (w'.heap[gb106]? = some (.cells #[.int .i64 x107000_3, .int .i64 x107001_3] 30 (0, 0))) ∧ Aside0 (Below w.heap.size w w'))
      case atStart => exact ⟨(0), (x107000_2), (x107001_2), (by first | rfl | (simp; done) | (simp [*]; done)), H', ⟨Nat.le_refl _⟩, ⟨sq_bk BK105.out⟩, ⟨sq_bk BK106.out⟩, ⟨sq_bs HB.out⟩⟩
      case round =>
       clear H'
       try clear c18b0
       try clear c19b0
       try clear c20b0
       try clear c22
       try clear c23b0
       try clear c24b0
       try clear c24b1
       try clear hcz27_0
       try clear hcz27_1
       try clear hcz27_2
       try clear hfz27_0
       try clear hfz27_1
       try clear hfz27_2
       try clear hx107_0
       try clear p107
       try clear q107
       obtain ⟨x43_3, x107000_3, x107001_3, rfl, HA, HK3, BK105, BK106, HB⟩ := hrel
       cases gk with
       | zero => exact absurd HA.out (by simp [system_Check.l1])
       | succ k3 =>
        have H := HA.out
        clear HA
        simp only [system_Check.l1] at H
        by_cases c29 : x43_3 < ((l0_1.take (x28_2 : Int).toNat).length : Int)
        rotate_left
        ·rw [if_neg c29] at H
         have c29b0 : decide (x43_3 < ((l0_1.take (x28_2 : Int).toNat).length : Int)) = false := decide_eq_false c29
         (try (have c29q : decide (x43_3 < max x28_2 0) = false := (by have w0_ := LQ107.out; simp only [decide_eq_true_eq, decide_eq_false_iff_not, List.length_take] at *; omega)))
         (try (have c29t : (x43_3 < max x28_2 0) = False := eq_false (of_decide_eq_false c29q)))
         clear c29
         have H' := Aside0.mk H
         clear H
         go_wp2
         go_roundg k3
         case measure => have := HJ1.out; have := HK2.out; have := HK3.out; omega
         case rel => exact ⟨(wrap64 (x28_2 + 1)), (x107000_3), (x107001_3), (by first | rfl | (simp; done) | (simp [*]; done)), H', ⟨by have := HJ1.out; have := HK2.out; have := HK3.out; omega⟩, ⟨sq_bk BK105.out⟩, ⟨sq_bk BK106.out⟩, ⟨sq_bs HB.out⟩⟩
        rw [if_pos c29] at H
        have c29b0 : decide (x43_3 < ((l0_1.take (x28_2 : Int).toNat).length : Int)) = true := decide_eq_true c29
        (try (have c29q : decide (x43_3 < max x28_2 0) = true := (by have w0_ := LQ107.out; simp only [decide_eq_true_eq, decide_eq_false_iff_not, List.length_take] at *; omega)))
        (try (have c29t : (x43_3 < max x28_2 0) = True := eq_true (of_decide_eq_true c29q)))
        clear c29
        by_cases c30 : 0 ≤ x43_3
        rotate_left
        ·rw [if_neg c30] at H
         exact absurd H (by simp)
        rw [if_pos c30] at H
        have c30b0 : decide (0 ≤ x43_3) = true := decide_eq_true c30
        clear c30
        by_cases c31 : x43_3 < ((l0_1.take (x28_2 : Int).toNat).length : Int)
        rotate_left
        ·rw [if_neg c31] at H
         exact absurd H (by simp)
        rw [if_pos c31] at H
        have c31b0 : decide (x43_3 < ((l0_1.take (x28_2 : Int).toNat).length : Int)) = true := decide_eq_true c31
        (try (have c31q : decide (x43_3 < max x28_2 0) = true := (by have w0_ := LQ107.out; simp only [decide_eq_true_eq, decide_eq_false_iff_not, List.length_take] at *; omega)))
        (try (have c31t : (x43_3 < max x28_2 0) = True := eq_true (of_decide_eq_true c31q)))
        clear c31
        have HH_ := Aside0.mk H
        clear H
        have p110 : 0 ≤ (x43_3 : Int) := sq_d
        have q110 : x43_3 < ((l0_1.take (x28_2 : Int).toNat).length : Int) := sq_d
        obtain ⟨ad110, e110, hx110_0⟩ := Kd.at_string HR109.out x43_3 p110 q110
        obtain rfl : ad107 = ad110 := (by injection e110)
        replace hx110_0 := (HB.out.cell (World.block_lt_of_cell? w _ hx110_0)).trans hx110_0
        replace p110 := eq_true p110
        replace q110 := eq_true q110
        have H := HH_.out
        clear HH_
        by_cases c32 : (rdOf ByteArray.empty l0_1 x28_2).toList = (rdOf ByteArray.empty (l0_1.take (x28_2 : Int).toNat) x43_3).toList
        rotate_left
        ·rw [if_neg c32] at H
         have c32b0 : ((rdOf ByteArray.empty l0_1 x28_2).toList == (rdOf ByteArray.empty (l0_1.take (x28_2 : Int).toNat) x43_3).toList) = false := beq_eq_false_iff_ne.mpr c32
         have c32b1 : ((rdOf ByteArray.empty l0_1 x28_2).toList != (rdOf ByteArray.empty (l0_1.take (x28_2 : Int).toNat) x43_3).toList) = true := bne_iff_ne.mpr c32
         have H' := Aside0.mk H
         clear H
         go_wp2
         go_roundg k3
         case measure => have := HJ1.out; have := HK2.out; have := HK3.out; omega
         case rel => exact ⟨(wrap64 (x43_3 + 1)), (x107000_3), (x107001_3), (by first | rfl | (simp; done) | (simp [*]; done)), H', ⟨by have := HJ1.out; have := HK2.out; have := HK3.out; omega⟩, ⟨sq_bk BK105.out⟩, ⟨sq_bk BK106.out⟩, ⟨sq_bs HB.out⟩⟩
        rw [if_pos c32] at H
        have c32b0 : ((rdOf ByteArray.empty l0_1 x28_2).toList == (rdOf ByteArray.empty (l0_1.take (x28_2 : Int).toNat) x43_3).toList) = true := beq_iff_eq.mpr c32
        have c32b1 : ((rdOf ByteArray.empty l0_1 x28_2).toList != (rdOf ByteArray.empty (l0_1.take (x28_2 : Int).toNat) x43_3).toList) = false := bne_eq_false_iff_eq.mpr c32
        clear c32
        simp only [Option.some.injEq, Prod.mk.injEq] at H
        obtain ⟨rfl, rfl⟩ := H
        have hnb33 := NB106_105.out
        have hnc33 := NB105_106.out
        have hcz34_0 : wr.cell? ⟨gb106, 0, none⟩ = some (.int .i64 x107000_3) := (blk_cell BK106.out 0).trans rfl
        have hcz34_1 : wr.cell? ⟨gb106, 1, none⟩ = some (.int .i64 x107001_3) := (blk_cell BK106.out 1).trans rfl
        have hfz34_0 := blk_frozen BK106.out 0
        have hfz34_1 := blk_frozen BK106.out 1
        go_wp2
        refine bodyPost_ret (results_cell_row rfl _ _ gb106 30 #[.int .i64 6, .int .i64 x28_2] (0, 0) _ rfl (by (with_reducible repeat (first | refine blk_drewN ?_ _ | refine blk_drew ?_ | refine blk_alloc ?_ _)); refine blk_put (cs := #[.int .i64 6, .int .i64 x107001_3]) ?_ 1 _ rfl; (with_reducible repeat (first | refine blk_drewN ?_ _ | refine blk_drew ?_ | refine blk_alloc ?_ _)); refine blk_put (cs := #[.int .i64 x107000_3, .int .i64 x107001_3]) ?_ 0 _ rfl; (with_reducible repeat (first | refine blk_drewN ?_ _ | refine blk_drew ?_ | refine blk_alloc ?_ _)); exact BK106.out) Try.underlying30 rfl (by kernel_rfl)) rfl ?_
        exact ⟨by first | rfl | (simp [errW_none, errW_some] <;> rfl) | (simp [*, errW_none, errW_some] <;> rfl), sq_bs HB.out⟩
     rw [if_neg c18] at H
     have c18b0 : decide (x28_2 < (l0_1.length : Int)) = false := decide_eq_false c18
     clear c18
     have H' := Aside0.mk H
     clear H
     have hnb38 := NB105_106.out
     have hnc38 := NB106_105.out
     have hcz39_0 : wr.cell? ⟨gb105, 0, none⟩ = some (.int .i64 a0_0) := (blk_cell BK105.out 0).trans rfl
     have hcz39_1 : wr.cell? ⟨gb105, 1, none⟩ = some (.slice A0_1 l0_1.length c0_1) := (blk_cell BK105.out 1).trans rfl
     have hcz39_2 : wr.cell? ⟨gb105, 2, none⟩ = some (.slice A0_2 l0_2.length c0_2) := (blk_cell BK105.out 2).trans rfl
     have hfz39_0 := blk_frozen BK105.out 0
     have hfz39_1 := blk_frozen BK105.out 1
     have hfz39_2 := blk_frozen BK105.out 2
     go_wp2
     go_loopg [57] k2 (fun kq v57 w' => ∃ (x57_3 : Int) (x107000_3 : Int) (x107001_3 : Int), v57 = .int .i64 x57_3 ∧ Aside0 (system_Check.l2 kq l0_2 (l0_2.length : Int) x57_3 a0_0 l0_1 l0_2 = some (r1, r2)) ∧ Aside0 (kq ≤ k2) ∧ Aside0 (w'.heap[gb105]? = some (.cells #[.int .i64 a0_0, (.slice A0_1 l0_1.length c0_1), (.slice A0_2 l0_2.length c0_2)] 25 (0, 0))) ∧ Aside0 (w'.heap[gb106]? = some (.cells #[.int .i64 x107000_3, .int .i64 x107001_3] 30 (0, 0))) ∧ Aside0 (Below w.heap.size w w'))
     case atStart => exact ⟨(0), (x107000_2), (x107001_2), (by first | rfl | (simp; done) | (simp [*]; done)), H', ⟨Nat.le_refl _⟩, ⟨sq_bk BK105.out⟩, ⟨sq_bk BK106.out⟩, ⟨sq_bs HB.out⟩⟩
     case round =>
      clear H'
      try clear c18b0
      try clear hcz39_0
      try clear hcz39_1
      try clear hcz39_2
      try clear hfz39_0
      try clear hfz39_1
      try clear hfz39_2
      obtain ⟨x57_3, x107000_3, x107001_3, rfl, HA, HK3, BK105, BK106, HB⟩ := hrel
      cases gk with
      | zero => exact absurd HA.out (by simp [system_Check.l2])
      | succ k3 =>
       have H := HA.out
       clear HA
       simp only [system_Check.l2] at H
       by_cases c40 : x57_3 < (l0_2.length : Int)
       rotate_left
       ·rw [if_neg c40] at H
        have c40b0 : decide (x57_3 < (l0_2.length : Int)) = false := decide_eq_false c40
        clear c40
        simp only [Option.some.injEq, Prod.mk.injEq] at H
        obtain ⟨rfl, rfl⟩ := H
        have hnb86 := NB106_105.out
        have hnc86 := NB105_106.out
        have hcz87_0 : wr.cell? ⟨gb106, 0, none⟩ = some (.int .i64 x107000_3) := (blk_cell BK106.out 0).trans rfl
        have hcz87_1 : wr.cell? ⟨gb106, 1, none⟩ = some (.int .i64 x107001_3) := (blk_cell BK106.out 1).trans rfl
        have hfz87_0 := blk_frozen BK106.out 0
        have hfz87_1 := blk_frozen BK106.out 1
        go_wp2
        refine bodyPost_ret (results_cell_row rfl _ _ gb106 30 #[.int .i64 0, .int .i64 0] (0, 0) _ rfl (by (with_reducible repeat (first | refine blk_drewN ?_ _ | refine blk_drew ?_ | refine blk_alloc ?_ _)); refine blk_put (cs := #[.int .i64 0, .int .i64 x107001_3]) ?_ 1 _ rfl; (with_reducible repeat (first | refine blk_drewN ?_ _ | refine blk_drew ?_ | refine blk_alloc ?_ _)); refine blk_put (cs := #[.int .i64 x107000_3, .int .i64 x107001_3]) ?_ 0 _ rfl; (with_reducible repeat (first | refine blk_drewN ?_ _ | refine blk_drew ?_ | refine blk_alloc ?_ _)); exact BK106.out) Try.underlying30 rfl (by kernel_rfl)) rfl ?_
        exact ⟨by first | rfl | (simp [errW_none, errW_some] <;> rfl) | (simp [*, errW_none, errW_some] <;> rfl), sq_bs HB.out⟩
       rw [if_pos c40] at H
       have c40b0 : decide (x57_3 < (l0_2.length : Int)) = true := decide_eq_true c40
       clear c40
       by_cases c41 : 0 ≤ x57_3
       rotate_left
       ·rw [if_neg c41] at H
        exact absurd H (by simp)
       rw [if_pos c41] at H
       have c41b0 : decide (0 ≤ x57_3) = true := decide_eq_true c41
       clear c41
       by_cases c42 : x57_3 < (l0_2.length : Int)
       rotate_left
       ·rw [if_neg c42] at H
        exact absurd H (by simp)
       rw [if_pos c42] at H
       have c42b0 : decide (x57_3 < (l0_2.length : Int)) = true := decide_eq_true c42
       clear c42
       have HC43 := Aside0.mk H
       clear H
       have p111 : 0 ≤ (x57_3 : Int) := sq_d
       have q111 : x57_3 < (l0_2.length : Int) := sq_d
       have LQ111 := Aside0.mk q111
       obtain ⟨ad111, e111, hx111_0, hx111_1, hx111_2⟩ := at_T44 HR0_2.out x57_3 p111 q111
       cases e111
       replace hx111_0 := (HB.out.cell (World.block_lt_of_cell? w _ hx111_0)).trans hx111_0
       replace hx111_1 := (HB.out.cell (World.block_lt_of_cell? w _ hx111_1)).trans hx111_1
       replace hx111_2 := (HB.out.cell (World.block_lt_of_cell? w _ hx111_2)).trans hx111_2
       replace p111 := eq_true p111
       replace q111 := eq_true q111
       go_upto_region 19 with (first | ((with_reducible refine gate_dst (N := 9) rfl ?_); (try (refine gate_guard (by rfl) ?_; dsimp only)); refine sq_box 9 #[.int .i64 0, .int .i64 0, .int .i64 0] 44 ?_; intro gb112 hg w44 hbox hb; have n0_ := Aside0.mk (blk_below (g := gb105) (o := .cells #[.int .i64 a0_0, .slice A0_1 l0_1.length c0_1, .slice (some ad111) l0_2.length c0_2] 25 (0, 0)) (sq_bk BK105.out) hb); have n1_ := Aside0.mk (blk_below (g := gb106) (o := .cells #[.int .i64 x107000_3, .int .i64 x107001_3] 30 (0, 0)) (sq_bk BK106.out) hb); have n2_ := Aside0.mk (below_step (sq_bs HB.out) hb); have n3_ := Aside0.mk (hbox); have n4_ := Aside0.mk ((by rw [hg]; exact (below_size (sq_bs HB.out)) : w.heap.size ≤ gb112)); have n5_ := Aside0.mk ((by rw [hg]; exact (below_size (sq_bs HB.out)) : w.heap.size ≤ gb112)); have n6_ := Aside0.mk ((by rw [hg]; exact Nat.ne_of_lt (blk_lt (g := gb105) (o := .cells #[.int .i64 a0_0, .slice A0_1 l0_1.length c0_1, .slice (some ad111) l0_2.length c0_2] 25 (0, 0)) (sq_bk BK105.out)) : gb105 ≠ gb112)); have n7_ := Aside0.mk ((by rw [hg]; exact Nat.ne_of_gt (blk_lt (g := gb105) (o := .cells #[.int .i64 a0_0, .slice A0_1 l0_1.length c0_1, .slice (some ad111) l0_2.length c0_2] 25 (0, 0)) (sq_bk BK105.out)) : gb112 ≠ gb105)); have n8_ := Aside0.mk ((by rw [hg]; exact Nat.ne_of_lt (blk_lt (g := gb106) (o := .cells #[.int .i64 x107000_3, .int .i64 x107001_3] 30 (0, 0)) (sq_bk BK106.out)) : gb106 ≠ gb112)); have n9_ := Aside0.mk ((by rw [hg]; exact Nat.ne_of_gt (blk_lt (g := gb106) (o := .cells #[.int .i64 x107000_3, .int .i64 x107001_3] 30 (0, 0)) (sq_bk BK106.out)) : gb112 ≠ gb106)); clear BK105; clear BK106; clear HB; have BK105 := n0_; have BK106 := n1_; have HB := n2_; have BK112 := n3_; have GW112 := n4_; have GE112 := n5_; have NB105_112 := n6_; have NB112_105 := n7_; have NB106_112 := n8_; have NB112_106 := n9_; clear n0_ n1_ n2_ n3_ n4_ n5_ n6_ n7_ n8_ n9_; clear hb hbox hg; have hnb45 := NB112_105.out; have hnc45 := NB105_112.out; have hnb46 := NB112_106.out; have hnc46 := NB106_112.out; have hcz47_0 : w44.cell? ⟨gb112, 0, none⟩ = some (.int .i64 0) := (blk_cell BK112.out 0).trans rfl; have hcz47_1 : w44.cell? ⟨gb112, 1, none⟩ = some (.int .i64 0) := (blk_cell BK112.out 1).trans rfl; have hcz47_2 : w44.cell? ⟨gb112, 2, none⟩ = some (.int .i64 0) := (blk_cell BK112.out 2).trans rfl; have hfz47_0 := blk_frozen BK112.out 0; have hfz47_1 := blk_frozen BK112.out 1; have hfz47_2 := blk_frozen BK112.out 2))
       (try simp only [Act.put, List.setIfInBounds_toArray, List.set_cons_zero, List.set_cons_succ])
       go_cut [87] (fun v87 wc => ∃ (kq : Nat) (x87_42 : Bool), v87 = .bool x87_42 ∧ Aside0 (system_Check.j4 kq x57_3 l0_2 (l0_2.length : Int) x57_3 x87_42 a0_0 l0_1 l0_2 ((rd_T44 l0_2 x57_3).f0) ((rd_T44 l0_2 x57_3).f1) ((rd_T44 l0_2 x57_3).f2) = some (r1, r2)) ∧ Aside0 (kq ≤ k3) ∧ Aside0 (wc.heap[gb105]? = some (.cells #[.int .i64 a0_0, (.slice A0_1 l0_1.length c0_1), (.slice (some ad111) l0_2.length c0_2)] 25 (0, 0))) ∧ Aside0 (wc.heap[gb106]? = some (.cells #[.int .i64 x107000_3, .int .i64 x107001_3] 30 (0, 0))) ∧ Aside0 (wc.heap[gb112]? = some (.cells #[.int .i64 ((rd_T44 l0_2 x57_3).f0), .int .i64 ((rd_T44 l0_2 x57_3).f1), .int .i64 ((rd_T44 l0_2 x57_3).f2)] 44 (0, 0))) ∧ Aside0 (Below w.heap.size w wc))
       case first =>
        have H := HC43.out
        clear HC43
        replace H := Option.bind_eq_some_iff.mp H
        obtain ⟨t113, A480, H⟩ := H
        replace H : (if t113 = true then ((system_Check_1.f ((rd_T44 l0_2 x57_3).f2) a0_0).bind fun t114 => (if t114 = true then ((system_Check_1.f ((rd_T44 l0_2 x57_3).f1) (l0_1.length : Int)).bind fun t115 => (system_Check.j4 k3 x57_3 l0_2 (l0_2.length : Int) x57_3 (!t115) a0_0 l0_1 l0_2 ((rd_T44 l0_2 x57_3).f0) ((rd_T44 l0_2 x57_3).f1) ((rd_T44 l0_2 x57_3).f2))) else (system_Check.j4 k3 x57_3 l0_2 (l0_2.length : Int) x57_3 true a0_0 l0_1 l0_2 ((rd_T44 l0_2 x57_3).f0) ((rd_T44 l0_2 x57_3).f1) ((rd_T44 l0_2 x57_3).f2)))) else (system_Check.j4 k3 x57_3 l0_2 (l0_2.length : Int) x57_3 true a0_0 l0_1 l0_2 ((rd_T44 l0_2 x57_3).f0) ((rd_T44 l0_2 x57_3).f1) ((rd_T44 l0_2 x57_3).f2))) = some (r1, r2) := H
        have A48 := Aside0.mk A480
        clear A480
        by_cases c49 : t113 = true
        rotate_left
        ·replace c49 := Bool.eq_false_iff.mpr c49
         subst c49
         have H1 : (system_Check.j4 k3 x57_3 l0_2 (l0_2.length : Int) x57_3 true a0_0 l0_1 l0_2 ((rd_T44 l0_2 x57_3).f0) ((rd_T44 l0_2 x57_3).f1) ((rd_T44 l0_2 x57_3).f2)) = some (r1, r2) := by rw [if_neg (show ¬ (false = true) by decide)] at H; exact H
         clear H
         have H := H1
         clear H1
         have H' := Aside0.mk H
         clear H
         have hnb63 := NB112_105.out
         have hnc63 := NB105_112.out
         have hnb64 := NB112_106.out
         have hnc64 := NB106_112.out
         have hcz65_0 : w44.cell? ⟨gb112, 0, none⟩ = some (.int .i64 0) := (blk_cell BK112.out 0).trans rfl
         have hcz65_1 : w44.cell? ⟨gb112, 1, none⟩ = some (.int .i64 0) := (blk_cell BK112.out 1).trans rfl
         have hcz65_2 : w44.cell? ⟨gb112, 2, none⟩ = some (.int .i64 0) := (blk_cell BK112.out 2).trans rfl
         have hfz65_0 := blk_frozen BK112.out 0
         have hfz65_1 := blk_frozen BK112.out 1
         have hfz65_2 := blk_frozen BK112.out 2
         have hnb66 := NB105_106.out
         have hnc66 := NB106_105.out
         have hcz67_0 : w44.cell? ⟨gb105, 0, none⟩ = some (.int .i64 a0_0) := (blk_cell BK105.out 0).trans rfl
         have hcz67_1 : w44.cell? ⟨gb105, 1, none⟩ = some (.slice A0_1 l0_1.length c0_1) := (blk_cell BK105.out 1).trans rfl
         have hcz67_2 : w44.cell? ⟨gb105, 2, none⟩ = some (.slice (some ad111) l0_2.length c0_2) := (blk_cell BK105.out 2).trans rfl
         have hfz67_0 := blk_frozen BK105.out 0
         have hfz67_1 := blk_frozen BK105.out 1
         have hfz67_2 := blk_frozen BK105.out 2
         go_wp2_with (first | ((with_reducible refine gate_calleeV 26 rfl ?_); refine goesV_ (some 67) rfl rfl Try.func26 (by kernel_rfl) rfl #[.int .i64 ((rd_T44 l0_2 x57_3).f0), .int .i64 a0_0] rfl (by (try simp only [List.map_toArray, List.map_cons, List.map_nil]); first | done | rfl | (simp only [List.length_drop, List.length_take]; rfl)) ?_; (with_reducible refine (system_Check_1.calls ((rd_T44 l0_2 x57_3).f0) a0_0 false _ A48.out).mono ?_); rintro e w' ⟨rfl, ⟨nd, rfl⟩⟩; refine ⟨_, rfl, ?_⟩))
         go_meet
         case rel => exact ⟨_, (true), (by first | rfl | (simp; done) | (simp [*]; done)), H', ⟨by have := HJ1.out; have := HK2.out; have := HK3.out; first | omega | exact Nat.le_refl _⟩, ⟨by (with_reducible repeat (first | refine blk_drewN ?_ _ | refine blk_drew ?_ | refine blk_alloc ?_ _)); refine blk_far ?_ NB105_112.out _; (with_reducible repeat (first | refine blk_drewN ?_ _ | refine blk_drew ?_ | refine blk_alloc ?_ _)); refine blk_far ?_ NB105_112.out _; (with_reducible repeat (first | refine blk_drewN ?_ _ | refine blk_drew ?_ | refine blk_alloc ?_ _)); refine blk_far ?_ NB105_112.out _; (with_reducible repeat (first | refine blk_drewN ?_ _ | refine blk_drew ?_ | refine blk_alloc ?_ _)); exact BK105.out⟩, ⟨by (with_reducible repeat (first | refine blk_drewN ?_ _ | refine blk_drew ?_ | refine blk_alloc ?_ _)); refine blk_far ?_ NB106_112.out _; (with_reducible repeat (first | refine blk_drewN ?_ _ | refine blk_drew ?_ | refine blk_alloc ?_ _)); refine blk_far ?_ NB106_112.out _; (with_reducible repeat (first | refine blk_drewN ?_ _ | refine blk_drew ?_ | refine blk_alloc ?_ _)); refine blk_far ?_ NB106_112.out _; (with_reducible repeat (first | refine blk_drewN ?_ _ | refine blk_drew ?_ | refine blk_alloc ?_ _)); exact BK106.out⟩, ⟨by (with_reducible repeat (first | refine blk_drewN ?_ _ | refine blk_drew ?_ | refine blk_alloc ?_ _)); refine blk_put (cs := #[.int .i64 ((rd_T44 l0_2 x57_3).f0), .int .i64 ((rd_T44 l0_2 x57_3).f1), .int .i64 0]) ?_ 2 _ rfl; (with_reducible repeat (first | refine blk_drewN ?_ _ | refine blk_drew ?_ | refine blk_alloc ?_ _)); refine blk_put (cs := #[.int .i64 ((rd_T44 l0_2 x57_3).f0), .int .i64 0, .int .i64 0]) ?_ 1 _ rfl; (with_reducible repeat (first | refine blk_drewN ?_ _ | refine blk_drew ?_ | refine blk_alloc ?_ _)); refine blk_put (cs := #[.int .i64 0, .int .i64 0, .int .i64 0]) ?_ 0 _ rfl; (with_reducible repeat (first | refine blk_drewN ?_ _ | refine blk_drew ?_ | refine blk_alloc ?_ _)); exact BK112.out⟩, ⟨sq_bs HB.out⟩⟩
        subst c49
        have H1 : ((system_Check_1.f ((rd_T44 l0_2 x57_3).f2) a0_0).bind fun t114 => (if t114 = true then ((system_Check_1.f ((rd_T44 l0_2 x57_3).f1) (l0_1.length : Int)).bind fun t115 => (system_Check.j4 k3 x57_3 l0_2 (l0_2.length : Int) x57_3 (!t115) a0_0 l0_1 l0_2 ((rd_T44 l0_2 x57_3).f0) ((rd_T44 l0_2 x57_3).f1) ((rd_T44 l0_2 x57_3).f2))) else (system_Check.j4 k3 x57_3 l0_2 (l0_2.length : Int) x57_3 true a0_0 l0_1 l0_2 ((rd_T44 l0_2 x57_3).f0) ((rd_T44 l0_2 x57_3).f1) ((rd_T44 l0_2 x57_3).f2)))) = some (r1, r2) := by rw [if_pos rfl] at H; exact H
        clear H
        have H := H1
        clear H1
        replace H := Option.bind_eq_some_iff.mp H
        obtain ⟨t114, A500, H⟩ := H
        replace H : (if t114 = true then ((system_Check_1.f ((rd_T44 l0_2 x57_3).f1) (l0_1.length : Int)).bind fun t115 => (system_Check.j4 k3 x57_3 l0_2 (l0_2.length : Int) x57_3 (!t115) a0_0 l0_1 l0_2 ((rd_T44 l0_2 x57_3).f0) ((rd_T44 l0_2 x57_3).f1) ((rd_T44 l0_2 x57_3).f2))) else (system_Check.j4 k3 x57_3 l0_2 (l0_2.length : Int) x57_3 true a0_0 l0_1 l0_2 ((rd_T44 l0_2 x57_3).f0) ((rd_T44 l0_2 x57_3).f1) ((rd_T44 l0_2 x57_3).f2))) = some (r1, r2) := H
        have A50 := Aside0.mk A500
        clear A500
        by_cases c51 : t114 = true
        rotate_left
        ·replace c51 := Bool.eq_false_iff.mpr c51
         subst c51
         have H1 : (system_Check.j4 k3 x57_3 l0_2 (l0_2.length : Int) x57_3 true a0_0 l0_1 l0_2 ((rd_T44 l0_2 x57_3).f0) ((rd_T44 l0_2 x57_3).f1) ((rd_T44 l0_2 x57_3).f2)) = some (r1, r2) := by rw [if_neg (show ¬ (false = true) by decide)] at H; exact H
         clear H
         have H := H1
         clear H1
         have H' := Aside0.mk H
         clear H
         have hnb58 := NB112_105.out
         have hnc58 := NB105_112.out
         have hnb59 := NB112_106.out
         have hnc59 := NB106_112.out
         have hcz60_0 : w44.cell? ⟨gb112, 0, none⟩ = some (.int .i64 0) := (blk_cell BK112.out 0).trans rfl
         have hcz60_1 : w44.cell? ⟨gb112, 1, none⟩ = some (.int .i64 0) := (blk_cell BK112.out 1).trans rfl
         have hcz60_2 : w44.cell? ⟨gb112, 2, none⟩ = some (.int .i64 0) := (blk_cell BK112.out 2).trans rfl
         have hfz60_0 := blk_frozen BK112.out 0
         have hfz60_1 := blk_frozen BK112.out 1
         have hfz60_2 := blk_frozen BK112.out 2
         have hnb61 := NB105_106.out
         have hnc61 := NB106_105.out
         have hcz62_0 : w44.cell? ⟨gb105, 0, none⟩ = some (.int .i64 a0_0) := (blk_cell BK105.out 0).trans rfl
         have hcz62_1 : w44.cell? ⟨gb105, 1, none⟩ = some (.slice A0_1 l0_1.length c0_1) := (blk_cell BK105.out 1).trans rfl
         have hcz62_2 : w44.cell? ⟨gb105, 2, none⟩ = some (.slice (some ad111) l0_2.length c0_2) := (blk_cell BK105.out 2).trans rfl
         have hfz62_0 := blk_frozen BK105.out 0
         have hfz62_1 := blk_frozen BK105.out 1
         have hfz62_2 := blk_frozen BK105.out 2
         go_wp2_with (first | ((with_reducible refine gate_calleeV 26 rfl ?_); refine goesV_ (some 67) rfl rfl Try.func26 (by kernel_rfl) rfl #[.int .i64 ((rd_T44 l0_2 x57_3).f0), .int .i64 a0_0] rfl (by (try simp only [List.map_toArray, List.map_cons, List.map_nil]); first | done | rfl | (simp only [List.length_drop, List.length_take]; rfl)) ?_; (with_reducible refine (system_Check_1.calls ((rd_T44 l0_2 x57_3).f0) a0_0 true _ A48.out).mono ?_); rintro e w' ⟨rfl, ⟨nd, rfl⟩⟩; refine ⟨_, rfl, ?_⟩) | (go_at_call 26; (with_reducible refine (system_Check_1.calls ((rd_T44 l0_2 x57_3).f2) a0_0 false _ A50.out).mono ?_); rintro e w' ⟨rfl, ⟨nd, rfl⟩⟩))
         go_meet
         case rel => exact ⟨_, (true), (by first | rfl | (simp; done) | (simp [*]; done)), H', ⟨by have := HJ1.out; have := HK2.out; have := HK3.out; first | omega | exact Nat.le_refl _⟩, ⟨by (with_reducible repeat (first | refine blk_drewN ?_ _ | refine blk_drew ?_ | refine blk_alloc ?_ _)); refine blk_far ?_ NB105_112.out _; (with_reducible repeat (first | refine blk_drewN ?_ _ | refine blk_drew ?_ | refine blk_alloc ?_ _)); refine blk_far ?_ NB105_112.out _; (with_reducible repeat (first | refine blk_drewN ?_ _ | refine blk_drew ?_ | refine blk_alloc ?_ _)); refine blk_far ?_ NB105_112.out _; (with_reducible repeat (first | refine blk_drewN ?_ _ | refine blk_drew ?_ | refine blk_alloc ?_ _)); exact BK105.out⟩, ⟨by (with_reducible repeat (first | refine blk_drewN ?_ _ | refine blk_drew ?_ | refine blk_alloc ?_ _)); refine blk_far ?_ NB106_112.out _; (with_reducible repeat (first | refine blk_drewN ?_ _ | refine blk_drew ?_ | refine blk_alloc ?_ _)); refine blk_far ?_ NB106_112.out _; (with_reducible repeat (first | refine blk_drewN ?_ _ | refine blk_drew ?_ | refine blk_alloc ?_ _)); refine blk_far ?_ NB106_112.out _; (with_reducible repeat (first | refine blk_drewN ?_ _ | refine blk_drew ?_ | refine blk_alloc ?_ _)); exact BK106.out⟩, ⟨by (with_reducible repeat (first | refine blk_drewN ?_ _ | refine blk_drew ?_ | refine blk_alloc ?_ _)); refine blk_put (cs := #[.int .i64 ((rd_T44 l0_2 x57_3).f0), .int .i64 ((rd_T44 l0_2 x57_3).f1), .int .i64 0]) ?_ 2 _ rfl; (with_reducible repeat (first | refine blk_drewN ?_ _ | refine blk_drew ?_ | refine blk_alloc ?_ _)); refine blk_put (cs := #[.int .i64 ((rd_T44 l0_2 x57_3).f0), .int .i64 0, .int .i64 0]) ?_ 1 _ rfl; (with_reducible repeat (first | refine blk_drewN ?_ _ | refine blk_drew ?_ | refine blk_alloc ?_ _)); refine blk_put (cs := #[.int .i64 0, .int .i64 0, .int .i64 0]) ?_ 0 _ rfl; (with_reducible repeat (first | refine blk_drewN ?_ _ | refine blk_drew ?_ | refine blk_alloc ?_ _)); exact BK112.out⟩, ⟨sq_bs HB.out⟩⟩
        subst c51
        have H1 : ((system_Check_1.f ((rd_T44 l0_2 x57_3).f1) (l0_1.length : Int)).bind fun t115 => (system_Check.j4 k3 x57_3 l0_2 (l0_2.length : Int) x57_3 (!t115) a0_0 l0_1 l0_2 ((rd_T44 l0_2 x57_3).f0) ((rd_T44 l0_2 x57_3).f1) ((rd_T44 l0_2 x57_3).f2))) = some (r1, r2) := by rw [if_pos rfl] at H; exact H
        clear H
        have H := H1
        clear H1
        replace H := Option.bind_eq_some_iff.mp H
        obtain ⟨t115, A520, H⟩ := H
        replace H : (system_Check.j4 k3 x57_3 l0_2 (l0_2.length : Int) x57_3 (!t115) a0_0 l0_1 l0_2 ((rd_T44 l0_2 x57_3).f0) ((rd_T44 l0_2 x57_3).f1) ((rd_T44 l0_2 x57_3).f2)) = some (r1, r2) := H
        have A52 := Aside0.mk A520
        clear A520
        have H' := Aside0.mk H
        clear H
        have hnb53 := NB112_105.out
        have hnc53 := NB105_112.out
        have hnb54 := NB112_106.out
        have hnc54 := NB106_112.out
        have hcz55_0 : w44.cell? ⟨gb112, 0, none⟩ = some (.int .i64 0) := (blk_cell BK112.out 0).trans rfl
        have hcz55_1 : w44.cell? ⟨gb112, 1, none⟩ = some (.int .i64 0) := (blk_cell BK112.out 1).trans rfl
        have hcz55_2 : w44.cell? ⟨gb112, 2, none⟩ = some (.int .i64 0) := (blk_cell BK112.out 2).trans rfl
        have hfz55_0 := blk_frozen BK112.out 0
        have hfz55_1 := blk_frozen BK112.out 1
        have hfz55_2 := blk_frozen BK112.out 2
        have hnb56 := NB105_106.out
        have hnc56 := NB106_105.out
        have hcz57_0 : w44.cell? ⟨gb105, 0, none⟩ = some (.int .i64 a0_0) := (blk_cell BK105.out 0).trans rfl
        have hcz57_1 : w44.cell? ⟨gb105, 1, none⟩ = some (.slice A0_1 l0_1.length c0_1) := (blk_cell BK105.out 1).trans rfl
        have hcz57_2 : w44.cell? ⟨gb105, 2, none⟩ = some (.slice (some ad111) l0_2.length c0_2) := (blk_cell BK105.out 2).trans rfl
        have hfz57_0 := blk_frozen BK105.out 0
        have hfz57_1 := blk_frozen BK105.out 1
        have hfz57_2 := blk_frozen BK105.out 2
        go_wp2_with (first | ((with_reducible refine gate_calleeV 26 rfl ?_); refine goesV_ (some 67) rfl rfl Try.func26 (by kernel_rfl) rfl #[.int .i64 ((rd_T44 l0_2 x57_3).f0), .int .i64 a0_0] rfl (by (try simp only [List.map_toArray, List.map_cons, List.map_nil]); first | done | rfl | (simp only [List.length_drop, List.length_take]; rfl)) ?_; (with_reducible refine (system_Check_1.calls ((rd_T44 l0_2 x57_3).f0) a0_0 true _ A48.out).mono ?_); rintro e w' ⟨rfl, ⟨nd, rfl⟩⟩; refine ⟨_, rfl, ?_⟩) | (go_at_call 26; (with_reducible refine (system_Check_1.calls ((rd_T44 l0_2 x57_3).f2) a0_0 true _ A50.out).mono ?_); rintro e w' ⟨rfl, ⟨nd, rfl⟩⟩) | (go_at_call 26; (with_reducible refine (system_Check_1.calls ((rd_T44 l0_2 x57_3).f1) (l0_1.length : Int) t115 _ A52.out).mono ?_); rintro e w' ⟨rfl, ⟨nd, rfl⟩⟩))
        go_meet
        case rel => exact ⟨_, (!t115), (by first | rfl | (simp; done) | (simp [*]; done)), H', ⟨by have := HJ1.out; have := HK2.out; have := HK3.out; first | omega | exact Nat.le_refl _⟩, ⟨by (with_reducible repeat (first | refine blk_drewN ?_ _ | refine blk_drew ?_ | refine blk_alloc ?_ _)); refine blk_far ?_ NB105_112.out _; (with_reducible repeat (first | refine blk_drewN ?_ _ | refine blk_drew ?_ | refine blk_alloc ?_ _)); refine blk_far ?_ NB105_112.out _; (with_reducible repeat (first | refine blk_drewN ?_ _ | refine blk_drew ?_ | refine blk_alloc ?_ _)); refine blk_far ?_ NB105_112.out _; (with_reducible repeat (first | refine blk_drewN ?_ _ | refine blk_drew ?_ | refine blk_alloc ?_ _)); exact BK105.out⟩, ⟨by (with_reducible repeat (first | refine blk_drewN ?_ _ | refine blk_drew ?_ | refine blk_alloc ?_ _)); refine blk_far ?_ NB106_112.out _; (with_reducible repeat (first | refine blk_drewN ?_ _ | refine blk_drew ?_ | refine blk_alloc ?_ _)); refine blk_far ?_ NB106_112.out _; (with_reducible repeat (first | refine blk_drewN ?_ _ | refine blk_drew ?_ | refine blk_alloc ?_ _)); refine blk_far ?_ NB106_112.out _; (with_reducible repeat (first | refine blk_drewN ?_ _ | refine blk_drew ?_ | refine blk_alloc ?_ _)); exact BK106.out⟩, ⟨by (with_reducible repeat (first | refine blk_drewN ?_ _ | refine blk_drew ?_ | refine blk_alloc ?_ _)); refine blk_put (cs := #[.int .i64 ((rd_T44 l0_2 x57_3).f0), .int .i64 ((rd_T44 l0_2 x57_3).f1), .int .i64 0]) ?_ 2 _ rfl; (with_reducible repeat (first | refine blk_drewN ?_ _ | refine blk_drew ?_ | refine blk_alloc ?_ _)); refine blk_put (cs := #[.int .i64 ((rd_T44 l0_2 x57_3).f0), .int .i64 0, .int .i64 0]) ?_ 1 _ rfl; (with_reducible repeat (first | refine blk_drewN ?_ _ | refine blk_drew ?_ | refine blk_alloc ?_ _)); refine blk_put (cs := #[.int .i64 0, .int .i64 0, .int .i64 0]) ?_ 0 _ rfl; (with_reducible repeat (first | refine blk_drewN ?_ _ | refine blk_drew ?_ | refine blk_alloc ?_ _)); exact BK112.out⟩, ⟨sq_bs HB.out⟩⟩
       case rest =>
        clear HC43
        try clear c40b0
        try clear c41b0
        try clear c42b0
        try clear hcz47_0
        try clear hcz47_1
        try clear hcz47_2
        try clear hfz47_0
        try clear hfz47_1
        try clear hfz47_2
        try clear hx111_0
        try clear hx111_1
        try clear hx111_2
        try clear p111
        try clear q111
        obtain ⟨kq, x87_42, rfl, HA, HJ42, BK105, BK106, BK112, HB⟩ := hcut
        cases kq with
        | zero => exact absurd HA.out (by simp [system_Check.j4])
        | succ kj42 =>
         have H := HA.out
         clear HA
         simp only [system_Check.j4] at H
         by_cases c68 : x87_42 = true
         ·subst c68
          have H1 : (some (1, x57_3)) = some (r1, r2) := by rw [if_pos rfl] at H; exact H
          clear H
          have H := H1
          clear H1
          simp only [Option.some.injEq, Prod.mk.injEq] at H
          obtain ⟨rfl, rfl⟩ := H
          have hnb69 := NB106_105.out
          have hnc69 := NB105_106.out
          have hnb70 := NB106_112.out
          have hnc70 := NB112_106.out
          have hcz71_0 : wc.cell? ⟨gb106, 0, none⟩ = some (.int .i64 x107000_3) := (blk_cell BK106.out 0).trans rfl
          have hcz71_1 : wc.cell? ⟨gb106, 1, none⟩ = some (.int .i64 x107001_3) := (blk_cell BK106.out 1).trans rfl
          have hfz71_0 := blk_frozen BK106.out 0
          have hfz71_1 := blk_frozen BK106.out 1
          go_wp2
          refine bodyPost_ret (results_cell_row rfl _ _ gb106 30 #[.int .i64 1, .int .i64 x57_3] (0, 0) _ rfl (by (with_reducible repeat (first | refine blk_drewN ?_ _ | refine blk_drew ?_ | refine blk_alloc ?_ _)); refine blk_put (cs := #[.int .i64 1, .int .i64 x107001_3]) ?_ 1 _ rfl; (with_reducible repeat (first | refine blk_drewN ?_ _ | refine blk_drew ?_ | refine blk_alloc ?_ _)); refine blk_put (cs := #[.int .i64 x107000_3, .int .i64 x107001_3]) ?_ 0 _ rfl; (with_reducible repeat (first | refine blk_drewN ?_ _ | refine blk_drew ?_ | refine blk_alloc ?_ _)); exact BK106.out) Try.underlying30 rfl (by kernel_rfl)) rfl ?_
          exact ⟨by first | rfl | (simp [errW_none, errW_some] <;> rfl) | (simp [*, errW_none, errW_some] <;> rfl), sq_bs HB.out⟩
         replace c68 := Bool.eq_false_iff.mpr c68
         subst c68
         have H1 : (if x57_3 > 0 then (if 0 ≤ (wrap64 (x57_3 - 1)) then (if (wrap64 (x57_3 - 1)) < (l0_2.length : Int) then ((system_before.f ((rd_T44 l0_2 (wrap64 (x57_3 - 1))).f0) ((rd_T44 l0_2 (wrap64 (x57_3 - 1))).f1) ((rd_T44 l0_2 (wrap64 (x57_3 - 1))).f2) ((rd_T44 l0_2 x57_3).f0) ((rd_T44 l0_2 x57_3).f1) ((rd_T44 l0_2 x57_3).f2)).bind fun t117 => (if t117 = true then (system_Check.l2 kj42 l0_2 (l0_2.length : Int) (wrap64 (x57_3 + 1)) a0_0 l0_1 l0_2) else (some (8, x57_3)))) else (none)) else (none)) else (system_Check.l2 kj42 l0_2 (l0_2.length : Int) (wrap64 (x57_3 + 1)) a0_0 l0_1 l0_2)) = some (r1, r2) := by rw [if_neg (show ¬ (false = true) by decide)] at H; exact H
         clear H
         have H := H1
         clear H1
         by_cases c72 : x57_3 > 0
         rotate_left
         ·rw [if_neg c72] at H
          have c72b0 : decide (0 < x57_3) = false := decide_eq_false c72
          clear c72
          have H' := Aside0.mk H
          clear H
          try go_wp2
          have n0_ := Aside0.mk (blk_drew BK105.out)
          have n1_ := Aside0.mk (blk_drew BK106.out)
          have n2_ := Aside0.mk (blk_drew BK112.out)
          have n3_ := Aside0.mk (below_drew1 HB.out)
          clear BK105
          clear BK106
          clear BK112
          clear HB
          have BK105 := n0_
          have BK106 := n1_
          have BK112 := n2_
          have HB := n3_
          clear n0_ n1_ n2_ n3_
          refine start_ (n := 13) (S := fun w' => True) (ds := []) #[false, false, false, false, false, false, false, false, false, false, false, false, false] (by kernel_rfl) rfl rfl trivial (fun hHeld => ?_); refine with_tabW system_Check.tab21 system_Check.bits21 (fun HT_ HW_ => ?_)
          generalize wc.drew = w85 at BK105 BK106 BK112 HB hHeld ⊢
          refine sq_p 0 90 (sqm 13 1) HT_.out ?_
          refine sq_p 1 91 (sqm 13 3) HT_.out ?_
          refine sq_p 2 92 (sqm 13 7) HT_.out ?_
          refine sq_u 3 93 (sqm 13 15) HT_.out ?_
          refine sq_u 4 94 (sqm 13 31) HT_.out ?_
          refine sq_u 5 95 (sqm 13 63) HT_.out ?_
          refine sq_u 6 96 (sqm 13 127) HT_.out ?_
          refine sq_u 7 97 (sqm 13 255) HT_.out ?_
          refine sq_u 8 98 (sqm 13 511) HT_.out ?_
          refine sq_u 9 99 (sqm 13 1023) HT_.out ?_
          refine sq_u 10 100 (sqm 13 2047) HT_.out ?_
          refine sq_u 11 101 (sqm 13 4095) HT_.out ?_
          refine sq_p 12 102 (sqm 13 8191) HT_.out ?_
          refine done_ (done_of HT_.out (by kernel_rfl)) ?_
          try go_wp2
          go_roundg kj42
          case measure => have := HJ1.out; have := HK2.out; have := HK3.out; have := HJ42.out; omega
          case rel => exact ⟨(wrap64 (x57_3 + 1)), (x107000_3), (x107001_3), (by first | rfl | (simp; done) | (simp [*]; done)), H', ⟨by have := HJ1.out; have := HK2.out; have := HK3.out; have := HJ42.out; omega⟩, ⟨sq_bk BK105.out⟩, ⟨sq_bk BK106.out⟩, ⟨sq_bs HB.out⟩⟩
         rw [if_pos c72] at H
         have c72b0 : decide (0 < x57_3) = true := decide_eq_true c72
         clear c72
         obtain ⟨ji73, hji73⟩ : ∃ j_ : Int, (wrap64 (x57_3 - 1)) = j_ := ⟨_, rfl⟩
         replace H : (if 0 ≤ (ji73) then (if (ji73) < (l0_2.length : Int) then ((system_before.f ((rd_T44 l0_2 (ji73)).f0) ((rd_T44 l0_2 (ji73)).f1) ((rd_T44 l0_2 (ji73)).f2) ((rd_T44 l0_2 x57_3).f0) ((rd_T44 l0_2 x57_3).f1) ((rd_T44 l0_2 x57_3).f2)).bind fun t117 => (if t117 = true then (system_Check.l2 kj42 l0_2 (l0_2.length : Int) (wrap64 (x57_3 + 1)) a0_0 l0_1 l0_2) else (some (8, x57_3)))) else (none)) else (none)) = some (r1, r2) := by first | (rw [hji73] at H; exact H) | (simp only [hji73] at H ⊢; exact H)
         have hji73w : (IntKind.i64.wrap (x57_3 - 1)) = ji73 := (i64_w _).trans hji73
         by_cases c74 : 0 ≤ (ji73)
         rotate_left
         ·rw [if_neg c74] at H
          exact absurd H (by simp)
         rw [if_pos c74] at H
         have c74b0 : decide (0 ≤ (ji73)) = true := decide_eq_true c74
         clear c74
         by_cases c75 : (ji73) < (l0_2.length : Int)
         rotate_left
         ·rw [if_neg c75] at H
          exact absurd H (by simp)
         rw [if_pos c75] at H
         have c75b0 : decide ((ji73) < (l0_2.length : Int)) = true := decide_eq_true c75
         clear c75
         replace H := Option.bind_eq_some_iff.mp H
         obtain ⟨t117, A760, H⟩ := H
         replace H : (if t117 = true then (system_Check.l2 kj42 l0_2 (l0_2.length : Int) (wrap64 (x57_3 + 1)) a0_0 l0_1 l0_2) else (some (8, x57_3))) = some (r1, r2) := H
         have A76 := Aside0.mk A760
         clear A760
         by_cases c77 : t117 = true
         ·subst c77
          have H1 : (system_Check.l2 kj42 l0_2 (l0_2.length : Int) (wrap64 (x57_3 + 1)) a0_0 l0_1 l0_2) = some (r1, r2) := by rw [if_pos rfl] at H; exact H
          clear H
          have H := H1
          clear H1
          have H' := Aside0.mk H
          clear H
          try go_wp2
          have n0_ := Aside0.mk (blk_drew BK105.out)
          have n1_ := Aside0.mk (blk_drew BK106.out)
          have n2_ := Aside0.mk (blk_drew BK112.out)
          have n3_ := Aside0.mk (below_drew1 HB.out)
          clear BK105
          clear BK106
          clear BK112
          clear HB
          have BK105 := n0_
          have BK106 := n1_
          have BK112 := n2_
          have HB := n3_
          clear n0_ n1_ n2_ n3_
          have p116 : 0 ≤ ((ji73) : Int) := sq_d
          have q116 : (ji73) < (l0_2.length : Int) := sq_d
          obtain ⟨ad116, e116, hx116_0, hx116_1, hx116_2⟩ := at_T44 HR0_2.out (ji73) p116 q116
          have hw116_2 := hx116_2
          have hw116_1 := hx116_1
          have hw116_0 := hx116_0
          obtain rfl : ad111 = ad116 := (by injection e116)
          replace hx116_0 := (HB.out.cell (World.block_lt_of_cell? w _ hx116_0)).trans hx116_0
          replace hx116_1 := (HB.out.cell (World.block_lt_of_cell? w _ hx116_1)).trans hx116_1
          replace hx116_2 := (HB.out.cell (World.block_lt_of_cell? w _ hx116_2)).trans hx116_2
          replace p116 := eq_true p116
          replace q116 := eq_true q116
          refine start_ (n := 13) (S := fun w' => w'.cell? ⟨gb105, 0, none⟩ = some (.int .i64 a0_0) ∧ w'.cell? ⟨gb105, 1, none⟩ = some (.slice A0_1 l0_1.length c0_1) ∧ w'.cell? ⟨gb105, 2, none⟩ = some (.slice (some ad111) l0_2.length c0_2) ∧ w'.cell? ⟨gb112, 0, none⟩ = some (.int .i64 ((rd_T44 l0_2 x57_3).f0)) ∧ w'.cell? ⟨gb112, 1, none⟩ = some (.int .i64 ((rd_T44 l0_2 x57_3).f1)) ∧ w'.cell? ⟨gb112, 2, none⟩ = some (.int .i64 ((rd_T44 l0_2 x57_3).f2)) ∧ w'.cell? (ad111.add (((ji73)).toNat * 3)) = some (.int .i64 ((rd_T44 l0_2 (ji73)).f0)) ∧ w'.cell? ⟨(ad111.add (((ji73)).toNat * 3)).block, (ad111.add (((ji73)).toNat * 3)).off + 1, none⟩ = some (.int .i64 ((rd_T44 l0_2 (ji73)).f1)) ∧ w'.cell? ⟨(ad111.add (((ji73)).toNat * 3)).block, (ad111.add (((ji73)).toNat * 3)).off + 2, none⟩ = some (.int .i64 ((rd_T44 l0_2 (ji73)).f2))) (ds := []) #[false, false, false, false, false, false, false, false, false, false, false, false, false] (by kernel_rfl) rfl rfl ⟨(blk_cell BK105.out 0).trans rfl, (blk_cell BK105.out 1).trans rfl, (blk_cell BK105.out 2).trans rfl, (blk_cell BK112.out 0).trans rfl, (blk_cell BK112.out 1).trans rfl, (blk_cell BK112.out 2).trans rfl, ((HB.out.cell (World.block_lt_of_cell? w _ hw116_0)).trans hw116_0), ((HB.out.cell (World.block_lt_of_cell? w _ hw116_1)).trans hw116_1), ((HB.out.cell (World.block_lt_of_cell? w _ hw116_2)).trans hw116_2)⟩ (fun hHeld => ?_); refine with_tabW system_Check.tab21 system_Check.bits21 (fun HT_ HW_ => ?_)
          generalize wc.drew = w78 at BK105 BK106 BK112 HB hx116_0 hx116_1 hx116_2 hHeld ⊢
          refine sq_p 0 90 (sqm 13 1) HT_.out ?_
          refine sq_p 1 91 (sqm 13 3) HT_.out ?_
          refine sq_p 2 92 (sqm 13 7) HT_.out ?_
          refine sq_p 3 93 (sqm 13 15) HT_.out ?_
          refine sq_p 5 95 (sqm 13 47) HT_.out ?_
          refine sq_p 6 96 (sqm 13 111) HT_.out ?_
          refine sq_t 4 94 (sqm 13 127) HT_.out HW_.out hHeld ?_
          refine sq_p 7 97 (sqm 13 255) HT_.out ?_
          refine sq_t 8 98 (sqm 13 511) HT_.out HW_.out hHeld ?_
          refine sq_t 9 99 (sqm 13 1023) HT_.out HW_.out hHeld ?_
          refine one_ (i := 10) (N := some 100) (sqm 13 2047) rfl rfl (one_of HT_.out (by kernel_rfl)) (by decide) (fun K hK => ?_)
          refine goes_ Try.func27 (by kernel_rfl) rfl #[.agg #[.int .i64 ((rd_T44 l0_2 (ji73)).f0), .int .i64 ((rd_T44 l0_2 (ji73)).f1), .int .i64 ((rd_T44 l0_2 (ji73)).f2)], .agg #[.int .i64 ((rd_T44 l0_2 x57_3).f0), .int .i64 ((rd_T44 l0_2 x57_3).f1), .int .i64 ((rd_T44 l0_2 x57_3).f2)]] (by rfl) rfl rfl (by (try simp only [List.map_toArray, List.map_cons, List.map_nil]); first | done | (simp only [hji73]; rfl) | rfl | (simp only [List.length_drop, List.length_take]; rfl)) ?_
          with_reducible refine (system_before.calls ((rd_T44 l0_2 (ji73)).f0) ((rd_T44 l0_2 (ji73)).f1) ((rd_T44 l0_2 (ji73)).f2) ((rd_T44 l0_2 x57_3).f0) ((rd_T44 l0_2 x57_3).f1) ((rd_T44 l0_2 x57_3).f2) true _ A76.out).mono ?_
          rintro e w79 ⟨rfl, hb⟩
          refine ⟨_, rfl, ?_⟩
          have n0_ := Aside0.mk (blk_below (g := gb105) (o := .cells #[.int .i64 a0_0, .slice A0_1 l0_1.length c0_1, .slice (some ad111) l0_2.length c0_2] 25 (0, 0)) (sq_bk BK105.out) hb)
          have n1_ := Aside0.mk (blk_below (g := gb106) (o := .cells #[.int .i64 x107000_3, .int .i64 x107001_3] 30 (0, 0)) (sq_bk BK106.out) hb)
          have n2_ := Aside0.mk (blk_below (g := gb112) (o := .cells #[.int .i64 ((rd_T44 l0_2 x57_3).f0), .int .i64 ((rd_T44 l0_2 x57_3).f1), .int .i64 ((rd_T44 l0_2 x57_3).f2)] 44 (0, 0)) (sq_bk BK112.out) hb)
          have n3_ := Aside0.mk (below_step (sq_bs HB.out) hb)
          clear BK105
          clear BK106
          clear BK112
          clear HB
          have BK105 := n0_
          have BK106 := n1_
          have BK112 := n2_
          have HB := n3_
          clear n0_ n1_ n2_ n3_
          (try clear hb)
          (try clear hb2)
          (try clear hk)
          (try clear hi)
          refine hK.out _ _ ⟨(blk_cell BK105.out 0).trans rfl, (blk_cell BK105.out 1).trans rfl, (blk_cell BK105.out 2).trans rfl, (blk_cell BK112.out 0).trans rfl, (blk_cell BK112.out 1).trans rfl, (blk_cell BK112.out 2).trans rfl, ((HB.out.cell (World.block_lt_of_cell? w _ hw116_0)).trans hw116_0), ((HB.out.cell (World.block_lt_of_cell? w _ hw116_1)).trans hw116_1), ((HB.out.cell (World.block_lt_of_cell? w _ hw116_2)).trans hw116_2)⟩ (fun hHeld => ?_)
          clear hK K
          refine norm_ (a' := ?_) ?_ ?_
          rotate_left
          ·show Act.put _ (some 100) _ = _
           simp only [Act.put, List.setIfInBounds_toArray, List.set_cons_zero, List.set_cons_succ, i64_w, i32_w]
           rfl
          refine sq_p 11 101 (sqm 13 4095) HT_.out ?_
          refine sq_p 12 102 (sqm 13 8191) HT_.out ?_
          refine done_ (done_of HT_.out (by kernel_rfl)) ?_
          try go_wp2
          go_roundg kj42
          case measure => have := HJ1.out; have := HK2.out; have := HK3.out; have := HJ42.out; omega
          case rel => exact ⟨(wrap64 (x57_3 + 1)), (x107000_3), (x107001_3), (by first | rfl | (simp; done) | (simp [*]; done)), H', ⟨by have := HJ1.out; have := HK2.out; have := HK3.out; have := HJ42.out; omega⟩, ⟨sq_bk BK105.out⟩, ⟨sq_bk BK106.out⟩, ⟨sq_bs HB.out⟩⟩
         replace c77 := Bool.eq_false_iff.mpr c77
         subst c77
         have H1 : (some (8, x57_3)) = some (r1, r2) := by rw [if_neg (show ¬ (false = true) by decide)] at H; exact H
         clear H
         have H := H1
         clear H1
         simp only [Option.some.injEq, Prod.mk.injEq] at H
         obtain ⟨rfl, rfl⟩ := H
         try go_wp2
         have n0_ := Aside0.mk (blk_drew BK105.out)
         have n1_ := Aside0.mk (blk_drew BK106.out)
         have n2_ := Aside0.mk (blk_drew BK112.out)
         have n3_ := Aside0.mk (below_drew1 HB.out)
         clear BK105
         clear BK106
         clear BK112
         clear HB
         have BK105 := n0_
         have BK106 := n1_
         have BK112 := n2_
         have HB := n3_
         clear n0_ n1_ n2_ n3_
         have p116 : 0 ≤ ((ji73) : Int) := sq_d
         have q116 : (ji73) < (l0_2.length : Int) := sq_d
         obtain ⟨ad116, e116, hx116_0, hx116_1, hx116_2⟩ := at_T44 HR0_2.out (ji73) p116 q116
         have hw116_2 := hx116_2
         have hw116_1 := hx116_1
         have hw116_0 := hx116_0
         obtain rfl : ad111 = ad116 := (by injection e116)
         replace hx116_0 := (HB.out.cell (World.block_lt_of_cell? w _ hx116_0)).trans hx116_0
         replace hx116_1 := (HB.out.cell (World.block_lt_of_cell? w _ hx116_1)).trans hx116_1
         replace hx116_2 := (HB.out.cell (World.block_lt_of_cell? w _ hx116_2)).trans hx116_2
         replace p116 := eq_true p116
         replace q116 := eq_true q116
         refine start_ (n := 13) (S := fun w' => w'.cell? ⟨gb105, 0, none⟩ = some (.int .i64 a0_0) ∧ w'.cell? ⟨gb105, 1, none⟩ = some (.slice A0_1 l0_1.length c0_1) ∧ w'.cell? ⟨gb105, 2, none⟩ = some (.slice (some ad111) l0_2.length c0_2) ∧ w'.cell? ⟨gb112, 0, none⟩ = some (.int .i64 ((rd_T44 l0_2 x57_3).f0)) ∧ w'.cell? ⟨gb112, 1, none⟩ = some (.int .i64 ((rd_T44 l0_2 x57_3).f1)) ∧ w'.cell? ⟨gb112, 2, none⟩ = some (.int .i64 ((rd_T44 l0_2 x57_3).f2)) ∧ w'.cell? (ad111.add (((ji73)).toNat * 3)) = some (.int .i64 ((rd_T44 l0_2 (ji73)).f0)) ∧ w'.cell? ⟨(ad111.add (((ji73)).toNat * 3)).block, (ad111.add (((ji73)).toNat * 3)).off + 1, none⟩ = some (.int .i64 ((rd_T44 l0_2 (ji73)).f1)) ∧ w'.cell? ⟨(ad111.add (((ji73)).toNat * 3)).block, (ad111.add (((ji73)).toNat * 3)).off + 2, none⟩ = some (.int .i64 ((rd_T44 l0_2 (ji73)).f2))) (ds := []) #[false, false, false, false, false, false, false, false, false, false, false, false, false] (by kernel_rfl) rfl rfl ⟨(blk_cell BK105.out 0).trans rfl, (blk_cell BK105.out 1).trans rfl, (blk_cell BK105.out 2).trans rfl, (blk_cell BK112.out 0).trans rfl, (blk_cell BK112.out 1).trans rfl, (blk_cell BK112.out 2).trans rfl, ((HB.out.cell (World.block_lt_of_cell? w _ hw116_0)).trans hw116_0), ((HB.out.cell (World.block_lt_of_cell? w _ hw116_1)).trans hw116_1), ((HB.out.cell (World.block_lt_of_cell? w _ hw116_2)).trans hw116_2)⟩ (fun hHeld => ?_); refine with_tabW system_Check.tab21 system_Check.bits21 (fun HT_ HW_ => ?_)
         generalize wc.drew = w80 at BK105 BK106 BK112 HB hx116_0 hx116_1 hx116_2 hHeld ⊢
         refine sq_p 0 90 (sqm 13 1) HT_.out ?_
         refine sq_p 1 91 (sqm 13 3) HT_.out ?_
         refine sq_p 2 92 (sqm 13 7) HT_.out ?_
         refine sq_p 3 93 (sqm 13 15) HT_.out ?_
         refine sq_p 5 95 (sqm 13 47) HT_.out ?_
         refine sq_p 6 96 (sqm 13 111) HT_.out ?_
         refine sq_t 4 94 (sqm 13 127) HT_.out HW_.out hHeld ?_
         refine sq_p 7 97 (sqm 13 255) HT_.out ?_
         refine sq_t 8 98 (sqm 13 511) HT_.out HW_.out hHeld ?_
         refine sq_t 9 99 (sqm 13 1023) HT_.out HW_.out hHeld ?_
         refine one_ (i := 10) (N := some 100) (sqm 13 2047) rfl rfl (one_of HT_.out (by kernel_rfl)) (by decide) (fun K hK => ?_)
         refine goes_ Try.func27 (by kernel_rfl) rfl #[.agg #[.int .i64 ((rd_T44 l0_2 (ji73)).f0), .int .i64 ((rd_T44 l0_2 (ji73)).f1), .int .i64 ((rd_T44 l0_2 (ji73)).f2)], .agg #[.int .i64 ((rd_T44 l0_2 x57_3).f0), .int .i64 ((rd_T44 l0_2 x57_3).f1), .int .i64 ((rd_T44 l0_2 x57_3).f2)]] (by rfl) rfl rfl (by (try simp only [List.map_toArray, List.map_cons, List.map_nil]); first | done | (simp only [hji73]; rfl) | rfl | (simp only [List.length_drop, List.length_take]; rfl)) ?_
         with_reducible refine (system_before.calls ((rd_T44 l0_2 (ji73)).f0) ((rd_T44 l0_2 (ji73)).f1) ((rd_T44 l0_2 (ji73)).f2) ((rd_T44 l0_2 x57_3).f0) ((rd_T44 l0_2 x57_3).f1) ((rd_T44 l0_2 x57_3).f2) false _ A76.out).mono ?_
         rintro e w81 ⟨rfl, hb⟩
         refine ⟨_, rfl, ?_⟩
         have n0_ := Aside0.mk (blk_below (g := gb105) (o := .cells #[.int .i64 a0_0, .slice A0_1 l0_1.length c0_1, .slice (some ad111) l0_2.length c0_2] 25 (0, 0)) (sq_bk BK105.out) hb)
         have n1_ := Aside0.mk (blk_below (g := gb106) (o := .cells #[.int .i64 x107000_3, .int .i64 x107001_3] 30 (0, 0)) (sq_bk BK106.out) hb)
         have n2_ := Aside0.mk (blk_below (g := gb112) (o := .cells #[.int .i64 ((rd_T44 l0_2 x57_3).f0), .int .i64 ((rd_T44 l0_2 x57_3).f1), .int .i64 ((rd_T44 l0_2 x57_3).f2)] 44 (0, 0)) (sq_bk BK112.out) hb)
         have n3_ := Aside0.mk (below_step (sq_bs HB.out) hb)
         clear BK105
         clear BK106
         clear BK112
         clear HB
         have BK105 := n0_
         have BK106 := n1_
         have BK112 := n2_
         have HB := n3_
         clear n0_ n1_ n2_ n3_
         (try clear hb)
         (try clear hb2)
         (try clear hk)
         (try clear hi)
         refine hK.out _ _ ⟨(blk_cell BK105.out 0).trans rfl, (blk_cell BK105.out 1).trans rfl, (blk_cell BK105.out 2).trans rfl, (blk_cell BK112.out 0).trans rfl, (blk_cell BK112.out 1).trans rfl, (blk_cell BK112.out 2).trans rfl, ((HB.out.cell (World.block_lt_of_cell? w _ hw116_0)).trans hw116_0), ((HB.out.cell (World.block_lt_of_cell? w _ hw116_1)).trans hw116_1), ((HB.out.cell (World.block_lt_of_cell? w _ hw116_2)).trans hw116_2)⟩ (fun hHeld => ?_)
         clear hK K
         refine norm_ (a' := ?_) ?_ ?_
         rotate_left
         ·show Act.put _ (some 100) _ = _
          simp only [Act.put, List.setIfInBounds_toArray, List.set_cons_zero, List.set_cons_succ, i64_w, i32_w]
          rfl
         refine sq_p 11 101 (sqm 13 4095) HT_.out ?_
         refine sq_p 12 102 (sqm 13 8191) HT_.out ?_
         refine done_ (done_of HT_.out (by kernel_rfl)) ?_
         have hnb82 := NB106_105.out
         have hnc82 := NB105_106.out
         have hnb83 := NB106_112.out
         have hnc83 := NB112_106.out
         have hcz84_0 : w81.cell? ⟨gb106, 0, none⟩ = some (.int .i64 x107000_3) := (blk_cell BK106.out 0).trans rfl
         have hcz84_1 : w81.cell? ⟨gb106, 1, none⟩ = some (.int .i64 x107001_3) := (blk_cell BK106.out 1).trans rfl
         have hfz84_0 := blk_frozen BK106.out 0
         have hfz84_1 := blk_frozen BK106.out 1
         try go_wp2
         refine bodyPost_ret (results_cell_row rfl _ _ gb106 30 #[.int .i64 8, .int .i64 x57_3] (0, 0) _ rfl (by (with_reducible repeat (first | refine blk_drewN ?_ _ | refine blk_drew ?_ | refine blk_alloc ?_ _)); refine blk_put (cs := #[.int .i64 8, .int .i64 x107001_3]) ?_ 1 _ rfl; (with_reducible repeat (first | refine blk_drewN ?_ _ | refine blk_drew ?_ | refine blk_alloc ?_ _)); refine blk_put (cs := #[.int .i64 x107000_3, .int .i64 x107001_3]) ?_ 0 _ rfl; (with_reducible repeat (first | refine blk_drewN ?_ _ | refine blk_drew ?_ | refine blk_alloc ?_ _)); exact BK106.out) Try.underlying30 rfl (by kernel_rfl)) rfl ?_
         exact ⟨by first | rfl | (simp [errW_none, errW_some] <;> rfl) | (simp only [← hji73]; first | rfl | (simp [errW_none, errW_some] <;> rfl)) | (simp [*, errW_none, errW_some] <;> rfl), sq_bs HB.out⟩
end Go.Proofs.Ytcnliampiibpbaa.PAll
