/- Lean functions for Go functions, each with the proof that the call returns what it says; printed by wip/tools/myprint.py. -/
-- squeezed
import Derived.Test.YtcnliampiibpbaaPAllx0
namespace Go.Proofs.Ytcnliampiibpbaa.PAll
open Go.RowKit Go.Proofs.YtcnliampiibpbaaW.PrintWords Go.Proofs.YtcnliampiibpbaaW.PrintLast Go.Proofs.YtcnliampiibpbaaW.PrintMore
attribute [local go_sem] Instr.field asAgg max2_int min2_int max_two min_two max_three min_three max_four min_four   -- for this text's walks alone
set_option linter.unusedVariables false
set_option linter.unusedSimpArgs false

/-! ### system_events: function 37 -/
mutual
def system_events.l0 : Nat → List Int → List ByteArray → Int → Int → Int → List ByteArray → List (S44) → Option (List Int × Bool)
 | 0, _, _, _, _, _, _, _ => none
 | k + 1, x6, x20, x21, x22, x154000, x154001, x154002 => if x22 < x21 then (if 0 ≤ x22 then (if x22 < (x20.length : Int) then (system_events.l1 k x6 (rdOf ByteArray.empty x20 x22) (-1) x20 x21 x22 x154001 (x154001.length : Int) 0 x154000 x154001 x154002) else (none)) else (none)) else (some (x6, true))
def system_events.l1 : Nat → List Int → ByteArray → Int → List ByteArray → Int → Int → List ByteArray → Int → Int → Int → List ByteArray → List (S44) → Option (List Int × Bool)
 | 0, _, _, _, _, _, _, _, _, _, _, _, _ => none
 | k + 1, x6, x8, x9, x20, x21, x22, x27, x28, x29, x154000, x154001, x154002 => if x29 < x28 then (if 0 ≤ x29 then (if x29 < (x27.length : Int) then (if x8.toList = (rdOf ByteArray.empty x27 x29).toList then (system_events.l1 k x6 x8 x29 x20 x21 x22 x27 x28 (wrap64 (x29 + 1)) x154000 x154001 x154002) else (system_events.l1 k x6 x8 x9 x20 x21 x22 x27 x28 (wrap64 (x29 + 1)) x154000 x154001 x154002)) else (none)) else (none)) else (if x9 < 0 then (some (([] : List Int), false)) else (if x6.length < 17592186044416 then (system_events.l0 k (x6 ++ [x9]) x20 x21 (wrap64 (x22 + 1)) x154000 x154001 x154002) else (none)))
end
def system_events.f (k : Nat) (a0_0 : Int) (l0_1 : List ByteArray) (l0_2 : List (S44)) (a1_0 : Int) (l1_1 : List ByteArray) (l1_2 : List (S44)) : Option (List Int × Bool) := if (l0_1.length : Int) = (l1_1.length : Int) then (system_events.l0 k ([] : List Int) l0_1 (l0_1.length : Int) 0 a1_0 l1_1 l1_2) else (some (([] : List Int), false))
theorem system_events.mono_l : ∀ k, (∀ y0 y1 y2 y3 y4 y5 y6, LeO (system_events.l0 k y0 y1 y2 y3 y4 y5 y6) (system_events.l0 (k + 1) y0 y1 y2 y3 y4 y5 y6)) ∧ (∀ y0 y1 y2 y3 y4 y5 y6 y7 y8 y9 y10 y11, LeO (system_events.l1 k y0 y1 y2 y3 y4 y5 y6 y7 y8 y9 y10 y11) (system_events.l1 (k + 1) y0 y1 y2 y3 y4 y5 y6 y7 y8 y9 y10 y11))
 | 0 => ⟨fun _ _ _ _ _ _ _ r h => by simp [system_events.l0] at h, fun _ _ _ _ _ _ _ _ _ _ _ _ r h => by simp [system_events.l1] at h⟩
 | k + 1 => by
  obtain ⟨ih0, ih1⟩ := system_events.mono_l k
  refine ⟨?_, ?_⟩
  ·intro y0 y1 y2 y3 y4 y5 y6
   unfold system_events.l0
   repeat' first
   | (with_reducible exact ih0 _ _ _ _ _ _ _)
   | (with_reducible exact ih1 _ _ _ _ _ _ _ _ _ _ _ _)
   | (with_reducible exact LeO.refl _)
   | (with_reducible exact LeO.none _)
   | (with_reducible refine LeO.ite ?_ ?_)
   | (with_reducible refine LeO.bind ?_ (fun _ => ?_))
  ·intro y0 y1 y2 y3 y4 y5 y6 y7 y8 y9 y10 y11
   unfold system_events.l1
   repeat' first
   | (with_reducible exact ih0 _ _ _ _ _ _ _)
   | (with_reducible exact ih1 _ _ _ _ _ _ _ _ _ _ _ _)
   | (with_reducible exact LeO.refl _)
   | (with_reducible exact LeO.none _)
   | (with_reducible refine LeO.ite ?_ ?_)
   | (with_reducible refine LeO.bind ?_ (fun _ => ?_))
theorem system_events.mono : ∀ a0 a1 a2 a3 a4 a5 k, LeO (system_events.f k a0 a1 a2 a3 a4 a5) (system_events.f (k + 1) a0 a1 a2 a3 a4 a5) := by
 intro a0 a1 a2 a3 a4 a5 k
 obtain ⟨ih0, ih1⟩ := system_events.mono_l k
 unfold system_events.f
 repeat' first
   | (with_reducible exact ih0 _ _ _ _ _ _ _)
   | (with_reducible exact ih1 _ _ _ _ _ _ _ _ _ _ _ _)
   | (with_reducible exact LeO.refl _)
   | (with_reducible exact LeO.none _)
   | (with_reducible refine LeO.ite ?_ ?_)
   | (with_reducible refine LeO.bind ?_ (fun _ => ?_))
set_option maxHeartbeats 8000000 in
set_option maxRecDepth 100000 in
theorem system_events.calls (k : Nat) (a0_0 : Int) (A0_1 : Option Addr) (c0_1 : Nat) (l0_1 : List ByteArray) (A0_2 : Option Addr) (c0_2 : Nat) (l0_2 : List (S44)) (a1_0 : Int) (A1_1 : Option Addr) (c1_1 : Nat) (l1_1 : List ByteArray) (A1_2 : Option Addr) (c1_2 : Nat) (l1_2 : List (S44)) (r1 : List Int) (r2 : Bool) (w : World) (hr0_1 : Kd.C Kd.string w A0_1 l0_1.length l0_1) (hc0_1 : l0_1.length ≤ c0_1) (hr0_2 : Kd.C k44 w A0_2 l0_2.length l0_2) (hc0_2 : l0_2.length ≤ c0_2) (hr1_1 : Kd.C Kd.string w A1_1 l1_1.length l1_1) (hc1_1 : l1_1.length ≤ c1_1) (hr1_2 : Kd.C k44 w A1_2 l1_2.length l1_2) (hc1_2 : l1_2.length ≤ c1_2) (h : system_events.f k a0_0 l0_1 l0_2 a1_0 l1_1 l1_2 = some (r1, r2)) :
  Calls Try.prog 37 #[.agg #[.int .i64 a0_0, .slice A0_1 l0_1.length c0_1, .slice A0_2 l0_2.length c0_2], .agg #[.int .i64 a1_0, .slice A1_1 l1_1.length c1_1, .slice A1_2 l1_2.length c1_2]] w fun e w' => ∃ v0_ : Value, e = .returned (.tuple #[v0_, .bool r2]) ∧ Kd.R (Kd.int .i64) 3 w' w.heap.size (fun _ => True) v0_ r1 ∧ Below w.heap.size w w' := by
 have hv30 := Try.underlying30
 have hu25 := Try.underlying25
 have HR0_1 := Aside0.mk hr0_1
 have HC0_1 := Aside0.mk hc0_1
 clear hr0_1 hc0_1
 have HR0_2 := Aside0.mk hr0_2
 have HC0_2 := Aside0.mk hc0_2
 clear hr0_2 hc0_2
 have HR1_1 := Aside0.mk hr1_1
 have HC1_1 := Aside0.mk hc1_1
 clear hr1_1 hc1_1
 have HR1_2 := Aside0.mk hr1_2
 have HC1_2 := Aside0.mk hc1_2
 clear hr1_2 hc1_2
 have HB := Aside0.mk (Below.refl w.heap.size w)
 have H : (if (l0_1.length : Int) = (l1_1.length : Int) then (system_events.l0 k ([] : List Int) l0_1 (l0_1.length : Int) 0 a1_0 l1_1 l1_2) else (some (([] : List Int), false))) = some (r1, r2) := h
 clear h
 by_cases c3 : (l0_1.length : Int) = (l1_1.length : Int)
 rotate_left
 ·rw [if_neg c3] at H
  have c3b0 : ((l0_1.length : Int) == (l1_1.length : Int)) = false := beq_eq_false_iff_ne.mpr c3
  have c3b1 : ((l0_1.length : Int) != (l1_1.length : Int)) = true := bne_iff_ne.mpr c3
  have c3b2 : (l0_1.length == l1_1.length) = false := by first | simpa using c3 | (simp at c3 ⊢; omega)
  simp only [Option.some.injEq, Prod.mk.injEq] at H
  obtain ⟨rfl, rfl⟩ := H
  go_enter Try.func37, Try.ntmps37
  go_wp2_with (first | ((with_reducible refine gate_dst (N := 2) rfl ?_); refine sq_box 2 #[.int .i64 a0_0, .slice A0_1 l0_1.length c0_1, .slice A0_2 l0_2.length c0_2] 25 ?_; intro gb152 hg w21 hbox hb; have n0_ := Aside0.mk (below_step (sq_bl HB.out) hb); have n1_ := Aside0.mk (hbox); have n2_ := Aside0.mk ((by rw [hg]; exact (below_size (sq_bl HB.out)) : w.heap.size ≤ gb152)); have n3_ := Aside0.mk ((by rw [hg]; exact (below_size (sq_bl HB.out)) : w.heap.size ≤ gb152)); clear HB; have HB := n0_; have BK152 := n1_; have GW152 := n2_; have GE152 := n3_; clear n0_ n1_ n2_ n3_; clear hb hbox hg) | ((with_reducible refine gate_dst (N := 3) rfl ?_); refine sq_box 3 #[.int .i64 a1_0, .slice A1_1 l1_1.length c1_1, .slice A1_2 l1_2.length c1_2] 25 ?_; intro gb153 hg w22 hbox hb; have n0_ := Aside0.mk (blk_below (g := gb152) (o := .cells #[.int .i64 a0_0, .slice A0_1 l0_1.length c0_1, .slice A0_2 l0_2.length c0_2] 25 (0, 0)) (sq_bk BK152.out) hb); have n1_ := Aside0.mk (below_step (sq_bs HB.out) hb); have n2_ := Aside0.mk (hbox); have n3_ := Aside0.mk ((by rw [hg]; exact (below_size (sq_bs HB.out)) : w.heap.size ≤ gb153)); have n4_ := Aside0.mk ((by rw [hg]; exact (below_size (sq_bs HB.out)) : w.heap.size ≤ gb153)); have n5_ := Aside0.mk ((by rw [hg]; exact Nat.ne_of_lt (blk_lt (g := gb152) (o := .cells #[.int .i64 a0_0, .slice A0_1 l0_1.length c0_1, .slice A0_2 l0_2.length c0_2] 25 (0, 0)) (sq_bk BK152.out)) : gb152 ≠ gb153)); have n6_ := Aside0.mk ((by rw [hg]; exact Nat.ne_of_gt (blk_lt (g := gb152) (o := .cells #[.int .i64 a0_0, .slice A0_1 l0_1.length c0_1, .slice A0_2 l0_2.length c0_2] 25 (0, 0)) (sq_bk BK152.out)) : gb153 ≠ gb152)); clear BK152; clear HB; have BK152 := n0_; have HB := n1_; have BK153 := n2_; have GW153 := n3_; have GE153 := n4_; have NB152_153 := n5_; have NB153_152 := n6_; clear n0_ n1_ n2_ n3_ n4_ n5_ n6_; clear hb hbox hg; have hnb23 := NB152_153.out; have hnc23 := NB153_152.out; have hcz24_0 : w22.cell? ⟨gb152, 0, none⟩ = some (.int .i64 a0_0) := (blk_cell BK152.out 0).trans rfl; have hcz24_1 : w22.cell? ⟨gb152, 1, none⟩ = some (.slice A0_1 l0_1.length c0_1) := (blk_cell BK152.out 1).trans rfl; have hcz24_2 : w22.cell? ⟨gb152, 2, none⟩ = some (.slice A0_2 l0_2.length c0_2) := (blk_cell BK152.out 2).trans rfl; have hfz24_0 := blk_frozen BK152.out 0; have hfz24_1 := blk_frozen BK152.out 1; have hfz24_2 := blk_frozen BK152.out 2; have hcz25_0 : w22.cell? ⟨gb153, 0, none⟩ = some (.int .i64 a1_0) := (blk_cell BK153.out 0).trans rfl; have hcz25_1 : w22.cell? ⟨gb153, 1, none⟩ = some (.slice A1_1 l1_1.length c1_1) := (blk_cell BK153.out 1).trans rfl; have hcz25_2 : w22.cell? ⟨gb153, 2, none⟩ = some (.slice A1_2 l1_2.length c1_2) := (blk_cell BK153.out 2).trans rfl; have hfz25_0 := blk_frozen BK153.out 0; have hfz25_1 := blk_frozen BK153.out 1; have hfz25_2 := blk_frozen BK153.out 2))
  go_ret2
  exact ⟨_, by first | rfl | (simp [errW_none, errW_some] <;> rfl) | (simp [*, errW_none, errW_some] <;> rfl), by first | exact Kd.R_nil _ _ _ _ _ | exact Kd.N_nil _ _ _ _ _ | exact Kd.V_nil _ _ _ _ _ | exact Kd.Q_nil _ _ _ _ _ | exact Kd.S_nil _ _ _ _ _, sq_bs HB.out⟩
 rw [if_pos c3] at H
 have c3b0 : ((l0_1.length : Int) == (l1_1.length : Int)) = true := beq_iff_eq.mpr c3
 have c3b1 : ((l0_1.length : Int) != (l1_1.length : Int)) = false := bne_eq_false_iff_eq.mpr c3
 have c3b2 : (l0_1.length == l1_1.length) = true := by first | simpa using c3 | (simp at c3 ⊢; omega)
 clear c3
 have H' := Aside0.mk H
 clear H
 go_enter Try.func37, Try.ntmps37
 go_wp2_with (first | ((with_reducible refine gate_dst (N := 2) rfl ?_); refine sq_box 2 #[.int .i64 a0_0, .slice A0_1 l0_1.length c0_1, .slice A0_2 l0_2.length c0_2] 25 ?_; intro gb152 hg w4 hbox hb; have n0_ := Aside0.mk (below_step (sq_bl HB.out) hb); have n1_ := Aside0.mk (hbox); have n2_ := Aside0.mk ((by rw [hg]; exact (below_size (sq_bl HB.out)) : w.heap.size ≤ gb152)); have n3_ := Aside0.mk ((by rw [hg]; exact (below_size (sq_bl HB.out)) : w.heap.size ≤ gb152)); clear HB; have HB := n0_; have BK152 := n1_; have GW152 := n2_; have GE152 := n3_; clear n0_ n1_ n2_ n3_; clear hb hbox hg) | ((with_reducible refine gate_dst (N := 3) rfl ?_); refine sq_box 3 #[.int .i64 a1_0, .slice A1_1 l1_1.length c1_1, .slice A1_2 l1_2.length c1_2] 25 ?_; intro gb153 hg w5 hbox hb; have n0_ := Aside0.mk (blk_below (g := gb152) (o := .cells #[.int .i64 a0_0, .slice A0_1 l0_1.length c0_1, .slice A0_2 l0_2.length c0_2] 25 (0, 0)) (sq_bk BK152.out) hb); have n1_ := Aside0.mk (below_step (sq_bs HB.out) hb); have n2_ := Aside0.mk (hbox); have n3_ := Aside0.mk ((by rw [hg]; exact (below_size (sq_bs HB.out)) : w.heap.size ≤ gb153)); have n4_ := Aside0.mk ((by rw [hg]; exact (below_size (sq_bs HB.out)) : w.heap.size ≤ gb153)); have n5_ := Aside0.mk ((by rw [hg]; exact Nat.ne_of_lt (blk_lt (g := gb152) (o := .cells #[.int .i64 a0_0, .slice A0_1 l0_1.length c0_1, .slice A0_2 l0_2.length c0_2] 25 (0, 0)) (sq_bk BK152.out)) : gb152 ≠ gb153)); have n6_ := Aside0.mk ((by rw [hg]; exact Nat.ne_of_gt (blk_lt (g := gb152) (o := .cells #[.int .i64 a0_0, .slice A0_1 l0_1.length c0_1, .slice A0_2 l0_2.length c0_2] 25 (0, 0)) (sq_bk BK152.out)) : gb153 ≠ gb152)); clear BK152; clear HB; have BK152 := n0_; have HB := n1_; have BK153 := n2_; have GW153 := n3_; have GE153 := n4_; have NB152_153 := n5_; have NB153_152 := n6_; clear n0_ n1_ n2_ n3_ n4_ n5_ n6_; clear hb hbox hg; have hnb6 := NB152_153.out; have hnc6 := NB153_152.out; have hcz7_0 : w5.cell? ⟨gb152, 0, none⟩ = some (.int .i64 a0_0) := (blk_cell BK152.out 0).trans rfl; have hcz7_1 : w5.cell? ⟨gb152, 1, none⟩ = some (.slice A0_1 l0_1.length c0_1) := (blk_cell BK152.out 1).trans rfl; have hcz7_2 : w5.cell? ⟨gb152, 2, none⟩ = some (.slice A0_2 l0_2.length c0_2) := (blk_cell BK152.out 2).trans rfl; have hfz7_0 := blk_frozen BK152.out 0; have hfz7_1 := blk_frozen BK152.out 1; have hfz7_2 := blk_frozen BK152.out 2; have hcz8_0 : w5.cell? ⟨gb153, 0, none⟩ = some (.int .i64 a1_0) := (blk_cell BK153.out 0).trans rfl; have hcz8_1 : w5.cell? ⟨gb153, 1, none⟩ = some (.slice A1_1 l1_1.length c1_1) := (blk_cell BK153.out 1).trans rfl; have hcz8_2 : w5.cell? ⟨gb153, 2, none⟩ = some (.slice A1_2 l1_2.length c1_2) := (blk_cell BK153.out 2).trans rfl; have hfz8_0 := blk_frozen BK153.out 0; have hfz8_1 := blk_frozen BK153.out 1; have hfz8_2 := blk_frozen BK153.out 2))
 go_loopg [6, 22] k (fun kq v6 v22 w' => ∃ (x6_1 : List Int) (x22_1 : Int), v22 = .int .i64 x22_1 ∧ Aside0 (system_events.l0 kq x6_1 l0_1 (l0_1.length : Int) x22_1 a1_0 l1_1 l1_2 = some (r1, r2)) ∧ Aside0 (kq ≤ k) ∧ Aside0 (Kd.R (Kd.int .i64) 3 w' w.heap.size (fun _ => True) v6 x6_1) ∧ Aside0 (w'.heap[gb152]? = some (.cells #[.int .i64 a0_0, (.slice A0_1 l0_1.length c0_1), (.slice A0_2 l0_2.length c0_2)] 25 (0, 0))) ∧ Aside0 (w'.heap[gb153]? = some (.cells #[.int .i64 a1_0, (.slice A1_1 l1_1.length c1_1), (.slice A1_2 l1_2.length c1_2)] 25 (0, 0))) ∧ Aside0 (Below w.heap.size w w'))
 case atStart => exact ⟨(([] : List Int)), (0), (by first | rfl | (simp; done) | (simp [*]; done)), H', ⟨Nat.le_refl _⟩, ⟨by first | exact Kd.R_nil _ _ _ _ _ | exact Kd.N_nil _ _ _ _ _ | exact Kd.V_nil _ _ _ _ _ | exact Kd.Q_nil _ _ _ _ _ | exact Kd.S_nil _ _ _ _ _⟩, ⟨sq_bk BK152.out⟩, ⟨sq_bk BK153.out⟩, ⟨sq_bs HB.out⟩⟩
 case round =>
  clear H'
  try clear c3b0
  try clear c3b1
  try clear c3b2
  try clear hcz7_0
  try clear hcz7_1
  try clear hcz7_2
  try clear hcz8_0
  try clear hcz8_1
  try clear hcz8_2
  try clear hfz7_0
  try clear hfz7_1
  try clear hfz7_2
  try clear hfz8_0
  try clear hfz8_1
  try clear hfz8_2
  obtain ⟨x6_1, x22_1, rfl, HA, HK1, HO_6, BK152, BK153, HB⟩ := hrel
  cases gk with
  | zero => exact absurd HA.out (by simp [system_events.l0])
  | succ k1 =>
   have H := HA.out
   clear HA
   simp only [system_events.l0] at H
   by_cases c9 : x22_1 < (l0_1.length : Int)
   rotate_left
   ·rw [if_neg c9] at H
    have c9b0 : decide (x22_1 < (l0_1.length : Int)) = false := decide_eq_false c9
    clear c9
    simp only [Option.some.injEq, Prod.mk.injEq] at H
    obtain ⟨rfl, rfl⟩ := H
    go_wp2
    go_ret2
    exact ⟨_, by first | rfl | (simp [errW_none, errW_some] <;> rfl) | (simp [*, errW_none, errW_some] <;> rfl), sq_kr HO_6.out, sq_bs HB.out⟩
   rw [if_pos c9] at H
   have c9b0 : decide (x22_1 < (l0_1.length : Int)) = true := decide_eq_true c9
   clear c9
   by_cases c10 : 0 ≤ x22_1
   rotate_left
   ·rw [if_neg c10] at H
    exact absurd H (by simp)
   rw [if_pos c10] at H
   have c10b0 : decide (0 ≤ x22_1) = true := decide_eq_true c10
   clear c10
   by_cases c11 : x22_1 < (l0_1.length : Int)
   rotate_left
   ·rw [if_neg c11] at H
    exact absurd H (by simp)
   rw [if_pos c11] at H
   have c11b0 : decide (x22_1 < (l0_1.length : Int)) = true := decide_eq_true c11
   clear c11
   have H' := Aside0.mk H
   clear H
   have p154 : 0 ≤ (x22_1 : Int) := sq_d
   have q154 : x22_1 < (l0_1.length : Int) := sq_d
   have LQ154 := Aside0.mk q154
   obtain ⟨ad154, e154, hx154_0⟩ := Kd.at_string HR0_1.out x22_1 p154 q154
   cases e154
   replace hx154_0 := (HB.out.cell (World.block_lt_of_cell? w _ hx154_0)).trans hx154_0
   replace p154 := eq_true p154
   replace q154 := eq_true q154
   have hnb12 := NB153_152.out
   have hnc12 := NB152_153.out
   have hcz13_0 : wr.cell? ⟨gb153, 0, none⟩ = some (.int .i64 a1_0) := (blk_cell BK153.out 0).trans rfl
   have hcz13_1 : wr.cell? ⟨gb153, 1, none⟩ = some (.slice A1_1 l1_1.length c1_1) := (blk_cell BK153.out 1).trans rfl
   have hcz13_2 : wr.cell? ⟨gb153, 2, none⟩ = some (.slice A1_2 l1_2.length c1_2) := (blk_cell BK153.out 2).trans rfl
   have hfz13_0 := blk_frozen BK153.out 0
   have hfz13_1 := blk_frozen BK153.out 1
   have hfz13_2 := blk_frozen BK153.out 2
   go_wp2
   go_loopg [9, 29] k1 (fun kq v9 v29 w' => ∃ (x9_2 : Int) (x29_2 : Int), v9 = .int .i64 x9_2 ∧ v29 = .int .i64 x29_2 ∧ Aside0 (system_events.l1 kq x6_1 (rdOf ByteArray.empty l0_1 x22_1) x9_2 l0_1 (l0_1.length : Int) x22_1 l1_1 (l1_1.length : Int) x29_2 a1_0 l1_1 l1_2 = some (r1, r2)) ∧ Aside0 (kq ≤ k1) ∧ Aside0 (Kd.R (Kd.int .i64) 3 w' w.heap.size (fun _ => True) u6 x6_1) ∧ Aside0 (w'.heap[gb152]? = some (.cells #[.int .i64 a0_0, (.slice (some ad154) l0_1.length c0_1), (.slice A0_2 l0_2.length c0_2)] 25 (0, 0))) ∧ Aside0 (w'.heap[gb153]? = some (.cells #[.int .i64 a1_0, (.slice A1_1 l1_1.length c1_1), (.slice A1_2 l1_2.length c1_2)] 25 (0, 0))) ∧ Aside0 (Below w.heap.size w w'))
   case atStart => exact ⟨((-1)), (0), (by first | rfl | (simp; done) | (simp [*]; done)), (by first | rfl | (simp; done) | (simp [*]; done)), H', ⟨Nat.le_refl _⟩, ⟨sq_kr HO_6.out⟩, ⟨sq_bk BK152.out⟩, ⟨sq_bk BK153.out⟩, ⟨sq_bs HB.out⟩⟩
   case round =>
    clear H'
    try clear c9b0
    try clear c10b0
    try clear c11b0
    try clear hcz13_0
    try clear hcz13_1
    try clear hcz13_2
    try clear hfz13_0
    try clear hfz13_1
    try clear hfz13_2
    try clear hx154_0
    try clear p154
    try clear q154
    obtain ⟨x9_2, x29_2, rfl, rfl, HA, HK2, HO_6, BK152, BK153, HB⟩ := hrel
    cases gk with
    | zero => exact absurd HA.out (by simp [system_events.l1])
    | succ k2 =>
     have H := HA.out
     clear HA
     simp only [system_events.l1] at H
     by_cases c14 : x29_2 < (l1_1.length : Int)
     rotate_left
     ·rw [if_neg c14] at H
      have c14b0 : decide (x29_2 < (l1_1.length : Int)) = false := decide_eq_false c14
      clear c14
      by_cases c18 : x9_2 < 0
      ·rw [if_pos c18] at H
       have c18b0 : decide (x9_2 < 0) = true := decide_eq_true c18
       clear c18
       simp only [Option.some.injEq, Prod.mk.injEq] at H
       obtain ⟨rfl, rfl⟩ := H
       go_wp2
       go_ret2
       exact ⟨_, by first | rfl | (simp [errW_none, errW_some] <;> rfl) | (simp [*, errW_none, errW_some] <;> rfl), by first | exact Kd.R_nil _ _ _ _ _ | exact Kd.N_nil _ _ _ _ _ | exact Kd.V_nil _ _ _ _ _ | exact Kd.Q_nil _ _ _ _ _ | exact Kd.S_nil _ _ _ _ _, sq_bs HB.out⟩
      rw [if_neg c18] at H
      have c18b0 : decide (x9_2 < 0) = false := decide_eq_false c18
      clear c18
      by_cases c19 : x6_1.length < 17592186044416
      rotate_left
      ·rw [if_neg c19] at H
       exact absurd H (by simp)
      rw [if_pos c19] at H
      have LMc19 := Aside0.mk c19
      clear c19
      obtain ⟨y156, hy156⟩ : ∃ y_ : List Int, y_ = (x6_1 ++ [x9_2]) := ⟨_, rfl⟩
      replace H : (system_events.l0 k2 y156 l0_1 (l0_1.length : Int) (wrap64 (x22_1 + 1)) a1_0 l1_1 l1_2) = some (r1, r2) := by first | (rw [hy156]; with_reducible exact H) | (have H2_ := (Option.bind_some _ _).symm.trans H; rw [hy156]; with_reducible exact H2_) | (have H2_ := (Option.bind_some _ _).symm.trans H; with_reducible exact H2_) | with_reducible exact H | (rw [hy156]; exact H) | exact H
      have Ny156 := Aside0.mk hy156
      clear hy156
      have H' := Aside0.mk H
      clear H
      go_wp2_with (first | ((with_reducible refine gate_builtin (b := .append) (xs := #[.tmp 41, .tmp 43]) rfl ?_); at_builtin; refine Kd.R_append (Kd.int .i64) (w0 := w) w.heap.size rfl (.tmp 41) (.tmp 43) 34 3 (.int .i64 0) 8 rfl Try.underlying34 info3 rfl (by decide) (by omega) u6 x6_1 x9_2 [.int .i64 x9_2] (fun _ => True) (fun _ => False) rfl rfl ?aP (fun _ hk => hk.elim) ?aF ?aO ?aB ?aS ?aL ?_; (case aP => exact rfl); (case aB => exact (sq_bs HB.out)); (case aF => exact (fun _ _ => trivial)); (case aO => exact (sq_kr HO_6.out)); (case aS => exact (below_size (sq_bs HB.out))); (case aL => have := LMc19.out; omega); intro v157 w20 ho hb hg hat; rw [← Ny156.out] at ho; have n0_ := Aside0.mk (blk_grown (g := gb152) (o := .cells #[.int .i64 a0_0, .slice (some ad154) l0_1.length c0_1, .slice A0_2 l0_2.length c0_2] 25 (0, 0)) (sq_bk BK152.out) hg (Kd.R_ne HO_6.out BK152.out (by decide))); have n1_ := Aside0.mk (blk_grown (g := gb153) (o := .cells #[.int .i64 a1_0, .slice A1_1 l1_1.length c1_1, .slice A1_2 l1_2.length c1_2] 25 (0, 0)) (sq_bk BK153.out) hg (Kd.R_ne HO_6.out BK153.out (by decide))); have n2_ := Aside0.mk (hb); have n3_ := Aside0.mk (ho); clear BK152; clear BK153; clear HB; clear HO_6; have BK152 := n0_; have BK153 := n1_; have HB := n2_; have HO158 := n3_; clear n0_ n1_ n2_ n3_; clear ho hb hg hat))
      go_roundg k2
      case measure => have := HK1.out; have := HK2.out; omega
      case rel => exact ⟨(y156), (wrap64 (x22_1 + 1)), (by first | rfl | (simp; done) | (simp [*]; done)), H', ⟨by have := HK1.out; have := HK2.out; omega⟩, ⟨sq_kr HO158.out⟩, ⟨sq_bk BK152.out⟩, ⟨sq_bk BK153.out⟩, ⟨sq_bs HB.out⟩⟩
     rw [if_pos c14] at H
     have c14b0 : decide (x29_2 < (l1_1.length : Int)) = true := decide_eq_true c14
     clear c14
     by_cases c15 : 0 ≤ x29_2
     rotate_left
     ·rw [if_neg c15] at H
      exact absurd H (by simp)
     rw [if_pos c15] at H
     have c15b0 : decide (0 ≤ x29_2) = true := decide_eq_true c15
     clear c15
     by_cases c16 : x29_2 < (l1_1.length : Int)
     rotate_left
     ·rw [if_neg c16] at H
      exact absurd H (by simp)
     rw [if_pos c16] at H
     have c16b0 : decide (x29_2 < (l1_1.length : Int)) = true := decide_eq_true c16
     clear c16
     have HH_ := Aside0.mk H
     clear H
     have p155 : 0 ≤ (x29_2 : Int) := sq_d
     have q155 : x29_2 < (l1_1.length : Int) := sq_d
     have LQ155 := Aside0.mk q155
     obtain ⟨ad155, e155, hx155_0⟩ := Kd.at_string HR1_1.out x29_2 p155 q155
     cases e155
     replace hx155_0 := (HB.out.cell (World.block_lt_of_cell? w _ hx155_0)).trans hx155_0
     replace p155 := eq_true p155
     replace q155 := eq_true q155
     have H := HH_.out
     clear HH_
     by_cases c17 : (rdOf ByteArray.empty l0_1 x22_1).toList = (rdOf ByteArray.empty l1_1 x29_2).toList
     rotate_left
     ·rw [if_neg c17] at H
      have c17b0 : ((rdOf ByteArray.empty l0_1 x22_1).toList == (rdOf ByteArray.empty l1_1 x29_2).toList) = false := beq_eq_false_iff_ne.mpr c17
      have c17b1 : ((rdOf ByteArray.empty l0_1 x22_1).toList != (rdOf ByteArray.empty l1_1 x29_2).toList) = true := bne_iff_ne.mpr c17
      have H' := Aside0.mk H
      clear H
      go_wp2
      go_roundg k2
      case measure => have := HK1.out; have := HK2.out; omega
      case rel => exact ⟨(x9_2), (wrap64 (x29_2 + 1)), (by first | rfl | (simp; done) | (simp [*]; done)), (by first | rfl | (simp; done) | (simp [*]; done)), H', ⟨by have := HK1.out; have := HK2.out; omega⟩, ⟨sq_kr HO_6.out⟩, ⟨sq_bk BK152.out⟩, ⟨sq_bk BK153.out⟩, ⟨sq_bs HB.out⟩⟩
     rw [if_pos c17] at H
     have c17b0 : ((rdOf ByteArray.empty l0_1 x22_1).toList == (rdOf ByteArray.empty l1_1 x29_2).toList) = true := beq_iff_eq.mpr c17
     have c17b1 : ((rdOf ByteArray.empty l0_1 x22_1).toList != (rdOf ByteArray.empty l1_1 x29_2).toList) = false := bne_eq_false_iff_eq.mpr c17
     clear c17
     have H' := Aside0.mk H
     clear H
     go_wp2
     go_roundg k2
     case measure => have := HK1.out; have := HK2.out; omega
     case rel => exact ⟨(x29_2), (wrap64 (x29_2 + 1)), (by first | rfl | (simp; done) | (simp [*]; done)), (by first | rfl | (simp; done) | (simp [*]; done)), H', ⟨by have := HK1.out; have := HK2.out; omega⟩, ⟨sq_kr HO_6.out⟩, ⟨sq_bk BK152.out⟩, ⟨sq_bk BK153.out⟩, ⟨sq_bs HB.out⟩⟩
-- NOT PRINTED: function 38 (system_Iso_1)
end Go.Proofs.Ytcnliampiibpbaa.PAll
