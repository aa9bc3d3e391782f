/- Lean functions for Go functions, each with the proof that the call returns what it says; printed by wip/tools/myprint.py. -/
-- squeezed
import Derived.Test.YtcnliampiibpbaaPAllx0
import Derived.Test.YtcnliampiibpbaaPAllx13
import Derived.Test.YtcnliampiibpbaaPAllx22
namespace Go.Proofs.Ytcnliampiibpbaa.PAll
open Go.RowKit Go.Proofs.YtcnliampiibpbaaW.PrintWords Go.Proofs.YtcnliampiibpbaaW.PrintLast Go.Proofs.YtcnliampiibpbaaW.PrintMore
attribute [local go_sem] Instr.field asAgg max2_int min2_int max_two min_two max_three min_three max_four min_four   -- for this text's walks alone
set_option linter.unusedVariables false
set_option linter.unusedSimpArgs false

/-! ### petrinetref45_Traces: function 23 -/
mutual
def petrinetref45_Traces.j0 : Nat → Int → Bool → Int → List ByteArray → List (S44) → Option ((List (List Int)))
 | 0, _, _, _, _, _ => none
 | k + 1, x1, x22, x454000, x454001, x454002 => if x22 = true then (some ([] : List (List Int))) else (petrinetref45_Traces.l0 k x1 (([[]] : List (List Int))) 0 0 x454000 x454001 x454002)
def petrinetref45_Traces.l0 : Nat → Int → List (List Int) → Int → Int → Int → List ByteArray → List (S44) → Option ((List (List Int)))
 | 0, _, _, _, _, _, _, _ => none
 | k + 1, x1, x5, x6, x7, x454000, x454001, x454002 => if x7 < x1 then (petrinetref45_Traces.l1 k x1 x5 x7 (x5.length : Int) x6 x454000 x454001 x454002) else (some x5)
def petrinetref45_Traces.l1 : Nat → Int → List (List Int) → Int → Int → Int → Int → List ByteArray → List (S44) → Option ((List (List Int)))
 | 0, _, _, _, _, _, _, _, _ => none
 | k + 1, x1, x5, x7, x8, x9, x454000, x454001, x454002 => if x9 < x8 then (petrinetref45_Traces.l2 k x1 x5 x7 x8 x9 0 x454000 x454001 x454002) else (petrinetref45_Traces.l0 k x1 x5 x8 (wrap64 (x7 + 1)) x454000 x454001 x454002)
def petrinetref45_Traces.l2 : Nat → Int → List (List Int) → Int → Int → Int → Int → Int → List ByteArray → List (S44) → Option ((List (List Int)))
 | 0, _, _, _, _, _, _, _, _, _ => none
 | k + 1, x1, x5, x7, x8, x9, x10, x454000, x454001, x454002 => if x10 < (x454001.length : Int) then (if 0 ≤ x9 then (if x9 < (x5.length : Int) then ((petrinetref04_Copy.f k (rd_L4 x5 x9)).bind fun t459 => (if t459.length < 17592186044416 then ((some (t459 ++ [x10] : List Int)).bind fun y462 => (if (x5.length : Int) < 5000 then ((petrinetref45_can.f k x454000 x454001 x454002 y462).bind fun t465 => (if t465 = true then (if x5.length < 5864062014805 then (petrinetref45_Traces.l2 k x1 (x5 ++ [y462]) x7 x8 x9 (wrap64 (x10 + 1)) x454000 x454001 x454002) else (none)) else (petrinetref45_Traces.l2 k x1 x5 x7 x8 x9 (wrap64 (x10 + 1)) x454000 x454001 x454002))) else (petrinetref45_Traces.l2 k x1 x5 x7 x8 x9 (wrap64 (x10 + 1)) x454000 x454001 x454002))) else (none))) else (none)) else (none)) else (petrinetref45_Traces.l1 k x1 x5 x7 x8 (wrap64 (x9 + 1)) x454000 x454001 x454002)
end
def petrinetref45_Traces.f (k : Nat) (a0_0 : Int) (l0_1 : List ByteArray) (l0_2 : List (S44)) (a1 : Int) : Option ((List (List Int))) := (petrinetref45_Valid.f k a0_0 l0_1 l0_2).bind fun t454 => (if t454 = true then (if a1 < 0 then (petrinetref45_Traces.j0 k a1 true a0_0 l0_1 l0_2) else (petrinetref45_Traces.j0 k a1 (decide (a1 > 6)) a0_0 l0_1 l0_2)) else (petrinetref45_Traces.j0 k a1 true a0_0 l0_1 l0_2))
theorem petrinetref45_Traces.mono_l : ∀ k, (∀ y0 y1 y2 y3 y4, LeO (petrinetref45_Traces.j0 k y0 y1 y2 y3 y4) (petrinetref45_Traces.j0 (k + 1) y0 y1 y2 y3 y4)) ∧ (∀ y0 y1 y2 y3 y4 y5 y6, LeO (petrinetref45_Traces.l0 k y0 y1 y2 y3 y4 y5 y6) (petrinetref45_Traces.l0 (k + 1) y0 y1 y2 y3 y4 y5 y6)) ∧ (∀ y0 y1 y2 y3 y4 y5 y6 y7, LeO (petrinetref45_Traces.l1 k y0 y1 y2 y3 y4 y5 y6 y7) (petrinetref45_Traces.l1 (k + 1) y0 y1 y2 y3 y4 y5 y6 y7)) ∧ (∀ y0 y1 y2 y3 y4 y5 y6 y7 y8, LeO (petrinetref45_Traces.l2 k y0 y1 y2 y3 y4 y5 y6 y7 y8) (petrinetref45_Traces.l2 (k + 1) y0 y1 y2 y3 y4 y5 y6 y7 y8))
 | 0 => ⟨fun _ _ _ _ _ r h => by simp [petrinetref45_Traces.j0] at h, fun _ _ _ _ _ _ _ r h => by simp [petrinetref45_Traces.l0] at h, fun _ _ _ _ _ _ _ _ r h => by simp [petrinetref45_Traces.l1] at h, fun _ _ _ _ _ _ _ _ _ r h => by simp [petrinetref45_Traces.l2] at h⟩
 | k + 1 => by
  obtain ⟨ih0, ih1, ih2, ih3⟩ := petrinetref45_Traces.mono_l k
  refine ⟨?_, ?_, ?_, ?_⟩
  ·intro y0 y1 y2 y3 y4
   unfold petrinetref45_Traces.j0
   repeat' first
   | (with_reducible exact ih0 _ _ _ _ _)
   | (with_reducible exact ih1 _ _ _ _ _ _ _)
   | (with_reducible exact ih2 _ _ _ _ _ _ _ _)
   | (with_reducible exact ih3 _ _ _ _ _ _ _ _ _)
   | (with_reducible exact petrinetref04_Copy.mono _ _)
   | (with_reducible exact petrinetref45_Valid.mono _ _ _ _)
   | (with_reducible exact petrinetref45_can.mono _ _ _ _ _)
   | (with_reducible exact LeO.refl _)
   | (with_reducible exact LeO.none _)
   | (with_reducible refine LeO.ite ?_ ?_)
   | (with_reducible refine LeO.bind ?_ (fun _ => ?_))
  ·intro y0 y1 y2 y3 y4 y5 y6
   unfold petrinetref45_Traces.l0
   repeat' first
   | (with_reducible exact ih0 _ _ _ _ _)
   | (with_reducible exact ih1 _ _ _ _ _ _ _)
   | (with_reducible exact ih2 _ _ _ _ _ _ _ _)
   | (with_reducible exact ih3 _ _ _ _ _ _ _ _ _)
   | (with_reducible exact petrinetref04_Copy.mono _ _)
   | (with_reducible exact petrinetref45_Valid.mono _ _ _ _)
   | (with_reducible exact petrinetref45_can.mono _ _ _ _ _)
   | (with_reducible exact LeO.refl _)
   | (with_reducible exact LeO.none _)
   | (with_reducible refine LeO.ite ?_ ?_)
   | (with_reducible refine LeO.bind ?_ (fun _ => ?_))
  ·intro y0 y1 y2 y3 y4 y5 y6 y7
   unfold petrinetref45_Traces.l1
   repeat' first
   | (with_reducible exact ih0 _ _ _ _ _)
   | (with_reducible exact ih1 _ _ _ _ _ _ _)
   | (with_reducible exact ih2 _ _ _ _ _ _ _ _)
   | (with_reducible exact ih3 _ _ _ _ _ _ _ _ _)
   | (with_reducible exact petrinetref04_Copy.mono _ _)
   | (with_reducible exact petrinetref45_Valid.mono _ _ _ _)
   | (with_reducible exact petrinetref45_can.mono _ _ _ _ _)
   | (with_reducible exact LeO.refl _)
   | (with_reducible exact LeO.none _)
   | (with_reducible refine LeO.ite ?_ ?_)
   | (with_reducible refine LeO.bind ?_ (fun _ => ?_))
  ·intro y0 y1 y2 y3 y4 y5 y6 y7 y8
   unfold petrinetref45_Traces.l2
   repeat' first
   | (with_reducible exact ih0 _ _ _ _ _)
   | (with_reducible exact ih1 _ _ _ _ _ _ _)
   | (with_reducible exact ih2 _ _ _ _ _ _ _ _)
   | (with_reducible exact ih3 _ _ _ _ _ _ _ _ _)
   | (with_reducible exact petrinetref04_Copy.mono _ _)
   | (with_reducible exact petrinetref45_Valid.mono _ _ _ _)
   | (with_reducible exact petrinetref45_can.mono _ _ _ _ _)
   | (with_reducible exact LeO.refl _)
   | (with_reducible exact LeO.none _)
   | (with_reducible refine LeO.ite ?_ ?_)
   | (with_reducible refine LeO.bind ?_ (fun _ => ?_))
theorem petrinetref45_Traces.mono : ∀ a0 a1 a2 a3 k, LeO (petrinetref45_Traces.f k a0 a1 a2 a3) (petrinetref45_Traces.f (k + 1) a0 a1 a2 a3) := by
 intro a0 a1 a2 a3 k
 obtain ⟨ih0, ih1, ih2, ih3⟩ := petrinetref45_Traces.mono_l k
 unfold petrinetref45_Traces.f
 repeat' first
   | (with_reducible exact ih0 _ _ _ _ _)
   | (with_reducible exact ih1 _ _ _ _ _ _ _)
   | (with_reducible exact ih2 _ _ _ _ _ _ _ _)
   | (with_reducible exact ih3 _ _ _ _ _ _ _ _ _)
   | (with_reducible exact petrinetref04_Copy.mono _ _)
   | (with_reducible exact petrinetref45_Valid.mono _ _ _ _)
   | (with_reducible exact petrinetref45_can.mono _ _ _ _ _)
   | (with_reducible exact LeO.refl _)
   | (with_reducible exact LeO.none _)
   | (with_reducible refine LeO.ite ?_ ?_)
   | (with_reducible refine LeO.bind ?_ (fun _ => ?_))
set_option maxHeartbeats 8000000 in
set_option maxRecDepth 100000 in
theorem petrinetref45_Traces.calls (k : Nat) (a0_0 : Int) (A0_1 : Option Addr) (c0_1 : Nat) (l0_1 : List ByteArray) (A0_2 : Option Addr) (c0_2 : Nat) (l0_2 : List (S44)) (a1 : Int) (r : List (List Int)) (w : World) (hr0_1 : Kd.C Kd.string w A0_1 l0_1.length l0_1) (hc0_1 : l0_1.length ≤ c0_1) (hr0_2 : Kd.C k44 w A0_2 l0_2.length l0_2) (hc0_2 : l0_2.length ≤ c0_2) (h : petrinetref45_Traces.f k a0_0 l0_1 l0_2 a1 = some r) :
  Calls Try.prog 23 #[.agg #[.int .i64 a0_0, .slice A0_1 l0_1.length c0_1, .slice A0_2 l0_2.length c0_2], .int .i64 a1] w fun e w' => ∃ v0_ : Value, e = .returned (v0_) ∧ Kd.S (Kd.slice 3 (Kd.int .i64)) 34 w' w.heap.size (fun _ => True) v0_ r ∧ Below w.heap.size w w' := by
 have hv30 := Try.underlying30
 have hu25 := Try.underlying25
 have HR0_1 := Aside0.mk hr0_1
 have HC0_1 := Aside0.mk hc0_1
 clear hr0_1 hc0_1
 have HR0_2 := Aside0.mk hr0_2
 have HC0_2 := Aside0.mk hc0_2
 clear hr0_2 hc0_2
 have HB := Aside0.mk (Below.refl w.heap.size w)
 have H : ((petrinetref45_Valid.f k a0_0 l0_1 l0_2).bind fun t454 => (if t454 = true then (if a1 < 0 then (petrinetref45_Traces.j0 k a1 true a0_0 l0_1 l0_2) else (petrinetref45_Traces.j0 k a1 (decide (a1 > 6)) a0_0 l0_1 l0_2)) else (petrinetref45_Traces.j0 k a1 true a0_0 l0_1 l0_2))) = some r := h
 clear h
 have HC3 := Aside0.mk H
 clear H
 go_enter Try.func23, Try.ntmps23
 go_upto_region 1 with (first | ((with_reducible refine gate_dst (N := 2) rfl ?_); refine sq_box 2 #[.int .i64 a0_0, .slice A0_1 l0_1.length c0_1, .slice A0_2 l0_2.length c0_2] 25 ?_; intro gb453 hg w4 hbox hb; have n0_ := Aside0.mk (below_step (sq_bl HB.out) hb); have n1_ := Aside0.mk (hbox); have n2_ := Aside0.mk ((by rw [hg]; exact (below_size (sq_bl HB.out)) : w.heap.size ≤ gb453)); have n3_ := Aside0.mk ((by rw [hg]; exact (below_size (sq_bl HB.out)) : w.heap.size ≤ gb453)); clear HB; have HB := n0_; have BK453 := n1_; have GW453 := n2_; have GE453 := n3_; clear n0_ n1_ n2_ n3_; clear hb hbox hg))
 (try simp only [Act.put, List.setIfInBounds_toArray, List.set_cons_zero, List.set_cons_succ])
 go_cut [22] (fun v22 wc => ∃ (kq : Nat) (x22_2 : Bool), v22 = .bool x22_2 ∧ Aside0 (petrinetref45_Traces.j0 kq a1 x22_2 a0_0 l0_1 l0_2 = some r) ∧ Aside0 (kq ≤ k) ∧ Aside0 (wc.heap[gb453]? = some (.cells #[.int .i64 a0_0, (.slice A0_1 l0_1.length c0_1), (.slice A0_2 l0_2.length c0_2)] 25 (0, 0))) ∧ Aside0 (Below w.heap.size w wc))
 case first =>
  have H := HC3.out
  clear HC3
  replace H := Option.bind_eq_some_iff.mp H
  obtain ⟨t454, A50, H⟩ := H
  replace H : (if t454 = true then (if a1 < 0 then (petrinetref45_Traces.j0 k a1 true a0_0 l0_1 l0_2) else (petrinetref45_Traces.j0 k a1 (decide (a1 > 6)) a0_0 l0_1 l0_2)) else (petrinetref45_Traces.j0 k a1 true a0_0 l0_1 l0_2)) = some r := H
  have A5 := Aside0.mk A50
  clear A50
  by_cases c6 : t454 = true
  rotate_left
  ·replace c6 := Bool.eq_false_iff.mpr c6
   subst c6
   have H1 : (petrinetref45_Traces.j0 k a1 true a0_0 l0_1 l0_2) = some r := by rw [if_neg (show ¬ (false = true) by decide)] at H; exact H
   clear H
   have H := H1
   clear H1
   have H' := Aside0.mk H
   clear H
   have hcz12_0 : w4.cell? ⟨gb453, 0, none⟩ = some (.int .i64 a0_0) := (blk_cell BK453.out 0).trans rfl
   have hcz12_1 : w4.cell? ⟨gb453, 1, none⟩ = some (.slice A0_1 l0_1.length c0_1) := (blk_cell BK453.out 1).trans rfl
   have hcz12_2 : w4.cell? ⟨gb453, 2, none⟩ = some (.slice A0_2 l0_2.length c0_2) := (blk_cell BK453.out 2).trans rfl
   have hfz12_0 := blk_frozen BK453.out 0
   have hfz12_1 := blk_frozen BK453.out 1
   have hfz12_2 := blk_frozen BK453.out 2
   go_wp2_with (first | ((with_reducible refine gate_callee (f := 32) rfl ?_); refine sq_goes (some 13) Try.func32 #[.agg #[.int .i64 a0_0, .slice A0_1 l0_1.length c0_1, .slice A0_2 l0_2.length c0_2]] ?_; (with_reducible refine (petrinetref45_Valid.calls k a0_0 _ _ l0_1 _ _ l0_2 false _ ?side1 ?side2 ?side3 ?side4 A5.out).mono ?_); (case side1 => exact sq_kc ((Kd.C_below HR0_1.out HB.out))); (case side2 => exact HC0_1.out); (case side3 => exact sq_kc ((Kd.C_below HR0_2.out HB.out))); (case side4 => exact HC0_2.out); rintro e w13 ⟨rfl, hb⟩; refine ⟨_, rfl, ?_⟩; have n0_ := Aside0.mk (blk_below (g := gb453) (o := .cells #[.int .i64 a0_0, .slice A0_1 l0_1.length c0_1, .slice A0_2 l0_2.length c0_2] 25 (0, 0)) (sq_bk BK453.out) hb); have n1_ := Aside0.mk (below_step (sq_bs HB.out) hb); clear BK453; clear HB; have BK453 := n0_; have HB := n1_; clear n0_ n1_; (try clear hb)))
   go_meet
   case rel => exact ⟨_, (true), (by first | rfl | (simp; done) | (simp [*]; done)), H', ⟨by first | omega | exact Nat.le_refl _⟩, ⟨sq_bk BK453.out⟩, ⟨sq_bs HB.out⟩⟩
  subst c6
  have H1 : (if a1 < 0 then (petrinetref45_Traces.j0 k a1 true a0_0 l0_1 l0_2) else (petrinetref45_Traces.j0 k a1 (decide (a1 > 6)) a0_0 l0_1 l0_2)) = some r := by rw [if_pos rfl] at H; exact H
  clear H
  have H := H1
  clear H1
  by_cases c7 : a1 < 0
  rotate_left
  ·rw [if_neg c7] at H
   have c7b0 : decide (a1 < 0) = false := decide_eq_false c7
   clear c7
   (first | rw [c7b0] | (simp only [i64_w, i32_w]; rw [c7b0]) | skip)
   have H' := Aside0.mk H
   clear H
   have hcz10_0 : w4.cell? ⟨gb453, 0, none⟩ = some (.int .i64 a0_0) := (blk_cell BK453.out 0).trans rfl
   have hcz10_1 : w4.cell? ⟨gb453, 1, none⟩ = some (.slice A0_1 l0_1.length c0_1) := (blk_cell BK453.out 1).trans rfl
   have hcz10_2 : w4.cell? ⟨gb453, 2, none⟩ = some (.slice A0_2 l0_2.length c0_2) := (blk_cell BK453.out 2).trans rfl
   have hfz10_0 := blk_frozen BK453.out 0
   have hfz10_1 := blk_frozen BK453.out 1
   have hfz10_2 := blk_frozen BK453.out 2
   go_wp2_with (first | ((with_reducible refine gate_callee (f := 32) rfl ?_); refine sq_goes (some 13) Try.func32 #[.agg #[.int .i64 a0_0, .slice A0_1 l0_1.length c0_1, .slice A0_2 l0_2.length c0_2]] ?_; (with_reducible refine (petrinetref45_Valid.calls k a0_0 _ _ l0_1 _ _ l0_2 true _ ?side1 ?side2 ?side3 ?side4 A5.out).mono ?_); (case side1 => exact sq_kc ((Kd.C_below HR0_1.out HB.out))); (case side2 => exact HC0_1.out); (case side3 => exact sq_kc ((Kd.C_below HR0_2.out HB.out))); (case side4 => exact HC0_2.out); rintro e w11 ⟨rfl, hb⟩; refine ⟨_, rfl, ?_⟩; have n0_ := Aside0.mk (blk_below (g := gb453) (o := .cells #[.int .i64 a0_0, .slice A0_1 l0_1.length c0_1, .slice A0_2 l0_2.length c0_2] 25 (0, 0)) (sq_bk BK453.out) hb); have n1_ := Aside0.mk (below_step (sq_bs HB.out) hb); clear BK453; clear HB; have BK453 := n0_; have HB := n1_; clear n0_ n1_; (try clear hb)))
   go_meet
   case rel => exact ⟨_, (decide (a1 > 6)), (by first | rfl | (simp; done) | (simp [*]; done)), H', ⟨by first | omega | exact Nat.le_refl _⟩, ⟨sq_bk BK453.out⟩, ⟨sq_bs HB.out⟩⟩
  rw [if_pos c7] at H
  have c7b0 : decide (a1 < 0) = true := decide_eq_true c7
  clear c7
  (first | rw [c7b0] | (simp only [i64_w, i32_w]; rw [c7b0]) | skip)
  have H' := Aside0.mk H
  clear H
  have hcz8_0 : w4.cell? ⟨gb453, 0, none⟩ = some (.int .i64 a0_0) := (blk_cell BK453.out 0).trans rfl
  have hcz8_1 : w4.cell? ⟨gb453, 1, none⟩ = some (.slice A0_1 l0_1.length c0_1) := (blk_cell BK453.out 1).trans rfl
  have hcz8_2 : w4.cell? ⟨gb453, 2, none⟩ = some (.slice A0_2 l0_2.length c0_2) := (blk_cell BK453.out 2).trans rfl
  have hfz8_0 := blk_frozen BK453.out 0
  have hfz8_1 := blk_frozen BK453.out 1
  have hfz8_2 := blk_frozen BK453.out 2
  go_wp2_with (first | ((with_reducible refine gate_callee (f := 32) rfl ?_); refine sq_goes (some 13) Try.func32 #[.agg #[.int .i64 a0_0, .slice A0_1 l0_1.length c0_1, .slice A0_2 l0_2.length c0_2]] ?_; (with_reducible refine (petrinetref45_Valid.calls k a0_0 _ _ l0_1 _ _ l0_2 true _ ?side1 ?side2 ?side3 ?side4 A5.out).mono ?_); (case side1 => exact sq_kc ((Kd.C_below HR0_1.out HB.out))); (case side2 => exact HC0_1.out); (case side3 => exact sq_kc ((Kd.C_below HR0_2.out HB.out))); (case side4 => exact HC0_2.out); rintro e w9 ⟨rfl, hb⟩; refine ⟨_, rfl, ?_⟩; have n0_ := Aside0.mk (blk_below (g := gb453) (o := .cells #[.int .i64 a0_0, .slice A0_1 l0_1.length c0_1, .slice A0_2 l0_2.length c0_2] 25 (0, 0)) (sq_bk BK453.out) hb); have n1_ := Aside0.mk (below_step (sq_bs HB.out) hb); clear BK453; clear HB; have BK453 := n0_; have HB := n1_; clear n0_ n1_; (try clear hb)))
  go_meet
  case rel => exact ⟨_, (true), (by first | rfl | (simp; done) | (simp [*]; done)), H', ⟨by first | omega | exact Nat.le_refl _⟩, ⟨sq_bk BK453.out⟩, ⟨sq_bs HB.out⟩⟩
 case rest =>
  clear HC3
  obtain ⟨kq, x22_2, rfl, HA, HJ2, BK453, HB⟩ := hcut
  cases kq with
  | zero => exact absurd HA.out (by simp [petrinetref45_Traces.j0])
  | succ kj2 =>
   have H := HA.out
   clear HA
   simp only [petrinetref45_Traces.j0] at H
   by_cases c14 : x22_2 = true
   ·subst c14
    have H1 : (some ([] : List (List Int))) = some r := by rw [if_pos rfl] at H; exact H
    clear H
    have H := H1
    clear H1
    obtain rfl := Option.some.inj H
    go_wp2
    go_ret
    exact ⟨_, by first | rfl | (simp [errW_none, errW_some] <;> rfl) | (simp [*, errW_none, errW_some] <;> rfl), by first | exact Kd.S_nil _ _ _ _ _ | exact Kd.N_nil _ _ _ _ _ | exact Kd.V_nil _ _ _ _ _ | exact Kd.Q_nil _ _ _ _ _ | exact Kd.R_nil _ _ _ _ _, sq_bs HB.out⟩
   replace c14 := Bool.eq_false_iff.mpr c14
   subst c14
   have H1 : (petrinetref45_Traces.l0 kj2 a1 (([[]] : List (List Int))) 0 0 a0_0 l0_1 l0_2) = some r := by rw [if_neg (show ¬ (false = true) by decide)] at H; exact H
   clear H
   have H := H1
   clear H1
   obtain ⟨y455, hy455⟩ : ∃ y_ : List (List Int), y_ = (([[]] : List (List Int))) := ⟨_, rfl⟩
   replace H : (petrinetref45_Traces.l0 kj2 a1 y455 0 0 a0_0 l0_1 l0_2) = some r := by first | (rw [hy455]; with_reducible exact H) | (have H2_ := (Option.bind_some _ _).symm.trans H; rw [hy455]; with_reducible exact H2_) | (have H2_ := (Option.bind_some _ _).symm.trans H; with_reducible exact H2_) | with_reducible exact H | (rw [hy455]; exact H) | exact H
   have Ny455 := Aside0.mk hy455
   clear hy455
   have H' := Aside0.mk H
   clear H
   go_wp2_with (first | ((with_reducible refine gate_dst (N := 23) rfl ?_); refine Kd.S_lit (Kd.slice 3 (Kd.int .i64)) _ 34 ?hg (N := 23) ?hd (xs := ([[]] : List (List Int))) (inner := [.slice none 0 0]) (ok := fun _ => True) (okp := fun _ => True) ?hr ?hp (fun _ hk => hk) trivial (Below.refl _ _) (Nat.le_refl _) (by simp) ?_; (case hd => rfl); (case hg => rfl); (case hr => first | (go_simp; done) | (go_simp; rfl)); (case hp => exact (Reps.one (show Kd.M (Kd.slice 3 (Kd.int .i64)) _ _ _ [] [.slice none 0 0] from ⟨_, rfl, Kd.R_nil _ _ _ _ _⟩) (Reps.none _ _))); intro v456 w15 ho16 hb hg_ hnew_; clear hg_ hnew_; (first | rw [← Ny455.out] at ho16 | (simp only [Int.reduceToNat] at ho16; rw [← Ny455.out] at ho16)); have n0_ := Aside0.mk (Kd.S_lower ho16 (below_size (sq_bs HB.out))); have n1_ := Aside0.mk (blk_below (g := gb453) (o := .cells #[.int .i64 a0_0, .slice A0_1 l0_1.length c0_1, .slice A0_2 l0_2.length c0_2] 25 (0, 0)) (sq_bk BK453.out) hb); have n2_ := Aside0.mk (below_step (sq_bs HB.out) hb); clear BK453; clear HB; have HO457 := n0_; have BK453 := n1_; have HB := n2_; clear n0_ n1_ n2_; clear hb ho16))
   go_loopg [5, 6, 7] kj2 (fun kq v5 v6 v7 w' => ∃ (x5_2 : List (List Int)) (x6_2 : Int) (x7_2 : Int), v6 = .int .i64 x6_2 ∧ v7 = .int .i64 x7_2 ∧ Aside0 (petrinetref45_Traces.l0 kq a1 x5_2 x6_2 x7_2 a0_0 l0_1 l0_2 = some r) ∧ Aside0 (kq ≤ kj2) ∧ Aside0 (Kd.S (Kd.slice 3 (Kd.int .i64)) 34 w' w.heap.size (fun _ => True) v5 x5_2) ∧ Aside0 (w'.heap[gb453]? = some (.cells #[.int .i64 a0_0, (.slice A0_1 l0_1.length c0_1), (.slice A0_2 l0_2.length c0_2)] 25 (0, 0))) ∧ Aside0 (Below w.heap.size w w'))
   case atStart => exact ⟨(y455), (0), (0), (by first | rfl | (simp; done) | (simp [*]; done)), (by first | rfl | (simp; done) | (simp [*]; done)), H', ⟨Nat.le_refl _⟩, ⟨by (with_reducible repeat (first | apply Kd.S_alloc | apply Kd.S_drewN | apply Kd.S_drew)); exact HO457.out⟩, ⟨sq_bk BK453.out⟩, ⟨sq_bs HB.out⟩⟩
   case round =>
    clear H'
    try clear c14
    obtain ⟨x5_2, x6_2, x7_2, rfl, rfl, HA, HK2, HO_5, BK453, HB⟩ := hrel
    cases gk with
    | zero => exact absurd HA.out (by simp [petrinetref45_Traces.l0])
    | succ k2 =>
     have H := HA.out
     clear HA
     simp only [petrinetref45_Traces.l0] at H
     by_cases c17 : x7_2 < a1
     rotate_left
     ·rw [if_neg c17] at H
      have c17b0 : decide (x7_2 < a1) = false := decide_eq_false c17
      clear c17
      obtain rfl := Option.some.inj H
      go_wp2
      go_ret
      exact ⟨_, by first | rfl | (simp [errW_none, errW_some] <;> rfl) | (simp [*, errW_none, errW_some] <;> rfl), by (with_reducible repeat (first | apply Kd.S_alloc | apply Kd.S_drewN | apply Kd.S_drew)); exact HO_5.out, sq_bs HB.out⟩
     rw [if_pos c17] at H
     have c17b0 : decide (x7_2 < a1) = true := decide_eq_true c17
     clear c17
     have H' := Aside0.mk H
     clear H
     obtain ⟨Ao18, co18, eo18⟩ := Kd.S_slice HO_5.out
     subst eo18
     go_wp2
     go_loopg [5, 9] k2 (fun kq v5 v9 w' => ∃ (x5_3 : List (List Int)) (x9_3 : Int), v9 = .int .i64 x9_3 ∧ Aside0 (petrinetref45_Traces.l1 kq a1 x5_3 x7_2 (x5_2.length : Int) x9_3 a0_0 l0_1 l0_2 = some r) ∧ Aside0 (kq ≤ k2) ∧ Aside0 (Kd.S (Kd.slice 3 (Kd.int .i64)) 34 w' w.heap.size (fun _ => True) v5 x5_3) ∧ Aside0 (w'.heap[gb453]? = some (.cells #[.int .i64 a0_0, (.slice A0_1 l0_1.length c0_1), (.slice A0_2 l0_2.length c0_2)] 25 (0, 0))) ∧ Aside0 (Below w.heap.size w w'))
     case atStart => exact ⟨(x5_2), (x6_2), (by first | rfl | (simp; done) | (simp [*]; done)), H', ⟨Nat.le_refl _⟩, ⟨by (with_reducible repeat (first | apply Kd.S_alloc | apply Kd.S_drewN | apply Kd.S_drew)); exact HO_5.out⟩, ⟨sq_bk BK453.out⟩, ⟨sq_bs HB.out⟩⟩
     case round =>
      clear H'
      try clear c17b0
      obtain ⟨x5_3, x9_3, rfl, HA, HK3, HO_5, BK453, HB⟩ := hrel
      cases gk with
      | zero => exact absurd HA.out (by simp [petrinetref45_Traces.l1])
      | succ k3 =>
       have H := HA.out
       clear HA
       simp only [petrinetref45_Traces.l1] at H
       by_cases c19 : x9_3 < (x5_2.length : Int)
       rotate_left
       ·rw [if_neg c19] at H
        have c19b0 : decide (x9_3 < (x5_2.length : Int)) = false := decide_eq_false c19
        clear c19
        have H' := Aside0.mk H
        clear H
        go_wp2
        go_roundg k3
        case measure => have := HJ2.out; have := HK2.out; have := HK3.out; omega
        case rel => exact ⟨(x5_3), ((x5_2.length : Int)), (wrap64 (x7_2 + 1)), (by first | rfl | (simp; done) | (simp [*]; done)), (by first | rfl | (simp; done) | (simp [*]; done)), H', ⟨by have := HJ2.out; have := HK2.out; have := HK3.out; omega⟩, ⟨by (with_reducible repeat (first | apply Kd.S_alloc | apply Kd.S_drewN | apply Kd.S_drew)); exact HO_5.out⟩, ⟨sq_bk BK453.out⟩, ⟨sq_bs HB.out⟩⟩
       rw [if_pos c19] at H
       have c19b0 : decide (x9_3 < (x5_2.length : Int)) = true := decide_eq_true c19
       clear c19
       have H' := Aside0.mk H
       clear H
       go_wp2
       go_loopg [5, 10] k3 (fun kq v5 v10 w' => ∃ (x5_4 : List (List Int)) (x10_4 : Int), v10 = .int .i64 x10_4 ∧ Aside0 (petrinetref45_Traces.l2 kq a1 x5_4 x7_2 (x5_2.length : Int) x9_3 x10_4 a0_0 l0_1 l0_2 = some r) ∧ Aside0 (kq ≤ k3) ∧ Aside0 (Kd.S (Kd.slice 3 (Kd.int .i64)) 34 w' w.heap.size (fun _ => True) v5 x5_4) ∧ Aside0 (w'.heap[gb453]? = some (.cells #[.int .i64 a0_0, (.slice A0_1 l0_1.length c0_1), (.slice A0_2 l0_2.length c0_2)] 25 (0, 0))) ∧ Aside0 (Below w.heap.size w w'))
       case atStart => exact ⟨(x5_3), (0), (by first | rfl | (simp; done) | (simp [*]; done)), H', ⟨Nat.le_refl _⟩, ⟨by (with_reducible repeat (first | apply Kd.S_alloc | apply Kd.S_drewN | apply Kd.S_drew)); exact HO_5.out⟩, ⟨sq_bk BK453.out⟩, ⟨sq_bs HB.out⟩⟩
       case round =>
        clear H'
        try clear c19b0
        obtain ⟨x5_4, x10_4, rfl, HA, HK4, HO_5, BK453, HB⟩ := hrel
        cases gk with
        | zero => exact absurd HA.out (by simp [petrinetref45_Traces.l2])
        | succ k4 =>
         have H := HA.out
         clear HA
         simp only [petrinetref45_Traces.l2] at H
         by_cases c20 : x10_4 < (l0_1.length : Int)
         rotate_left
         ·rw [if_neg c20] at H
          have c20b0 : decide (x10_4 < (l0_1.length : Int)) = false := decide_eq_false c20
          clear c20
          have H' := Aside0.mk H
          clear H
          have hcz48_0 : wr.cell? ⟨gb453, 0, none⟩ = some (.int .i64 a0_0) := (blk_cell BK453.out 0).trans rfl
          have hcz48_1 : wr.cell? ⟨gb453, 1, none⟩ = some (.slice A0_1 l0_1.length c0_1) := (blk_cell BK453.out 1).trans rfl
          have hcz48_2 : wr.cell? ⟨gb453, 2, none⟩ = some (.slice A0_2 l0_2.length c0_2) := (blk_cell BK453.out 2).trans rfl
          have hfz48_0 := blk_frozen BK453.out 0
          have hfz48_1 := blk_frozen BK453.out 1
          have hfz48_2 := blk_frozen BK453.out 2
          go_wp2
          go_roundg k4
          case measure => have := HJ2.out; have := HK2.out; have := HK3.out; have := HK4.out; omega
          case rel => exact ⟨(x5_4), (wrap64 (x9_3 + 1)), (by first | rfl | (simp; done) | (simp [*]; done)), H', ⟨by have := HJ2.out; have := HK2.out; have := HK3.out; have := HK4.out; omega⟩, ⟨by (with_reducible repeat (first | apply Kd.S_alloc | apply Kd.S_drewN | apply Kd.S_drew)); exact HO_5.out⟩, ⟨sq_bk BK453.out⟩, ⟨sq_bs HB.out⟩⟩
         rw [if_pos c20] at H
         have c20b0 : decide (x10_4 < (l0_1.length : Int)) = true := decide_eq_true c20
         clear c20
         by_cases c21 : 0 ≤ x9_3
         rotate_left
         ·rw [if_neg c21] at H
          exact absurd H (by simp)
         rw [if_pos c21] at H
         have c21b0 : decide (0 ≤ x9_3) = true := decide_eq_true c21
         clear c21
         by_cases c22 : x9_3 < (x5_4.length : Int)
         rotate_left
         ·rw [if_neg c22] at H
          exact absurd H (by simp)
         rw [if_pos c22] at H
         have c22b0 : decide (x9_3 < (x5_4.length : Int)) = true := decide_eq_true c22
         clear c22
         replace H := Option.bind_eq_some_iff.mp H
         obtain ⟨t459, A230, H⟩ := H
         replace H : (if t459.length < 17592186044416 then ((some (t459 ++ [x10_4] : List Int)).bind fun y462 => (if (x5_4.length : Int) < 5000 then ((petrinetref45_can.f k4 a0_0 l0_1 l0_2 y462).bind fun t465 => (if t465 = true then (if x5_4.length < 5864062014805 then (petrinetref45_Traces.l2 k4 a1 (x5_4 ++ [y462]) x7_2 (x5_2.length : Int) x9_3 (wrap64 (x10_4 + 1)) a0_0 l0_1 l0_2) else (none)) else (petrinetref45_Traces.l2 k4 a1 x5_4 x7_2 (x5_2.length : Int) x9_3 (wrap64 (x10_4 + 1)) a0_0 l0_1 l0_2))) else (petrinetref45_Traces.l2 k4 a1 x5_4 x7_2 (x5_2.length : Int) x9_3 (wrap64 (x10_4 + 1)) a0_0 l0_1 l0_2))) else (none)) = some r := H
         have A23 := Aside0.mk A230
         clear A230
         by_cases c24 : t459.length < 17592186044416
         rotate_left
         ·rw [if_neg c24] at H
          exact absurd H (by simp)
         rw [if_pos c24] at H
         have LMc24 := Aside0.mk c24
         clear c24
         obtain ⟨y462, hy462⟩ : ∃ y_ : List Int, y_ = (t459 ++ [x10_4]) := ⟨_, rfl⟩
         replace H : (if (x5_4.length : Int) < 5000 then ((petrinetref45_can.f k4 a0_0 l0_1 l0_2 y462).bind fun t465 => (if t465 = true then (if x5_4.length < 5864062014805 then (petrinetref45_Traces.l2 k4 a1 (x5_4 ++ [y462]) x7_2 (x5_2.length : Int) x9_3 (wrap64 (x10_4 + 1)) a0_0 l0_1 l0_2) else (none)) else (petrinetref45_Traces.l2 k4 a1 x5_4 x7_2 (x5_2.length : Int) x9_3 (wrap64 (x10_4 + 1)) a0_0 l0_1 l0_2))) else (petrinetref45_Traces.l2 k4 a1 x5_4 x7_2 (x5_2.length : Int) x9_3 (wrap64 (x10_4 + 1)) a0_0 l0_1 l0_2)) = some r := by first | (rw [hy462]; with_reducible exact H) | (have H2_ := (Option.bind_some _ _).symm.trans H; rw [hy462]; with_reducible exact H2_) | (have H2_ := (Option.bind_some _ _).symm.trans H; with_reducible exact H2_) | with_reducible exact H | (rw [hy462]; exact H) | exact H
         have Ny462 := Aside0.mk hy462
         clear hy462
         by_cases c25 : (x5_4.length : Int) < 5000
         rotate_left
         ·rw [if_neg c25] at H
          have c25b0 : decide ((x5_4.length : Int) < 5000) = false := decide_eq_false c25
          have c25b1 : decide (x5_4.length < 5000) = false := decide_eq_false (by omega)
          clear c25
          have H' := Aside0.mk H
          clear H
          have hcz44_0 : wr.cell? ⟨gb453, 0, none⟩ = some (.int .i64 a0_0) := (blk_cell BK453.out 0).trans rfl
          have hcz44_1 : wr.cell? ⟨gb453, 1, none⟩ = some (.slice A0_1 l0_1.length c0_1) := (blk_cell BK453.out 1).trans rfl
          have hcz44_2 : wr.cell? ⟨gb453, 2, none⟩ = some (.slice A0_2 l0_2.length c0_2) := (blk_cell BK453.out 2).trans rfl
          have hfz44_0 := blk_frozen BK453.out 0
          have hfz44_1 := blk_frozen BK453.out 1
          have hfz44_2 := blk_frozen BK453.out 2
          obtain ⟨Ao45, co45, eo45⟩ := Kd.S_slice HO_5.out
          subst eo45
          have p458 : 0 ≤ (x9_3 : Int) := sq_d
          have q458 : x9_3 < (x5_4.length : Int) := sq_d
          have LQ458 := Aside0.mk q458
          obtain ⟨ad458, A458_0, c458_0, e458, hx458_0, hl458_0, hi458_0⟩ := at_L4 (Kd.S_reads' HO_5.out).2.2 x9_3 p458 q458
          cases e458
          obtain ⟨ce458, hce458, hMe458, hcc458⟩ := Kd.S_get HO_5.out [] x9_3 p458 (by first | exact q458 | exact sq_d | (have e_ := (Kd.S_reads' HO_5.out).1; omega))
          obtain ⟨ve458_0, rfl, ge458_0⟩ := hMe458
          have hv458_0 := hcc458 0 _ rfl
          rw [Nat.add_zero, show ((Kd.slice 3 (Kd.int .i64))).sz = 1 from rfl, Nat.mul_one] at hv458_0
          replace hv458_0 := Option.some.inj (hv458_0.symm.trans hx458_0)
          rw [hv458_0] at ge458_0
          have HL458_0 := Aside0.mk (show Kd.R (Kd.int .i64) 3 _ _ _ _ (rd_L4 x5_4 x9_3) from ge458_0)
          clear hv458_0 ge458_0
          clear hcc458 hce458
          have HR458_0 := Aside0.mk hi458_0
          have HC458_0 := Aside0.mk hl458_0
          clear hi458_0 hl458_0
          replace p458 := eq_true p458
          replace q458 := eq_true q458
          go_wp2_with (first | ((with_reducible refine gate_callee (f := 40) rfl ?_); refine sq_goes (some 48) Try.func40 #[.slice A458_0 (rd_L4 x5_4 x9_3).length c458_0] ?_; (with_reducible refine (petrinetref04_Copy.calls k4 _ _ (rd_L4 x5_4 x9_3) t459 _ ?side1 ?side2 A23.out).mono ?_); (case side1 => repeat (first | exact (by repeat (first | (with_reducible exact HR458_0.out) | (with_reducible refine Kd.C_alloc ?_ _) | (with_reducible refine Kd.C_drewN ?_ _) | (with_reducible refine Kd.C_drew ?_) | exact HR458_0.out)) | (with_reducible refine Kd.C_alloc ?_ _) | (with_reducible refine Kd.C_drewN ?_ _) | (with_reducible refine Kd.C_drew ?_))); (case side2 => exact HC458_0.out); rintro e w46 ⟨v460, rfl, ho0, hb⟩; refine ⟨_, rfl, ?_⟩; have n0_ := Aside0.mk (Kd.S_elder' (by (with_reducible repeat (first | apply Kd.S_alloc | apply Kd.S_drewN | apply Kd.S_drew)); exact HO_5.out) (Kd.R_base ho0) hb); have n1_ := Aside0.mk (Kd.R_elder' (sq_kr HL458_0.out) (Kd.R_base ho0) hb); have n2_ := Aside0.mk (Kd.R_lower (Kd.R_new' ho0 (Kd.R_lt (sq_kr HL458_0.out))) (below_size (sq_bs HB.out))); have n3_ := Aside0.mk (blk_below (g := gb453) (o := .cells #[.int .i64 a0_0, .slice A0_1 l0_1.length c0_1, .slice A0_2 l0_2.length c0_2] 25 (0, 0)) (sq_bk BK453.out) hb); have n4_ := Aside0.mk (Kd.C_below (by repeat (first | (with_reducible exact HR458_0.out) | (with_reducible refine Kd.C_alloc ?_ _) | (with_reducible refine Kd.C_drewN ?_ _) | (with_reducible refine Kd.C_drew ?_) | exact HR458_0.out)) hb); have n5_ := Aside0.mk (below_step (sq_bs HB.out) hb); clear HO_5; clear HL458_0; clear BK453; clear HR458_0; clear HB; have HO_5 := n0_; have HL458_0 := n1_; have HO461 := n2_; have BK453 := n3_; have HR458_0 := n4_; have HB := n5_; clear n0_ n1_ n2_ n3_ n4_ n5_; (try clear hb); (try clear ho0)) | ((with_reducible refine gate_builtin (b := .append) (xs := #[.tmp 49, .tmp 51]) rfl ?_); at_builtin; refine Kd.R_append (Kd.int .i64) (w0 := w) w.heap.size rfl (.tmp 49) (.tmp 51) 34 3 (.int .i64 0) 8 rfl Try.underlying34 info3 rfl (by decide) (by omega) v460 t459 x10_4 [.int .i64 x10_4] (fun k_ => some k_ ≠ (.slice A458_0 (rd_L4 x5_4 x9_3).length c458_0 : Value).ownBlock) (fun _ => False) rfl rfl ?aP (fun _ hk => hk.elim) ?aF ?aO ?aB ?aS ?aL ?_; (case aP => exact rfl); (case aB => exact (sq_bs HB.out)); (case aF => exact (fun k_ hk => Kd.fresh' (Kd.R_lt (sq_kr HL458_0.out)) k_ hk)); (case aO => exact (by (with_reducible repeat (first | apply Kd.R_alloc | apply Kd.R_drewN | apply Kd.R_drew)); exact Kd.R_mono HO461.out (fun _ hk => hk.2))); (case aS => exact (below_size (sq_bs HB.out))); (case aL => have := LMc24.out; omega); intro v463 w47 ho hb hg hat; rw [← Ny462.out] at ho; have n0_ := Aside0.mk (Kd.S_after (ok := (fun _ => True)) (by (with_reducible repeat (first | apply Kd.S_alloc | apply Kd.S_drewN | apply Kd.S_drew)); exact HO_5.out) hg hat); have n1_ := Aside0.mk (blk_grown (g := gb453) (o := .cells #[.int .i64 a0_0, .slice A0_1 l0_1.length c0_1, .slice A0_2 l0_2.length c0_2] 25 (0, 0)) (sq_bk BK453.out) hg (Kd.R_ne HO461.out BK453.out (by decide))); have n2_ := Aside0.mk (Kd.R_after (ok := (fun k_ => some k_ ≠ (.slice (some ad458) x5_4.length co45 : Value).ownBlock)) (by (with_reducible repeat (first | apply Kd.R_alloc | apply Kd.R_drewN | apply Kd.R_drew)); exact Kd.R_mono HL458_0.out (fun _ hk => ⟨hk.1.2, hk.2⟩)) hg hat); have n3_ := Aside0.mk (hb); have n4_ := Aside0.mk (ho); clear HO_5; clear BK453; clear HL458_0; clear HB; clear HO461; have HO_5 := n0_; have BK453 := n1_; have HL458_0 := n2_; have HB := n3_; have HO464 := n4_; clear n0_ n1_ n2_ n3_ n4_; clear ho hb hg hat))
          go_roundg k4
          case measure => have := HJ2.out; have := HK2.out; have := HK3.out; have := HK4.out; omega
          case rel => exact ⟨(x5_4), (wrap64 (x10_4 + 1)), (by first | rfl | (simp; done) | (simp [*]; done)), H', ⟨by have := HJ2.out; have := HK2.out; have := HK3.out; have := HK4.out; omega⟩, ⟨by (with_reducible repeat (first | apply Kd.S_alloc | apply Kd.S_drewN | apply Kd.S_drew)); exact Kd.S_mono HO_5.out (fun _ hk => trivial)⟩, ⟨sq_bk BK453.out⟩, ⟨sq_bs HB.out⟩⟩
         rw [if_pos c25] at H
         have c25b0 : decide ((x5_4.length : Int) < 5000) = true := decide_eq_true c25
         have c25b1 : decide (x5_4.length < 5000) = true := decide_eq_true (by omega)
         clear c25
         replace H := Option.bind_eq_some_iff.mp H
         obtain ⟨t465, A260, H⟩ := H
         replace H : (if t465 = true then (if x5_4.length < 5864062014805 then (petrinetref45_Traces.l2 k4 a1 (x5_4 ++ [y462]) x7_2 (x5_2.length : Int) x9_3 (wrap64 (x10_4 + 1)) a0_0 l0_1 l0_2) else (none)) else (petrinetref45_Traces.l2 k4 a1 x5_4 x7_2 (x5_2.length : Int) x9_3 (wrap64 (x10_4 + 1)) a0_0 l0_1 l0_2)) = some r := H
         have A26 := Aside0.mk A260
         clear A260
         by_cases c27 : t465 = true
         rotate_left
         ·replace c27 := Bool.eq_false_iff.mpr c27
          subst c27
          have H1 : (petrinetref45_Traces.l2 k4 a1 x5_4 x7_2 (x5_2.length : Int) x9_3 (wrap64 (x10_4 + 1)) a0_0 l0_1 l0_2) = some r := by rw [if_neg (show ¬ (false = true) by decide)] at H; exact H
          clear H
          have H := H1
          clear H1
          have H' := Aside0.mk H
          clear H
          have hcz37_0 : wr.cell? ⟨gb453, 0, none⟩ = some (.int .i64 a0_0) := (blk_cell BK453.out 0).trans rfl
          have hcz37_1 : wr.cell? ⟨gb453, 1, none⟩ = some (.slice A0_1 l0_1.length c0_1) := (blk_cell BK453.out 1).trans rfl
          have hcz37_2 : wr.cell? ⟨gb453, 2, none⟩ = some (.slice A0_2 l0_2.length c0_2) := (blk_cell BK453.out 2).trans rfl
          have hfz37_0 := blk_frozen BK453.out 0
          have hfz37_1 := blk_frozen BK453.out 1
          have hfz37_2 := blk_frozen BK453.out 2
          obtain ⟨Ao38, co38, eo38⟩ := Kd.S_slice HO_5.out
          subst eo38
          have p458 : 0 ≤ (x9_3 : Int) := sq_d
          have q458 : x9_3 < (x5_4.length : Int) := sq_d
          have LQ458 := Aside0.mk q458
          obtain ⟨ad458, A458_0, c458_0, e458, hx458_0, hl458_0, hi458_0⟩ := at_L4 (Kd.S_reads' HO_5.out).2.2 x9_3 p458 q458
          cases e458
          obtain ⟨ce458, hce458, hMe458, hcc458⟩ := Kd.S_get HO_5.out [] x9_3 p458 (by first | exact q458 | exact sq_d | (have e_ := (Kd.S_reads' HO_5.out).1; omega))
          obtain ⟨ve458_0, rfl, ge458_0⟩ := hMe458
          have hv458_0 := hcc458 0 _ rfl
          rw [Nat.add_zero, show ((Kd.slice 3 (Kd.int .i64))).sz = 1 from rfl, Nat.mul_one] at hv458_0
          replace hv458_0 := Option.some.inj (hv458_0.symm.trans hx458_0)
          rw [hv458_0] at ge458_0
          have HL458_0 := Aside0.mk (show Kd.R (Kd.int .i64) 3 _ _ _ _ (rd_L4 x5_4 x9_3) from ge458_0)
          clear hv458_0 ge458_0
          clear hcc458 hce458
          have HR458_0 := Aside0.mk hi458_0
          have HC458_0 := Aside0.mk hl458_0
          clear hi458_0 hl458_0
          replace p458 := eq_true p458
          replace q458 := eq_true q458
          go_wp2_with (first | ((with_reducible refine gate_callee (f := 40) rfl ?_); refine sq_goes (some 48) Try.func40 #[.slice A458_0 (rd_L4 x5_4 x9_3).length c458_0] ?_; (with_reducible refine (petrinetref04_Copy.calls k4 _ _ (rd_L4 x5_4 x9_3) t459 _ ?side1 ?side2 A23.out).mono ?_); (case side1 => repeat (first | exact (by repeat (first | (with_reducible exact HR458_0.out) | (with_reducible refine Kd.C_alloc ?_ _) | (with_reducible refine Kd.C_drewN ?_ _) | (with_reducible refine Kd.C_drew ?_) | exact HR458_0.out)) | (with_reducible refine Kd.C_alloc ?_ _) | (with_reducible refine Kd.C_drewN ?_ _) | (with_reducible refine Kd.C_drew ?_))); (case side2 => exact HC458_0.out); rintro e w39 ⟨v460, rfl, ho0, hb⟩; refine ⟨_, rfl, ?_⟩; have n0_ := Aside0.mk (Kd.S_elder' (by (with_reducible repeat (first | apply Kd.S_alloc | apply Kd.S_drewN | apply Kd.S_drew)); exact HO_5.out) (Kd.R_base ho0) hb); have n1_ := Aside0.mk (Kd.R_elder' (sq_kr HL458_0.out) (Kd.R_base ho0) hb); have n2_ := Aside0.mk (Kd.R_lower (Kd.R_new' ho0 (Kd.R_lt (sq_kr HL458_0.out))) (below_size (sq_bs HB.out))); have n3_ := Aside0.mk (blk_below (g := gb453) (o := .cells #[.int .i64 a0_0, .slice A0_1 l0_1.length c0_1, .slice A0_2 l0_2.length c0_2] 25 (0, 0)) (sq_bk BK453.out) hb); have n4_ := Aside0.mk (Kd.C_below (by repeat (first | (with_reducible exact HR458_0.out) | (with_reducible refine Kd.C_alloc ?_ _) | (with_reducible refine Kd.C_drewN ?_ _) | (with_reducible refine Kd.C_drew ?_) | exact HR458_0.out)) hb); have n5_ := Aside0.mk (below_step (sq_bs HB.out) hb); clear HO_5; clear HL458_0; clear BK453; clear HR458_0; clear HB; have HO_5 := n0_; have HL458_0 := n1_; have HO461 := n2_; have BK453 := n3_; have HR458_0 := n4_; have HB := n5_; clear n0_ n1_ n2_ n3_ n4_ n5_; (try clear hb); (try clear ho0)) | ((with_reducible refine gate_builtin (b := .append) (xs := #[.tmp 49, .tmp 51]) rfl ?_); at_builtin; refine Kd.R_append (Kd.int .i64) (w0 := w) w.heap.size rfl (.tmp 49) (.tmp 51) 34 3 (.int .i64 0) 8 rfl Try.underlying34 info3 rfl (by decide) (by omega) v460 t459 x10_4 [.int .i64 x10_4] (fun k_ => some k_ ≠ (.slice A458_0 (rd_L4 x5_4 x9_3).length c458_0 : Value).ownBlock) (fun _ => False) rfl rfl ?aP (fun _ hk => hk.elim) ?aF ?aO ?aB ?aS ?aL ?_; (case aP => exact rfl); (case aB => exact (sq_bs HB.out)); (case aF => exact (fun k_ hk => Kd.fresh' (Kd.R_lt (sq_kr HL458_0.out)) k_ hk)); (case aO => exact (by (with_reducible repeat (first | apply Kd.R_alloc | apply Kd.R_drewN | apply Kd.R_drew)); exact Kd.R_mono HO461.out (fun _ hk => hk.2))); (case aS => exact (below_size (sq_bs HB.out))); (case aL => have := LMc24.out; omega); intro v463 w40 ho hb hg hat; rw [← Ny462.out] at ho; have n0_ := Aside0.mk (Kd.S_after (ok := (fun _ => True)) (by (with_reducible repeat (first | apply Kd.S_alloc | apply Kd.S_drewN | apply Kd.S_drew)); exact HO_5.out) hg hat); have n1_ := Aside0.mk (blk_grown (g := gb453) (o := .cells #[.int .i64 a0_0, .slice A0_1 l0_1.length c0_1, .slice A0_2 l0_2.length c0_2] 25 (0, 0)) (sq_bk BK453.out) hg (Kd.R_ne HO461.out BK453.out (by decide))); have n2_ := Aside0.mk (Kd.R_after (ok := (fun k_ => some k_ ≠ (.slice (some ad458) x5_4.length co38 : Value).ownBlock)) (by (with_reducible repeat (first | apply Kd.R_alloc | apply Kd.R_drewN | apply Kd.R_drew)); exact Kd.R_mono HL458_0.out (fun _ hk => ⟨hk.1.2, hk.2⟩)) hg hat); have n3_ := Aside0.mk (hb); have n4_ := Aside0.mk (ho); clear HO_5; clear BK453; clear HL458_0; clear HB; clear HO461; have HO_5 := n0_; have BK453 := n1_; have HL458_0 := n2_; have HB := n3_; have HO464 := n4_; clear n0_ n1_ n2_ n3_ n4_; clear ho hb hg hat; have hcz41_0 : w40.cell? ⟨gb453, 0, none⟩ = some (.int .i64 a0_0) := (blk_cell BK453.out 0).trans rfl; have hcz41_1 : w40.cell? ⟨gb453, 1, none⟩ = some (.slice A0_1 l0_1.length c0_1) := (blk_cell BK453.out 1).trans rfl; have hcz41_2 : w40.cell? ⟨gb453, 2, none⟩ = some (.slice A0_2 l0_2.length c0_2) := (blk_cell BK453.out 2).trans rfl; have hfz41_0 := blk_frozen BK453.out 0; have hfz41_1 := blk_frozen BK453.out 1; have hfz41_2 := blk_frozen BK453.out 2; obtain ⟨Ao42, co42, eo42⟩ := Kd.R_slice HO464.out; subst eo42) | (go_at_call 41; (with_reducible refine (petrinetref45_can.calls k4 a0_0 _ _ l0_1 _ _ l0_2 _ _ y462 false _ ?side1 ?side2 ?side3 ?side4 ?side5 ?side6 A26.out).mono ?_); (case side1 => exact sq_kc ((Kd.C_below HR0_1.out HB.out))); (case side2 => exact HC0_1.out); (case side3 => exact sq_kc ((Kd.C_below HR0_2.out HB.out))); (case side4 => exact HC0_2.out); (case side5 => exact sq_kc ((Kd.R_reads' HO464.out).2.2)); (case side6 => exact (Kd.R_reads' HO464.out).2.1); rintro e w43 ⟨rfl, hb⟩; have n0_ := Aside0.mk (Kd.S_below (by (with_reducible repeat (first | apply Kd.S_alloc | apply Kd.S_drewN | apply Kd.S_drew)); exact HO_5.out) hb); have n1_ := Aside0.mk (Kd.R_below (sq_kr HL458_0.out) hb); have n2_ := Aside0.mk (Kd.R_below (sq_kr HO464.out) hb); have n3_ := Aside0.mk (blk_below (g := gb453) (o := .cells #[.int .i64 a0_0, .slice A0_1 l0_1.length c0_1, .slice A0_2 l0_2.length c0_2] 25 (0, 0)) (sq_bk BK453.out) hb); have n4_ := Aside0.mk (below_step (sq_bs HB.out) hb); clear HO_5; clear HL458_0; clear HO464; clear BK453; clear HB; have HO_5 := n0_; have HL458_0 := n1_; have HO464 := n2_; have BK453 := n3_; have HB := n4_; clear n0_ n1_ n2_ n3_ n4_; (try clear hb); (try clear hk)))
          go_roundg k4
          case measure => have := HJ2.out; have := HK2.out; have := HK3.out; have := HK4.out; omega
          case rel => exact ⟨(x5_4), (wrap64 (x10_4 + 1)), (by first | rfl | (simp; done) | (simp [*]; done)), H', ⟨by have := HJ2.out; have := HK2.out; have := HK3.out; have := HK4.out; omega⟩, ⟨by (with_reducible repeat (first | apply Kd.S_alloc | apply Kd.S_drewN | apply Kd.S_drew)); exact Kd.S_mono HO_5.out (fun _ hk => trivial)⟩, ⟨sq_bk BK453.out⟩, ⟨sq_bs HB.out⟩⟩
         subst c27
         have H1 : (if x5_4.length < 5864062014805 then (petrinetref45_Traces.l2 k4 a1 (x5_4 ++ [y462]) x7_2 (x5_2.length : Int) x9_3 (wrap64 (x10_4 + 1)) a0_0 l0_1 l0_2) else (none)) = some r := by rw [if_pos rfl] at H; exact H
         clear H
         have H := H1
         clear H1
         by_cases c28 : x5_4.length < 5864062014805
         rotate_left
         ·rw [if_neg c28] at H
          exact absurd H (by simp)
         rw [if_pos c28] at H
         have LMc28 := Aside0.mk c28
         clear c28
         obtain ⟨y466, hy466⟩ : ∃ y_ : List (List Int), y_ = (x5_4 ++ [y462]) := ⟨_, rfl⟩
         replace H : (petrinetref45_Traces.l2 k4 a1 y466 x7_2 (x5_2.length : Int) x9_3 (wrap64 (x10_4 + 1)) a0_0 l0_1 l0_2) = some r := by first | (rw [hy466]; with_reducible exact H) | (have H2_ := (Option.bind_some _ _).symm.trans H; rw [hy466]; with_reducible exact H2_) | (have H2_ := (Option.bind_some _ _).symm.trans H; with_reducible exact H2_) | with_reducible exact H | (rw [hy466]; exact H) | exact H
         have Ny466 := Aside0.mk hy466
         clear hy466
         have H' := Aside0.mk H
         clear H
         have hcz29_0 : wr.cell? ⟨gb453, 0, none⟩ = some (.int .i64 a0_0) := (blk_cell BK453.out 0).trans rfl
         have hcz29_1 : wr.cell? ⟨gb453, 1, none⟩ = some (.slice A0_1 l0_1.length c0_1) := (blk_cell BK453.out 1).trans rfl
         have hcz29_2 : wr.cell? ⟨gb453, 2, none⟩ = some (.slice A0_2 l0_2.length c0_2) := (blk_cell BK453.out 2).trans rfl
         have hfz29_0 := blk_frozen BK453.out 0
         have hfz29_1 := blk_frozen BK453.out 1
         have hfz29_2 := blk_frozen BK453.out 2
         obtain ⟨Ao30, co30, eo30⟩ := Kd.S_slice HO_5.out
         subst eo30
         have p458 : 0 ≤ (x9_3 : Int) := sq_d
         have q458 : x9_3 < (x5_4.length : Int) := sq_d
         have LQ458 := Aside0.mk q458
         obtain ⟨ad458, A458_0, c458_0, e458, hx458_0, hl458_0, hi458_0⟩ := at_L4 (Kd.S_reads' HO_5.out).2.2 x9_3 p458 q458
         cases e458
         obtain ⟨ce458, hce458, hMe458, hcc458⟩ := Kd.S_get HO_5.out [] x9_3 p458 (by first | exact q458 | exact sq_d | (have e_ := (Kd.S_reads' HO_5.out).1; omega))
         obtain ⟨ve458_0, rfl, ge458_0⟩ := hMe458
         have hv458_0 := hcc458 0 _ rfl
         rw [Nat.add_zero, show ((Kd.slice 3 (Kd.int .i64))).sz = 1 from rfl, Nat.mul_one] at hv458_0
         replace hv458_0 := Option.some.inj (hv458_0.symm.trans hx458_0)
         rw [hv458_0] at ge458_0
         have HL458_0 := Aside0.mk (show Kd.R (Kd.int .i64) 3 _ _ _ _ (rd_L4 x5_4 x9_3) from ge458_0)
         clear hv458_0 ge458_0
         clear hcc458 hce458
         have HR458_0 := Aside0.mk hi458_0
         have HC458_0 := Aside0.mk hl458_0
         clear hi458_0 hl458_0
         replace p458 := eq_true p458
         replace q458 := eq_true q458
         go_wp2_with (first | ((with_reducible refine gate_callee (f := 40) rfl ?_); refine sq_goes (some 48) Try.func40 #[.slice A458_0 (rd_L4 x5_4 x9_3).length c458_0] ?_; (with_reducible refine (petrinetref04_Copy.calls k4 _ _ (rd_L4 x5_4 x9_3) t459 _ ?side1 ?side2 A23.out).mono ?_); (case side1 => repeat (first | exact (by repeat (first | (with_reducible exact HR458_0.out) | (with_reducible refine Kd.C_alloc ?_ _) | (with_reducible refine Kd.C_drewN ?_ _) | (with_reducible refine Kd.C_drew ?_) | exact HR458_0.out)) | (with_reducible refine Kd.C_alloc ?_ _) | (with_reducible refine Kd.C_drewN ?_ _) | (with_reducible refine Kd.C_drew ?_))); (case side2 => exact HC458_0.out); rintro e w31 ⟨v460, rfl, ho0, hb⟩; refine ⟨_, rfl, ?_⟩; have n0_ := Aside0.mk (Kd.S_elder' (by (with_reducible repeat (first | apply Kd.S_alloc | apply Kd.S_drewN | apply Kd.S_drew)); exact HO_5.out) (Kd.R_base ho0) hb); have n1_ := Aside0.mk (Kd.R_elder' (sq_kr HL458_0.out) (Kd.R_base ho0) hb); have n2_ := Aside0.mk (Kd.R_lower (Kd.R_new' ho0 (Kd.R_lt (sq_kr HL458_0.out))) (below_size (sq_bs HB.out))); have n3_ := Aside0.mk (blk_below (g := gb453) (o := .cells #[.int .i64 a0_0, .slice A0_1 l0_1.length c0_1, .slice A0_2 l0_2.length c0_2] 25 (0, 0)) (sq_bk BK453.out) hb); have n4_ := Aside0.mk (Kd.C_below (by repeat (first | (with_reducible exact HR458_0.out) | (with_reducible refine Kd.C_alloc ?_ _) | (with_reducible refine Kd.C_drewN ?_ _) | (with_reducible refine Kd.C_drew ?_) | exact HR458_0.out)) hb); have n5_ := Aside0.mk (below_step (sq_bs HB.out) hb); clear HO_5; clear HL458_0; clear BK453; clear HR458_0; clear HB; have HO_5 := n0_; have HL458_0 := n1_; have HO461 := n2_; have BK453 := n3_; have HR458_0 := n4_; have HB := n5_; clear n0_ n1_ n2_ n3_ n4_ n5_; (try clear hb); (try clear ho0)) | ((with_reducible refine gate_builtin (b := .append) (xs := #[.tmp 49, .tmp 51]) rfl ?_); at_builtin; refine Kd.R_append (Kd.int .i64) (w0 := w) w.heap.size rfl (.tmp 49) (.tmp 51) 34 3 (.int .i64 0) 8 rfl Try.underlying34 info3 rfl (by decide) (by omega) v460 t459 x10_4 [.int .i64 x10_4] (fun k_ => some k_ ≠ (.slice A458_0 (rd_L4 x5_4 x9_3).length c458_0 : Value).ownBlock) (fun _ => False) rfl rfl ?aP (fun _ hk => hk.elim) ?aF ?aO ?aB ?aS ?aL ?_; (case aP => exact rfl); (case aB => exact (sq_bs HB.out)); (case aF => exact (fun k_ hk => Kd.fresh' (Kd.R_lt (sq_kr HL458_0.out)) k_ hk)); (case aO => exact (by (with_reducible repeat (first | apply Kd.R_alloc | apply Kd.R_drewN | apply Kd.R_drew)); exact Kd.R_mono HO461.out (fun _ hk => hk.2))); (case aS => exact (below_size (sq_bs HB.out))); (case aL => have := LMc24.out; omega); intro v463 w32 ho hb hg hat; rw [← Ny462.out] at ho; have n0_ := Aside0.mk (Kd.S_after (ok := (fun _ => True)) (by (with_reducible repeat (first | apply Kd.S_alloc | apply Kd.S_drewN | apply Kd.S_drew)); exact HO_5.out) hg hat); have n1_ := Aside0.mk (blk_grown (g := gb453) (o := .cells #[.int .i64 a0_0, .slice A0_1 l0_1.length c0_1, .slice A0_2 l0_2.length c0_2] 25 (0, 0)) (sq_bk BK453.out) hg (Kd.R_ne HO461.out BK453.out (by decide))); have n2_ := Aside0.mk (Kd.R_after (ok := (fun k_ => some k_ ≠ (.slice (some ad458) x5_4.length co30 : Value).ownBlock)) (by (with_reducible repeat (first | apply Kd.R_alloc | apply Kd.R_drewN | apply Kd.R_drew)); exact Kd.R_mono HL458_0.out (fun _ hk => ⟨hk.1.2, hk.2⟩)) hg hat); have n3_ := Aside0.mk (hb); have n4_ := Aside0.mk (ho); clear HO_5; clear BK453; clear HL458_0; clear HB; clear HO461; have HO_5 := n0_; have BK453 := n1_; have HL458_0 := n2_; have HB := n3_; have HO464 := n4_; clear n0_ n1_ n2_ n3_ n4_; clear ho hb hg hat; have hcz33_0 : w32.cell? ⟨gb453, 0, none⟩ = some (.int .i64 a0_0) := (blk_cell BK453.out 0).trans rfl; have hcz33_1 : w32.cell? ⟨gb453, 1, none⟩ = some (.slice A0_1 l0_1.length c0_1) := (blk_cell BK453.out 1).trans rfl; have hcz33_2 : w32.cell? ⟨gb453, 2, none⟩ = some (.slice A0_2 l0_2.length c0_2) := (blk_cell BK453.out 2).trans rfl; have hfz33_0 := blk_frozen BK453.out 0; have hfz33_1 := blk_frozen BK453.out 1; have hfz33_2 := blk_frozen BK453.out 2; obtain ⟨Ao34, co34, eo34⟩ := Kd.R_slice HO464.out; subst eo34) | (go_at_call 41; (with_reducible refine (petrinetref45_can.calls k4 a0_0 _ _ l0_1 _ _ l0_2 _ _ y462 true _ ?side1 ?side2 ?side3 ?side4 ?side5 ?side6 A26.out).mono ?_); (case side1 => exact sq_kc ((Kd.C_below HR0_1.out HB.out))); (case side2 => exact HC0_1.out); (case side3 => exact sq_kc ((Kd.C_below HR0_2.out HB.out))); (case side4 => exact HC0_2.out); (case side5 => exact sq_kc ((Kd.R_reads' HO464.out).2.2)); (case side6 => exact (Kd.R_reads' HO464.out).2.1); rintro e w35 ⟨rfl, hb⟩; have n0_ := Aside0.mk (Kd.S_below (by (with_reducible repeat (first | apply Kd.S_alloc | apply Kd.S_drewN | apply Kd.S_drew)); exact HO_5.out) hb); have n1_ := Aside0.mk (Kd.R_below (sq_kr HL458_0.out) hb); have n2_ := Aside0.mk (Kd.R_below (sq_kr HO464.out) hb); have n3_ := Aside0.mk (blk_below (g := gb453) (o := .cells #[.int .i64 a0_0, .slice A0_1 l0_1.length c0_1, .slice A0_2 l0_2.length c0_2] 25 (0, 0)) (sq_bk BK453.out) hb); have n4_ := Aside0.mk (below_step (sq_bs HB.out) hb); clear HO_5; clear HL458_0; clear HO464; clear BK453; clear HB; have HO_5 := n0_; have HL458_0 := n1_; have HO464 := n2_; have BK453 := n3_; have HB := n4_; clear n0_ n1_ n2_ n3_ n4_; (try clear hb); (try clear hk)) | ((with_reducible refine gate_builtin (b := .append) (xs := #[.tmp 61, .tmp 63]) rfl ?_); at_builtin; refine Kd.S_append (Kd.slice 3 (Kd.int .i64)) (w0 := w) w.heap.size rfl (.tmp 61) (.tmp 63) 40 34 (.slice none 0 0) 24 rfl Try.underlying40 info34 rfl (by decide) (by omega) (.slice (some ad458) x5_4.length co30) x5_4 y462 [.slice Ao34 y462.length co34] (fun _ => True) (fun k_ => some k_ = (.slice Ao34 y462.length co34 : Value).ownBlock) rfl rfl ?aP (fun k_ hk_ => ((Kd.R_mono (ok' := fun k_ => ((fun _ => True)) k_ ∧ some k_ ≠ (.slice (some ad458) x5_4.length co30 : Value).ownBlock) (Kd.R_apart' (HO464.out) (Kd.S_typed HO_5.out) (by decide)) (fun k_ hk => ⟨trivial, hk.2⟩))).1 k_ hk_.symm) ?aF ?aO ?aB ?aS ?aL ?_; (case aP => exact Kd.M_row (Kd.R_mono (Kd.R_tight rfl (Kd.R_mono (ok' := fun k_ => ((fun _ => True)) k_ ∧ some k_ ≠ (.slice (some ad458) x5_4.length co30 : Value).ownBlock) (Kd.R_apart' (HO464.out) (Kd.S_typed HO_5.out) (by decide)) (fun k_ hk => ⟨trivial, hk.2⟩))) (fun _ h_ => h_))); (case aB => exact (sq_bs HB.out)); (case aF => exact (fun _ _ => trivial)); (case aO => exact (by (with_reducible repeat (first | apply Kd.S_alloc | apply Kd.S_drewN | apply Kd.S_drew)); exact Kd.S_mono HO_5.out (fun k_ hk => ⟨trivial, fun e_ => hk.2 e_⟩))); (case aS => exact (below_size (sq_bs HB.out))); (case aL => have := LMc28.out; omega); intro v467 w36 ho hb hg hat; rw [← Ny466.out] at ho; have n0_ := Aside0.mk (blk_grown (g := gb453) (o := .cells #[.int .i64 a0_0, .slice A0_1 l0_1.length c0_1, .slice A0_2 l0_2.length c0_2] 25 (0, 0)) (sq_bk BK453.out) hg (Kd.S_ne HO_5.out BK453.out (by decide))); have n1_ := Aside0.mk (Kd.R_after (ok := (fun k_ => some k_ ≠ (.slice Ao34 y462.length co34 : Value).ownBlock)) (by (with_reducible repeat (first | apply Kd.R_alloc | apply Kd.R_drewN | apply Kd.R_drew)); exact Kd.R_mono HL458_0.out (fun _ hk => ⟨hk.2, hk.1⟩)) hg hat); have n2_ := Aside0.mk (hb); have n3_ := Aside0.mk (ho); clear BK453; clear HL458_0; clear HB; clear HO_5; clear HO464; have BK453 := n0_; have HL458_0 := n1_; have HB := n2_; have HO468 := n3_; clear n0_ n1_ n2_ n3_; clear ho hb hg hat))
         go_roundg k4
         case measure => have := HJ2.out; have := HK2.out; have := HK3.out; have := HK4.out; omega
         case rel => exact ⟨(y466), (wrap64 (x10_4 + 1)), (by first | rfl | (simp; done) | (simp [*]; done)), H', ⟨by have := HJ2.out; have := HK2.out; have := HK3.out; have := HK4.out; omega⟩, ⟨by (with_reducible repeat (first | apply Kd.S_alloc | apply Kd.S_drewN | apply Kd.S_drew)); exact HO468.out⟩, ⟨sq_bk BK453.out⟩, ⟨sq_bs HB.out⟩⟩
end Go.Proofs.Ytcnliampiibpbaa.PAll
