/- Lean functions for Go functions, each with the proof that the call returns what it says; printed by wip/tools/myprint.py. -/
-- squeezed
import Derived.Test.YtcnliampiibpbaaPAllx0
import Derived.Test.YtcnliampiibpbaaPAllx4
import Derived.Test.YtcnliampiibpbaaPAllx20
namespace Go.Proofs.Ytcnliampiibpbaa.PAll
open Go.RowKit Go.Proofs.YtcnliampiibpbaaW.PrintWords Go.Proofs.YtcnliampiibpbaaW.PrintLast Go.Proofs.YtcnliampiibpbaaW.PrintMore
attribute [local go_sem] Instr.field asAgg max2_int min2_int max_two min_two max_three min_three max_four min_four   -- for this text's walks alone
set_option linter.unusedVariables false
set_option linter.unusedSimpArgs false

/-! ### system_Traces: function 22 -/
mutual
def system_Traces.j0 : Nat → Int → Bool → Int → List ByteArray → List (S44) → Option ((List (List Int)))
 | 0, _, _, _, _, _ => none
 | k + 1, x1, x26, x401000, x401001, x401002 => if x26 = true then (some ([] : List (List Int))) else (if 0 ≤ x401000 then (if (x401000 : Int).toNat ≤ 281474976710656 then ((some (List.replicate (x401000 : Int).toNat false : List Bool)).bind fun y402 => (if 0 < (y402.length : Int) then (system_Traces.l0 k x1 (([(⟨([] : List Int), (y402.set (0 : Int).toNat true)⟩ : S55)] : List (S55))) ([] : List (List Int)) 0 x401000 x401001 x401002) else (none))) else (none)) else (none))
def system_Traces.l0 : Nat → Int → List (S55) → List (List Int) → Int → Int → List ByteArray → List (S44) → Option ((List (List Int)))
 | 0, _, _, _, _, _, _, _ => none
 | k + 1, x1, x6, x7, x8, x401000, x401001, x401002 => if x8 ≤ x1 then (system_Traces.l1 k x1 x7 x8 ([] : List (S55)) x6 (x6.length : Int) 0 x401000 x401001 x401002) else (some x7)
def system_Traces.l1 : Nat → Int → List (List Int) → Int → List (S55) → List (S55) → Int → Int → Int → List ByteArray → List (S44) → Option ((List (List Int)))
 | 0, _, _, _, _, _, _, _, _, _, _ => none
 | k + 1, x1, x7, x8, x9, x40, x41, x42, x401000, x401001, x401002 => if x42 < x41 then (if 0 ≤ x42 then (if x42 < (x40.length : Int) then (if (x7.length : Int) = 5000 then (some x7) else (if x7.length < 5864062014805 then (system_Traces.l2 k x1 (x7 ++ [(rd_T55 x40 x42).f0]) x8 x9 x40 x41 x42 (x401001.length : Int) 0 x401000 x401001 x401002 ((rd_T55 x40 x42).f0) ((rd_T55 x40 x42).f1)) else (none))) else (none)) else (none)) else (system_Traces.l0 k x1 x9 x7 (wrap64 (x8 + 1)) x401000 x401001 x401002)
def system_Traces.l2 : Nat → Int → List (List Int) → Int → List (S55) → List (S55) → Int → Int → Int → Int → Int → List ByteArray → List (S44) → List Int → List Bool → Option ((List (List Int)))
 | 0, _, _, _, _, _, _, _, _, _, _, _, _, _, _ => none
 | k + 1, x1, x7, x8, x9, x40, x41, x42, x57, x58, x401000, x401001, x401002, x411000, x411001 => if x58 < x57 then ((system_after.f k x401000 x401001 x401002 x411001 x58).bind fun bt414 => (if bt414.2 = true then (if x8 < x1 then (if 0 ≤ (wrap64 ((x411000.length : Int) + 1)) then (if (wrap64 ((x411000.length : Int) + 1) : Int).toNat ≤ 35184372088832 then ((some (List.replicate 0 0 : List Int)).bind fun y418 => (if y418.length + x411000.length < 17592186044416 then ((some (y418 ++ x411000 : List Int)).bind fun y421 => (if y421.length < 17592186044416 then (if x9.length < 2932031007402 then (system_Traces.l2 k x1 x7 x8 (x9 ++ [(⟨(y421 ++ [x58]), bt414.1⟩ : S55)]) x40 x41 x42 x57 (wrap64 (x58 + 1)) x401000 x401001 x401002 x411000 x411001) else (none)) else (none))) else (none))) else (none)) else (none)) else (system_Traces.l2 k x1 x7 x8 x9 x40 x41 x42 x57 (wrap64 (x58 + 1)) x401000 x401001 x401002 x411000 x411001)) else (system_Traces.l2 k x1 x7 x8 x9 x40 x41 x42 x57 (wrap64 (x58 + 1)) x401000 x401001 x401002 x411000 x411001))) else (system_Traces.l1 k x1 x7 x8 x9 x40 x41 (wrap64 (x42 + 1)) x401000 x401001 x401002)
end
def system_Traces.f (k : Nat) (a0_0 : Int) (l0_1 : List ByteArray) (l0_2 : List (S44)) (a1 : Int) : Option ((List (List Int))) := (system_valid.f k a0_0 l0_1 l0_2).bind fun t401 => (if t401 = true then (if a1 < 0 then (system_Traces.j0 k a1 true a0_0 l0_1 l0_2) else (system_Traces.j0 k a1 (decide (a1 > 6)) a0_0 l0_1 l0_2)) else (system_Traces.j0 k a1 true a0_0 l0_1 l0_2))
theorem system_Traces.mono_l : ∀ k, (∀ y0 y1 y2 y3 y4, LeO (system_Traces.j0 k y0 y1 y2 y3 y4) (system_Traces.j0 (k + 1) y0 y1 y2 y3 y4)) ∧ (∀ y0 y1 y2 y3 y4 y5 y6, LeO (system_Traces.l0 k y0 y1 y2 y3 y4 y5 y6) (system_Traces.l0 (k + 1) y0 y1 y2 y3 y4 y5 y6)) ∧ (∀ y0 y1 y2 y3 y4 y5 y6 y7 y8 y9, LeO (system_Traces.l1 k y0 y1 y2 y3 y4 y5 y6 y7 y8 y9) (system_Traces.l1 (k + 1) y0 y1 y2 y3 y4 y5 y6 y7 y8 y9)) ∧ (∀ y0 y1 y2 y3 y4 y5 y6 y7 y8 y9 y10 y11 y12 y13, LeO (system_Traces.l2 k y0 y1 y2 y3 y4 y5 y6 y7 y8 y9 y10 y11 y12 y13) (system_Traces.l2 (k + 1) y0 y1 y2 y3 y4 y5 y6 y7 y8 y9 y10 y11 y12 y13))
 | 0 => ⟨fun _ _ _ _ _ r h => by simp [system_Traces.j0] at h, fun _ _ _ _ _ _ _ r h => by simp [system_Traces.l0] at h, fun _ _ _ _ _ _ _ _ _ _ r h => by simp [system_Traces.l1] at h, fun _ _ _ _ _ _ _ _ _ _ _ _ _ _ r h => by simp [system_Traces.l2] at h⟩
 | k + 1 => by
  obtain ⟨ih0, ih1, ih2, ih3⟩ := system_Traces.mono_l k
  refine ⟨?_, ?_, ?_, ?_⟩
  ·intro y0 y1 y2 y3 y4
   unfold system_Traces.j0
   repeat' first
   | (with_reducible exact ih0 _ _ _ _ _)
   | (with_reducible exact ih1 _ _ _ _ _ _ _)
   | (with_reducible exact ih2 _ _ _ _ _ _ _ _ _ _)
   | (with_reducible exact ih3 _ _ _ _ _ _ _ _ _ _ _ _ _ _)
   | (with_reducible exact system_after.mono _ _ _ _ _ _)
   | (with_reducible exact system_valid.mono _ _ _ _)
   | (with_reducible exact LeO.refl _)
   | (with_reducible exact LeO.none _)
   | (with_reducible refine LeO.ite ?_ ?_)
   | (with_reducible refine LeO.bind ?_ (fun _ => ?_))
  ·intro y0 y1 y2 y3 y4 y5 y6
   unfold system_Traces.l0
   repeat' first
   | (with_reducible exact ih0 _ _ _ _ _)
   | (with_reducible exact ih1 _ _ _ _ _ _ _)
   | (with_reducible exact ih2 _ _ _ _ _ _ _ _ _ _)
   | (with_reducible exact ih3 _ _ _ _ _ _ _ _ _ _ _ _ _ _)
   | (with_reducible exact system_after.mono _ _ _ _ _ _)
   | (with_reducible exact system_valid.mono _ _ _ _)
   | (with_reducible exact LeO.refl _)
   | (with_reducible exact LeO.none _)
   | (with_reducible refine LeO.ite ?_ ?_)
   | (with_reducible refine LeO.bind ?_ (fun _ => ?_))
  ·intro y0 y1 y2 y3 y4 y5 y6 y7 y8 y9
   unfold system_Traces.l1
   repeat' first
   | (with_reducible exact ih0 _ _ _ _ _)
   | (with_reducible exact ih1 _ _ _ _ _ _ _)
   | (with_reducible exact ih2 _ _ _ _ _ _ _ _ _ _)
   | (with_reducible exact ih3 _ _ _ _ _ _ _ _ _ _ _ _ _ _)
   | (with_reducible exact system_after.mono _ _ _ _ _ _)
   | (with_reducible exact system_valid.mono _ _ _ _)
   | (with_reducible exact LeO.refl _)
   | (with_reducible exact LeO.none _)
   | (with_reducible refine LeO.ite ?_ ?_)
   | (with_reducible refine LeO.bind ?_ (fun _ => ?_))
  ·intro y0 y1 y2 y3 y4 y5 y6 y7 y8 y9 y10 y11 y12 y13
   unfold system_Traces.l2
   repeat' first
   | (with_reducible exact ih0 _ _ _ _ _)
   | (with_reducible exact ih1 _ _ _ _ _ _ _)
   | (with_reducible exact ih2 _ _ _ _ _ _ _ _ _ _)
   | (with_reducible exact ih3 _ _ _ _ _ _ _ _ _ _ _ _ _ _)
   | (with_reducible exact system_after.mono _ _ _ _ _ _)
   | (with_reducible exact system_valid.mono _ _ _ _)
   | (with_reducible exact LeO.refl _)
   | (with_reducible exact LeO.none _)
   | (with_reducible refine LeO.ite ?_ ?_)
   | (with_reducible refine LeO.bind ?_ (fun _ => ?_))
theorem system_Traces.mono : ∀ a0 a1 a2 a3 k, LeO (system_Traces.f k a0 a1 a2 a3) (system_Traces.f (k + 1) a0 a1 a2 a3) := by
 intro a0 a1 a2 a3 k
 obtain ⟨ih0, ih1, ih2, ih3⟩ := system_Traces.mono_l k
 unfold system_Traces.f
 repeat' first
   | (with_reducible exact ih0 _ _ _ _ _)
   | (with_reducible exact ih1 _ _ _ _ _ _ _)
   | (with_reducible exact ih2 _ _ _ _ _ _ _ _ _ _)
   | (with_reducible exact ih3 _ _ _ _ _ _ _ _ _ _ _ _ _ _)
   | (with_reducible exact system_after.mono _ _ _ _ _ _)
   | (with_reducible exact system_valid.mono _ _ _ _)
   | (with_reducible exact LeO.refl _)
   | (with_reducible exact LeO.none _)
   | (with_reducible refine LeO.ite ?_ ?_)
   | (with_reducible refine LeO.bind ?_ (fun _ => ?_))
theorem V_elder_ {α : Type} {d : Kd α} {e base : Nat} {W w1 : World} {ok : Nat → Prop} {u v : Value} {xs : List α} (h : Kd.V d e W base ok v xs) (hbase : ∀ k, u.ownBlock = some k → W.heap.size ≤ k) (hb : Below W.heap.size W w1) : Kd.V d e w1 base (fun k => ok k ∧ some k ≠ u.ownBlock) v xs := Kd.V_map h (fun _ hf => Kd.F_mono (Kd.F_below (Kd.F_bound hf) hb) (fun k hk => ⟨hk.1, fun he => by have := hbase k he.symm; have := hk.2; omega⟩))
theorem sqt_v {α : Type} {d : Kd α} {e : TypeId} {base : Nat} {ok : Nat → Prop} {v : Value} {xs : List α} {W0 W : World} (h : Kd.V d e W0 base ok v xs) (l : Below W0.heap.size W0 W := by repeat (first | (with_reducible first | exact Below.refl _ _ | apply below_alloc | apply pw_below_drewN | apply below_drew1) | exact Below.refl _ _)) : Kd.V d e W base ok v xs := Kd.V_below h l
theorem sqt_n {α : Type} {d : Kd α} {e : TypeId} {base : Nat} {ok : Nat → Prop} {v : Value} {xs : List α} {W0 W : World} (h : Kd.N d e W0 base ok v xs) (l : Below W0.heap.size W0 W := by repeat (first | (with_reducible first | exact Below.refl _ _ | apply below_alloc | apply pw_below_drewN | apply below_drew1) | exact Below.refl _ _)) : Kd.N d e W base ok v xs := Kd.N_below h l
set_option maxHeartbeats 8000000 in
set_option maxRecDepth 100000 in
theorem system_Traces.calls (k : Nat) (a0_0 : Int) (A0_1 : Option Addr) (c0_1 : Nat) (l0_1 : List ByteArray) (A0_2 : Option Addr) (c0_2 : Nat) (l0_2 : List (S44)) (a1 : Int) (r : List (List Int)) (w : World) (hr0_1 : Kd.C Kd.string w A0_1 l0_1.length l0_1) (hc0_1 : l0_1.length ≤ c0_1) (hr0_2 : Kd.C k44 w A0_2 l0_2.length l0_2) (hc0_2 : l0_2.length ≤ c0_2) (h : system_Traces.f k a0_0 l0_1 l0_2 a1 = some r) :
  Calls Try.prog 22 #[.agg #[.int .i64 a0_0, .slice A0_1 l0_1.length c0_1, .slice A0_2 l0_2.length c0_2], .int .i64 a1] w fun e w' => ∃ v0_ : Value, e = .returned (v0_) ∧ Kd.N (Kd.slice 3 (Kd.int .i64)) 34 w' w.heap.size (fun k_ => (w.heap.size ≤ k_)) v0_ r ∧ Below w.heap.size w w' := by
 have hv30 := Try.underlying30
 have hu25 := Try.underlying25
 have hu55 := Try.underlying55
 have HR0_1 := Aside0.mk hr0_1
 have HC0_1 := Aside0.mk hc0_1
 clear hr0_1 hc0_1
 have HR0_2 := Aside0.mk hr0_2
 have HC0_2 := Aside0.mk hc0_2
 clear hr0_2 hc0_2
 have HB := Aside0.mk (Below.refl w.heap.size w)
 have H : ((system_valid.f k a0_0 l0_1 l0_2).bind fun t401 => (if t401 = true then (if a1 < 0 then (system_Traces.j0 k a1 true a0_0 l0_1 l0_2) else (system_Traces.j0 k a1 (decide (a1 > 6)) a0_0 l0_1 l0_2)) else (system_Traces.j0 k a1 true a0_0 l0_1 l0_2))) = some r := h
 clear h
 have HC3 := Aside0.mk H
 clear H
 go_enter Try.func22, Try.ntmps22
 go_upto_region 1 with (first | ((with_reducible refine gate_dst (N := 2) rfl ?_); refine sq_box 2 #[.int .i64 a0_0, .slice A0_1 l0_1.length c0_1, .slice A0_2 l0_2.length c0_2] 25 ?_; intro gb400 hg w4 hbox hb; have n0_ := Aside0.mk (below_step (sq_bl HB.out) hb); have n1_ := Aside0.mk (hbox); have n2_ := Aside0.mk ((by rw [hg]; exact (below_size (sq_bl HB.out)) : w.heap.size ≤ gb400)); have n3_ := Aside0.mk ((by rw [hg]; exact (below_size (sq_bl HB.out)) : w.heap.size ≤ gb400)); clear HB; have HB := n0_; have BK400 := n1_; have GW400 := n2_; have GE400 := n3_; clear n0_ n1_ n2_ n3_; clear hb hbox hg))
 (try simp only [Act.put, List.setIfInBounds_toArray, List.set_cons_zero, List.set_cons_succ])
 go_cut [26] (fun v26 wc => ∃ (kq : Nat) (x26_2 : Bool), v26 = .bool x26_2 ∧ Aside0 (system_Traces.j0 kq a1 x26_2 a0_0 l0_1 l0_2 = some r) ∧ Aside0 (kq ≤ k) ∧ Aside0 (wc.heap[gb400]? = some (.cells #[.int .i64 a0_0, (.slice A0_1 l0_1.length c0_1), (.slice A0_2 l0_2.length c0_2)] 25 (0, 0))) ∧ Aside0 (Below w.heap.size w wc))
 case first =>
  have H := HC3.out
  clear HC3
  replace H := Option.bind_eq_some_iff.mp H
  obtain ⟨t401, A50, H⟩ := H
  replace H : (if t401 = true then (if a1 < 0 then (system_Traces.j0 k a1 true a0_0 l0_1 l0_2) else (system_Traces.j0 k a1 (decide (a1 > 6)) a0_0 l0_1 l0_2)) else (system_Traces.j0 k a1 true a0_0 l0_1 l0_2)) = some r := H
  have A5 := Aside0.mk A50
  clear A50
  by_cases c6 : t401 = true
  rotate_left
  ·replace c6 := Bool.eq_false_iff.mpr c6
   subst c6
   have H1 : (system_Traces.j0 k a1 true a0_0 l0_1 l0_2) = some r := by rw [if_neg (show ¬ (false = true) by decide)] at H; exact H
   clear H
   have H := H1
   clear H1
   have H' := Aside0.mk H
   clear H
   have hcz12_0 : w4.cell? ⟨gb400, 0, none⟩ = some (.int .i64 a0_0) := (blk_cell BK400.out 0).trans rfl
   have hcz12_1 : w4.cell? ⟨gb400, 1, none⟩ = some (.slice A0_1 l0_1.length c0_1) := (blk_cell BK400.out 1).trans rfl
   have hcz12_2 : w4.cell? ⟨gb400, 2, none⟩ = some (.slice A0_2 l0_2.length c0_2) := (blk_cell BK400.out 2).trans rfl
   have hfz12_0 := blk_frozen BK400.out 0
   have hfz12_1 := blk_frozen BK400.out 1
   have hfz12_2 := blk_frozen BK400.out 2
   go_wp2_with (first | ((with_reducible refine gate_callee (f := 31) rfl ?_); refine sq_goes (some 17) Try.func31 #[.agg #[.int .i64 a0_0, .slice A0_1 l0_1.length c0_1, .slice A0_2 l0_2.length c0_2]] ?_; (with_reducible refine (system_valid.calls k a0_0 _ _ l0_1 _ _ l0_2 false _ ?side1 ?side2 ?side3 ?side4 A5.out).mono ?_); (case side1 => exact sq_kc ((Kd.C_below HR0_1.out HB.out))); (case side2 => exact HC0_1.out); (case side3 => exact sq_kc ((Kd.C_below HR0_2.out HB.out))); (case side4 => exact HC0_2.out); rintro e w13 ⟨rfl, hb⟩; refine ⟨_, rfl, ?_⟩; have n0_ := Aside0.mk (blk_below (g := gb400) (o := .cells #[.int .i64 a0_0, .slice A0_1 l0_1.length c0_1, .slice A0_2 l0_2.length c0_2] 25 (0, 0)) (sq_bk BK400.out) hb); have n1_ := Aside0.mk (below_step (sq_bs HB.out) hb); clear BK400; clear HB; have BK400 := n0_; have HB := n1_; clear n0_ n1_; (try clear hb)))
   go_meet
   case rel => exact ⟨_, (true), (by first | rfl | (simp; done) | (simp [*]; done)), H', ⟨by first | omega | exact Nat.le_refl _⟩, ⟨sq_bk BK400.out⟩, ⟨sq_bs HB.out⟩⟩
  subst c6
  have H1 : (if a1 < 0 then (system_Traces.j0 k a1 true a0_0 l0_1 l0_2) else (system_Traces.j0 k a1 (decide (a1 > 6)) a0_0 l0_1 l0_2)) = some r := by rw [if_pos rfl] at H; exact H
  clear H
  have H := H1
  clear H1
  by_cases c7 : a1 < 0
  rotate_left
  ·rw [if_neg c7] at H
   have c7b0 : decide (a1 < 0) = false := decide_eq_false c7
   clear c7
   (first | rw [c7b0] | (simp only [i64_w, i32_w]; rw [c7b0]) | skip)
   have H' := Aside0.mk H
   clear H
   have hcz10_0 : w4.cell? ⟨gb400, 0, none⟩ = some (.int .i64 a0_0) := (blk_cell BK400.out 0).trans rfl
   have hcz10_1 : w4.cell? ⟨gb400, 1, none⟩ = some (.slice A0_1 l0_1.length c0_1) := (blk_cell BK400.out 1).trans rfl
   have hcz10_2 : w4.cell? ⟨gb400, 2, none⟩ = some (.slice A0_2 l0_2.length c0_2) := (blk_cell BK400.out 2).trans rfl
   have hfz10_0 := blk_frozen BK400.out 0
   have hfz10_1 := blk_frozen BK400.out 1
   have hfz10_2 := blk_frozen BK400.out 2
   go_wp2_with (first | ((with_reducible refine gate_callee (f := 31) rfl ?_); refine sq_goes (some 17) Try.func31 #[.agg #[.int .i64 a0_0, .slice A0_1 l0_1.length c0_1, .slice A0_2 l0_2.length c0_2]] ?_; (with_reducible refine (system_valid.calls k a0_0 _ _ l0_1 _ _ l0_2 true _ ?side1 ?side2 ?side3 ?side4 A5.out).mono ?_); (case side1 => exact sq_kc ((Kd.C_below HR0_1.out HB.out))); (case side2 => exact HC0_1.out); (case side3 => exact sq_kc ((Kd.C_below HR0_2.out HB.out))); (case side4 => exact HC0_2.out); rintro e w11 ⟨rfl, hb⟩; refine ⟨_, rfl, ?_⟩; have n0_ := Aside0.mk (blk_below (g := gb400) (o := .cells #[.int .i64 a0_0, .slice A0_1 l0_1.length c0_1, .slice A0_2 l0_2.length c0_2] 25 (0, 0)) (sq_bk BK400.out) hb); have n1_ := Aside0.mk (below_step (sq_bs HB.out) hb); clear BK400; clear HB; have BK400 := n0_; have HB := n1_; clear n0_ n1_; (try clear hb)))
   go_meet
   case rel => exact ⟨_, (decide (a1 > 6)), (by first | rfl | (simp; done) | (simp [*]; done)), H', ⟨by first | omega | exact Nat.le_refl _⟩, ⟨sq_bk BK400.out⟩, ⟨sq_bs HB.out⟩⟩
  rw [if_pos c7] at H
  have c7b0 : decide (a1 < 0) = true := decide_eq_true c7
  clear c7
  (first | rw [c7b0] | (simp only [i64_w, i32_w]; rw [c7b0]) | skip)
  have H' := Aside0.mk H
  clear H
  have hcz8_0 : w4.cell? ⟨gb400, 0, none⟩ = some (.int .i64 a0_0) := (blk_cell BK400.out 0).trans rfl
  have hcz8_1 : w4.cell? ⟨gb400, 1, none⟩ = some (.slice A0_1 l0_1.length c0_1) := (blk_cell BK400.out 1).trans rfl
  have hcz8_2 : w4.cell? ⟨gb400, 2, none⟩ = some (.slice A0_2 l0_2.length c0_2) := (blk_cell BK400.out 2).trans rfl
  have hfz8_0 := blk_frozen BK400.out 0
  have hfz8_1 := blk_frozen BK400.out 1
  have hfz8_2 := blk_frozen BK400.out 2
  go_wp2_with (first | ((with_reducible refine gate_callee (f := 31) rfl ?_); refine sq_goes (some 17) Try.func31 #[.agg #[.int .i64 a0_0, .slice A0_1 l0_1.length c0_1, .slice A0_2 l0_2.length c0_2]] ?_; (with_reducible refine (system_valid.calls k a0_0 _ _ l0_1 _ _ l0_2 true _ ?side1 ?side2 ?side3 ?side4 A5.out).mono ?_); (case side1 => exact sq_kc ((Kd.C_below HR0_1.out HB.out))); (case side2 => exact HC0_1.out); (case side3 => exact sq_kc ((Kd.C_below HR0_2.out HB.out))); (case side4 => exact HC0_2.out); rintro e w9 ⟨rfl, hb⟩; refine ⟨_, rfl, ?_⟩; have n0_ := Aside0.mk (blk_below (g := gb400) (o := .cells #[.int .i64 a0_0, .slice A0_1 l0_1.length c0_1, .slice A0_2 l0_2.length c0_2] 25 (0, 0)) (sq_bk BK400.out) hb); have n1_ := Aside0.mk (below_step (sq_bs HB.out) hb); clear BK400; clear HB; have BK400 := n0_; have HB := n1_; clear n0_ n1_; (try clear hb)))
  go_meet
  case rel => exact ⟨_, (true), (by first | rfl | (simp; done) | (simp [*]; done)), H', ⟨by first | omega | exact Nat.le_refl _⟩, ⟨sq_bk BK400.out⟩, ⟨sq_bs HB.out⟩⟩
 case rest =>
  clear HC3
  obtain ⟨kq, x26_2, rfl, HA, HJ2, BK400, HB⟩ := hcut
  cases kq with
  | zero => exact absurd HA.out (by simp [system_Traces.j0])
  | succ kj2 =>
   have H := HA.out
   clear HA
   simp only [system_Traces.j0] at H
   by_cases c14 : x26_2 = true
   ·subst c14
    have H1 : (some ([] : List (List Int))) = some r := by rw [if_pos rfl] at H; exact H
    clear H
    have H := H1
    clear H1
    obtain rfl := Option.some.inj H
    go_wp2
    go_ret
    exact ⟨_, by first | rfl | (simp [errW_none, errW_some] <;> rfl) | (simp [*, errW_none, errW_some] <;> rfl), by first | exact Kd.S_nil _ _ _ _ _ | exact Kd.N_nil _ _ _ _ _ | exact Kd.V_nil _ _ _ _ _ | exact Kd.Q_nil _ _ _ _ _ | exact Kd.R_nil _ _ _ _ _, sq_bs HB.out⟩
   replace c14 := Bool.eq_false_iff.mpr c14
   subst c14
   have H1 : (if 0 ≤ a0_0 then (if (a0_0 : Int).toNat ≤ 281474976710656 then ((some (List.replicate (a0_0 : Int).toNat false : List Bool)).bind fun y402 => (if 0 < (y402.length : Int) then (system_Traces.l0 kj2 a1 (([(⟨([] : List Int), (y402.set (0 : Int).toNat true)⟩ : S55)] : List (S55))) ([] : List (List Int)) 0 a0_0 l0_1 l0_2) else (none))) else (none)) else (none)) = some r := by rw [if_neg (show ¬ (false = true) by decide)] at H; exact H
   clear H
   have H := H1
   clear H1
   by_cases c15 : 0 ≤ a0_0
   rotate_left
   ·rw [if_neg c15] at H
    exact absurd H (by simp)
   rw [if_pos c15] at H
   have c15b0 := eq_true c15
   have c15b1 : decide (0 ≤ a0_0) = true := decide_eq_true c15
   clear c15
   by_cases c16 : (a0_0 : Int).toNat ≤ 281474976710656
   rotate_left
   ·rw [if_neg c16] at H
    exact absurd H (by simp)
   rw [if_pos c16] at H
   have c16b0 := eq_true c16
   have c16b1 : decide ((a0_0 : Int).toNat ≤ 281474976710656) = true := decide_eq_true c16
   clear c16
   obtain ⟨y402, hy402⟩ : ∃ y_ : List Bool, y_ = (List.replicate (a0_0 : Int).toNat false) := ⟨_, rfl⟩
   replace H : (if 0 < (y402.length : Int) then (system_Traces.l0 kj2 a1 (([(⟨([] : List Int), (y402.set (0 : Int).toNat true)⟩ : S55)] : List (S55))) ([] : List (List Int)) 0 a0_0 l0_1 l0_2) else (none)) = some r := by first | (rw [hy402]; with_reducible exact H) | (have H2_ := (Option.bind_some _ _).symm.trans H; rw [hy402]; with_reducible exact H2_) | (have H2_ := (Option.bind_some _ _).symm.trans H; with_reducible exact H2_) | with_reducible exact H | (rw [hy402]; exact H) | exact H
   have Ny402 := Aside0.mk hy402
   clear hy402
   by_cases c17 : 0 < (y402.length : Int)
   rotate_left
   ·rw [if_neg c17] at H
    exact absurd H (by simp)
   rw [if_pos c17] at H
   have c17b0 : decide (0 < (y402.length : Int)) = true := decide_eq_true c17
   have c17b1 : decide (0 < y402.length) = true := decide_eq_true (by omega)
   clear c17
   obtain ⟨y405, hy405⟩ : ∃ y_ : List Bool, y_ = (y402.set (0 : Int).toNat true) := ⟨_, rfl⟩
   replace H : (system_Traces.l0 kj2 a1 (([(⟨([] : List Int), y405⟩ : S55)] : List (S55))) ([] : List (List Int)) 0 a0_0 l0_1 l0_2) = some r := by first | (rw [hy405]; with_reducible exact H) | (have H2_ := (Option.bind_some _ _).symm.trans H; rw [hy405]; with_reducible exact H2_) | (have H2_ := (Option.bind_some _ _).symm.trans H; with_reducible exact H2_) | with_reducible exact H | (rw [hy405]; exact H) | exact H
   have Ny405 := Aside0.mk hy405
   clear hy405
   obtain ⟨y406, hy406⟩ : ∃ y_ : List (S55), y_ = (([(⟨([] : List Int), y405⟩ : S55)] : List (S55))) := ⟨_, rfl⟩
   replace H : (system_Traces.l0 kj2 a1 y406 ([] : List (List Int)) 0 a0_0 l0_1 l0_2) = some r := by first | (rw [hy406]; with_reducible exact H) | (have H2_ := (Option.bind_some _ _).symm.trans H; rw [hy406]; with_reducible exact H2_) | (have H2_ := (Option.bind_some _ _).symm.trans H; with_reducible exact H2_) | with_reducible exact H | (rw [hy406]; exact H) | exact H
   have Ny406 := Aside0.mk hy406
   clear hy406
   have H' := Aside0.mk H
   clear H
   have hcz19_0 : wc.cell? ⟨gb400, 0, none⟩ = some (.int .i64 a0_0) := (blk_cell BK400.out 0).trans rfl
   have hcz19_1 : wc.cell? ⟨gb400, 1, none⟩ = some (.slice A0_1 l0_1.length c0_1) := (blk_cell BK400.out 1).trans rfl
   have hcz19_2 : wc.cell? ⟨gb400, 2, none⟩ = some (.slice A0_2 l0_2.length c0_2) := (blk_cell BK400.out 2).trans rfl
   have hfz19_0 := blk_frozen BK400.out 0
   have hfz19_1 := blk_frozen BK400.out 1
   have hfz19_2 := blk_frozen BK400.out 2
   go_wp2_with (first | ((with_reducible refine gate_dst (N := 29) rfl ?_); refine Kd.R_make Kd.bool _ 4 rfl (N := 29) rfl 50 _ _ rfl a0_0 rfl rfl Try.underlying50 (.bool false) 1 info4 rfl (by decide) (by omega) false (ok := fun _ => True) (okp := fun _ => True) rfl (fun _ hk => hk) trivial sq_d (Nat.le_trans (Nat.mul_le_mul_right _ (sq_d : a0_0.toNat ≤ 281474976710656)) (by omega)) (Below.refl _ _) (Nat.le_refl _) ?_; intro v403 w20 ho21 hb hg_ hnew_; clear hg_ hnew_; (first | rw [← Ny402.out] at ho21 | (simp only [Int.reduceToNat] at ho21; rw [← Ny402.out] at ho21)); have n0_ := Aside0.mk (Kd.R_lower (Kd.R_newM (M := fun k_ => (w.heap.size ≤ k_)) ho21 (below_size (sq_bs HB.out)) (fun k_ h_ => h_)) (below_size (sq_bs HB.out))); have n1_ := Aside0.mk (blk_below (g := gb400) (o := .cells #[.int .i64 a0_0, .slice A0_1 l0_1.length c0_1, .slice A0_2 l0_2.length c0_2] 25 (0, 0)) (sq_bk BK400.out) hb); have n2_ := Aside0.mk (below_step (sq_bs HB.out) hb); clear BK400; clear HB; have HO404 := n0_; have BK400 := n1_; have HB := n2_; clear n0_ n1_ n2_; clear hb ho21; have p18 : 0 ≤ (0 : Int) := (by omega); have q18 : (0 : Int) < ((y402.length : Int) : Int) := sq_d; have qi18 : (0 < y402.length) = True := eq_true (by omega); obtain ⟨go18, co18, eo18, gb18, gl18, cl18, HG18⟩ := Kd.R_form HO404.out (by omega); (first | cases eo18 | (injection eo18 with ea_ en_ ec_; (first | subst ea_ | (injection ea_ with ea_; subst ea_)); subst ec_; clear en_)); have GB18 := Aside0.mk gb18; have GG18 := Aside0.mk HG18; clear gb18 gl18 HG18; obtain ⟨hx18_0, hf18_0⟩ := Kd.R_celln false HO404.out (0 : Int) p18 q18; (try rw [show ((0 : Int)).toNat = 0 from rfl] at hx18_0); (try simp only [Nat.reduceMul, Nat.zero_mul, Nat.zero_add, Nat.reduceAdd] at hx18_0); (try rw [show ((0 : Int)).toNat = 0 from rfl] at hf18_0); (try simp only [Nat.reduceMul, Nat.zero_mul, Nat.zero_add, Nat.reduceAdd] at hf18_0); replace p18 := eq_true p18; replace q18 := eq_true q18; have n_ := Aside0.mk (Kd.R_mono (ok' := (fun k_ => (w.heap.size ≤ k_))) HO404.out (fun k_ hk => hk.1)); clear HO404; have HO404 := n_; clear n_; obtain ⟨hy22_, hz22_⟩ := Kd.R_celln false HO404.out (0 : Int) (by omega) sq_d; (try simp only [Int.reduceToNat, Int.toNat_zero, Int.toNat_ofNat, Nat.reduceMul, Nat.zero_mul, Nat.zero_add] at hy22_ hz22_); (try rw [show ((0 : Int)).toNat = 0 from rfl] at hy22_); (try rw [show ((0 : Int)).toNat = 0 from rfl] at hz22_); have HP22 := Kd.R_putg HO404.out (0 : Int) true) | ((with_reducible refine gate_store (t := 4) (p := 31) rfl ?_); refine store_event (t := 4) (p := 31) (v := ?vo_w23) (w1 := (w20.setCell ⟨go18, (0 : Int).toNat, none⟩ (.bool true))) ?hg ?ho ?hn ?hr ?_; (case ho => rfl); (case hg => rfl); (case hn => rfl); (case hr => first | (go_simp; done) | (go_simp; rfl)); intro w23 hw; have hg : w20.grownBy w23 (some go18) := (by rw [hw]; exact HP22.2); have hp_ : Kd.R Kd.bool 4 w23 w.heap.size (fun k_ => (w.heap.size ≤ k_)) (.slice (some ⟨go18, 0, none⟩) y402.length co18) y405 := (by rw [hw, Ny405.out]; exact HP22.1); clear HP22; have n0_ := Aside0.mk (blk_grown (g := gb400) (o := .cells #[.int .i64 a0_0, .slice A0_1 l0_1.length c0_1, .slice A0_2 l0_2.length c0_2] 25 (0, 0)) (sq_bk BK400.out) hg (Kd.R_ne HO404.out BK400.out (by decide))); have n1_ := Aside0.mk (hp_); have n2_ := Aside0.mk ((by rw [hw]; exact below_set (HB.out) GB18.out : Below w.heap.size w w23)); clear BK400; clear HO404; clear HB; have BK400 := n0_; have HO404 := n1_; have HB := n2_; clear n0_ n1_ n2_; clear hg hw hp_) | ((with_reducible refine gate_dst (N := 34) rfl ?_); refine Kd.N_lit k55 _ 55 ?hg (N' := 34) ?hd (xs := ([(⟨([] : List Int), y405⟩ : S55)] : List (S55))) (inner := [.slice none 0 0, .slice (some ⟨go18, 0, none⟩) y402.length co18]) (ok := (fun k_ => (w.heap.size ≤ k_) ∧ k_ ≠ gb400)) (okp := (fun k_ => (w.heap.size ≤ k_) ∧ k_ ≠ gb400)) ?hr ?hp (fun _ hk => hk) ((show ∀ k_, w23.heap.size ≤ k_ → (fun k_ => (w.heap.size ≤ k_) ∧ k_ ≠ gb400) k_ from fun k_ hk => ⟨(Nat.le_trans (below_size (sq_bs HB.out)) hk), Kd.freshB (g := gb400) (o := .cells #[.int .i64 a0_0, .slice A0_1 l0_1.length c0_1, .slice A0_2 l0_2.length c0_2] 25 (0, 0)) (sq_bk BK400.out) k_ hk⟩) _ (Nat.le_refl _)) (Below.refl _ _) (Nat.le_refl _) (by simp) ?_; (case hd => rfl); (case hg => rfl); (case hr => first | (go_simp; done) | (go_simp; rfl)); (case hp => have hl_ : y402.length = y405.length := (by rw [Ny405.out, List.length_set]); have ho_ := HO404.out; rw [hl_] at ho_; rw [hl_]; exact (Reps.c2 (show Kd.FK k55 _ _ (⟨([] : List Int), y405⟩ : S55) [.slice none 0 0, .slice (some ⟨go18, 0, none⟩) y405.length co18] from (k55_mkF _ _ (⟨([] : List Int), y405⟩ : S55) (Nat.le_refl _) (Kd.F_nil _ _ _) (Kd.R_reads' (Kd.R_mono (ok' := (fun k_ => (w.heap.size ≤ k_) ∧ k_ ≠ gb400)) (Kd.R_types (ho_) BK400.out (by decide)) (fun k_ hk => ⟨hk.1, hk.2⟩))).2.1 (Kd.R_F (Kd.R_mono (ok' := (fun k_ => (w.heap.size ≤ k_) ∧ k_ ≠ gb400)) (Kd.R_types (ho_) BK400.out (by decide)) (fun k_ hk => ⟨hk.1, hk.2⟩))))) (Reps.none _ _))); intro v407 w24 ho25 hb hg_ hnew_; clear hg_ hnew_; (first | rw [← Ny406.out] at ho25 | (simp only [Int.reduceToNat] at ho25; rw [← Ny406.out] at ho25)); have n0_ := Aside0.mk (Kd.N_lower ho25 (below_size (sq_bs HB.out))); have n1_ := Aside0.mk (blk_below (g := gb400) (o := .cells #[.int .i64 a0_0, .slice A0_1 l0_1.length c0_1, .slice A0_2 l0_2.length c0_2] 25 (0, 0)) (sq_bk BK400.out) hb); have n2_ := Aside0.mk (below_step (sq_bs HB.out) hb); clear BK400; clear HB; clear HO404; have HO408 := n0_; have BK400 := n1_; have HB := n2_; clear n0_ n1_ n2_; clear hb ho25))
   go_loopg [6, 7, 8] kj2 (fun kq v6 v7 v8 w' => ∃ (x6_2 : List (S55)) (x7_2 : List (List Int)) (x8_2 : Int), v8 = .int .i64 x8_2 ∧ Aside0 (system_Traces.l0 kq a1 x6_2 x7_2 x8_2 a0_0 l0_1 l0_2 = some r) ∧ Aside0 (kq ≤ kj2) ∧ Aside0 (Kd.N k55 55 w' w.heap.size (fun k_ => (w.heap.size ≤ k_) ∧ some k_ ≠ (v7 : Value).ownBlock ∧ k_ ≠ gb400) v6 x6_2) ∧ Aside0 (Kd.N (Kd.slice 3 (Kd.int .i64)) 34 w' w.heap.size (fun k_ => (w.heap.size ≤ k_) ∧ some k_ ≠ (v6 : Value).ownBlock ∧ k_ ≠ gb400) v7 x7_2) ∧ Aside0 (w'.heap[gb400]? = some (.cells #[.int .i64 a0_0, (.slice A0_1 l0_1.length c0_1), (.slice A0_2 l0_2.length c0_2)] 25 (0, 0))) ∧ Aside0 (Below w.heap.size w w'))
   case atStart => exact ⟨(y406), (([] : List (List Int))), (0), (by first | rfl | (simp; done) | (simp [*]; done)), H', ⟨Nat.le_refl _⟩, ⟨by (with_reducible repeat (first | apply Kd.N_alloc | apply Kd.N_drewN | apply Kd.N_drew)); exact Kd.N_mono HO408.out (fun _ hk => ⟨hk.1, ⟨(by simp [Value.ownBlock]), hk.2⟩⟩)⟩, ⟨by first | exact Kd.S_nil _ _ _ _ _ | exact Kd.N_nil _ _ _ _ _ | exact Kd.V_nil _ _ _ _ _ | exact Kd.Q_nil _ _ _ _ _ | exact Kd.R_nil _ _ _ _ _⟩, ⟨sq_bk BK400.out⟩, ⟨sq_bs HB.out⟩⟩
   case round =>
    clear H'
    try clear c14
    try clear c15b0
    try clear c15b1
    try clear c16b0
    try clear c16b1
    try clear c17b0
    try clear c17b1
    try clear p18
    try clear q18
    try clear qi18
    try clear hcz19_0
    try clear hcz19_1
    try clear hcz19_2
    try clear hfz19_0
    try clear hfz19_1
    try clear hfz19_2
    try clear hx18_0
    obtain ⟨x6_2, x7_2, x8_2, rfl, HA, HK2, HO_6, HO_7, BK400, HB⟩ := hrel
    cases gk with
    | zero => exact absurd HA.out (by simp [system_Traces.l0])
    | succ k2 =>
     have H := HA.out
     clear HA
     simp only [system_Traces.l0] at H
     by_cases c26 : x8_2 ≤ a1
     rotate_left
     ·rw [if_neg c26] at H
      have c26b0 : decide (x8_2 ≤ a1) = false := decide_eq_false c26
      clear c26
      obtain rfl := Option.some.inj H
      go_wp2
      go_ret
      exact ⟨_, by first | rfl | (simp [errW_none, errW_some] <;> rfl) | (simp [*, errW_none, errW_some] <;> rfl), by (with_reducible repeat (first | apply Kd.N_alloc | apply Kd.N_drewN | apply Kd.N_drew)); exact Kd.N_mono HO_7.out (fun _ hk => hk.1), sq_bs HB.out⟩
     rw [if_pos c26] at H
     have c26b0 : decide (x8_2 ≤ a1) = true := decide_eq_true c26
     clear c26
     have H' := Aside0.mk H
     clear H
     obtain ⟨Ao27, co27, eo27⟩ := Kd.N_slice HO_6.out
     subst eo27
     go_wp2
     go_loopg [7, 9, 42] k2 (fun kq v7 v9 v42 w' => ∃ (x7_3 : List (List Int)) (x9_3 : List (S55)) (x42_3 : Int), v42 = .int .i64 x42_3 ∧ Aside0 (system_Traces.l1 kq a1 x7_3 x8_2 x9_3 x6_2 (x6_2.length : Int) x42_3 a0_0 l0_1 l0_2 = some r) ∧ Aside0 (kq ≤ k2) ∧ Aside0 (Kd.N (Kd.slice 3 (Kd.int .i64)) 34 w' w.heap.size (fun k_ => (w.heap.size ≤ k_) ∧ some k_ ≠ (v9 : Value).ownBlock ∧ some k_ ≠ ((.slice Ao27 x6_2.length co27) : Value).ownBlock ∧ k_ ≠ gb400) v7 x7_3) ∧ Aside0 (Kd.N k55 55 w' w.heap.size (fun k_ => (w.heap.size ≤ k_) ∧ some k_ ≠ (v7 : Value).ownBlock ∧ some k_ ≠ ((.slice Ao27 x6_2.length co27) : Value).ownBlock ∧ k_ ≠ gb400) v9 x9_3) ∧ Aside0 (Kd.N k55 55 w' w.heap.size (fun k_ => (w.heap.size ≤ k_) ∧ some k_ ≠ (v7 : Value).ownBlock ∧ some k_ ≠ (v9 : Value).ownBlock ∧ k_ ≠ gb400) (.slice Ao27 x6_2.length co27) x6_2) ∧ Aside0 (w'.heap[gb400]? = some (.cells #[.int .i64 a0_0, (.slice A0_1 l0_1.length c0_1), (.slice A0_2 l0_2.length c0_2)] 25 (0, 0))) ∧ Aside0 (Below w.heap.size w w'))
     case atStart => exact ⟨(x7_2), (([] : List (S55))), (0), (by first | rfl | (simp; done) | (simp [*]; done)), H', ⟨Nat.le_refl _⟩, ⟨by (with_reducible repeat (first | apply Kd.N_alloc | apply Kd.N_drewN | apply Kd.N_drew)); exact Kd.N_mono HO_7.out (fun _ hk => ⟨hk.1, ⟨(by simp [Value.ownBlock]), ⟨hk.2.1, hk.2.2⟩⟩⟩)⟩, ⟨by first | exact Kd.S_nil _ _ _ _ _ | exact Kd.N_nil _ _ _ _ _ | exact Kd.V_nil _ _ _ _ _ | exact Kd.Q_nil _ _ _ _ _ | exact Kd.R_nil _ _ _ _ _⟩, ⟨by (with_reducible repeat (first | apply Kd.N_alloc | apply Kd.N_drewN | apply Kd.N_drew)); exact Kd.N_mono HO_6.out (fun _ hk => ⟨hk.1, ⟨hk.2.1, ⟨(by simp [Value.ownBlock]), hk.2.2⟩⟩⟩)⟩, ⟨sq_bk BK400.out⟩, ⟨sq_bs HB.out⟩⟩
     case round =>
      clear H'
      try clear c26b0
      obtain ⟨x7_3, x9_3, x42_3, rfl, HA, HK3, HO_7, HO_9, HO_40, BK400, HB⟩ := hrel
      cases gk with
      | zero => exact absurd HA.out (by simp [system_Traces.l1])
      | succ k3 =>
       have H := HA.out
       clear HA
       simp only [system_Traces.l1] at H
       by_cases c28 : x42_3 < (x6_2.length : Int)
       rotate_left
       ·rw [if_neg c28] at H
        have c28b0 : decide (x42_3 < (x6_2.length : Int)) = false := decide_eq_false c28
        clear c28
        have H' := Aside0.mk H
        clear H
        go_wp2
        go_roundg k3
        case measure => have := HJ2.out; have := HK2.out; have := HK3.out; omega
        case rel => exact ⟨(x9_3), (x7_3), (wrap64 (x8_2 + 1)), (by first | rfl | (simp; done) | (simp [*]; done)), H', ⟨by have := HJ2.out; have := HK2.out; have := HK3.out; omega⟩, ⟨by (with_reducible repeat (first | apply Kd.N_alloc | apply Kd.N_drewN | apply Kd.N_drew)); exact Kd.N_mono HO_9.out (fun _ hk => ⟨hk.1, ⟨hk.2.1, hk.2.2.2⟩⟩)⟩, ⟨by (with_reducible repeat (first | apply Kd.N_alloc | apply Kd.N_drewN | apply Kd.N_drew)); exact Kd.N_mono HO_7.out (fun _ hk => ⟨hk.1, ⟨hk.2.1, hk.2.2.2⟩⟩)⟩, ⟨sq_bk BK400.out⟩, ⟨sq_bs HB.out⟩⟩
       rw [if_pos c28] at H
       have c28b0 : decide (x42_3 < (x6_2.length : Int)) = true := decide_eq_true c28
       clear c28
       by_cases c29 : 0 ≤ x42_3
       rotate_left
       ·rw [if_neg c29] at H
        exact absurd H (by simp)
       rw [if_pos c29] at H
       have c29b0 : decide (0 ≤ x42_3) = true := decide_eq_true c29
       clear c29
       by_cases c30 : x42_3 < (x6_2.length : Int)
       rotate_left
       ·rw [if_neg c30] at H
        exact absurd H (by simp)
       rw [if_pos c30] at H
       have c30b0 : decide (x42_3 < (x6_2.length : Int)) = true := decide_eq_true c30
       clear c30
       by_cases c31 : (x7_3.length : Int) = 5000
       ·rw [if_pos c31] at H
        have c31b0 : ((x7_3.length : Int) == 5000) = true := beq_iff_eq.mpr c31
        have c31b1 : ((x7_3.length : Int) != 5000) = false := bne_eq_false_iff_eq.mpr c31
        clear c31
        obtain rfl := Option.some.inj H
        have p409 : 0 ≤ (x42_3 : Int) := sq_d
        have q409 : x42_3 < (x6_2.length : Int) := sq_d
        have LQ409 := Aside0.mk q409
        obtain ⟨ad409, A409_0, c409_0, A409_1, c409_1, e409, hx409_0, hx409_1, hl409_0, hi409_0, hl409_1, hi409_1⟩ := at_T55 (Kd.N_reads' HO_40.out).2.2 x42_3 p409 q409
        cases e409
        obtain ⟨ce409, hce409, hMe409, hcc409⟩ := Kd.N_get HO_40.out z55 x42_3 p409 (by first | exact q409 | exact sq_d | (have e_ := (Kd.N_reads' HO_40.out).1; omega))
        obtain ⟨ua409_0, uc409_0, ua409_1, uc409_1, rfl, ul409_0, ge409_0, ul409_1, ge409_1⟩ := k55_openF hMe409
        have hv409_0 := hcc409 0 _ rfl
        rw [Nat.add_zero] at hv409_0
        replace hv409_0 := Option.some.inj (hv409_0.symm.trans hx409_0)
        injection hv409_0 with hva_ hvn_ hvc_
        rw [hva_] at ge409_0
        rw [hvc_] at ul409_0
        have HL409_0 := Aside0.mk (show Kd.V (Kd.int .i64) 3 _ w.heap.size _ _ ((rd_T55 x6_2 x42_3).f0) from Kd.V_mk ul409_0 ge409_0)
        clear hva_ hvn_ hvc_ ge409_0 ul409_0
        have hv409_1 := hcc409 1 _ rfl
        rw [add_field _ _ 1 (by omega)] at hv409_1
        replace hv409_1 := Option.some.inj (hv409_1.symm.trans hx409_1)
        injection hv409_1 with hva_ hvn_ hvc_
        rw [hva_] at ge409_1
        rw [hvc_] at ul409_1
        have HL409_1 := Aside0.mk (show Kd.V Kd.bool 4 _ w.heap.size _ _ ((rd_T55 x6_2 x42_3).f1) from Kd.V_mk ul409_1 ge409_1)
        clear hva_ hvn_ hvc_ ge409_1 ul409_1
        clear hcc409 hce409
        have HR409_0 := Aside0.mk hi409_0
        have HC409_0 := Aside0.mk hl409_0
        clear hi409_0 hl409_0
        have HR409_1 := Aside0.mk hi409_1
        have HC409_1 := Aside0.mk hl409_1
        clear hi409_1 hl409_1
        replace p409 := eq_true p409
        replace q409 := eq_true q409
        go_wp2_with (first | ((with_reducible refine gate_dst (N := 11) rfl ?_); refine sq_box 11 #[.slice none 0 0, .slice none 0 0] 55 ?_; intro gb410 hg w32 hbox hb; have n0_ := Aside0.mk (Kd.N_below (Kd.N_elderB (sqt_n HO_7.out) gb410 (Nat.le_of_eq hg.symm)) hb); have n1_ := Aside0.mk (Kd.N_below (Kd.N_elderB (sqt_n HO_9.out) gb410 (Nat.le_of_eq hg.symm)) hb); have n2_ := Aside0.mk (Kd.N_below (Kd.N_elderB (sqt_n HO_40.out) gb410 (Nat.le_of_eq hg.symm)) hb); have n3_ := Aside0.mk (Kd.V_below (Kd.V_elderB (sqt_v HL409_0.out) gb410 (Nat.le_of_eq hg.symm)) hb); have n4_ := Aside0.mk (Kd.V_below (Kd.V_elderB (sqt_v HL409_1.out) gb410 (Nat.le_of_eq hg.symm)) hb); have n5_ := Aside0.mk (blk_below (g := gb400) (o := .cells #[.int .i64 a0_0, .slice A0_1 l0_1.length c0_1, .slice A0_2 l0_2.length c0_2] 25 (0, 0)) (sq_bk BK400.out) hb); have n6_ := Aside0.mk (Kd.C_below (by repeat (first | (with_reducible exact HR409_0.out) | (with_reducible refine Kd.C_alloc ?_ _) | (with_reducible refine Kd.C_drewN ?_ _) | (with_reducible refine Kd.C_drew ?_) | exact HR409_0.out)) hb); have n7_ := Aside0.mk (Kd.C_below (by repeat (first | (with_reducible exact HR409_1.out) | (with_reducible refine Kd.C_alloc ?_ _) | (with_reducible refine Kd.C_drewN ?_ _) | (with_reducible refine Kd.C_drew ?_) | exact HR409_1.out)) hb); have n8_ := Aside0.mk (below_step (sq_bs HB.out) hb); have n9_ := Aside0.mk (hbox); have n10_ := Aside0.mk ((by rw [hg]; exact (below_size (sq_bs HB.out)) : w.heap.size ≤ gb410)); have n11_ := Aside0.mk ((by rw [hg]; exact (below_size (sq_bs HB.out)) : w.heap.size ≤ gb410)); have n12_ := Aside0.mk ((by rw [hg]; exact Nat.ne_of_lt (blk_lt (g := gb400) (o := .cells #[.int .i64 a0_0, .slice A0_1 l0_1.length c0_1, .slice A0_2 l0_2.length c0_2] 25 (0, 0)) (sq_bk BK400.out)) : gb400 ≠ gb410)); have n13_ := Aside0.mk ((by rw [hg]; exact Nat.ne_of_gt (blk_lt (g := gb400) (o := .cells #[.int .i64 a0_0, .slice A0_1 l0_1.length c0_1, .slice A0_2 l0_2.length c0_2] 25 (0, 0)) (sq_bk BK400.out)) : gb410 ≠ gb400)); clear HO_7; clear HO_9; clear HO_40; clear HL409_0; clear HL409_1; clear BK400; clear HR409_0; clear HR409_1; clear HB; have HO_7 := n0_; have HO_9 := n1_; have HO_40 := n2_; have HL409_0 := n3_; have HL409_1 := n4_; have BK400 := n5_; have HR409_0 := n6_; have HR409_1 := n7_; have HB := n8_; have BK410 := n9_; have GW410 := n10_; have GE410 := n11_; have NB400_410 := n12_; have NB410_400 := n13_; clear n0_ n1_ n2_ n3_ n4_ n5_ n6_ n7_ n8_ n9_ n10_ n11_ n12_ n13_; clear hb hbox hg; have hnb33 := NB410_400.out; have hnc33 := NB400_410.out; have hcz34_0 : w32.cell? ⟨gb410, 0, none⟩ = some (.slice none 0 0) := (blk_cell BK410.out 0).trans rfl; have hcz34_1 : w32.cell? ⟨gb410, 1, none⟩ = some (.slice none 0 0) := (blk_cell BK410.out 1).trans rfl; have hfz34_0 := blk_frozen BK410.out 0; have hfz34_1 := blk_frozen BK410.out 1; obtain ⟨Ao35, co35, eo35⟩ := Kd.N_slice HO_7.out; subst eo35))
        go_ret
        exact ⟨_, by first | rfl | (simp [errW_none, errW_some] <;> rfl) | (simp [*, errW_none, errW_some] <;> rfl), by (with_reducible repeat (first | apply Kd.N_alloc | apply Kd.N_drewN | apply Kd.N_drew)); exact Kd.N_mono (Kd.N_far (p := ⟨gb410, 1, none⟩) (Kd.N_far (p := ⟨gb410, 0, none⟩) (Kd.N_mono HO_7.out (fun k_ hk => (⟨hk, hk.2⟩ : _ ∧ k_ ≠ gb410))) (fun _ hk => hk.2) (.slice A409_0 ((rd_T55 x6_2 x42_3).f0).length c409_0)) (fun _ hk => hk.2) (.slice A409_1 ((rd_T55 x6_2 x42_3).f1).length c409_1)) (fun _ hk => hk.1.1.1), sq_bs HB.out⟩
       rw [if_neg c31] at H
       have c31b0 : ((x7_3.length : Int) == 5000) = false := beq_eq_false_iff_ne.mpr c31
       have c31b1 : ((x7_3.length : Int) != 5000) = true := bne_iff_ne.mpr c31
       by_cases c36 : x7_3.length < 5864062014805
       rotate_left
       ·rw [if_neg c36] at H
        exact absurd H (by simp)
       rw [if_pos c36] at H
       have LMc36 := Aside0.mk c36
       clear c36
       obtain ⟨y411, hy411⟩ : ∃ y_ : List (List Int), y_ = (x7_3 ++ [(rd_T55 x6_2 x42_3).f0]) := ⟨_, rfl⟩
       replace H : (system_Traces.l2 k3 a1 y411 x8_2 x9_3 x6_2 (x6_2.length : Int) x42_3 (l0_1.length : Int) 0 a0_0 l0_1 l0_2 ((rd_T55 x6_2 x42_3).f0) ((rd_T55 x6_2 x42_3).f1)) = some r := by first | (rw [hy411]; with_reducible exact H) | (have H2_ := (Option.bind_some _ _).symm.trans H; rw [hy411]; with_reducible exact H2_) | (have H2_ := (Option.bind_some _ _).symm.trans H; with_reducible exact H2_) | with_reducible exact H | (rw [hy411]; exact H) | exact H
       have Ny411 := Aside0.mk hy411
       clear hy411
       have H' := Aside0.mk H
       clear H
       have p409 : 0 ≤ (x42_3 : Int) := sq_d
       have q409 : x42_3 < (x6_2.length : Int) := sq_d
       have LQ409 := Aside0.mk q409
       obtain ⟨ad409, A409_0, c409_0, A409_1, c409_1, e409, hx409_0, hx409_1, hl409_0, hi409_0, hl409_1, hi409_1⟩ := at_T55 (Kd.N_reads' HO_40.out).2.2 x42_3 p409 q409
       cases e409
       obtain ⟨ce409, hce409, hMe409, hcc409⟩ := Kd.N_get HO_40.out z55 x42_3 p409 (by first | exact q409 | exact sq_d | (have e_ := (Kd.N_reads' HO_40.out).1; omega))
       obtain ⟨ua409_0, uc409_0, ua409_1, uc409_1, rfl, ul409_0, ge409_0, ul409_1, ge409_1⟩ := k55_openF hMe409
       have hv409_0 := hcc409 0 _ rfl
       rw [Nat.add_zero] at hv409_0
       replace hv409_0 := Option.some.inj (hv409_0.symm.trans hx409_0)
       injection hv409_0 with hva_ hvn_ hvc_
       rw [hva_] at ge409_0
       rw [hvc_] at ul409_0
       have HL409_0 := Aside0.mk (show Kd.V (Kd.int .i64) 3 _ w.heap.size _ _ ((rd_T55 x6_2 x42_3).f0) from Kd.V_mk ul409_0 ge409_0)
       clear hva_ hvn_ hvc_ ge409_0 ul409_0
       have hv409_1 := hcc409 1 _ rfl
       rw [add_field _ _ 1 (by omega)] at hv409_1
       replace hv409_1 := Option.some.inj (hv409_1.symm.trans hx409_1)
       injection hv409_1 with hva_ hvn_ hvc_
       rw [hva_] at ge409_1
       rw [hvc_] at ul409_1
       have HL409_1 := Aside0.mk (show Kd.V Kd.bool 4 _ w.heap.size _ _ ((rd_T55 x6_2 x42_3).f1) from Kd.V_mk ul409_1 ge409_1)
       clear hva_ hvn_ hvc_ ge409_1 ul409_1
       clear hcc409 hce409
       have HR409_0 := Aside0.mk hi409_0
       have HC409_0 := Aside0.mk hl409_0
       clear hi409_0 hl409_0
       have HR409_1 := Aside0.mk hi409_1
       have HC409_1 := Aside0.mk hl409_1
       clear hi409_1 hl409_1
       replace p409 := eq_true p409
       replace q409 := eq_true q409
       go_wp2_with (first | ((with_reducible refine gate_dst (N := 11) rfl ?_); refine sq_box 11 #[.slice none 0 0, .slice none 0 0] 55 ?_; intro gb410 hg w37 hbox hb; have n0_ := Aside0.mk (Kd.N_below (Kd.N_elderB (sqt_n HO_7.out) gb410 (Nat.le_of_eq hg.symm)) hb); have n1_ := Aside0.mk (Kd.N_below (Kd.N_elderB (sqt_n HO_9.out) gb410 (Nat.le_of_eq hg.symm)) hb); have n2_ := Aside0.mk (Kd.N_below (Kd.N_elderB (sqt_n HO_40.out) gb410 (Nat.le_of_eq hg.symm)) hb); have n3_ := Aside0.mk (Kd.V_below (Kd.V_elderB (sqt_v HL409_0.out) gb410 (Nat.le_of_eq hg.symm)) hb); have n4_ := Aside0.mk (Kd.V_below (Kd.V_elderB (sqt_v HL409_1.out) gb410 (Nat.le_of_eq hg.symm)) hb); have n5_ := Aside0.mk (blk_below (g := gb400) (o := .cells #[.int .i64 a0_0, .slice A0_1 l0_1.length c0_1, .slice A0_2 l0_2.length c0_2] 25 (0, 0)) (sq_bk BK400.out) hb); have n6_ := Aside0.mk (Kd.C_below (by repeat (first | (with_reducible exact HR409_0.out) | (with_reducible refine Kd.C_alloc ?_ _) | (with_reducible refine Kd.C_drewN ?_ _) | (with_reducible refine Kd.C_drew ?_) | exact HR409_0.out)) hb); have n7_ := Aside0.mk (Kd.C_below (by repeat (first | (with_reducible exact HR409_1.out) | (with_reducible refine Kd.C_alloc ?_ _) | (with_reducible refine Kd.C_drewN ?_ _) | (with_reducible refine Kd.C_drew ?_) | exact HR409_1.out)) hb); have n8_ := Aside0.mk (below_step (sq_bs HB.out) hb); have n9_ := Aside0.mk (hbox); have n10_ := Aside0.mk ((by rw [hg]; exact (below_size (sq_bs HB.out)) : w.heap.size ≤ gb410)); have n11_ := Aside0.mk ((by rw [hg]; exact (below_size (sq_bs HB.out)) : w.heap.size ≤ gb410)); have n12_ := Aside0.mk ((by rw [hg]; exact Nat.ne_of_lt (blk_lt (g := gb400) (o := .cells #[.int .i64 a0_0, .slice A0_1 l0_1.length c0_1, .slice A0_2 l0_2.length c0_2] 25 (0, 0)) (sq_bk BK400.out)) : gb400 ≠ gb410)); have n13_ := Aside0.mk ((by rw [hg]; exact Nat.ne_of_gt (blk_lt (g := gb400) (o := .cells #[.int .i64 a0_0, .slice A0_1 l0_1.length c0_1, .slice A0_2 l0_2.length c0_2] 25 (0, 0)) (sq_bk BK400.out)) : gb410 ≠ gb400)); clear HO_7; clear HO_9; clear HO_40; clear HL409_0; clear HL409_1; clear BK400; clear HR409_0; clear HR409_1; clear HB; have HO_7 := n0_; have HO_9 := n1_; have HO_40 := n2_; have HL409_0 := n3_; have HL409_1 := n4_; have BK400 := n5_; have HR409_0 := n6_; have HR409_1 := n7_; have HB := n8_; have BK410 := n9_; have GW410 := n10_; have GE410 := n11_; have NB400_410 := n12_; have NB410_400 := n13_; clear n0_ n1_ n2_ n3_ n4_ n5_ n6_ n7_ n8_ n9_ n10_ n11_ n12_ n13_; clear hb hbox hg; have hnb38 := NB410_400.out; have hnc38 := NB400_410.out; have hcz39_0 : w37.cell? ⟨gb410, 0, none⟩ = some (.slice none 0 0) := (blk_cell BK410.out 0).trans rfl; have hcz39_1 : w37.cell? ⟨gb410, 1, none⟩ = some (.slice none 0 0) := (blk_cell BK410.out 1).trans rfl; have hfz39_0 := blk_frozen BK410.out 0; have hfz39_1 := blk_frozen BK410.out 1) | ((with_reducible refine gate_store (t := 55) (p := 11) rfl ?_); refine store_event (t := 55) (p := 11) (v := ?vo_w40) (w1 := ((w37.setCell ⟨gb410, 0, none⟩ (.slice A409_0 ((rd_T55 x6_2 x42_3).f0).length c409_0)).setCell ⟨gb410, 1, none⟩ (.slice A409_1 ((rd_T55 x6_2 x42_3).f1).length c409_1))) ?hg ?ho ?hn ?hr ?_; (case ho => rfl); (case hg => rfl); (case hn => rfl); (case hr => first | (go_simp; done) | (go_simp; rfl)); intro w40 hw; have n0_ : Aside0 (Kd.N (Kd.slice 3 (Kd.int .i64)) 34 w40 w.heap.size (fun k_ => (w.heap.size ≤ k_) ∧ some k_ ≠ (u9 : Value).ownBlock ∧ some k_ ≠ (.slice (some ad409) x6_2.length co27 : Value).ownBlock ∧ k_ ≠ gb400 ∧ k_ ≠ gb410) u7 x7_3) := ⟨(by rw [hw]; exact (by (with_reducible repeat (first | apply Kd.N_alloc | apply Kd.N_drewN | apply Kd.N_drew)); exact Kd.N_mono (Kd.N_far (p := ⟨gb410, 1, none⟩) (Kd.N_far (p := ⟨gb410, 0, none⟩) (Kd.N_mono HO_7.out (fun k_ hk => (⟨hk, hk.2⟩ : _ ∧ k_ ≠ gb410))) (fun _ hk => hk.2) (.slice A409_0 ((rd_T55 x6_2 x42_3).f0).length c409_0)) (fun _ hk => hk.2) (.slice A409_1 ((rd_T55 x6_2 x42_3).f1).length c409_1)) (fun _ hk => ⟨hk.1.1.1, ⟨hk.1.1.2.1, ⟨hk.1.1.2.2.1, ⟨hk.1.1.2.2.2, hk.1.2⟩⟩⟩⟩)))⟩; have n1_ : Aside0 (Kd.N k55 55 w40 w.heap.size (fun k_ => (w.heap.size ≤ k_) ∧ some k_ ≠ (u7 : Value).ownBlock ∧ some k_ ≠ (.slice (some ad409) x6_2.length co27 : Value).ownBlock ∧ k_ ≠ gb400 ∧ k_ ≠ gb410) u9 x9_3) := ⟨(by rw [hw]; exact (by (with_reducible repeat (first | apply Kd.N_alloc | apply Kd.N_drewN | apply Kd.N_drew)); exact Kd.N_mono (Kd.N_far (p := ⟨gb410, 1, none⟩) (Kd.N_far (p := ⟨gb410, 0, none⟩) (Kd.N_mono HO_9.out (fun k_ hk => (⟨hk, hk.2⟩ : _ ∧ k_ ≠ gb410))) (fun _ hk => hk.2) (.slice A409_0 ((rd_T55 x6_2 x42_3).f0).length c409_0)) (fun _ hk => hk.2) (.slice A409_1 ((rd_T55 x6_2 x42_3).f1).length c409_1)) (fun _ hk => ⟨hk.1.1.1, ⟨hk.1.1.2.1, ⟨hk.1.1.2.2.1, ⟨hk.1.1.2.2.2, hk.1.2⟩⟩⟩⟩)))⟩; have n2_ : Aside0 (Kd.N k55 55 w40 w.heap.size (fun k_ => (w.heap.size ≤ k_) ∧ some k_ ≠ (u7 : Value).ownBlock ∧ some k_ ≠ (u9 : Value).ownBlock ∧ k_ ≠ gb400 ∧ k_ ≠ gb410) (.slice (some ad409) x6_2.length co27) x6_2) := ⟨(by rw [hw]; exact (by (with_reducible repeat (first | apply Kd.N_alloc | apply Kd.N_drewN | apply Kd.N_drew)); exact Kd.N_mono (Kd.N_far (p := ⟨gb410, 1, none⟩) (Kd.N_far (p := ⟨gb410, 0, none⟩) (Kd.N_mono HO_40.out (fun k_ hk => (⟨hk, hk.2⟩ : _ ∧ k_ ≠ gb410))) (fun _ hk => hk.2) (.slice A409_0 ((rd_T55 x6_2 x42_3).f0).length c409_0)) (fun _ hk => hk.2) (.slice A409_1 ((rd_T55 x6_2 x42_3).f1).length c409_1)) (fun _ hk => ⟨hk.1.1.1, ⟨hk.1.1.2.1, ⟨hk.1.1.2.2.1, ⟨hk.1.1.2.2.2, hk.1.2⟩⟩⟩⟩)))⟩; have n3_ : Aside0 (Kd.V (Kd.int .i64) 3 w40 w.heap.size (fun k_ => (w.heap.size ≤ k_) ∧ some k_ ≠ (u7 : Value).ownBlock ∧ some k_ ≠ (u9 : Value).ownBlock ∧ some k_ ≠ (.slice (some ad409) x6_2.length co27 : Value).ownBlock ∧ k_ ≠ gb400 ∧ k_ ≠ gb410) (.slice A409_0 ((rd_T55 x6_2 x42_3).f0).length c409_0) ((rd_T55 x6_2 x42_3).f0)) := ⟨(by rw [hw]; exact (by (with_reducible repeat (first | apply Kd.V_alloc | apply Kd.V_drewN | apply Kd.V_drew)); exact Kd.V_mono (Kd.V_far (p := ⟨gb410, 1, none⟩) (Kd.V_far (p := ⟨gb410, 0, none⟩) (Kd.V_mono HL409_0.out (fun k_ hk => (⟨hk, hk.2⟩ : _ ∧ k_ ≠ gb410))) (fun _ hk => hk.2) (.slice A409_0 ((rd_T55 x6_2 x42_3).f0).length c409_0)) (fun _ hk => hk.2) (.slice A409_1 ((rd_T55 x6_2 x42_3).f1).length c409_1)) (fun _ hk => ⟨hk.1.1.1.1, ⟨hk.1.1.1.2.1, ⟨hk.1.1.1.2.2.1, ⟨hk.1.1.2, ⟨hk.1.1.1.2.2.2, hk.1.2⟩⟩⟩⟩⟩)))⟩; have n4_ : Aside0 (Kd.V Kd.bool 4 w40 w.heap.size (fun k_ => (w.heap.size ≤ k_) ∧ some k_ ≠ (u7 : Value).ownBlock ∧ some k_ ≠ (u9 : Value).ownBlock ∧ some k_ ≠ (.slice (some ad409) x6_2.length co27 : Value).ownBlock ∧ k_ ≠ gb400 ∧ k_ ≠ gb410) (.slice A409_1 ((rd_T55 x6_2 x42_3).f1).length c409_1) ((rd_T55 x6_2 x42_3).f1)) := ⟨(by rw [hw]; exact (by (with_reducible repeat (first | apply Kd.V_alloc | apply Kd.V_drewN | apply Kd.V_drew)); exact Kd.V_mono (Kd.V_far (p := ⟨gb410, 1, none⟩) (Kd.V_far (p := ⟨gb410, 0, none⟩) (Kd.V_mono HL409_1.out (fun k_ hk => (⟨hk, hk.2⟩ : _ ∧ k_ ≠ gb410))) (fun _ hk => hk.2) (.slice A409_0 ((rd_T55 x6_2 x42_3).f0).length c409_0)) (fun _ hk => hk.2) (.slice A409_1 ((rd_T55 x6_2 x42_3).f1).length c409_1)) (fun _ hk => ⟨hk.1.1.1.1, ⟨hk.1.1.1.2.1, ⟨hk.1.1.1.2.2.1, ⟨hk.1.1.2, ⟨hk.1.1.1.2.2.2, hk.1.2⟩⟩⟩⟩⟩)))⟩; have n5_ : Aside0 (w40.heap[gb400]? = some (.cells #[.int .i64 a0_0, .slice A0_1 l0_1.length c0_1, .slice A0_2 l0_2.length c0_2] 25 (0, 0))) := ⟨(by rw [hw]; exact (by (with_reducible repeat (first | refine blk_drewN ?_ _ | refine blk_drew ?_ | refine blk_alloc ?_ _)); refine blk_far ?_ NB400_410.out _; (with_reducible repeat (first | refine blk_drewN ?_ _ | refine blk_drew ?_ | refine blk_alloc ?_ _)); refine blk_far ?_ NB400_410.out _; (with_reducible repeat (first | refine blk_drewN ?_ _ | refine blk_drew ?_ | refine blk_alloc ?_ _)); exact BK400.out))⟩; have n6_ : Aside0 (w40.heap[gb410]? = some (.cells #[.slice A409_0 ((rd_T55 x6_2 x42_3).f0).length c409_0, .slice A409_1 ((rd_T55 x6_2 x42_3).f1).length c409_1] 55 (0, 0))) := ⟨(by rw [hw]; exact (by (with_reducible repeat (first | refine blk_drewN ?_ _ | refine blk_drew ?_ | refine blk_alloc ?_ _)); refine blk_put (cs := #[.slice A409_0 ((rd_T55 x6_2 x42_3).f0).length c409_0, .slice none 0 0]) ?_ 1 _ rfl; (with_reducible repeat (first | refine blk_drewN ?_ _ | refine blk_drew ?_ | refine blk_alloc ?_ _)); refine blk_put (cs := #[.slice none 0 0, .slice none 0 0]) ?_ 0 _ rfl; (with_reducible repeat (first | refine blk_drewN ?_ _ | refine blk_drew ?_ | refine blk_alloc ?_ _)); exact BK410.out))⟩; have n7_ : Aside0 (Below w.heap.size w w40) := ⟨(by rw [hw]; exact (sq_bs HB.out))⟩; clear hw; clear HO_7; clear HO_9; clear HO_40; clear HL409_0; clear HL409_1; clear BK400; clear BK410; clear HB; have HO_7 := n0_; have HO_9 := n1_; have HO_40 := n2_; have HL409_0 := n3_; have HL409_1 := n4_; have BK400 := n5_; have BK410 := n6_; have HB := n7_; clear n0_ n1_ n2_ n3_ n4_ n5_ n6_ n7_; obtain ⟨Ao41, co41, eo41⟩ := Kd.N_slice HO_7.out; subst eo41; have hcz42_0 : w40.cell? ⟨gb410, 0, none⟩ = some (.slice A409_0 ((rd_T55 x6_2 x42_3).f0).length c409_0) := (blk_cell BK410.out 0).trans rfl; have hcz42_1 : w40.cell? ⟨gb410, 1, none⟩ = some (.slice A409_1 ((rd_T55 x6_2 x42_3).f1).length c409_1) := (blk_cell BK410.out 1).trans rfl; have hfz42_0 := blk_frozen BK410.out 0; have hfz42_1 := blk_frozen BK410.out 1) | ((with_reducible refine gate_builtin (b := .append) (xs := #[.tmp 50, .tmp 53]) rfl ?_); at_builtin; refine Kd.N_append (Kd.slice 3 (Kd.int .i64)) (w0 := w) w.heap.size rfl (.tmp 50) (.tmp 53) 40 34 (.slice none 0 0) 24 rfl Try.underlying40 info34 rfl (by decide) (by omega) (.slice Ao41 x7_3.length co41) x7_3 ((rd_T55 x6_2 x42_3).f0) [.slice A409_0 ((rd_T55 x6_2 x42_3).f0).length c409_0] (fun k_ => (w.heap.size ≤ k_) ∧ some k_ ≠ (u9 : Value).ownBlock ∧ some k_ ≠ (.slice (some ad409) x6_2.length co27 : Value).ownBlock ∧ k_ ≠ gb400 ∧ k_ ≠ gb410) (fun k_ => ((fun k_ => (w.heap.size ≤ k_) ∧ some k_ ≠ (u9 : Value).ownBlock ∧ some k_ ≠ (.slice (some ad409) x6_2.length co27 : Value).ownBlock ∧ k_ ≠ gb400 ∧ k_ ≠ gb410)) k_ ∧ some k_ ≠ (.slice Ao41 x7_3.length co41 : Value).ownBlock) rfl rfl ?aP (fun _ hk => hk) ?aF ?aO ?aB ?aS ?aL ?_; (case aP => exact (Kd.FK_slice_mk (Kd.V_reads' (Kd.V_mono (ok' := (fun k_ => ((fun k_ => (w.heap.size ≤ k_) ∧ some k_ ≠ (u9 : Value).ownBlock ∧ some k_ ≠ (.slice (some ad409) x6_2.length co27 : Value).ownBlock ∧ k_ ≠ gb400 ∧ k_ ≠ gb410)) k_ ∧ some k_ ≠ (.slice Ao41 x7_3.length co41 : Value).ownBlock)) (HL409_0.out) (fun k_ hk => ⟨⟨hk.1, ⟨hk.2.2.1, ⟨hk.2.2.2.1, ⟨hk.2.2.2.2.1, hk.2.2.2.2.2⟩⟩⟩⟩, hk.2.1⟩))).2.1 (Kd.V_F (Kd.V_mono (ok' := (fun k_ => ((fun k_ => (w.heap.size ≤ k_) ∧ some k_ ≠ (u9 : Value).ownBlock ∧ some k_ ≠ (.slice (some ad409) x6_2.length co27 : Value).ownBlock ∧ k_ ≠ gb400 ∧ k_ ≠ gb410)) k_ ∧ some k_ ≠ (.slice Ao41 x7_3.length co41 : Value).ownBlock)) (HL409_0.out) (fun k_ hk => ⟨⟨hk.1, ⟨hk.2.2.1, ⟨hk.2.2.2.1, ⟨hk.2.2.2.2.1, hk.2.2.2.2.2⟩⟩⟩⟩, hk.2.1⟩))))); (case aB => exact (sq_bs HB.out)); (case aF => exact (fun k_ hk => ⟨(Nat.le_trans (below_size (sq_bs HB.out)) hk), Kd.fresh' (Kd.N_lt (sqt_n HO_9.out)) k_ hk, Kd.fresh' (Kd.N_lt (sqt_n HO_40.out)) k_ hk, Kd.freshB (g := gb400) (o := .cells #[.int .i64 a0_0, .slice A0_1 l0_1.length c0_1, .slice A0_2 l0_2.length c0_2] 25 (0, 0)) (sq_bk BK400.out) k_ hk, Kd.freshB (g := gb410) (o := .cells #[.slice A409_0 ((rd_T55 x6_2 x42_3).f0).length c409_0, .slice A409_1 ((rd_T55 x6_2 x42_3).f1).length c409_1] 55 (0, 0)) (sq_bk BK410.out) k_ hk⟩)); (case aO => exact (sqt_n HO_7.out)); (case aS => exact (below_size (sq_bs HB.out))); (case aL => have := LMc36.out; omega); intro v412 w43 ho hb hg hat; rw [← Ny411.out] at ho; have n0_ := Aside0.mk (Kd.N_afterv (ok := (fun k_ => (w.heap.size ≤ k_) ∧ some k_ ≠ (.slice (some ad409) x6_2.length co27 : Value).ownBlock ∧ k_ ≠ gb400 ∧ k_ ≠ gb410)) (by (with_reducible repeat (first | apply Kd.N_alloc | apply Kd.N_drewN | apply Kd.N_drew)); exact Kd.N_mono HO_9.out (fun _ hk => ⟨⟨hk.1, ⟨hk.2.2.1, ⟨hk.2.2.2.1, hk.2.2.2.2⟩⟩⟩, hk.2.1⟩)) hg hat); have n1_ := Aside0.mk (Kd.N_afterv (ok := (fun k_ => (w.heap.size ≤ k_) ∧ some k_ ≠ (u9 : Value).ownBlock ∧ k_ ≠ gb400 ∧ k_ ≠ gb410)) (by (with_reducible repeat (first | apply Kd.N_alloc | apply Kd.N_drewN | apply Kd.N_drew)); exact Kd.N_mono HO_40.out (fun _ hk => ⟨⟨hk.1, ⟨hk.2.2.1, ⟨hk.2.2.2.1, hk.2.2.2.2⟩⟩⟩, hk.2.1⟩)) hg hat); have n2_ := Aside0.mk (blk_grown (g := gb400) (o := .cells #[.int .i64 a0_0, .slice A0_1 l0_1.length c0_1, .slice A0_2 l0_2.length c0_2] 25 (0, 0)) (sq_bk BK400.out) hg (Kd.N_ne HO_7.out BK400.out (by decide))); have n3_ := Aside0.mk (Kd.V_afterv (ok := (fun k_ => (w.heap.size ≤ k_) ∧ some k_ ≠ (u9 : Value).ownBlock ∧ some k_ ≠ (.slice (some ad409) x6_2.length co27 : Value).ownBlock ∧ k_ ≠ gb400 ∧ k_ ≠ gb410)) (by (with_reducible repeat (first | apply Kd.V_alloc | apply Kd.V_drewN | apply Kd.V_drew)); exact Kd.V_mono HL409_0.out (fun _ hk => ⟨⟨hk.1, ⟨hk.2.2.1, ⟨hk.2.2.2.1, ⟨hk.2.2.2.2.1, hk.2.2.2.2.2⟩⟩⟩⟩, hk.2.1⟩)) hg hat); have n4_ := Aside0.mk (Kd.V_afterv (ok := (fun k_ => (w.heap.size ≤ k_) ∧ some k_ ≠ (u9 : Value).ownBlock ∧ some k_ ≠ (.slice (some ad409) x6_2.length co27 : Value).ownBlock ∧ k_ ≠ gb400 ∧ k_ ≠ gb410)) (by (with_reducible repeat (first | apply Kd.V_alloc | apply Kd.V_drewN | apply Kd.V_drew)); exact Kd.V_mono HL409_1.out (fun _ hk => ⟨⟨hk.1, ⟨hk.2.2.1, ⟨hk.2.2.2.1, ⟨hk.2.2.2.2.1, hk.2.2.2.2.2⟩⟩⟩⟩, hk.2.1⟩)) hg hat); have n5_ := Aside0.mk (blk_grown (g := gb410) (o := .cells #[.slice A409_0 ((rd_T55 x6_2 x42_3).f0).length c409_0, .slice A409_1 ((rd_T55 x6_2 x42_3).f1).length c409_1] 55 (0, 0)) (sq_bk BK410.out) hg (Kd.N_ne HO_7.out BK410.out (by decide))); have n6_ := Aside0.mk (hb); have n7_ := Aside0.mk (ho); clear HO_9; clear HO_40; clear BK400; clear HL409_0; clear HL409_1; clear BK410; clear HB; clear HO_7; have HO_9 := n0_; have HO_40 := n1_; have BK400 := n2_; have HL409_0 := n3_; have HL409_1 := n4_; have BK410 := n5_; have HB := n6_; have HO413 := n7_; clear n0_ n1_ n2_ n3_ n4_ n5_ n6_ n7_; clear ho hb hg hat; have hcz44_0 : w43.cell? ⟨gb400, 0, none⟩ = some (.int .i64 a0_0) := (blk_cell BK400.out 0).trans rfl; have hcz44_1 : w43.cell? ⟨gb400, 1, none⟩ = some (.slice A0_1 l0_1.length c0_1) := (blk_cell BK400.out 1).trans rfl; have hcz44_2 : w43.cell? ⟨gb400, 2, none⟩ = some (.slice A0_2 l0_2.length c0_2) := (blk_cell BK400.out 2).trans rfl; have hfz44_0 := blk_frozen BK400.out 0; have hfz44_1 := blk_frozen BK400.out 1; have hfz44_2 := blk_frozen BK400.out 2))
       go_loopg [9, 58] k3 (fun kq v9 v58 w' => ∃ (x9_4 : List (S55)) (x58_4 : Int), v58 = .int .i64 x58_4 ∧ Aside0 (system_Traces.l2 kq a1 y411 x8_2 x9_4 x6_2 (x6_2.length : Int) x42_3 (l0_1.length : Int) x58_4 a0_0 l0_1 l0_2 ((rd_T55 x6_2 x42_3).f0) ((rd_T55 x6_2 x42_3).f1) = some r) ∧ Aside0 (kq ≤ k3) ∧ Aside0 (Kd.N (Kd.slice 3 (Kd.int .i64)) 34 w' w.heap.size (fun k_ => (w.heap.size ≤ k_) ∧ some k_ ≠ (v9 : Value).ownBlock ∧ some k_ ≠ ((.slice (some ad409) x6_2.length co27) : Value).ownBlock ∧ k_ ≠ gb400 ∧ k_ ≠ gb410) v412 y411) ∧ Aside0 (Kd.N k55 55 w' w.heap.size (fun k_ => (w.heap.size ≤ k_) ∧ some k_ ≠ (v412 : Value).ownBlock ∧ some k_ ≠ ((.slice (some ad409) x6_2.length co27) : Value).ownBlock ∧ k_ ≠ gb400 ∧ k_ ≠ gb410) v9 x9_4) ∧ Aside0 (Kd.N k55 55 w' w.heap.size (fun k_ => (w.heap.size ≤ k_) ∧ some k_ ≠ (v412 : Value).ownBlock ∧ some k_ ≠ (v9 : Value).ownBlock ∧ k_ ≠ gb400 ∧ k_ ≠ gb410) (.slice (some ad409) x6_2.length co27) x6_2) ∧ Aside0 (w'.heap[gb400]? = some (.cells #[.int .i64 a0_0, (.slice A0_1 l0_1.length c0_1), (.slice A0_2 l0_2.length c0_2)] 25 (0, 0))) ∧ Aside0 (w'.heap[gb410]? = some (.cells #[(.slice A409_0 ((rd_T55 x6_2 x42_3).f0).length c409_0), (.slice A409_1 ((rd_T55 x6_2 x42_3).f1).length c409_1)] 55 (0, 0))) ∧ Aside0 (Below w.heap.size w w') ∧ Aside0 (Kd.V (Kd.int .i64) 3 w' w.heap.size (fun k_ => (w.heap.size ≤ k_) ∧ some k_ ≠ (v412 : Value).ownBlock ∧ some k_ ≠ (v9 : Value).ownBlock ∧ k_ ≠ gb400 ∧ k_ ≠ gb410) (.slice A409_0 ((rd_T55 x6_2 x42_3).f0).length c409_0) ((rd_T55 x6_2 x42_3).f0)) ∧ Aside0 (Kd.V Kd.bool 4 w' w.heap.size (fun k_ => (w.heap.size ≤ k_) ∧ some k_ ≠ (v412 : Value).ownBlock ∧ some k_ ≠ (v9 : Value).ownBlock ∧ k_ ≠ gb400 ∧ k_ ≠ gb410) (.slice A409_1 ((rd_T55 x6_2 x42_3).f1).length c409_1) ((rd_T55 x6_2 x42_3).f1)))
       case atStart => exact ⟨(x9_3), (0), (by first | rfl | (simp; done) | (simp [*]; done)), H', ⟨Nat.le_refl _⟩, ⟨by (with_reducible repeat (first | apply Kd.N_alloc | apply Kd.N_drewN | apply Kd.N_drew)); exact HO413.out⟩, ⟨by (with_reducible repeat (first | apply Kd.N_alloc | apply Kd.N_drewN | apply Kd.N_drew)); exact Kd.N_mono HO_9.out (fun _ hk => ⟨hk.1.1, ⟨hk.2, ⟨hk.1.2.1, ⟨hk.1.2.2.1, hk.1.2.2.2⟩⟩⟩⟩)⟩, ⟨by (with_reducible repeat (first | apply Kd.N_alloc | apply Kd.N_drewN | apply Kd.N_drew)); exact Kd.N_mono HO_40.out (fun _ hk => ⟨hk.1.1, ⟨hk.2, ⟨hk.1.2.1, ⟨hk.1.2.2.1, hk.1.2.2.2⟩⟩⟩⟩)⟩, ⟨sq_bk BK400.out⟩, ⟨sq_bk BK410.out⟩, ⟨sq_bs HB.out⟩, ⟨by (with_reducible repeat (first | apply Kd.V_alloc | apply Kd.V_drewN | apply Kd.V_drew)); exact Kd.V_mono HL409_0.out (fun _ hk => ⟨hk.1.1, ⟨hk.2, ⟨hk.1.2.1, ⟨hk.1.2.2.2.1, hk.1.2.2.2.2⟩⟩⟩⟩)⟩, ⟨by (with_reducible repeat (first | apply Kd.V_alloc | apply Kd.V_drewN | apply Kd.V_drew)); exact Kd.V_mono HL409_1.out (fun _ hk => ⟨hk.1.1, ⟨hk.2, ⟨hk.1.2.1, ⟨hk.1.2.2.2.1, hk.1.2.2.2.2⟩⟩⟩⟩)⟩⟩
       case round =>
        clear H'
        try clear c28b0
        try clear c29b0
        try clear c30b0
        try clear c31
        try clear c31b0
        try clear c31b1
        try clear hcz39_0
        try clear hcz39_1
        try clear hcz42_0
        try clear hcz42_1
        try clear hcz44_0
        try clear hcz44_1
        try clear hcz44_2
        try clear hfz39_0
        try clear hfz39_1
        try clear hfz42_0
        try clear hfz42_1
        try clear hfz44_0
        try clear hfz44_1
        try clear hfz44_2
        try clear hx409_0
        try clear hx409_1
        try clear p409
        try clear q409
        obtain ⟨x9_4, x58_4, rfl, HA, HK4, HO_7, HO_9, HO_40, BK400, BK410, HB, HL409_0, HL409_1⟩ := hrel
        cases gk with
        | zero => exact absurd HA.out (by simp [system_Traces.l2])
        | succ k4 =>
         have H := HA.out
         clear HA
         simp only [system_Traces.l2] at H
         by_cases c45 : x58_4 < (l0_1.length : Int)
         rotate_left
         ·rw [if_neg c45] at H
          have c45b0 : decide (x58_4 < (l0_1.length : Int)) = false := decide_eq_false c45
          clear c45
          have H' := Aside0.mk H
          clear H
          go_wp2
          go_roundg k4
          case measure => have := HJ2.out; have := HK2.out; have := HK3.out; have := HK4.out; omega
          case rel => exact ⟨(y411), (x9_4), (wrap64 (x42_3 + 1)), (by first | rfl | (simp; done) | (simp [*]; done)), H', ⟨by have := HJ2.out; have := HK2.out; have := HK3.out; have := HK4.out; omega⟩, ⟨by (with_reducible repeat (first | apply Kd.N_alloc | apply Kd.N_drewN | apply Kd.N_drew)); exact Kd.N_mono HO_7.out (fun _ hk => ⟨hk.1, ⟨hk.2.1, ⟨hk.2.2.1, hk.2.2.2.1⟩⟩⟩)⟩, ⟨by (with_reducible repeat (first | apply Kd.N_alloc | apply Kd.N_drewN | apply Kd.N_drew)); exact Kd.N_mono HO_9.out (fun _ hk => ⟨hk.1, ⟨hk.2.1, ⟨hk.2.2.1, hk.2.2.2.1⟩⟩⟩)⟩, ⟨by (with_reducible repeat (first | apply Kd.N_alloc | apply Kd.N_drewN | apply Kd.N_drew)); exact Kd.N_mono HO_40.out (fun _ hk => ⟨hk.1, ⟨hk.2.1, ⟨hk.2.2.1, hk.2.2.2.1⟩⟩⟩)⟩, ⟨sq_bk BK400.out⟩, ⟨sq_bs HB.out⟩⟩
         rw [if_pos c45] at H
         have c45b0 : decide (x58_4 < (l0_1.length : Int)) = true := decide_eq_true c45
         clear c45
         replace H := Option.bind_eq_some_iff.mp H
         obtain ⟨⟨t414, t417⟩, A460, H⟩ := H
         replace H : (if t417 = true then (if x8_2 < a1 then (if 0 ≤ (wrap64 ((((rd_T55 x6_2 x42_3).f0).length : Int) + 1)) then (if (wrap64 ((((rd_T55 x6_2 x42_3).f0).length : Int) + 1) : Int).toNat ≤ 35184372088832 then ((some (List.replicate 0 0 : List Int)).bind fun y418 => (if y418.length + ((rd_T55 x6_2 x42_3).f0).length < 17592186044416 then ((some (y418 ++ ((rd_T55 x6_2 x42_3).f0) : List Int)).bind fun y421 => (if y421.length < 17592186044416 then (if x9_4.length < 2932031007402 then (system_Traces.l2 k4 a1 y411 x8_2 (x9_4 ++ [(⟨(y421 ++ [x58_4]), t414⟩ : S55)]) x6_2 (x6_2.length : Int) x42_3 (l0_1.length : Int) (wrap64 (x58_4 + 1)) a0_0 l0_1 l0_2 ((rd_T55 x6_2 x42_3).f0) ((rd_T55 x6_2 x42_3).f1)) else (none)) else (none))) else (none))) else (none)) else (none)) else (system_Traces.l2 k4 a1 y411 x8_2 x9_4 x6_2 (x6_2.length : Int) x42_3 (l0_1.length : Int) (wrap64 (x58_4 + 1)) a0_0 l0_1 l0_2 ((rd_T55 x6_2 x42_3).f0) ((rd_T55 x6_2 x42_3).f1))) else (system_Traces.l2 k4 a1 y411 x8_2 x9_4 x6_2 (x6_2.length : Int) x42_3 (l0_1.length : Int) (wrap64 (x58_4 + 1)) a0_0 l0_1 l0_2 ((rd_T55 x6_2 x42_3).f0) ((rd_T55 x6_2 x42_3).f1))) = some r := H
         have A46 := Aside0.mk A460
         clear A460
         by_cases c47 : t417 = true
         rotate_left
         ·replace c47 := Bool.eq_false_iff.mpr c47
          subst c47
          have H1 : (system_Traces.l2 k4 a1 y411 x8_2 x9_4 x6_2 (x6_2.length : Int) x42_3 (l0_1.length : Int) (wrap64 (x58_4 + 1)) a0_0 l0_1 l0_2 ((rd_T55 x6_2 x42_3).f0) ((rd_T55 x6_2 x42_3).f1)) = some r := by rw [if_neg (show ¬ (false = true) by decide)] at H; exact H
          clear H
          have H := H1
          clear H1
          have H' := Aside0.mk H
          clear H
          have hnb72 := NB400_410.out
          have hnc72 := NB410_400.out
          have hcz73_0 : wr.cell? ⟨gb400, 0, none⟩ = some (.int .i64 a0_0) := (blk_cell BK400.out 0).trans rfl
          have hcz73_1 : wr.cell? ⟨gb400, 1, none⟩ = some (.slice A0_1 l0_1.length c0_1) := (blk_cell BK400.out 1).trans rfl
          have hcz73_2 : wr.cell? ⟨gb400, 2, none⟩ = some (.slice A0_2 l0_2.length c0_2) := (blk_cell BK400.out 2).trans rfl
          have hfz73_0 := blk_frozen BK400.out 0
          have hfz73_1 := blk_frozen BK400.out 1
          have hfz73_2 := blk_frozen BK400.out 2
          have hcz74_0 : wr.cell? ⟨gb410, 0, none⟩ = some (.slice A409_0 ((rd_T55 x6_2 x42_3).f0).length c409_0) := (blk_cell BK410.out 0).trans rfl
          have hcz74_1 : wr.cell? ⟨gb410, 1, none⟩ = some (.slice A409_1 ((rd_T55 x6_2 x42_3).f1).length c409_1) := (blk_cell BK410.out 1).trans rfl
          have hfz74_0 := blk_frozen BK410.out 0
          have hfz74_1 := blk_frozen BK410.out 1
          go_wp2_with (first | ((with_reducible refine gate_callee (f := 39) rfl ?_); refine sq_goes (some 66) Try.func39 #[.agg #[.int .i64 a0_0, .slice A0_1 l0_1.length c0_1, .slice A0_2 l0_2.length c0_2], .slice A409_1 ((rd_T55 x6_2 x42_3).f1).length c409_1, .int .i64 x58_4] ?_; (with_reducible refine (system_after.calls k4 a0_0 _ _ l0_1 _ _ l0_2 _ _ ((rd_T55 x6_2 x42_3).f1) x58_4 t414 false _ ?side1 ?side2 ?side3 ?side4 ?side5 ?side6 A46.out).mono ?_); (case side1 => exact sq_kc ((Kd.C_below HR0_1.out HB.out))); (case side2 => exact HC0_1.out); (case side3 => exact sq_kc ((Kd.C_below HR0_2.out HB.out))); (case side4 => exact HC0_2.out); (case side5 => exact sq_kc ((Kd.V_reads' HL409_1.out).2.2)); (case side6 => exact HC409_1.out); rintro e w75 ⟨v415, rfl, ho0, hb⟩; refine ⟨_, rfl, ?_⟩; have n0_ := Aside0.mk (Kd.N_elder' (sqt_n HO_7.out) (Kd.R_base ho0) hb); have n1_ := Aside0.mk (Kd.N_elder' (sqt_n HO_9.out) (Kd.R_base ho0) hb); have n2_ := Aside0.mk (Kd.N_elder' (sqt_n HO_40.out) (Kd.R_base ho0) hb); have nv0_ := Aside0.mk (V_elder_ (sqt_v HL409_0.out) (Kd.R_base ho0) hb); have nv1_ := Aside0.mk (V_elder_ (sqt_v HL409_1.out) (Kd.R_base ho0) hb); have n3_ := Aside0.mk (Kd.R_lower (Kd.R_newM (M := fun k_ => (w.heap.size ≤ k_)) ho0 (below_size (sq_bs HB.out)) (fun k_ h_ => h_)) (below_size (sq_bs HB.out))); have n4_ := Aside0.mk (blk_below (g := gb400) (o := .cells #[.int .i64 a0_0, .slice A0_1 l0_1.length c0_1, .slice A0_2 l0_2.length c0_2] 25 (0, 0)) (sq_bk BK400.out) hb); have n5_ := Aside0.mk (blk_below (g := gb410) (o := .cells #[.slice A409_0 ((rd_T55 x6_2 x42_3).f0).length c409_0, .slice A409_1 ((rd_T55 x6_2 x42_3).f1).length c409_1] 55 (0, 0)) (sq_bk BK410.out) hb); have n6_ := Aside0.mk (below_step (sq_bs HB.out) hb); clear HO_7; clear HO_9; clear HO_40; clear HL409_0; clear HL409_1; clear BK400; clear BK410; clear HB; have HO_7 := n0_; have HO_9 := n1_; have HO_40 := n2_; have HL409_0 := nv0_; have HL409_1 := nv1_; have HO416 := n3_; have BK400 := n4_; have BK410 := n5_; have HB := n6_; clear nv0_ nv1_ n0_ n1_ n2_ n3_ n4_ n5_ n6_; (try clear hb); (try clear ho0)))
          go_roundg k4
          case measure => have := HJ2.out; have := HK2.out; have := HK3.out; have := HK4.out; omega
          case rel => exact ⟨(x9_4), (wrap64 (x58_4 + 1)), (by first | rfl | (simp; done) | (simp [*]; done)), H', ⟨by have := HJ2.out; have := HK2.out; have := HK3.out; have := HK4.out; omega⟩, ⟨by (with_reducible repeat (first | apply Kd.N_alloc | apply Kd.N_drewN | apply Kd.N_drew)); exact Kd.N_mono HO_7.out (fun _ hk => ⟨hk.1.1, ⟨hk.1.2.1, ⟨hk.1.2.2.1, ⟨hk.1.2.2.2.1, hk.1.2.2.2.2⟩⟩⟩⟩)⟩, ⟨by (with_reducible repeat (first | apply Kd.N_alloc | apply Kd.N_drewN | apply Kd.N_drew)); exact Kd.N_mono HO_9.out (fun _ hk => ⟨hk.1.1, ⟨hk.1.2.1, ⟨hk.1.2.2.1, ⟨hk.1.2.2.2.1, hk.1.2.2.2.2⟩⟩⟩⟩)⟩, ⟨by (with_reducible repeat (first | apply Kd.N_alloc | apply Kd.N_drewN | apply Kd.N_drew)); exact Kd.N_mono HO_40.out (fun _ hk => ⟨hk.1.1, ⟨hk.1.2.1, ⟨hk.1.2.2.1, ⟨hk.1.2.2.2.1, hk.1.2.2.2.2⟩⟩⟩⟩)⟩, ⟨sq_bk BK400.out⟩, ⟨sq_bk BK410.out⟩, ⟨sq_bs HB.out⟩, ⟨by (with_reducible repeat (first | apply Kd.V_alloc | apply Kd.V_drewN | apply Kd.V_drew)); exact Kd.V_mono HL409_0.out (fun _ hk => ⟨hk.1.1, ⟨hk.1.2.1, ⟨hk.1.2.2.1, ⟨hk.1.2.2.2.1, hk.1.2.2.2.2⟩⟩⟩⟩)⟩, ⟨by (with_reducible repeat (first | apply Kd.V_alloc | apply Kd.V_drewN | apply Kd.V_drew)); exact Kd.V_mono HL409_1.out (fun _ hk => ⟨hk.1.1, ⟨hk.1.2.1, ⟨hk.1.2.2.1, ⟨hk.1.2.2.2.1, hk.1.2.2.2.2⟩⟩⟩⟩)⟩⟩
         subst c47
         have H1 : (if x8_2 < a1 then (if 0 ≤ (wrap64 ((((rd_T55 x6_2 x42_3).f0).length : Int) + 1)) then (if (wrap64 ((((rd_T55 x6_2 x42_3).f0).length : Int) + 1) : Int).toNat ≤ 35184372088832 then ((some (List.replicate 0 0 : List Int)).bind fun y418 => (if y418.length + ((rd_T55 x6_2 x42_3).f0).length < 17592186044416 then ((some (y418 ++ ((rd_T55 x6_2 x42_3).f0) : List Int)).bind fun y421 => (if y421.length < 17592186044416 then (if x9_4.length < 2932031007402 then (system_Traces.l2 k4 a1 y411 x8_2 (x9_4 ++ [(⟨(y421 ++ [x58_4]), t414⟩ : S55)]) x6_2 (x6_2.length : Int) x42_3 (l0_1.length : Int) (wrap64 (x58_4 + 1)) a0_0 l0_1 l0_2 ((rd_T55 x6_2 x42_3).f0) ((rd_T55 x6_2 x42_3).f1)) else (none)) else (none))) else (none))) else (none)) else (none)) else (system_Traces.l2 k4 a1 y411 x8_2 x9_4 x6_2 (x6_2.length : Int) x42_3 (l0_1.length : Int) (wrap64 (x58_4 + 1)) a0_0 l0_1 l0_2 ((rd_T55 x6_2 x42_3).f0) ((rd_T55 x6_2 x42_3).f1))) = some r := by rw [if_pos rfl] at H; exact H
         clear H
         have H := H1
         clear H1
         by_cases c48 : x8_2 < a1
         rotate_left
         ·rw [if_neg c48] at H
          have c48b0 : decide (x8_2 < a1) = false := decide_eq_false c48
          clear c48
          have H' := Aside0.mk H
          clear H
          have hnb68 := NB400_410.out
          have hnc68 := NB410_400.out
          have hcz69_0 : wr.cell? ⟨gb400, 0, none⟩ = some (.int .i64 a0_0) := (blk_cell BK400.out 0).trans rfl
          have hcz69_1 : wr.cell? ⟨gb400, 1, none⟩ = some (.slice A0_1 l0_1.length c0_1) := (blk_cell BK400.out 1).trans rfl
          have hcz69_2 : wr.cell? ⟨gb400, 2, none⟩ = some (.slice A0_2 l0_2.length c0_2) := (blk_cell BK400.out 2).trans rfl
          have hfz69_0 := blk_frozen BK400.out 0
          have hfz69_1 := blk_frozen BK400.out 1
          have hfz69_2 := blk_frozen BK400.out 2
          have hcz70_0 : wr.cell? ⟨gb410, 0, none⟩ = some (.slice A409_0 ((rd_T55 x6_2 x42_3).f0).length c409_0) := (blk_cell BK410.out 0).trans rfl
          have hcz70_1 : wr.cell? ⟨gb410, 1, none⟩ = some (.slice A409_1 ((rd_T55 x6_2 x42_3).f1).length c409_1) := (blk_cell BK410.out 1).trans rfl
          have hfz70_0 := blk_frozen BK410.out 0
          have hfz70_1 := blk_frozen BK410.out 1
          go_wp2_with (first | ((with_reducible refine gate_callee (f := 39) rfl ?_); refine sq_goes (some 66) Try.func39 #[.agg #[.int .i64 a0_0, .slice A0_1 l0_1.length c0_1, .slice A0_2 l0_2.length c0_2], .slice A409_1 ((rd_T55 x6_2 x42_3).f1).length c409_1, .int .i64 x58_4] ?_; (with_reducible refine (system_after.calls k4 a0_0 _ _ l0_1 _ _ l0_2 _ _ ((rd_T55 x6_2 x42_3).f1) x58_4 t414 true _ ?side1 ?side2 ?side3 ?side4 ?side5 ?side6 A46.out).mono ?_); (case side1 => exact sq_kc ((Kd.C_below HR0_1.out HB.out))); (case side2 => exact HC0_1.out); (case side3 => exact sq_kc ((Kd.C_below HR0_2.out HB.out))); (case side4 => exact HC0_2.out); (case side5 => exact sq_kc ((Kd.V_reads' HL409_1.out).2.2)); (case side6 => exact HC409_1.out); rintro e w71 ⟨v415, rfl, ho0, hb⟩; refine ⟨_, rfl, ?_⟩; have n0_ := Aside0.mk (Kd.N_elder' (sqt_n HO_7.out) (Kd.R_base ho0) hb); have n1_ := Aside0.mk (Kd.N_elder' (sqt_n HO_9.out) (Kd.R_base ho0) hb); have n2_ := Aside0.mk (Kd.N_elder' (sqt_n HO_40.out) (Kd.R_base ho0) hb); have nv0_ := Aside0.mk (V_elder_ (sqt_v HL409_0.out) (Kd.R_base ho0) hb); have nv1_ := Aside0.mk (V_elder_ (sqt_v HL409_1.out) (Kd.R_base ho0) hb); have n3_ := Aside0.mk (Kd.R_lower (Kd.R_newM (M := fun k_ => (w.heap.size ≤ k_)) ho0 (below_size (sq_bs HB.out)) (fun k_ h_ => h_)) (below_size (sq_bs HB.out))); have n4_ := Aside0.mk (blk_below (g := gb400) (o := .cells #[.int .i64 a0_0, .slice A0_1 l0_1.length c0_1, .slice A0_2 l0_2.length c0_2] 25 (0, 0)) (sq_bk BK400.out) hb); have n5_ := Aside0.mk (blk_below (g := gb410) (o := .cells #[.slice A409_0 ((rd_T55 x6_2 x42_3).f0).length c409_0, .slice A409_1 ((rd_T55 x6_2 x42_3).f1).length c409_1] 55 (0, 0)) (sq_bk BK410.out) hb); have n6_ := Aside0.mk (below_step (sq_bs HB.out) hb); clear HO_7; clear HO_9; clear HO_40; clear HL409_0; clear HL409_1; clear BK400; clear BK410; clear HB; have HO_7 := n0_; have HO_9 := n1_; have HO_40 := n2_; have HL409_0 := nv0_; have HL409_1 := nv1_; have HO416 := n3_; have BK400 := n4_; have BK410 := n5_; have HB := n6_; clear nv0_ nv1_ n0_ n1_ n2_ n3_ n4_ n5_ n6_; (try clear hb); (try clear ho0)))
          go_roundg k4
          case measure => have := HJ2.out; have := HK2.out; have := HK3.out; have := HK4.out; omega
          case rel => exact ⟨(x9_4), (wrap64 (x58_4 + 1)), (by first | rfl | (simp; done) | (simp [*]; done)), H', ⟨by have := HJ2.out; have := HK2.out; have := HK3.out; have := HK4.out; omega⟩, ⟨by (with_reducible repeat (first | apply Kd.N_alloc | apply Kd.N_drewN | apply Kd.N_drew)); exact Kd.N_mono HO_7.out (fun _ hk => ⟨hk.1.1, ⟨hk.1.2.1, ⟨hk.1.2.2.1, ⟨hk.1.2.2.2.1, hk.1.2.2.2.2⟩⟩⟩⟩)⟩, ⟨by (with_reducible repeat (first | apply Kd.N_alloc | apply Kd.N_drewN | apply Kd.N_drew)); exact Kd.N_mono HO_9.out (fun _ hk => ⟨hk.1.1, ⟨hk.1.2.1, ⟨hk.1.2.2.1, ⟨hk.1.2.2.2.1, hk.1.2.2.2.2⟩⟩⟩⟩)⟩, ⟨by (with_reducible repeat (first | apply Kd.N_alloc | apply Kd.N_drewN | apply Kd.N_drew)); exact Kd.N_mono HO_40.out (fun _ hk => ⟨hk.1.1, ⟨hk.1.2.1, ⟨hk.1.2.2.1, ⟨hk.1.2.2.2.1, hk.1.2.2.2.2⟩⟩⟩⟩)⟩, ⟨sq_bk BK400.out⟩, ⟨sq_bk BK410.out⟩, ⟨sq_bs HB.out⟩, ⟨by (with_reducible repeat (first | apply Kd.V_alloc | apply Kd.V_drewN | apply Kd.V_drew)); exact Kd.V_mono HL409_0.out (fun _ hk => ⟨hk.1.1, ⟨hk.1.2.1, ⟨hk.1.2.2.1, ⟨hk.1.2.2.2.1, hk.1.2.2.2.2⟩⟩⟩⟩)⟩, ⟨by (with_reducible repeat (first | apply Kd.V_alloc | apply Kd.V_drewN | apply Kd.V_drew)); exact Kd.V_mono HL409_1.out (fun _ hk => ⟨hk.1.1, ⟨hk.1.2.1, ⟨hk.1.2.2.1, ⟨hk.1.2.2.2.1, hk.1.2.2.2.2⟩⟩⟩⟩)⟩⟩
         rw [if_pos c48] at H
         have c48b0 : decide (x8_2 < a1) = true := decide_eq_true c48
         clear c48
         obtain ⟨ji49, hji49⟩ : ∃ j_ : Int, (wrap64 ((((rd_T55 x6_2 x42_3).f0).length : Int) + 1)) = j_ := ⟨_, rfl⟩
         replace H : (if 0 ≤ (ji49) then (if (ji49 : Int).toNat ≤ 35184372088832 then ((some (List.replicate 0 0 : List Int)).bind fun y418 => (if y418.length + ((rd_T55 x6_2 x42_3).f0).length < 17592186044416 then ((some (y418 ++ ((rd_T55 x6_2 x42_3).f0) : List Int)).bind fun y421 => (if y421.length < 17592186044416 then (if x9_4.length < 2932031007402 then (system_Traces.l2 k4 a1 y411 x8_2 (x9_4 ++ [(⟨(y421 ++ [x58_4]), t414⟩ : S55)]) x6_2 (x6_2.length : Int) x42_3 (l0_1.length : Int) (wrap64 (x58_4 + 1)) a0_0 l0_1 l0_2 ((rd_T55 x6_2 x42_3).f0) ((rd_T55 x6_2 x42_3).f1)) else (none)) else (none))) else (none))) else (none)) else (none)) = some r := by first | (rw [hji49] at H; exact H) | (simp only [hji49] at H ⊢; exact H)
         (try rw [hji49] at A46)
         have hji49w : (IntKind.i64.wrap ((((rd_T55 x6_2 x42_3).f0).length : Int) + 1)) = ji49 := (i64_w _).trans hji49
         by_cases c50 : 0 ≤ (ji49)
         rotate_left
         ·rw [if_neg c50] at H
          exact absurd H (by simp)
         rw [if_pos c50] at H
         have c50b0 := eq_true c50
         have c50b1 : decide (0 ≤ (ji49)) = true := decide_eq_true c50
         clear c50
         by_cases c51 : (ji49 : Int).toNat ≤ 35184372088832
         rotate_left
         ·rw [if_neg c51] at H
          exact absurd H (by simp)
         rw [if_pos c51] at H
         have c51b0 := eq_true c51
         have c51b1 : decide ((ji49 : Int).toNat ≤ 35184372088832) = true := decide_eq_true c51
         clear c51
         obtain ⟨y418, hy418⟩ : ∃ y_ : List Int, y_ = (List.replicate 0 0) := ⟨_, rfl⟩
         replace H : (if y418.length + ((rd_T55 x6_2 x42_3).f0).length < 17592186044416 then ((some (y418 ++ ((rd_T55 x6_2 x42_3).f0) : List Int)).bind fun y421 => (if y421.length < 17592186044416 then (if x9_4.length < 2932031007402 then (system_Traces.l2 k4 a1 y411 x8_2 (x9_4 ++ [(⟨(y421 ++ [x58_4]), t414⟩ : S55)]) x6_2 (x6_2.length : Int) x42_3 (l0_1.length : Int) (wrap64 (x58_4 + 1)) a0_0 l0_1 l0_2 ((rd_T55 x6_2 x42_3).f0) ((rd_T55 x6_2 x42_3).f1)) else (none)) else (none))) else (none)) = some r := by first | (rw [hy418]; with_reducible exact H) | (have H2_ := (Option.bind_some _ _).symm.trans H; rw [hy418]; with_reducible exact H2_) | (have H2_ := (Option.bind_some _ _).symm.trans H; with_reducible exact H2_) | with_reducible exact H | (rw [hy418]; exact H) | exact H
         have Ny418 := Aside0.mk hy418
         clear hy418
         by_cases c52 : y418.length + ((rd_T55 x6_2 x42_3).f0).length < 17592186044416
         rotate_left
         ·rw [if_neg c52] at H
          exact absurd H (by simp)
         rw [if_pos c52] at H
         have LMc52 := Aside0.mk c52
         clear c52
         obtain ⟨y421, hy421⟩ : ∃ y_ : List Int, y_ = (y418 ++ ((rd_T55 x6_2 x42_3).f0)) := ⟨_, rfl⟩
         replace H : (if y421.length < 17592186044416 then (if x9_4.length < 2932031007402 then (system_Traces.l2 k4 a1 y411 x8_2 (x9_4 ++ [(⟨(y421 ++ [x58_4]), t414⟩ : S55)]) x6_2 (x6_2.length : Int) x42_3 (l0_1.length : Int) (wrap64 (x58_4 + 1)) a0_0 l0_1 l0_2 ((rd_T55 x6_2 x42_3).f0) ((rd_T55 x6_2 x42_3).f1)) else (none)) else (none)) = some r := by first | (rw [hy421]; with_reducible exact H) | (have H2_ := (Option.bind_some _ _).symm.trans H; rw [hy421]; with_reducible exact H2_) | (have H2_ := (Option.bind_some _ _).symm.trans H; with_reducible exact H2_) | with_reducible exact H | (rw [hy421]; exact H) | exact H
         have Ny421 := Aside0.mk hy421
         clear hy421
         by_cases c53 : y421.length < 17592186044416
         rotate_left
         ·rw [if_neg c53] at H
          exact absurd H (by simp)
         rw [if_pos c53] at H
         have LMc53 := Aside0.mk c53
         clear c53
         obtain ⟨y424, hy424⟩ : ∃ y_ : List Int, y_ = (y421 ++ [x58_4]) := ⟨_, rfl⟩
         replace H : (if x9_4.length < 2932031007402 then (system_Traces.l2 k4 a1 y411 x8_2 (x9_4 ++ [(⟨y424, t414⟩ : S55)]) x6_2 (x6_2.length : Int) x42_3 (l0_1.length : Int) (wrap64 (x58_4 + 1)) a0_0 l0_1 l0_2 ((rd_T55 x6_2 x42_3).f0) ((rd_T55 x6_2 x42_3).f1)) else (none)) = some r := by first | (rw [hy424]; with_reducible exact H) | (have H2_ := (Option.bind_some _ _).symm.trans H; rw [hy424]; with_reducible exact H2_) | (have H2_ := (Option.bind_some _ _).symm.trans H; with_reducible exact H2_) | with_reducible exact H | (rw [hy424]; exact H) | exact H
         have Ny424 := Aside0.mk hy424
         clear hy424
         by_cases c54 : x9_4.length < 2932031007402
         rotate_left
         ·rw [if_neg c54] at H
          exact absurd H (by simp)
         rw [if_pos c54] at H
         have LMc54 := Aside0.mk c54
         clear c54
         obtain ⟨y427, hy427⟩ : ∃ y_ : List (S55), y_ = (x9_4 ++ [(⟨y424, t414⟩ : S55)]) := ⟨_, rfl⟩
         replace H : (system_Traces.l2 k4 a1 y411 x8_2 y427 x6_2 (x6_2.length : Int) x42_3 (l0_1.length : Int) (wrap64 (x58_4 + 1)) a0_0 l0_1 l0_2 ((rd_T55 x6_2 x42_3).f0) ((rd_T55 x6_2 x42_3).f1)) = some r := by first | (rw [hy427]; with_reducible exact H) | (have H2_ := (Option.bind_some _ _).symm.trans H; rw [hy427]; with_reducible exact H2_) | (have H2_ := (Option.bind_some _ _).symm.trans H; with_reducible exact H2_) | with_reducible exact H | (rw [hy427]; exact H) | exact H
         have Ny427 := Aside0.mk hy427
         clear hy427
         have H' := Aside0.mk H
         clear H
         have hnb55 := NB400_410.out
         have hnc55 := NB410_400.out
         have hcz56_0 : wr.cell? ⟨gb400, 0, none⟩ = some (.int .i64 a0_0) := (blk_cell BK400.out 0).trans rfl
         have hcz56_1 : wr.cell? ⟨gb400, 1, none⟩ = some (.slice A0_1 l0_1.length c0_1) := (blk_cell BK400.out 1).trans rfl
         have hcz56_2 : wr.cell? ⟨gb400, 2, none⟩ = some (.slice A0_2 l0_2.length c0_2) := (blk_cell BK400.out 2).trans rfl
         have hfz56_0 := blk_frozen BK400.out 0
         have hfz56_1 := blk_frozen BK400.out 1
         have hfz56_2 := blk_frozen BK400.out 2
         have hcz57_0 : wr.cell? ⟨gb410, 0, none⟩ = some (.slice A409_0 ((rd_T55 x6_2 x42_3).f0).length c409_0) := (blk_cell BK410.out 0).trans rfl
         have hcz57_1 : wr.cell? ⟨gb410, 1, none⟩ = some (.slice A409_1 ((rd_T55 x6_2 x42_3).f1).length c409_1) := (blk_cell BK410.out 1).trans rfl
         have hfz57_0 := blk_frozen BK410.out 0
         have hfz57_1 := blk_frozen BK410.out 1
         go_wp2_with (first | ((with_reducible refine gate_callee (f := 39) rfl ?_); refine sq_goes (some 66) Try.func39 #[.agg #[.int .i64 a0_0, .slice A0_1 l0_1.length c0_1, .slice A0_2 l0_2.length c0_2], .slice A409_1 ((rd_T55 x6_2 x42_3).f1).length c409_1, .int .i64 x58_4] ?_; (with_reducible refine (system_after.calls k4 a0_0 _ _ l0_1 _ _ l0_2 _ _ ((rd_T55 x6_2 x42_3).f1) x58_4 t414 true _ ?side1 ?side2 ?side3 ?side4 ?side5 ?side6 A46.out).mono ?_); (case side1 => exact sq_kc ((Kd.C_below HR0_1.out HB.out))); (case side2 => exact HC0_1.out); (case side3 => exact sq_kc ((Kd.C_below HR0_2.out HB.out))); (case side4 => exact HC0_2.out); (case side5 => exact sq_kc ((Kd.V_reads' HL409_1.out).2.2)); (case side6 => exact HC409_1.out); rintro e w58 ⟨v415, rfl, ho0, hb⟩; refine ⟨_, rfl, ?_⟩; have n0_ := Aside0.mk (Kd.N_elder' (sqt_n HO_7.out) (Kd.R_base ho0) hb); have n1_ := Aside0.mk (Kd.N_elder' (sqt_n HO_9.out) (Kd.R_base ho0) hb); have n2_ := Aside0.mk (Kd.N_elder' (sqt_n HO_40.out) (Kd.R_base ho0) hb); have nv0_ := Aside0.mk (V_elder_ (sqt_v HL409_0.out) (Kd.R_base ho0) hb); have nv1_ := Aside0.mk (V_elder_ (sqt_v HL409_1.out) (Kd.R_base ho0) hb); have n3_ := Aside0.mk (Kd.R_lower (Kd.R_newM (M := fun k_ => (w.heap.size ≤ k_)) ho0 (below_size (sq_bs HB.out)) (fun k_ h_ => h_)) (below_size (sq_bs HB.out))); have n4_ := Aside0.mk (blk_below (g := gb400) (o := .cells #[.int .i64 a0_0, .slice A0_1 l0_1.length c0_1, .slice A0_2 l0_2.length c0_2] 25 (0, 0)) (sq_bk BK400.out) hb); have n5_ := Aside0.mk (blk_below (g := gb410) (o := .cells #[.slice A409_0 ((rd_T55 x6_2 x42_3).f0).length c409_0, .slice A409_1 ((rd_T55 x6_2 x42_3).f1).length c409_1] 55 (0, 0)) (sq_bk BK410.out) hb); have n6_ := Aside0.mk (below_step (sq_bs HB.out) hb); clear HO_7; clear HO_9; clear HO_40; clear HL409_0; clear HL409_1; clear BK400; clear BK410; clear HB; have HO_7 := n0_; have HO_9 := n1_; have HO_40 := n2_; have HL409_0 := nv0_; have HL409_1 := nv1_; have HO416 := n3_; have BK400 := n4_; have BK410 := n5_; have HB := n6_; clear nv0_ nv1_ n0_ n1_ n2_ n3_ n4_ n5_ n6_; (try clear hb); (try clear ho0); have hcz59_0 : w58.cell? ⟨gb410, 0, none⟩ = some (.slice A409_0 ((rd_T55 x6_2 x42_3).f0).length c409_0) := (blk_cell BK410.out 0).trans rfl; have hcz59_1 : w58.cell? ⟨gb410, 1, none⟩ = some (.slice A409_1 ((rd_T55 x6_2 x42_3).f1).length c409_1) := (blk_cell BK410.out 1).trans rfl; have hfz59_0 := blk_frozen BK410.out 0; have hfz59_1 := blk_frozen BK410.out 1) | ((with_reducible refine gate_dst (N := 79) rfl ?_); refine Kd.R_make0 (Kd.int .i64) _ 3 rfl (N := 79) rfl 34 _ _ rfl ji49 rfl rfl Try.underlying34 (.int .i64 0) 8 info3 rfl (by decide) (by omega) 0 (ok := fun _ => True) (okp := fun _ => True) rfl (fun _ hk => hk) trivial sq_d (Nat.le_trans (Nat.mul_le_mul_right _ (sq_d : ji49.toNat ≤ 35184372088832)) (by omega)) (Below.refl _ _) (Nat.le_refl _) ?_; intro v419 w60 ho61 hb hg_ hnew_; clear hg_ hnew_; (first | rw [← Ny418.out] at ho61 | (simp only [Int.reduceToNat] at ho61; rw [← Ny418.out] at ho61)); have n0_ := Aside0.mk (Kd.N_elder' (sqt_n HO_7.out) (Kd.R_base ho61) hb); have n1_ := Aside0.mk (Kd.N_elder' (sqt_n HO_9.out) (Kd.R_base ho61) hb); have n2_ := Aside0.mk (Kd.N_elder' (sqt_n HO_40.out) (Kd.R_base ho61) hb); have nv0_ := Aside0.mk (V_elder_ (sqt_v HL409_0.out) (Kd.R_base ho61) hb); have nv1_ := Aside0.mk (V_elder_ (sqt_v HL409_1.out) (Kd.R_base ho61) hb); have n3_ := Aside0.mk (Kd.R_below (sq_kr HO416.out) hb); have n4_ := Aside0.mk (Kd.R_lower (Kd.R_newM (M := fun k_ => (w.heap.size ≤ k_)) ho61 (below_size (sq_bs HB.out)) (fun k_ h_ => h_)) (below_size (sq_bs HB.out))); have n5_ := Aside0.mk (blk_below (g := gb400) (o := .cells #[.int .i64 a0_0, .slice A0_1 l0_1.length c0_1, .slice A0_2 l0_2.length c0_2] 25 (0, 0)) (sq_bk BK400.out) hb); have n6_ := Aside0.mk (blk_below (g := gb410) (o := .cells #[.slice A409_0 ((rd_T55 x6_2 x42_3).f0).length c409_0, .slice A409_1 ((rd_T55 x6_2 x42_3).f1).length c409_1] 55 (0, 0)) (sq_bk BK410.out) hb); have n7_ := Aside0.mk (below_step (sq_bs HB.out) hb); clear HO_7; clear HO_9; clear HO_40; clear HL409_0; clear HL409_1; clear HO416; clear BK400; clear BK410; clear HB; have HO_7 := n0_; have HO_9 := n1_; have HO_40 := n2_; have HL409_0 := nv0_; have HL409_1 := nv1_; have HO416 := n3_; have HO420 := n4_; have BK400 := n5_; have BK410 := n6_; have HB := n7_; clear nv0_ nv1_ n0_ n1_ n2_ n3_ n4_ n5_ n6_ n7_; clear hb ho61; have hcz62_0 : w60.cell? ⟨gb410, 0, none⟩ = some (.slice A409_0 ((rd_T55 x6_2 x42_3).f0).length c409_0) := (blk_cell BK410.out 0).trans rfl; have hcz62_1 : w60.cell? ⟨gb410, 1, none⟩ = some (.slice A409_1 ((rd_T55 x6_2 x42_3).f1).length c409_1) := (blk_cell BK410.out 1).trans rfl; have hfz62_0 := blk_frozen BK410.out 0; have hfz62_1 := blk_frozen BK410.out 1) | ((with_reducible refine gate_builtin (b := .append) (xs := #[.tmp 81, .tmp 83]) rfl ?_); at_builtin; refine Kd.R_append_rows (Kd.int .i64) (w0 := w) w.heap.size rfl (.tmp 81) (.tmp 83) 34 3 (.int .i64 0) 8 rfl Try.underlying34 info3 rfl (by decide) (by omega) v419 y418 ((rd_T55 x6_2 x42_3).f0) _ _ _ (fun k_ => (w.heap.size ≤ k_)) (fun _ => False) rfl rfl ?aO ?aR (fun _ _ h => h) (fun _ h => h.elim) ?aF ?aB ?aS ?aL ?_; (case aR => exact sq_kc ((Kd.V_reads' HL409_0.out).2.2)); (case aB => exact (sq_bs HB.out)); (case aF => exact (fun k_ hk => (Nat.le_trans (below_size (sq_bs HB.out)) hk))); (case aO => exact (by (with_reducible repeat (first | apply Kd.R_alloc | apply Kd.R_drewN | apply Kd.R_drew)); exact Kd.R_mono HO420.out (fun _ hk => hk.1))); (case aS => exact (below_size (sq_bs HB.out))); (case aL => have := LMc52.out; omega); intro v422 w63 ho hb hg hat; rw [← Ny421.out] at ho; have n0_ := Aside0.mk (Kd.N_afterv (ok := (fun k_ => (w.heap.size ≤ k_) ∧ some k_ ≠ (u9 : Value).ownBlock ∧ some k_ ≠ (.slice (some ad409) x6_2.length co27 : Value).ownBlock ∧ some k_ ≠ (v415 : Value).ownBlock ∧ k_ ≠ gb400 ∧ k_ ≠ gb410)) (by (with_reducible repeat (first | apply Kd.N_alloc | apply Kd.N_drewN | apply Kd.N_drew)); exact Kd.N_mono HO_7.out (fun _ hk => ⟨⟨hk.1.1.1, ⟨hk.1.1.2.1, ⟨hk.1.1.2.2.1, ⟨hk.1.2, ⟨hk.1.1.2.2.2.1, hk.1.1.2.2.2.2⟩⟩⟩⟩⟩, hk.2⟩)) hg hat); have n1_ := Aside0.mk (Kd.N_afterv (ok := (fun k_ => (w.heap.size ≤ k_) ∧ some k_ ≠ (v412 : Value).ownBlock ∧ some k_ ≠ (.slice (some ad409) x6_2.length co27 : Value).ownBlock ∧ some k_ ≠ (v415 : Value).ownBlock ∧ k_ ≠ gb400 ∧ k_ ≠ gb410)) (by (with_reducible repeat (first | apply Kd.N_alloc | apply Kd.N_drewN | apply Kd.N_drew)); exact Kd.N_mono HO_9.out (fun _ hk => ⟨⟨hk.1.1.1, ⟨hk.1.1.2.1, ⟨hk.1.1.2.2.1, ⟨hk.1.2, ⟨hk.1.1.2.2.2.1, hk.1.1.2.2.2.2⟩⟩⟩⟩⟩, hk.2⟩)) hg hat); have n2_ := Aside0.mk (Kd.N_afterv (ok := (fun k_ => (w.heap.size ≤ k_) ∧ some k_ ≠ (v412 : Value).ownBlock ∧ some k_ ≠ (u9 : Value).ownBlock ∧ some k_ ≠ (v415 : Value).ownBlock ∧ k_ ≠ gb400 ∧ k_ ≠ gb410)) (by (with_reducible repeat (first | apply Kd.N_alloc | apply Kd.N_drewN | apply Kd.N_drew)); exact Kd.N_mono HO_40.out (fun _ hk => ⟨⟨hk.1.1.1, ⟨hk.1.1.2.1, ⟨hk.1.1.2.2.1, ⟨hk.1.2, ⟨hk.1.1.2.2.2.1, hk.1.1.2.2.2.2⟩⟩⟩⟩⟩, hk.2⟩)) hg hat); have nv0_ := Aside0.mk (Kd.V_afterv (ok := (fun k_ => (w.heap.size ≤ k_) ∧ some k_ ≠ (v412 : Value).ownBlock ∧ some k_ ≠ (u9 : Value).ownBlock ∧ some k_ ≠ (v415 : Value).ownBlock ∧ k_ ≠ gb400 ∧ k_ ≠ gb410)) (by (with_reducible repeat (first | apply Kd.V_alloc | apply Kd.V_drewN | apply Kd.V_drew)); exact Kd.V_mono HL409_0.out (fun _ hk => ⟨⟨hk.1.1.1, ⟨hk.1.1.2.1, ⟨hk.1.1.2.2.1, ⟨hk.1.2, ⟨hk.1.1.2.2.2.1, hk.1.1.2.2.2.2⟩⟩⟩⟩⟩, hk.2⟩)) hg hat); have nv1_ := Aside0.mk (Kd.V_afterv (ok := (fun k_ => (w.heap.size ≤ k_) ∧ some k_ ≠ (v412 : Value).ownBlock ∧ some k_ ≠ (u9 : Value).ownBlock ∧ some k_ ≠ (v415 : Value).ownBlock ∧ k_ ≠ gb400 ∧ k_ ≠ gb410)) (by (with_reducible repeat (first | apply Kd.V_alloc | apply Kd.V_drewN | apply Kd.V_drew)); exact Kd.V_mono HL409_1.out (fun _ hk => ⟨⟨hk.1.1.1, ⟨hk.1.1.2.1, ⟨hk.1.1.2.2.1, ⟨hk.1.2, ⟨hk.1.1.2.2.2.1, hk.1.1.2.2.2.2⟩⟩⟩⟩⟩, hk.2⟩)) hg hat); have n3_ := Aside0.mk (blk_grown (g := gb400) (o := .cells #[.int .i64 a0_0, .slice A0_1 l0_1.length c0_1, .slice A0_2 l0_2.length c0_2] 25 (0, 0)) (sq_bk BK400.out) hg (Kd.R_ne HO420.out BK400.out (by decide))); have n4_ := Aside0.mk (blk_grown (g := gb410) (o := .cells #[.slice A409_0 ((rd_T55 x6_2 x42_3).f0).length c409_0, .slice A409_1 ((rd_T55 x6_2 x42_3).f1).length c409_1] 55 (0, 0)) (sq_bk BK410.out) hg (Kd.R_ne HO420.out BK410.out (by decide))); have n5_ := Aside0.mk (Kd.R_over' (sq_kr HO416.out) (Kd.R_typed (sq_kr HO420.out)) (by decide) hg); have n6_ := Aside0.mk (hb); have n7_ := Aside0.mk (ho); clear HO_7; clear HO_9; clear HO_40; clear HL409_0; clear HL409_1; clear BK400; clear BK410; clear HO416; clear HB; clear HO420; have HO_7 := n0_; have HO_9 := n1_; have HO_40 := n2_; have HL409_0 := nv0_; have HL409_1 := nv1_; have BK400 := n3_; have BK410 := n4_; have HO416 := n5_; have HB := n6_; have HO423 := n7_; clear nv0_ nv1_ n0_ n1_ n2_ n3_ n4_ n5_ n6_ n7_; clear ho hb hg hat) | ((with_reducible refine gate_builtin (b := .append) (xs := #[.tmp 84, .tmp 86]) rfl ?_); at_builtin; refine Kd.R_append (Kd.int .i64) (w0 := w) w.heap.size rfl (.tmp 84) (.tmp 86) 34 3 (.int .i64 0) 8 rfl Try.underlying34 info3 rfl (by decide) (by omega) v422 y421 x58_4 [.int .i64 x58_4] (fun k_ => (w.heap.size ≤ k_)) (fun _ => False) rfl rfl ?aP (fun _ hk => hk.elim) ?aF ?aO ?aB ?aS ?aL ?_; (case aP => exact rfl); (case aB => exact (sq_bs HB.out)); (case aF => exact (fun k_ hk => (Nat.le_trans (below_size (sq_bs HB.out)) hk))); (case aO => exact (sq_kr HO423.out)); (case aS => exact (below_size (sq_bs HB.out))); (case aL => have := LMc53.out; omega); intro v425 w64 ho hb hg hat; rw [← Ny424.out] at ho; have n0_ := Aside0.mk (Kd.N_afterv (ok := (fun k_ => (w.heap.size ≤ k_) ∧ some k_ ≠ (u9 : Value).ownBlock ∧ some k_ ≠ (.slice (some ad409) x6_2.length co27 : Value).ownBlock ∧ some k_ ≠ (v415 : Value).ownBlock ∧ k_ ≠ gb400 ∧ k_ ≠ gb410)) (sqt_n HO_7.out) hg hat); have n1_ := Aside0.mk (Kd.N_afterv (ok := (fun k_ => (w.heap.size ≤ k_) ∧ some k_ ≠ (v412 : Value).ownBlock ∧ some k_ ≠ (.slice (some ad409) x6_2.length co27 : Value).ownBlock ∧ some k_ ≠ (v415 : Value).ownBlock ∧ k_ ≠ gb400 ∧ k_ ≠ gb410)) (sqt_n HO_9.out) hg hat); have n2_ := Aside0.mk (Kd.N_afterv (ok := (fun k_ => (w.heap.size ≤ k_) ∧ some k_ ≠ (v412 : Value).ownBlock ∧ some k_ ≠ (u9 : Value).ownBlock ∧ some k_ ≠ (v415 : Value).ownBlock ∧ k_ ≠ gb400 ∧ k_ ≠ gb410)) (sqt_n HO_40.out) hg hat); have nv0_ := Aside0.mk (Kd.V_afterv (ok := (fun k_ => (w.heap.size ≤ k_) ∧ some k_ ≠ (v412 : Value).ownBlock ∧ some k_ ≠ (u9 : Value).ownBlock ∧ some k_ ≠ (v415 : Value).ownBlock ∧ k_ ≠ gb400 ∧ k_ ≠ gb410)) (sqt_v HL409_0.out) hg hat); have nv1_ := Aside0.mk (Kd.V_afterv (ok := (fun k_ => (w.heap.size ≤ k_) ∧ some k_ ≠ (v412 : Value).ownBlock ∧ some k_ ≠ (u9 : Value).ownBlock ∧ some k_ ≠ (v415 : Value).ownBlock ∧ k_ ≠ gb400 ∧ k_ ≠ gb410)) (sqt_v HL409_1.out) hg hat); have n3_ := Aside0.mk (blk_grown (g := gb400) (o := .cells #[.int .i64 a0_0, .slice A0_1 l0_1.length c0_1, .slice A0_2 l0_2.length c0_2] 25 (0, 0)) (sq_bk BK400.out) hg (Kd.R_ne HO423.out BK400.out (by decide))); have n4_ := Aside0.mk (blk_grown (g := gb410) (o := .cells #[.slice A409_0 ((rd_T55 x6_2 x42_3).f0).length c409_0, .slice A409_1 ((rd_T55 x6_2 x42_3).f1).length c409_1] 55 (0, 0)) (sq_bk BK410.out) hg (Kd.R_ne HO423.out BK410.out (by decide))); have n5_ := Aside0.mk (Kd.R_over' (sq_kr HO416.out) (Kd.R_typed (sq_kr HO423.out)) (by decide) hg); have n6_ := Aside0.mk (hb); have n7_ := Aside0.mk (ho); clear HO_7; clear HO_9; clear HO_40; clear HL409_0; clear HL409_1; clear BK400; clear BK410; clear HO416; clear HB; clear HO423; have HO_7 := n0_; have HO_9 := n1_; have HO_40 := n2_; have HL409_0 := nv0_; have HL409_1 := nv1_; have BK400 := n3_; have BK410 := n4_; have HO416 := n5_; have HB := n6_; have HO426 := n7_; clear nv0_ nv1_ n0_ n1_ n2_ n3_ n4_ n5_ n6_ n7_; clear ho hb hg hat; obtain ⟨Ao65, co65, eo65⟩ := Kd.R_slice HO416.out; subst eo65; obtain ⟨Ao66, co66, eo66⟩ := Kd.R_slice HO426.out; subst eo66) | ((with_reducible refine gate_builtin (b := .append) (xs := #[.tmp 80, .tmp 90]) rfl ?_); at_builtin; refine Kd.N_append k55 (w0 := w) w.heap.size rfl (.tmp 80) (.tmp 90) 56 55 (.agg #[(.slice none 0 0), (.slice none 0 0)]) 48 rfl Try.underlying56 info55 rfl (by decide) (by omega) u9 x9_4 (⟨y424, t414⟩ : S55) [.slice Ao66 y424.length co66, .slice Ao65 t414.length co65] (fun k_ => (w.heap.size ≤ k_) ∧ some k_ ≠ (v412 : Value).ownBlock ∧ some k_ ≠ (.slice (some ad409) x6_2.length co27 : Value).ownBlock ∧ k_ ≠ gb400 ∧ k_ ≠ gb410) (fun k_ => ((fun k_ => (w.heap.size ≤ k_) ∧ some k_ ≠ (v412 : Value).ownBlock ∧ some k_ ≠ (.slice (some ad409) x6_2.length co27 : Value).ownBlock ∧ k_ ≠ gb400 ∧ k_ ≠ gb410)) k_ ∧ some k_ ≠ (u9 : Value).ownBlock) rfl rfl ?aP (fun _ hk => hk) ?aF ?aO ?aB ?aS ?aL ?_; (case aP => exact (k55_mkF _ _ (⟨y424, t414⟩ : S55) (Kd.R_reads' (Kd.R_mono (ok' := (fun k_ => ((fun k_ => (w.heap.size ≤ k_) ∧ some k_ ≠ (v412 : Value).ownBlock ∧ some k_ ≠ (.slice (some ad409) x6_2.length co27 : Value).ownBlock ∧ k_ ≠ gb400 ∧ k_ ≠ gb410)) k_ ∧ some k_ ≠ (u9 : Value).ownBlock)) (Kd.R_types (Kd.R_types (Kd.R_apart' (Kd.R_apart' (Kd.R_apart' (HO426.out) (Kd.N_typed HO_7.out) (by decide)) (Kd.N_typed HO_40.out) (by decide)) (Kd.N_typed HO_9.out) (by decide)) BK400.out (by decide)) BK410.out (by decide)) (fun k_ hk => ⟨⟨hk.1.1.1.1.1, ⟨hk.1.1.1.1.2, ⟨hk.1.1.1.2, ⟨hk.1.2, hk.2⟩⟩⟩⟩, hk.1.1.2⟩))).2.1 (Kd.R_F (Kd.R_mono (ok' := (fun k_ => ((fun k_ => (w.heap.size ≤ k_) ∧ some k_ ≠ (v412 : Value).ownBlock ∧ some k_ ≠ (.slice (some ad409) x6_2.length co27 : Value).ownBlock ∧ k_ ≠ gb400 ∧ k_ ≠ gb410)) k_ ∧ some k_ ≠ (u9 : Value).ownBlock)) (Kd.R_types (Kd.R_types (Kd.R_apart' (Kd.R_apart' (Kd.R_apart' (HO426.out) (Kd.N_typed HO_7.out) (by decide)) (Kd.N_typed HO_40.out) (by decide)) (Kd.N_typed HO_9.out) (by decide)) BK400.out (by decide)) BK410.out (by decide)) (fun k_ hk => ⟨⟨hk.1.1.1.1.1, ⟨hk.1.1.1.1.2, ⟨hk.1.1.1.2, ⟨hk.1.2, hk.2⟩⟩⟩⟩, hk.1.1.2⟩))) (Kd.R_reads' (Kd.R_mono (ok' := (fun k_ => ((fun k_ => (w.heap.size ≤ k_) ∧ some k_ ≠ (v412 : Value).ownBlock ∧ some k_ ≠ (.slice (some ad409) x6_2.length co27 : Value).ownBlock ∧ k_ ≠ gb400 ∧ k_ ≠ gb410)) k_ ∧ some k_ ≠ (u9 : Value).ownBlock)) (Kd.R_types (Kd.R_types (Kd.R_apart' (Kd.R_apart' (Kd.R_apart' (HO416.out) (Kd.N_typed HO_7.out) (by decide)) (Kd.N_typed HO_40.out) (by decide)) (Kd.N_typed HO_9.out) (by decide)) BK400.out (by decide)) BK410.out (by decide)) (fun k_ hk => ⟨⟨hk.1.1.1.1.1.1, ⟨hk.1.1.1.1.2, ⟨hk.1.1.1.2, ⟨hk.1.2, hk.2⟩⟩⟩⟩, hk.1.1.2⟩))).2.1 (Kd.R_F (Kd.R_mono (ok' := (fun k_ => ((fun k_ => (w.heap.size ≤ k_) ∧ some k_ ≠ (v412 : Value).ownBlock ∧ some k_ ≠ (.slice (some ad409) x6_2.length co27 : Value).ownBlock ∧ k_ ≠ gb400 ∧ k_ ≠ gb410)) k_ ∧ some k_ ≠ (u9 : Value).ownBlock)) (Kd.R_types (Kd.R_types (Kd.R_apart' (Kd.R_apart' (Kd.R_apart' (HO416.out) (Kd.N_typed HO_7.out) (by decide)) (Kd.N_typed HO_40.out) (by decide)) (Kd.N_typed HO_9.out) (by decide)) BK400.out (by decide)) BK410.out (by decide)) (fun k_ hk => ⟨⟨hk.1.1.1.1.1.1, ⟨hk.1.1.1.1.2, ⟨hk.1.1.1.2, ⟨hk.1.2, hk.2⟩⟩⟩⟩, hk.1.1.2⟩))))); (case aB => exact (sq_bs HB.out)); (case aF => exact (fun k_ hk => ⟨(Nat.le_trans (below_size (sq_bs HB.out)) hk), Kd.fresh' (Kd.N_lt (sqt_n HO_7.out)) k_ hk, Kd.fresh' (Kd.N_lt (sqt_n HO_40.out)) k_ hk, Kd.freshB (g := gb400) (o := .cells #[.int .i64 a0_0, .slice A0_1 l0_1.length c0_1, .slice A0_2 l0_2.length c0_2] 25 (0, 0)) (sq_bk BK400.out) k_ hk, Kd.freshB (g := gb410) (o := .cells #[.slice A409_0 ((rd_T55 x6_2 x42_3).f0).length c409_0, .slice A409_1 ((rd_T55 x6_2 x42_3).f1).length c409_1] 55 (0, 0)) (sq_bk BK410.out) k_ hk⟩)); (case aO => exact (by (with_reducible repeat (first | apply Kd.N_alloc | apply Kd.N_drewN | apply Kd.N_drew)); exact Kd.N_mono HO_9.out (fun _ hk => ⟨hk.1.1, ⟨hk.1.2.1, ⟨hk.1.2.2.1, ⟨hk.1.2.2.2.2.1, hk.1.2.2.2.2.2⟩⟩⟩⟩))); (case aS => exact (below_size (sq_bs HB.out))); (case aL => have := LMc54.out; omega); intro v428 w67 ho hb hg hat; rw [← Ny427.out] at ho; have n0_ := Aside0.mk (Kd.N_afterv (ok := (fun k_ => (w.heap.size ≤ k_) ∧ some k_ ≠ (.slice (some ad409) x6_2.length co27 : Value).ownBlock ∧ some k_ ≠ (.slice Ao65 t414.length co65 : Value).ownBlock ∧ some k_ ≠ (.slice Ao66 y424.length co66 : Value).ownBlock ∧ k_ ≠ gb400 ∧ k_ ≠ gb410)) (by (with_reducible repeat (first | apply Kd.N_alloc | apply Kd.N_drewN | apply Kd.N_drew)); exact Kd.N_mono HO_7.out (fun _ hk => ⟨⟨hk.1.1, ⟨hk.1.2.2.1, ⟨hk.1.2.2.2.1, ⟨hk.2, ⟨hk.1.2.2.2.2.1, hk.1.2.2.2.2.2⟩⟩⟩⟩⟩, hk.1.2.1⟩)) hg hat); have n1_ := Aside0.mk (Kd.N_afterv (ok := (fun k_ => (w.heap.size ≤ k_) ∧ some k_ ≠ (v412 : Value).ownBlock ∧ some k_ ≠ (.slice Ao65 t414.length co65 : Value).ownBlock ∧ some k_ ≠ (.slice Ao66 y424.length co66 : Value).ownBlock ∧ k_ ≠ gb400 ∧ k_ ≠ gb410)) (by (with_reducible repeat (first | apply Kd.N_alloc | apply Kd.N_drewN | apply Kd.N_drew)); exact Kd.N_mono HO_40.out (fun _ hk => ⟨⟨hk.1.1, ⟨hk.1.2.1, ⟨hk.1.2.2.2.1, ⟨hk.2, ⟨hk.1.2.2.2.2.1, hk.1.2.2.2.2.2⟩⟩⟩⟩⟩, hk.1.2.2.1⟩)) hg hat); have nv0_ := Aside0.mk (Kd.V_afterv (ok := (fun k_ => (w.heap.size ≤ k_) ∧ some k_ ≠ (v412 : Value).ownBlock ∧ some k_ ≠ (.slice Ao65 t414.length co65 : Value).ownBlock ∧ some k_ ≠ (.slice Ao66 y424.length co66 : Value).ownBlock ∧ k_ ≠ gb400 ∧ k_ ≠ gb410)) (by (with_reducible repeat (first | apply Kd.V_alloc | apply Kd.V_drewN | apply Kd.V_drew)); exact Kd.V_mono HL409_0.out (fun _ hk => ⟨⟨hk.1.1, ⟨hk.1.2.1, ⟨hk.1.2.2.2.1, ⟨hk.2, ⟨hk.1.2.2.2.2.1, hk.1.2.2.2.2.2⟩⟩⟩⟩⟩, hk.1.2.2.1⟩)) hg hat); have nv1_ := Aside0.mk (Kd.V_afterv (ok := (fun k_ => (w.heap.size ≤ k_) ∧ some k_ ≠ (v412 : Value).ownBlock ∧ some k_ ≠ (.slice Ao65 t414.length co65 : Value).ownBlock ∧ some k_ ≠ (.slice Ao66 y424.length co66 : Value).ownBlock ∧ k_ ≠ gb400 ∧ k_ ≠ gb410)) (by (with_reducible repeat (first | apply Kd.V_alloc | apply Kd.V_drewN | apply Kd.V_drew)); exact Kd.V_mono HL409_1.out (fun _ hk => ⟨⟨hk.1.1, ⟨hk.1.2.1, ⟨hk.1.2.2.2.1, ⟨hk.2, ⟨hk.1.2.2.2.2.1, hk.1.2.2.2.2.2⟩⟩⟩⟩⟩, hk.1.2.2.1⟩)) hg hat); have n2_ := Aside0.mk (blk_grown (g := gb400) (o := .cells #[.int .i64 a0_0, .slice A0_1 l0_1.length c0_1, .slice A0_2 l0_2.length c0_2] 25 (0, 0)) (sq_bk BK400.out) hg (Kd.N_ne HO_9.out BK400.out (by decide))); have n3_ := Aside0.mk (blk_grown (g := gb410) (o := .cells #[.slice A409_0 ((rd_T55 x6_2 x42_3).f0).length c409_0, .slice A409_1 ((rd_T55 x6_2 x42_3).f1).length c409_1] 55 (0, 0)) (sq_bk BK410.out) hg (Kd.N_away HO_9.out (fun _ hk => hk.1.2.2.2.2.2))); have n4_ := Aside0.mk (hb); have n5_ := Aside0.mk (ho); clear HO_7; clear HO_40; clear HL409_0; clear HL409_1; clear BK400; clear BK410; clear HB; clear HO_9; clear HO416; clear HO426; have HO_7 := n0_; have HO_40 := n1_; have HL409_0 := nv0_; have HL409_1 := nv1_; have BK400 := n2_; have BK410 := n3_; have HB := n4_; have HO429 := n5_; clear nv0_ nv1_ n0_ n1_ n2_ n3_ n4_ n5_; clear ho hb hg hat))
         go_roundg k4
         case measure => have := HJ2.out; have := HK2.out; have := HK3.out; have := HK4.out; omega
         case rel => exact ⟨(y427), (wrap64 (x58_4 + 1)), (by first | rfl | (simp; done) | (simp [*]; done)), H', ⟨by have := HJ2.out; have := HK2.out; have := HK3.out; have := HK4.out; omega⟩, ⟨by (with_reducible repeat (first | apply Kd.N_alloc | apply Kd.N_drewN | apply Kd.N_drew)); exact Kd.N_mono HO_7.out (fun _ hk => ⟨hk.1.1, ⟨hk.2, ⟨hk.1.2.1, ⟨hk.1.2.2.2.2.1, hk.1.2.2.2.2.2⟩⟩⟩⟩)⟩, ⟨by (with_reducible repeat (first | apply Kd.N_alloc | apply Kd.N_drewN | apply Kd.N_drew)); exact HO429.out⟩, ⟨by (with_reducible repeat (first | apply Kd.N_alloc | apply Kd.N_drewN | apply Kd.N_drew)); exact Kd.N_mono HO_40.out (fun _ hk => ⟨hk.1.1, ⟨hk.1.2.1, ⟨hk.2, ⟨hk.1.2.2.2.2.1, hk.1.2.2.2.2.2⟩⟩⟩⟩)⟩, ⟨sq_bk BK400.out⟩, ⟨sq_bk BK410.out⟩, ⟨sq_bs HB.out⟩, ⟨by (with_reducible repeat (first | apply Kd.V_alloc | apply Kd.V_drewN | apply Kd.V_drew)); exact Kd.V_mono HL409_0.out (fun _ hk => ⟨hk.1.1, ⟨hk.1.2.1, ⟨hk.2, ⟨hk.1.2.2.2.2.1, hk.1.2.2.2.2.2⟩⟩⟩⟩)⟩, ⟨by (with_reducible repeat (first | apply Kd.V_alloc | apply Kd.V_drewN | apply Kd.V_drew)); exact Kd.V_mono HL409_1.out (fun _ hk => ⟨hk.1.1, ⟨hk.1.2.1, ⟨hk.2, ⟨hk.1.2.2.2.2.1, hk.1.2.2.2.2.2⟩⟩⟩⟩)⟩⟩
end Go.Proofs.Ytcnliampiibpbaa.PAll
