/- Lean functions for Go functions, each with the proof that the call returns what it says; printed by wip/tools/myprint.py. -/
-- squeezed
-- tight
import Derived.Test.YtcnliampiibpbaaDoorTq
import Derived.Test.YtcnliampiibpbaaDoorPAllx0
import Derived.Test.YtcnliampiibpbaaDoorPAllx13
import Derived.Test.YtcnliampiibpbaaDoorPAllx14
namespace Go.Proofs.YtcnliampiibpbaaDoor.PAll
open Go.RowKit Go.Proofs.YtcnliampiibpbaaDoorW.PrintWords Go.Proofs.YtcnliampiibpbaaDoorW.PrintLast Go.Proofs.YtcnliampiibpbaaDoorW.PrintMore
attribute [local go_sem] Instr.field asAgg max2_int min2_int max_two min_two max_three min_three max_four min_four   -- for this text's walks alone
set_option linter.unusedVariables false
set_option linter.unusedSimpArgs false

/-! ### petrinetref45_Check: function 21 -/
mutual
def petrinetref45_Check.j0 : Nat → Bool → Int → List ByteArray → List (S46) → Option (Int × Int)
 | 0, _, _, _, _ => none
 | k + 1, x19, x241000, x241001, x241002 => if x19 = true then (some (2, 0)) else (petrinetref45_Check.l0 k 0 x241000 x241001 x241002)
def petrinetref45_Check.l0 : Nat → Int → Int → List ByteArray → List (S46) → Option (Int × Int)
 | 0, _, _, _, _ => none
 | k + 1, x3, x241000, x241001, x241002 => if x3 < (x241001.length : Int) then (if 0 ≤ x3 then ((petrinetref09_Name.f k (rdOf ByteArray.empty x241001 x3)).bind fun t243 => (if t243 = true then ((petrinetref45_at.f k x241001 (rdOf ByteArray.empty x241001 x3)).bind fun t245 => (if t245 < x3 then (some (6, x3)) else (petrinetref45_Check.l0 k (wrap64 (x3 + 1)) x241000 x241001 x241002))) else (some (5, x3)))) else (none)) else (petrinetref45_Check.l1 k 0 x241000 x241001 x241002)
def petrinetref45_Check.l1 : Nat → Int → Int → List ByteArray → List (S46) → Option (Int × Int)
 | 0, _, _, _, _ => none
 | k + 1, x4, x241000, x241001, x241002 => if x4 < (x241002.length : Int) then (if 0 ≤ x4 then (if ((rd_T46 x241002 x4).f0) < 0 then (petrinetref45_Check.j3 k x4 true x241000 x241001 x241002 ((rd_T46 x241002 x4).f0) ((rd_T46 x241002 x4).f1) ((rd_T46 x241002 x4).f2)) else (if ((rd_T46 x241002 x4).f0) ≥ x241000 then (petrinetref45_Check.j3 k x4 true x241000 x241001 x241002 ((rd_T46 x241002 x4).f0) ((rd_T46 x241002 x4).f1) ((rd_T46 x241002 x4).f2)) else (if ((rd_T46 x241002 x4).f2) < 0 then (petrinetref45_Check.j3 k x4 true x241000 x241001 x241002 ((rd_T46 x241002 x4).f0) ((rd_T46 x241002 x4).f1) ((rd_T46 x241002 x4).f2)) else (if ((rd_T46 x241002 x4).f2) ≥ x241000 then (petrinetref45_Check.j3 k x4 true x241000 x241001 x241002 ((rd_T46 x241002 x4).f0) ((rd_T46 x241002 x4).f1) ((rd_T46 x241002 x4).f2)) else (if ((rd_T46 x241002 x4).f1) < 0 then (petrinetref45_Check.j3 k x4 true x241000 x241001 x241002 ((rd_T46 x241002 x4).f0) ((rd_T46 x241002 x4).f1) ((rd_T46 x241002 x4).f2)) else (petrinetref45_Check.j3 k x4 (decide (((rd_T46 x241002 x4).f1) ≥ (x241001.length : Int))) x241000 x241001 x241002 ((rd_T46 x241002 x4).f0) ((rd_T46 x241002 x4).f1) ((rd_T46 x241002 x4).f2))))))) else (none)) else (some (0, 0))
def petrinetref45_Check.j3 : Nat → Int → Bool → Int → List ByteArray → List (S46) → Int → Int → Int → Option (Int × Int)
 | 0, _, _, _, _, _, _, _, _ => none
 | k + 1, x4, x95, x241000, x241001, x241002, x248000, x248001, x248002 => if x95 = true then (some (1, x4)) else (if x4 > 0 then (if 0 ≤ (wrap64 (x4 - 1)) then (if (wrap64 (x4 - 1)) < (x241002.length : Int) then ((petrinetref45_after.f k x248000 x248001 x248002 ((rd_T46 x241002 (wrap64 (x4 - 1))).f0) ((rd_T46 x241002 (wrap64 (x4 - 1))).f1) ((rd_T46 x241002 (wrap64 (x4 - 1))).f2)).bind fun t249 => (if t249 = true then (petrinetref45_Check.l1 k (wrap64 (x4 + 1)) x241000 x241001 x241002) else (some (8, x4)))) else (none)) else (none)) else (petrinetref45_Check.l1 k (wrap64 (x4 + 1)) x241000 x241001 x241002))
end
def petrinetref45_Check.f (k : Nat) (a0_0 : Int) (l0_1 : List ByteArray) (l0_2 : List (S46)) : Option (Int × Int) := if a0_0 < 1 then (petrinetref45_Check.j0 k true a0_0 l0_1 l0_2) else (if a0_0 > 200 then (petrinetref45_Check.j0 k true a0_0 l0_1 l0_2) else (petrinetref45_Check.j0 k (decide ((l0_1.length : Int) > 24)) a0_0 l0_1 l0_2))
theorem petrinetref45_Check.mono_l : ∀ k, (∀ y0 y1 y2 y3, LeO (petrinetref45_Check.j0 k y0 y1 y2 y3) (petrinetref45_Check.j0 (k + 1) y0 y1 y2 y3)) ∧ (∀ y0 y1 y2 y3, LeO (petrinetref45_Check.l0 k y0 y1 y2 y3) (petrinetref45_Check.l0 (k + 1) y0 y1 y2 y3)) ∧ (∀ y0 y1 y2 y3, LeO (petrinetref45_Check.l1 k y0 y1 y2 y3) (petrinetref45_Check.l1 (k + 1) y0 y1 y2 y3)) ∧ (∀ y0 y1 y2 y3 y4 y5 y6 y7, LeO (petrinetref45_Check.j3 k y0 y1 y2 y3 y4 y5 y6 y7) (petrinetref45_Check.j3 (k + 1) y0 y1 y2 y3 y4 y5 y6 y7))
 | 0 => ⟨fun _ _ _ _ r h => by simp [petrinetref45_Check.j0] at h, fun _ _ _ _ r h => by simp [petrinetref45_Check.l0] at h, fun _ _ _ _ r h => by simp [petrinetref45_Check.l1] at h, fun _ _ _ _ _ _ _ _ r h => by simp [petrinetref45_Check.j3] at h⟩
 | k + 1 => by
  obtain ⟨ih0, ih1, ih2, ih3⟩ := petrinetref45_Check.mono_l k
  refine ⟨?_, ?_, ?_, ?_⟩
  all_goals intros
  all_goals first | unfold petrinetref45_Check.j0 | unfold petrinetref45_Check.l0 | unfold petrinetref45_Check.l1 | unfold petrinetref45_Check.j3
  all_goals repeat' (with_reducible first | exact ih0 _ _ _ _ | exact ih1 _ _ _ _ | exact ih2 _ _ _ _ | exact ih3 _ _ _ _ _ _ _ _ | exact petrinetref09_Name.mono _ _ | exact petrinetref45_after.mono _ _ _ _ _ _ _ | exact petrinetref45_at.mono _ _ _ | exact LeO.refl _ | exact LeO.none _ | refine LeO.ite ?_ ?_ | refine LeO.bind ?_ (fun _ => ?_))
theorem petrinetref45_Check.mono : ∀ a0 a1 a2 k, LeO (petrinetref45_Check.f k a0 a1 a2) (petrinetref45_Check.f (k + 1) a0 a1 a2) := by
 intro a0 a1 a2 k
 obtain ⟨ih0, ih1, ih2, ih3⟩ := petrinetref45_Check.mono_l k
 unfold petrinetref45_Check.f
 repeat' (with_reducible first | exact ih0 _ _ _ _ | exact ih1 _ _ _ _ | exact ih2 _ _ _ _ | exact ih3 _ _ _ _ _ _ _ _ | exact petrinetref09_Name.mono _ _ | exact petrinetref45_after.mono _ _ _ _ _ _ _ | exact petrinetref45_at.mono _ _ _ | exact LeO.refl _ | exact LeO.none _ | refine LeO.ite ?_ ?_ | refine LeO.bind ?_ (fun _ => ?_))
def petrinetref45_Check.T8 : Bool × List (List Nat × List Nat) := (true, [([], []), ([0], [0]), ([], []), ([2], [2]), ([], []), ([3, 4], [3, 4]), ([5], [5]), ([1, 6], [1, 6]), ([], []), ([7, 8], [7, 8])])
def petrinetref45_Check.B8 : List Nat := [0, 1, 0, 4, 0, 28, 60, 127, 0, 511]
theorem petrinetref45_Check.tab8 : rtab .any (opsOf Tryd.f21 8) = petrinetref45_Check.T8 := by kernel_rfl
theorem petrinetref45_Check.bits8 : waitsOk petrinetref45_Check.T8.2 petrinetref45_Check.B8 = true := by kernel_rfl
def petrinetref45_Check.T16 : Bool × List (List Nat × List Nat) := (true, [([], []), ([0], [0]), ([1], [1]), ([2], [2]), ([2], [2]), ([4, 2], [2, 4]), ([2], [2]), ([6, 2], [2, 6]), ([5, 7, 2], [2, 5, 7]), ([8, 2], [2, 8]), ([3, 9, 2, 2], [2, 3, 9]), ([10, 2], [2, 10]), ([2, 11], [2, 11])])
def petrinetref45_Check.B16 : List Nat := [0, 1, 3, 7, 7, 23, 7, 71, 247, 503, 1023, 2047, 4095]
theorem petrinetref45_Check.tab16 : rtab .any (opsOf Tryd.f21 16) = petrinetref45_Check.T16 := by kernel_rfl
theorem petrinetref45_Check.bits16 : waitsOk petrinetref45_Check.T16.2 petrinetref45_Check.B16 = true := by kernel_rfl
set_option maxHeartbeats 8000000 in
set_option maxRecDepth 100000 in
theorem petrinetref45_Check.calls (k : Nat) (a0_0 : Int) (A0_1 : Option Addr) (c0_1 : Nat) (l0_1 : List ByteArray) (A0_2 : Option Addr) (c0_2 : Nat) (l0_2 : List (S46)) (r1 : Int) (r2 : Int) (w : World) (hr0_1 : Kd.C Kd.string w A0_1 l0_1.length l0_1) (hc0_1 : l0_1.length ≤ c0_1) (hr0_2 : Kd.C k46 w A0_2 l0_2.length l0_2) (hc0_2 : l0_2.length ≤ c0_2) (h : petrinetref45_Check.f k a0_0 l0_1 l0_2 = some (r1, r2)) :
  Calls Tryd.prog 21 #[.agg #[.int .i64 a0_0, .slice A0_1 l0_1.length c0_1, .slice A0_2 l0_2.length c0_2]] w fun e w' => e = .returned (.agg #[.int .i64 r1, .int .i64 r2]) ∧ Below w.heap.size w w' := by
 have hv30 := Tryd.underlying30; have hu25 := Tryd.underlying25; have hu30 := Tryd.underlying30; have hu46 := Tryd.underlying46; have HR0_1 := Aside0.mk hr0_1; have HC0_1 := Aside0.mk hc0_1; clear hr0_1 hc0_1; have HR0_2 := Aside0.mk hr0_2; have HC0_2 := Aside0.mk hc0_2; clear hr0_2 hc0_2; have HB := Aside0.mk (Below.refl w.heap.size w); have H : (if a0_0 < 1 then (petrinetref45_Check.j0 k true a0_0 l0_1 l0_2) else (if a0_0 > 200 then (petrinetref45_Check.j0 k true a0_0 l0_1 l0_2) else (petrinetref45_Check.j0 k (decide ((l0_1.length : Int) > 24)) a0_0 l0_1 l0_2))) = some (r1, r2) := h; clear h; have HC2 := Aside0.mk H; clear H
 go_enter Tryd.func21, Tryd.ntmps21
 go_upto_region 1 with (first | ((with_reducible refine gate_dst (N := 1) rfl ?_); (try (refine gate_guard (by rfl) ?_; dsimp only)); refine sq_box 1 #[.int .i64 a0_0, .slice A0_1 l0_1.length c0_1, .slice A0_2 l0_2.length c0_2] 25 ?_; intro gb240 hg w3 hbox hb; have BK240 := Aside0.mk hbox; have GW240 := tq_w HB hg; have GE240 := tq_w HB hg; replace HB := tq_s HB hb; clear hb hbox hg) | ((with_reducible refine gate_dst (N := 2) rfl ?_); (try (refine gate_guard (by rfl) ?_; dsimp only)); refine sq_box 2 #[.int .i64 0, .int .i64 0] 30 ?_; intro gb241 hg w4 hbox hb; have BK241 := Aside0.mk hbox; have GW241 := tq_w HB hg; have GE241 := tq_w HB hg; replace HB := tq_s HB hb; have NB240_241 := tq_nl BK240 hg; have NB241_240 := tq_ng BK240 hg; replace BK240 := tq_k BK240 hb; clear hb hbox hg))
 (try simp only [Act.put, List.setIfInBounds_toArray, List.set_cons_zero, List.set_cons_succ])
 go_cut [19] (fun v19 wc => ∃ (kq : Nat) (x19_1 : Bool), v19 = .bool x19_1 ∧ Aside0 (petrinetref45_Check.j0 kq x19_1 a0_0 l0_1 l0_2 = some (r1, r2)) ∧ Aside0 (kq ≤ k) ∧ Aside0 (wc.heap[gb240]? = some (.cells #[.int .i64 a0_0, (.slice A0_1 l0_1.length c0_1), (.slice A0_2 l0_2.length c0_2)] 25 (0, 0))) ∧ Aside0 (wc.heap[gb241]? = some (.cells #[.int .i64 0, .int .i64 0] 30 (0, 0))) ∧ Aside0 (Below w.heap.size w wc))
 case first =>
  have H := HC2.out; clear HC2; have HH_ := Aside0.mk H; clear H; have hnb6 := NB240_241.out; have hnc6 := NB241_240.out; obtain ⟨hcz7_0, hcz7_1, hcz7_2, hfz7_0, hfz7_1, hfz7_2⟩ := tq_3 (w := w4) BK240; have H := HH_.out; clear HH_; revert H; refine tq_dd (fun c5b0 H => ?_) (fun c5b0 H => ?_)
  ·(first | rw [c5b0] | (simp only [i64_w, i32_w]; rw [c5b0]) | skip)
   have H' := Aside0.mk H; clear H
   go_wp2
   go_meet
   case rel => exact ⟨_, (true), tq_z, H', ⟨by first | omega | exact Nat.le_refl _⟩, ⟨sq_bk BK240.out⟩, ⟨sq_bk BK241.out⟩, ⟨sq_bs HB.out⟩⟩
  (first | rw [c5b0] | (simp only [i64_w, i32_w]; rw [c5b0]) | skip)
  revert H; refine tq_rr (fun c8 H => ?_) (fun c8 H => ?_); rotate_left
  ·have c8b0 : decide (200 < a0_0) = false := decide_eq_false c8; clear c8; have H' := Aside0.mk H; clear H
   go_wp2
   go_meet
   case rel => exact ⟨_, (decide ((l0_1.length : Int) > 24)), tq_z, H', ⟨by first | omega | exact Nat.le_refl _⟩, ⟨sq_bk BK240.out⟩, ⟨sq_bk BK241.out⟩, ⟨sq_bs HB.out⟩⟩
  have c8b0 : decide (200 < a0_0) = true := decide_eq_true c8; clear c8; have H' := Aside0.mk H; clear H
  go_wp2
  go_meet
  case rel => exact ⟨_, (true), tq_z, H', ⟨by first | omega | exact Nat.le_refl _⟩, ⟨sq_bk BK240.out⟩, ⟨sq_bk BK241.out⟩, ⟨sq_bs HB.out⟩⟩
 case rest =>
  clear HC2; obtain ⟨kq, x19_1, rfl, HA, HJ1, BK240, BK241, HB⟩ := hcut
  cases kq with
  | zero => exact absurd HA.out (by simp [petrinetref45_Check.j0])
  | succ kj1 =>
   have H := HA.out; clear HA
   simp only [petrinetref45_Check.j0] at H
   cases x19_1; rotate_left
   ·replace H := tq_t H
    simp only [Option.some.injEq, Prod.mk.injEq] at H
    obtain ⟨rfl, rfl⟩ := H; have hnb14 := NB241_240.out; have hnc14 := NB240_241.out; obtain ⟨hcz15_0, hcz15_1, hfz15_0, hfz15_1⟩ := tq_2 (w := wc) BK241
    go_wp2
    refine bodyPost_ret (results_cell_row rfl _ _ gb241 30 #[.int .i64 2, .int .i64 0] (0, 0) _ rfl (by refine tq_b ?_; refine blk_put (cs := #[.int .i64 2, .int .i64 0]) ?_ 1 _ rfl; refine tq_b ?_; refine blk_put (cs := #[.int .i64 0, .int .i64 0]) ?_ 0 _ rfl; refine tq_b ?_; exact BK241.out) Tryd.underlying30 rfl (by kernel_rfl)) rfl ?_
    exact tq_v (sq_bs HB.out)
   replace H := tq_f H; have H' := Aside0.mk H; clear H
   go_wp2
   go_loopg [3] kj1 (fun kq v3 w' => ∃ (x3_2 : Int) (x242000_2 : Int) (x242001_2 : Int), v3 = .int .i64 x3_2 ∧ Aside0 (petrinetref45_Check.l0 kq x3_2 a0_0 l0_1 l0_2 = some (r1, r2)) ∧ Aside0 (kq ≤ kj1) ∧ Aside0 (w'.heap[gb240]? = some (.cells #[.int .i64 a0_0, (.slice A0_1 l0_1.length c0_1), (.slice A0_2 l0_2.length c0_2)] 25 (0, 0))) ∧ Aside0 (w'.heap[gb241]? = some (.cells #[.int .i64 x242000_2, .int .i64 x242001_2] 30 (0, 0))) ∧ Aside0 (Below w.heap.size w w'))
   case atStart => exact ⟨(0), (0), (0), tq_z, H', ⟨Nat.le_refl _⟩, ⟨sq_bk BK240.out⟩, ⟨sq_bk BK241.out⟩, ⟨sq_bs HB.out⟩⟩
   case round =>
    clear H'
    try clear c13
    obtain ⟨x3_2, x242000_2, x242001_2, rfl, HA, HK2, BK240, BK241, HB⟩ := hrel
    cases gk with
    | zero => exact absurd HA.out (by simp [petrinetref45_Check.l0])
    | succ k2 =>
     have H := HA.out; clear HA
     simp only [petrinetref45_Check.l0] at H
     revert H; refine tq_dd (fun c16b0 H => ?_) (fun c16b0 H => ?_)
     ·revert H; refine tq_i1 fun c17b0 H => ?_; revert H; refine tq_o fun t243 A18 H => ?_; cases t243
      ·replace H := tq_f H
       simp only [Option.some.injEq, Prod.mk.injEq] at H
       obtain ⟨rfl, rfl⟩ := H; have hnb29 := NB240_241.out; have hnc29 := NB241_240.out; obtain ⟨hcz30_0, hcz30_1, hcz30_2, hfz30_0, hfz30_1, hfz30_2⟩ := tq_3 (w := wr) BK240; have p242 : 0 ≤ (x3_2 : Int) := sq_d; have q242 : x3_2 < (l0_1.length : Int) := sq_d; have LQ242 := Aside0.mk q242; obtain ⟨ad242, e242, hx242_0⟩ := Kd.at_string HR0_1.out x3_2 p242 q242; cases e242; replace hx242_0 := tq_hx HB hx242_0; replace p242 := eq_true p242; replace q242 := eq_true q242
       go_wp2_with (first | ((with_reducible refine gate_callee (f := 36) rfl ?_); refine sq_goes (some 33) Tryd.func36 #[.string (rdOf ByteArray.empty l0_1 x3_2)] ?_; (with_reducible refine (petrinetref09_Name.calls k2 (rdOf ByteArray.empty l0_1 x3_2) false _ A18.out).mono ?_); rintro e w' ⟨rfl, ⟨nd, rfl⟩⟩; refine ⟨_, rfl, ?_⟩; (try (rw [drewN_self wr]; generalize hq_ : World.drewN wr _ = wr; have n0_ : Aside0 (wr.heap[gb240]? = some (.cells #[.int .i64 a0_0, .slice (some ad242) l0_1.length c0_1, .slice A0_2 l0_2.length c0_2] 25 (0, 0))) := ⟨by rw [← hq_]; exact (sq_bk BK240.out)⟩; have n1_ : Aside0 (wr.heap[gb241]? = some (.cells #[.int .i64 x242000_2, .int .i64 x242001_2] 30 (0, 0))) := ⟨by rw [← hq_]; exact (sq_bk BK241.out)⟩; have n2_ : Aside0 (Below w.heap.size w wr) := ⟨by rw [← hq_]; exact (sq_bs HB.out)⟩; clear BK240 BK241 HB hq_; have BK240 := n0_; have BK241 := n1_; have HB := n2_; clear n0_ n1_ n2_)); obtain ⟨hcz31_0, hcz31_1, hfz31_0, hfz31_1⟩ := tq_2 (w := wr) BK241))
       refine bodyPost_ret (results_cell_row rfl _ _ gb241 30 #[.int .i64 5, .int .i64 x3_2] (0, 0) _ rfl (by refine tq_b ?_; refine blk_put (cs := #[.int .i64 5, .int .i64 x242001_2]) ?_ 1 _ rfl; refine tq_b ?_; refine blk_put (cs := #[.int .i64 x242000_2, .int .i64 x242001_2]) ?_ 0 _ rfl; refine tq_b ?_; exact BK241.out) Tryd.underlying30 rfl (by kernel_rfl)) rfl ?_
       exact tq_v (sq_bs HB.out)
      replace H := tq_t H; revert H; refine tq_o fun t245 A20 H => ?_; have HH_ := Aside0.mk H; clear H; have hnb22 := NB240_241.out; have hnc22 := NB241_240.out; obtain ⟨hcz23_0, hcz23_1, hcz23_2, hfz23_0, hfz23_1, hfz23_2⟩ := tq_3 (w := wr) BK240; have p242 : 0 ≤ (x3_2 : Int) := sq_d; have q242 : x3_2 < (l0_1.length : Int) := sq_d; have LQ242 := Aside0.mk q242; obtain ⟨ad242, e242, hx242_0⟩ := Kd.at_string HR0_1.out x3_2 p242 q242; cases e242; replace hx242_0 := tq_hx HB hx242_0; replace p242 := eq_true p242; replace q242 := eq_true q242; have H := HH_.out; clear HH_; revert H; refine tq_dd (fun c21b0 H => ?_) (fun c21b0 H => ?_); rotate_left
      ·have H' := Aside0.mk H; clear H
       try go_wp2_with (first | ((with_reducible refine gate_callee (f := 36) rfl ?_); refine sq_goes (some 33) Tryd.func36 #[.string (rdOf ByteArray.empty l0_1 x3_2)] ?_; (with_reducible refine (petrinetref09_Name.calls k2 (rdOf ByteArray.empty l0_1 x3_2) true _ A18.out).mono ?_); rintro e w' ⟨rfl, ⟨nd, rfl⟩⟩; refine ⟨_, rfl, ?_⟩))
       (try (rw [drewN_self wr]; generalize hq_ : World.drewN wr _ = wr; have n0_ : Aside0 (wr.heap[gb240]? = some (.cells #[.int .i64 a0_0, .slice (some ad242) l0_1.length c0_1, .slice A0_2 l0_2.length c0_2] 25 (0, 0))) := ⟨by rw [← hq_]; exact (sq_bk BK240.out)⟩; have n1_ : Aside0 (wr.heap[gb241]? = some (.cells #[.int .i64 x242000_2, .int .i64 x242001_2] 30 (0, 0))) := ⟨by rw [← hq_]; exact (sq_bk BK241.out)⟩; have n2_ : Aside0 (Below w.heap.size w wr) := ⟨by rw [← hq_]; exact (sq_bs HB.out)⟩; clear BK240 BK241 HB hq_; have BK240 := n0_; have BK241 := n1_; have HB := n2_; clear n0_ n1_ n2_))
       replace BK240 := Aside0.mk (blk_drew BK240.out); replace BK241 := Aside0.mk (blk_drew BK241.out); replace HB := Aside0.mk (below_drew1 HB.out); have p244 : 0 ≤ (x3_2 : Int) := sq_d; have q244 : x3_2 < (l0_1.length : Int) := sq_d; have LQ244 := Aside0.mk q244; obtain ⟨ad244, e244, hx244_0⟩ := Kd.at_string HR0_1.out x3_2 p244 q244; have hw244_0 := hx244_0; obtain rfl : ad242 = ad244 := (by injection e244); replace hx244_0 := tq_hx HB hx244_0; replace p244 := eq_true p244; replace q244 := eq_true q244; refine start_ (n := 10) (S := fun w' => w'.cell? ⟨gb240, 0, none⟩ = some (.int .i64 a0_0) ∧ w'.cell? ⟨gb240, 1, none⟩ = some (.slice (some ad242) l0_1.length c0_1) ∧ w'.cell? ⟨gb240, 2, none⟩ = some (.slice A0_2 l0_2.length c0_2) ∧ w'.cell? (ad242.add (x3_2).toNat) = some (.string (rdOf ByteArray.empty l0_1 x3_2))) (ds := []) #[false, false, false, false, false, false, false, false, false, false] (by kernel_rfl) rfl rfl ⟨tq_q BK240 0, tq_q BK240 1, tq_q BK240 2, ((HB.out.cell (World.block_lt_of_cell? w _ hw244_0)).trans hw244_0)⟩ (fun hHeld => ?_); refine with_tabW petrinetref45_Check.tab8 petrinetref45_Check.bits8 (fun HT_ HW_ => ?_)
       generalize wr.drew = w28 at BK240 BK241 HB hx244_0 hHeld ⊢
       refine sq_p 0 37 (sqm 10 1) HT_.out ?_; refine sq_p 2 39 (sqm 10 5) HT_.out ?_; refine sq_p 4 41 (sqm 10 21) HT_.out ?_; refine sq_p 8 45 (sqm 10 277) HT_.out ?_; refine sq_t 1 38 (sqm 10 279) HT_.out HW_.out hHeld ?_; refine sq_t 3 40 (sqm 10 287) HT_.out HW_.out hHeld ?_; refine sq_p 5 42 (sqm 10 319) HT_.out ?_; refine sq_t 6 43 (sqm 10 383) HT_.out HW_.out hHeld ?_; refine one_ (i := 7) (N := some 44) (sqm 10 511) rfl rfl (one_of HT_.out (by kernel_rfl)) (by decide) (fun K hK => ?_); refine goes_ Tryd.func37 (by kernel_rfl) rfl #[.slice (some ad242) l0_1.length c0_1, .string (rdOf ByteArray.empty l0_1 x3_2)] (by rfl) rfl rfl (by (try simp only [List.map_toArray, List.map_cons, List.map_nil]); first | done | rfl | (simp only [List.length_drop, List.length_take]; rfl)) ?_
       with_reducible refine (petrinetref45_at.calls k2 _ _ l0_1 (rdOf ByteArray.empty l0_1 x3_2) t245 _ ?s1 ?s2 A20.out).mono ?_
       (case s1 => exact tq_c HR0_1 HB)
       (case s2 => exact HC0_1.out)
       rintro e w' ⟨rfl, ⟨nd, rfl⟩⟩
       refine ⟨_, rfl, ?_⟩; refine hK.out _ _ ⟨tq_q BK240 0, tq_q BK240 1, tq_q BK240 2, ((HB.out.cell (World.block_lt_of_cell? w _ hw244_0)).trans hw244_0)⟩ (fun hHeld => ?_); clear hK K; refine norm_ (a' := ?_) ?_ ?_; rotate_left
       ·show Act.put _ (some 44) _ = _
        simp only [Act.put, List.setIfInBounds_toArray, List.set_cons_zero, List.set_cons_succ, i64_w, i32_w]
        rfl
       refine sq_p 9 46 (sqm 10 1023) HT_.out ?_; refine done_ (done_of HT_.out (by kernel_rfl)) ?_
       try go_wp2
       go_roundg k2
       case measure => have := HJ1.out; have := HK2.out; omega
       case rel => exact ⟨(wrap64 (x3_2 + 1)), (x242000_2), (x242001_2), tq_z, H', ⟨by have := HJ1.out; have := HK2.out; omega⟩, ⟨sq_bk BK240.out⟩, ⟨sq_bk BK241.out⟩, ⟨sq_bs HB.out⟩⟩
      simp only [Option.some.injEq, Prod.mk.injEq] at H
      obtain ⟨rfl, rfl⟩ := H
      try go_wp2_with (first | ((with_reducible refine gate_callee (f := 36) rfl ?_); refine sq_goes (some 33) Tryd.func36 #[.string (rdOf ByteArray.empty l0_1 x3_2)] ?_; (with_reducible refine (petrinetref09_Name.calls k2 (rdOf ByteArray.empty l0_1 x3_2) true _ A18.out).mono ?_); rintro e w' ⟨rfl, ⟨nd, rfl⟩⟩; refine ⟨_, rfl, ?_⟩; (try (rw [drewN_self wr]; generalize hq_ : World.drewN wr _ = wr; have n0_ : Aside0 (wr.heap[gb240]? = some (.cells #[.int .i64 a0_0, .slice (some ad242) l0_1.length c0_1, .slice A0_2 l0_2.length c0_2] 25 (0, 0))) := ⟨by rw [← hq_]; exact (sq_bk BK240.out)⟩; have n1_ : Aside0 (wr.heap[gb241]? = some (.cells #[.int .i64 x242000_2, .int .i64 x242001_2] 30 (0, 0))) := ⟨by rw [← hq_]; exact (sq_bk BK241.out)⟩; have n2_ : Aside0 (Below w.heap.size w wr) := ⟨by rw [← hq_]; exact (sq_bs HB.out)⟩; clear BK240 BK241 HB hq_; have BK240 := n0_; have BK241 := n1_; have HB := n2_; clear n0_ n1_ n2_))))
      replace BK240 := Aside0.mk (blk_drew BK240.out); replace BK241 := Aside0.mk (blk_drew BK241.out); replace HB := Aside0.mk (below_drew1 HB.out); have p244 : 0 ≤ (x3_2 : Int) := sq_d; have q244 : x3_2 < (l0_1.length : Int) := sq_d; have LQ244 := Aside0.mk q244; obtain ⟨ad244, e244, hx244_0⟩ := Kd.at_string HR0_1.out x3_2 p244 q244; have hw244_0 := hx244_0; obtain rfl : ad242 = ad244 := (by injection e244); replace hx244_0 := tq_hx HB hx244_0; replace p244 := eq_true p244; replace q244 := eq_true q244; refine start_ (n := 10) (S := fun w' => w'.cell? ⟨gb240, 0, none⟩ = some (.int .i64 a0_0) ∧ w'.cell? ⟨gb240, 1, none⟩ = some (.slice (some ad242) l0_1.length c0_1) ∧ w'.cell? ⟨gb240, 2, none⟩ = some (.slice A0_2 l0_2.length c0_2) ∧ w'.cell? (ad242.add (x3_2).toNat) = some (.string (rdOf ByteArray.empty l0_1 x3_2))) (ds := []) #[false, false, false, false, false, false, false, false, false, false] (by kernel_rfl) rfl rfl ⟨tq_q BK240 0, tq_q BK240 1, tq_q BK240 2, ((HB.out.cell (World.block_lt_of_cell? w _ hw244_0)).trans hw244_0)⟩ (fun hHeld => ?_); refine with_tabW petrinetref45_Check.tab8 petrinetref45_Check.bits8 (fun HT_ HW_ => ?_)
      generalize wr.drew = w24 at BK240 BK241 HB hx244_0 hHeld ⊢
      refine sq_p 0 37 (sqm 10 1) HT_.out ?_; refine sq_p 2 39 (sqm 10 5) HT_.out ?_; refine sq_p 4 41 (sqm 10 21) HT_.out ?_; refine sq_p 8 45 (sqm 10 277) HT_.out ?_; refine sq_t 1 38 (sqm 10 279) HT_.out HW_.out hHeld ?_; refine sq_t 3 40 (sqm 10 287) HT_.out HW_.out hHeld ?_; refine sq_p 5 42 (sqm 10 319) HT_.out ?_; refine sq_t 6 43 (sqm 10 383) HT_.out HW_.out hHeld ?_; refine one_ (i := 7) (N := some 44) (sqm 10 511) rfl rfl (one_of HT_.out (by kernel_rfl)) (by decide) (fun K hK => ?_); refine goes_ Tryd.func37 (by kernel_rfl) rfl #[.slice (some ad242) l0_1.length c0_1, .string (rdOf ByteArray.empty l0_1 x3_2)] (by rfl) rfl rfl (by (try simp only [List.map_toArray, List.map_cons, List.map_nil]); first | done | rfl | (simp only [List.length_drop, List.length_take]; rfl)) ?_
      with_reducible refine (petrinetref45_at.calls k2 _ _ l0_1 (rdOf ByteArray.empty l0_1 x3_2) t245 _ ?s1 ?s2 A20.out).mono ?_
      (case s1 => exact tq_c HR0_1 HB)
      (case s2 => exact HC0_1.out)
      rintro e w' ⟨rfl, ⟨nd, rfl⟩⟩
      refine ⟨_, rfl, ?_⟩; refine hK.out _ _ ⟨tq_q BK240 0, tq_q BK240 1, tq_q BK240 2, ((HB.out.cell (World.block_lt_of_cell? w _ hw244_0)).trans hw244_0)⟩ (fun hHeld => ?_); clear hK K; refine norm_ (a' := ?_) ?_ ?_; rotate_left
      ·show Act.put _ (some 44) _ = _
       simp only [Act.put, List.setIfInBounds_toArray, List.set_cons_zero, List.set_cons_succ, i64_w, i32_w]
       rfl
      refine sq_p 9 46 (sqm 10 1023) HT_.out ?_; refine done_ (done_of HT_.out (by kernel_rfl)) ?_; obtain ⟨hcz25_0, hcz25_1, hfz25_0, hfz25_1⟩ := tq_2 (w := w24) BK241
      try go_wp2
      refine bodyPost_ret (results_cell_row rfl _ _ gb241 30 #[.int .i64 6, .int .i64 x3_2] (0, 0) _ rfl (by refine tq_b ?_; refine blk_put (cs := #[.int .i64 6, .int .i64 x242001_2]) ?_ 1 _ rfl; refine tq_b ?_; refine blk_put (cs := #[.int .i64 x242000_2, .int .i64 x242001_2]) ?_ 0 _ rfl; refine tq_b ?_; exact BK241.out) Tryd.underlying30 rfl (by kernel_rfl)) rfl ?_
      exact tq_v (sq_bs HB.out)
     have H' := Aside0.mk H; clear H; have hnb32 := NB240_241.out; have hnc32 := NB241_240.out; obtain ⟨hcz33_0, hcz33_1, hcz33_2, hfz33_0, hfz33_1, hfz33_2⟩ := tq_3 (w := wr) BK240
     go_wp2
     go_loopg [4] k2 (fun kq v4 w' => ∃ (x4_3 : Int) (x242000_3 : Int) (x242001_3 : Int), v4 = .int .i64 x4_3 ∧ Aside0 (petrinetref45_Check.l1 kq x4_3 a0_0 l0_1 l0_2 = some (r1, r2)) ∧ Aside0 (kq ≤ k2) ∧ Aside0 (w'.heap[gb240]? = some (.cells #[.int .i64 a0_0, (.slice A0_1 l0_1.length c0_1), (.slice A0_2 l0_2.length c0_2)] 25 (0, 0))) ∧ Aside0 (w'.heap[gb241]? = some (.cells #[.int .i64 x242000_3, .int .i64 x242001_3] 30 (0, 0))) ∧ Aside0 (Below w.heap.size w w'))
     case atStart => exact ⟨(0), (x242000_2), (x242001_2), tq_z, H', ⟨Nat.le_refl _⟩, ⟨sq_bk BK240.out⟩, ⟨sq_bk BK241.out⟩, ⟨sq_bs HB.out⟩⟩
     case round =>
      clear H'
      try clear c16b0
      try clear hcz33_0
      try clear hcz33_1
      try clear hcz33_2
      try clear hfz33_0
      try clear hfz33_1
      try clear hfz33_2
      obtain ⟨x4_3, x242000_3, x242001_3, rfl, HA, HK3, BK240, BK241, HB⟩ := hrel
      cases gk with
      | zero => exact absurd HA.out (by simp [petrinetref45_Check.l1])
      | succ k3 =>
       have H := HA.out; clear HA
       simp only [petrinetref45_Check.l1] at H
       revert H; refine tq_dd (fun c34b0 H => ?_) (fun c34b0 H => ?_); rotate_left
       ·simp only [Option.some.injEq, Prod.mk.injEq] at H
        obtain ⟨rfl, rfl⟩ := H; have hnb94 := NB240_241.out; have hnc94 := NB241_240.out; obtain ⟨hcz95_0, hcz95_1, hcz95_2, hfz95_0, hfz95_1, hfz95_2⟩ := tq_3 (w := wr) BK240; obtain ⟨hcz96_0, hcz96_1, hfz96_0, hfz96_1⟩ := tq_2 (w := wr) BK241
        go_wp2
        refine bodyPost_ret (results_cell_row rfl _ _ gb241 30 #[.int .i64 0, .int .i64 0] (0, 0) _ rfl (by refine tq_b ?_; refine blk_put (cs := #[.int .i64 0, .int .i64 x242001_3]) ?_ 1 _ rfl; refine tq_b ?_; refine blk_put (cs := #[.int .i64 x242000_3, .int .i64 x242001_3]) ?_ 0 _ rfl; refine tq_b ?_; exact BK241.out) Tryd.underlying30 rfl (by kernel_rfl)) rfl ?_
        exact tq_v (sq_bs HB.out)
       revert H; refine tq_i1 fun c35b0 H => ?_; have HC36 := Aside0.mk H; clear H; have hnb37 := NB240_241.out; have hnc37 := NB241_240.out; obtain ⟨hcz38_0, hcz38_1, hcz38_2, hfz38_0, hfz38_1, hfz38_2⟩ := tq_3 (w := wr) BK240; have p246 : 0 ≤ (x4_3 : Int) := sq_d; have q246 : x4_3 < (l0_2.length : Int) := sq_d; have LQ246 := Aside0.mk q246; obtain ⟨ad246, e246, hx246_0, hx246_1, hx246_2⟩ := at_T46 HR0_2.out x4_3 p246 q246; cases e246; replace hx246_0 := tq_hx HB hx246_0; replace hx246_1 := tq_hx HB hx246_1; replace hx246_2 := tq_hx HB hx246_2; replace p246 := eq_true p246; replace q246 := eq_true q246
       go_upto_region 14 with (first | ((with_reducible refine gate_dst (N := 5) rfl ?_); (try (refine gate_guard (by rfl) ?_; dsimp only)); refine sq_box 5 #[.int .i64 0, .int .i64 0, .int .i64 0] 46 ?_; intro gb247 hg w39 hbox hb; have BK247 := Aside0.mk hbox; have GW247 := tq_w HB hg; have GE247 := tq_w HB hg; replace HB := tq_s HB hb; have NB240_247 := tq_nl BK240 hg; have NB247_240 := tq_ng BK240 hg; replace BK240 := tq_k BK240 hb; have NB241_247 := tq_nl BK241 hg; have NB247_241 := tq_ng BK241 hg; replace BK241 := tq_k BK241 hb; clear hb hbox hg; have hnb40 := NB247_240.out; have hnc40 := NB240_247.out; have hnb41 := NB247_241.out; have hnc41 := NB241_247.out; obtain ⟨hcz42_0, hcz42_1, hcz42_2, hfz42_0, hfz42_1, hfz42_2⟩ := tq_3 (w := w39) BK247))
       (try simp only [Act.put, List.setIfInBounds_toArray, List.set_cons_zero, List.set_cons_succ])
       go_cut [95] (fun v95 wc => ∃ (kq : Nat) (x95_35 : Bool), v95 = .bool x95_35 ∧ Aside0 (petrinetref45_Check.j3 kq x4_3 x95_35 a0_0 l0_1 l0_2 ((rd_T46 l0_2 x4_3).f0) ((rd_T46 l0_2 x4_3).f1) ((rd_T46 l0_2 x4_3).f2) = some (r1, r2)) ∧ Aside0 (kq ≤ k3) ∧ Aside0 (wc.heap[gb240]? = some (.cells #[.int .i64 a0_0, (.slice A0_1 l0_1.length c0_1), (.slice (some ad246) l0_2.length c0_2)] 25 (0, 0))) ∧ Aside0 (wc.heap[gb241]? = some (.cells #[.int .i64 x242000_3, .int .i64 x242001_3] 30 (0, 0))) ∧ Aside0 (wc.heap[gb247]? = some (.cells #[.int .i64 ((rd_T46 l0_2 x4_3).f0), .int .i64 ((rd_T46 l0_2 x4_3).f1), .int .i64 ((rd_T46 l0_2 x4_3).f2)] 46 (0, 0))) ∧ Aside0 (Below w.heap.size w wc))
       case first =>
        have H := HC36.out; clear HC36; have HH_ := Aside0.mk H; clear H; have hnb44 := NB247_240.out; have hnc44 := NB240_247.out; have hnb45 := NB247_241.out; have hnc45 := NB241_247.out; obtain ⟨hcz46_0, hcz46_1, hcz46_2, hfz46_0, hfz46_1, hfz46_2⟩ := tq_3 (w := w39) BK247; have H := HH_.out; clear HH_; revert H; refine tq_dd (fun c43b0 H => ?_) (fun c43b0 H => ?_)
        ·(first | rw [c43b0] | (simp only [i64_w, i32_w]; rw [c43b0]) | skip)
         have H' := Aside0.mk H; clear H
         go_wp2
         go_meet
         case rel => exact ⟨_, (true), tq_z, H', ⟨by have := HJ1.out; have := HK2.out; have := HK3.out; first | omega | exact Nat.le_refl _⟩, ⟨by refine tq_b ?_; refine blk_far ?_ NB240_247.out _; refine tq_b ?_; refine blk_far ?_ NB240_247.out _; refine tq_b ?_; refine blk_far ?_ NB240_247.out _; refine tq_b ?_; exact BK240.out⟩, ⟨by refine tq_b ?_; refine blk_far ?_ NB241_247.out _; refine tq_b ?_; refine blk_far ?_ NB241_247.out _; refine tq_b ?_; refine blk_far ?_ NB241_247.out _; refine tq_b ?_; exact BK241.out⟩, ⟨by refine tq_b ?_; refine blk_put (cs := #[.int .i64 ((rd_T46 l0_2 x4_3).f0), .int .i64 ((rd_T46 l0_2 x4_3).f1), .int .i64 0]) ?_ 2 _ rfl; refine tq_b ?_; refine blk_put (cs := #[.int .i64 ((rd_T46 l0_2 x4_3).f0), .int .i64 0, .int .i64 0]) ?_ 1 _ rfl; refine tq_b ?_; refine blk_put (cs := #[.int .i64 0, .int .i64 0, .int .i64 0]) ?_ 0 _ rfl; refine tq_b ?_; exact BK247.out⟩, ⟨sq_bs HB.out⟩⟩
        (first | rw [c43b0] | (simp only [i64_w, i32_w]; rw [c43b0]) | skip)
        have HH_ := Aside0.mk H; clear H; have hnb51 := NB240_241.out; have hnc51 := NB241_240.out; obtain ⟨hcz52_0, hcz52_1, hcz52_2, hfz52_0, hfz52_1, hfz52_2⟩ := tq_3 (w := w39) BK240; have H := HH_.out; clear HH_; revert H; refine tq_rr (fun c47 H => ?_) (fun c47 H => ?_)
        ·have c47b0 : decide (a0_0 ≤ ((rd_T46 l0_2 x4_3).f0)) = true := decide_eq_true c47; clear c47; have H' := Aside0.mk H; clear H
         go_wp2
         go_meet
         case rel => exact ⟨_, (true), tq_z, H', ⟨by have := HJ1.out; have := HK2.out; have := HK3.out; first | omega | exact Nat.le_refl _⟩, ⟨by refine tq_b ?_; refine blk_far ?_ NB240_247.out _; refine tq_b ?_; refine blk_far ?_ NB240_247.out _; refine tq_b ?_; refine blk_far ?_ NB240_247.out _; refine tq_b ?_; exact BK240.out⟩, ⟨by refine tq_b ?_; refine blk_far ?_ NB241_247.out _; refine tq_b ?_; refine blk_far ?_ NB241_247.out _; refine tq_b ?_; refine blk_far ?_ NB241_247.out _; refine tq_b ?_; exact BK241.out⟩, ⟨by refine tq_b ?_; refine blk_put (cs := #[.int .i64 ((rd_T46 l0_2 x4_3).f0), .int .i64 ((rd_T46 l0_2 x4_3).f1), .int .i64 0]) ?_ 2 _ rfl; refine tq_b ?_; refine blk_put (cs := #[.int .i64 ((rd_T46 l0_2 x4_3).f0), .int .i64 0, .int .i64 0]) ?_ 1 _ rfl; refine tq_b ?_; refine blk_put (cs := #[.int .i64 0, .int .i64 0, .int .i64 0]) ?_ 0 _ rfl; refine tq_b ?_; exact BK247.out⟩, ⟨sq_bs HB.out⟩⟩
        have c47b0 : decide (a0_0 ≤ ((rd_T46 l0_2 x4_3).f0)) = false := decide_eq_false c47; clear c47; revert H; refine tq_dd (fun c53b0 H => ?_) (fun c53b0 H => ?_)
        ·have H' := Aside0.mk H; clear H
         go_wp2
         go_meet
         case rel => exact ⟨_, (true), tq_z, H', ⟨by have := HJ1.out; have := HK2.out; have := HK3.out; first | omega | exact Nat.le_refl _⟩, ⟨by refine tq_b ?_; refine blk_far ?_ NB240_247.out _; refine tq_b ?_; refine blk_far ?_ NB240_247.out _; refine tq_b ?_; refine blk_far ?_ NB240_247.out _; refine tq_b ?_; exact BK240.out⟩, ⟨by refine tq_b ?_; refine blk_far ?_ NB241_247.out _; refine tq_b ?_; refine blk_far ?_ NB241_247.out _; refine tq_b ?_; refine blk_far ?_ NB241_247.out _; refine tq_b ?_; exact BK241.out⟩, ⟨by refine tq_b ?_; refine blk_put (cs := #[.int .i64 ((rd_T46 l0_2 x4_3).f0), .int .i64 ((rd_T46 l0_2 x4_3).f1), .int .i64 0]) ?_ 2 _ rfl; refine tq_b ?_; refine blk_put (cs := #[.int .i64 ((rd_T46 l0_2 x4_3).f0), .int .i64 0, .int .i64 0]) ?_ 1 _ rfl; refine tq_b ?_; refine blk_put (cs := #[.int .i64 0, .int .i64 0, .int .i64 0]) ?_ 0 _ rfl; refine tq_b ?_; exact BK247.out⟩, ⟨sq_bs HB.out⟩⟩
        revert H; refine tq_rr (fun c59 H => ?_) (fun c59 H => ?_)
        ·have c59b0 : decide (a0_0 ≤ ((rd_T46 l0_2 x4_3).f2)) = true := decide_eq_true c59; clear c59; have H' := Aside0.mk H; clear H
         go_wp2
         go_meet
         case rel => exact ⟨_, (true), tq_z, H', ⟨by have := HJ1.out; have := HK2.out; have := HK3.out; first | omega | exact Nat.le_refl _⟩, ⟨by refine tq_b ?_; refine blk_far ?_ NB240_247.out _; refine tq_b ?_; refine blk_far ?_ NB240_247.out _; refine tq_b ?_; refine blk_far ?_ NB240_247.out _; refine tq_b ?_; exact BK240.out⟩, ⟨by refine tq_b ?_; refine blk_far ?_ NB241_247.out _; refine tq_b ?_; refine blk_far ?_ NB241_247.out _; refine tq_b ?_; refine blk_far ?_ NB241_247.out _; refine tq_b ?_; exact BK241.out⟩, ⟨by refine tq_b ?_; refine blk_put (cs := #[.int .i64 ((rd_T46 l0_2 x4_3).f0), .int .i64 ((rd_T46 l0_2 x4_3).f1), .int .i64 0]) ?_ 2 _ rfl; refine tq_b ?_; refine blk_put (cs := #[.int .i64 ((rd_T46 l0_2 x4_3).f0), .int .i64 0, .int .i64 0]) ?_ 1 _ rfl; refine tq_b ?_; refine blk_put (cs := #[.int .i64 0, .int .i64 0, .int .i64 0]) ?_ 0 _ rfl; refine tq_b ?_; exact BK247.out⟩, ⟨sq_bs HB.out⟩⟩
        have c59b0 : decide (a0_0 ≤ ((rd_T46 l0_2 x4_3).f2)) = false := decide_eq_false c59; clear c59; revert H; refine tq_dd (fun c65b0 H => ?_) (fun c65b0 H => ?_); rotate_left
        ·have H' := Aside0.mk H; clear H
         go_wp2
         go_meet
         case rel => exact ⟨_, (decide (((rd_T46 l0_2 x4_3).f1) ≥ (l0_1.length : Int))), tq_z, H', ⟨by have := HJ1.out; have := HK2.out; have := HK3.out; first | omega | exact Nat.le_refl _⟩, ⟨by refine tq_b ?_; refine blk_far ?_ NB240_247.out _; refine tq_b ?_; refine blk_far ?_ NB240_247.out _; refine tq_b ?_; refine blk_far ?_ NB240_247.out _; refine tq_b ?_; exact BK240.out⟩, ⟨by refine tq_b ?_; refine blk_far ?_ NB241_247.out _; refine tq_b ?_; refine blk_far ?_ NB241_247.out _; refine tq_b ?_; refine blk_far ?_ NB241_247.out _; refine tq_b ?_; exact BK241.out⟩, ⟨by refine tq_b ?_; refine blk_put (cs := #[.int .i64 ((rd_T46 l0_2 x4_3).f0), .int .i64 ((rd_T46 l0_2 x4_3).f1), .int .i64 0]) ?_ 2 _ rfl; refine tq_b ?_; refine blk_put (cs := #[.int .i64 ((rd_T46 l0_2 x4_3).f0), .int .i64 0, .int .i64 0]) ?_ 1 _ rfl; refine tq_b ?_; refine blk_put (cs := #[.int .i64 0, .int .i64 0, .int .i64 0]) ?_ 0 _ rfl; refine tq_b ?_; exact BK247.out⟩, ⟨sq_bs HB.out⟩⟩
        have H' := Aside0.mk H; clear H
        go_wp2
        go_meet
        case rel => exact ⟨_, (true), tq_z, H', ⟨by have := HJ1.out; have := HK2.out; have := HK3.out; first | omega | exact Nat.le_refl _⟩, ⟨by refine tq_b ?_; refine blk_far ?_ NB240_247.out _; refine tq_b ?_; refine blk_far ?_ NB240_247.out _; refine tq_b ?_; refine blk_far ?_ NB240_247.out _; refine tq_b ?_; exact BK240.out⟩, ⟨by refine tq_b ?_; refine blk_far ?_ NB241_247.out _; refine tq_b ?_; refine blk_far ?_ NB241_247.out _; refine tq_b ?_; refine blk_far ?_ NB241_247.out _; refine tq_b ?_; exact BK241.out⟩, ⟨by refine tq_b ?_; refine blk_put (cs := #[.int .i64 ((rd_T46 l0_2 x4_3).f0), .int .i64 ((rd_T46 l0_2 x4_3).f1), .int .i64 0]) ?_ 2 _ rfl; refine tq_b ?_; refine blk_put (cs := #[.int .i64 ((rd_T46 l0_2 x4_3).f0), .int .i64 0, .int .i64 0]) ?_ 1 _ rfl; refine tq_b ?_; refine blk_put (cs := #[.int .i64 0, .int .i64 0, .int .i64 0]) ?_ 0 _ rfl; refine tq_b ?_; exact BK247.out⟩, ⟨sq_bs HB.out⟩⟩
       case rest =>
        clear HC36
        try clear c34b0
        try clear c35b0
        try clear hcz38_0
        try clear hcz38_1
        try clear hcz38_2
        try clear hcz42_0
        try clear hcz42_1
        try clear hcz42_2
        try clear hfz38_0
        try clear hfz38_1
        try clear hfz38_2
        try clear hfz42_0
        try clear hfz42_1
        try clear hfz42_2
        try clear hx246_0
        try clear hx246_1
        try clear hx246_2
        try clear p246
        try clear q246
        obtain ⟨kq, x95_35, rfl, HA, HJ35, BK240, BK241, BK247, HB⟩ := hcut
        cases kq with
        | zero => exact absurd HA.out (by simp [petrinetref45_Check.j3])
        | succ kj35 =>
         have H := HA.out; clear HA
         simp only [petrinetref45_Check.j3] at H
         cases x95_35; rotate_left
         ·replace H := tq_t H
          simp only [Option.some.injEq, Prod.mk.injEq] at H
          obtain ⟨rfl, rfl⟩ := H; have hnb77 := NB241_240.out; have hnc77 := NB240_241.out; have hnb78 := NB241_247.out; have hnc78 := NB247_241.out; obtain ⟨hcz79_0, hcz79_1, hfz79_0, hfz79_1⟩ := tq_2 (w := wc) BK241
          go_wp2
          refine bodyPost_ret (results_cell_row rfl _ _ gb241 30 #[.int .i64 1, .int .i64 x4_3] (0, 0) _ rfl (by refine tq_b ?_; refine blk_put (cs := #[.int .i64 1, .int .i64 x242001_3]) ?_ 1 _ rfl; refine tq_b ?_; refine blk_put (cs := #[.int .i64 x242000_3, .int .i64 x242001_3]) ?_ 0 _ rfl; refine tq_b ?_; exact BK241.out) Tryd.underlying30 rfl (by kernel_rfl)) rfl ?_
          exact tq_v (sq_bs HB.out)
         replace H := tq_f H; revert H; refine tq_rr (fun c80 H => ?_) (fun c80 H => ?_); rotate_left
         ·have c80b0 : decide (0 < x4_3) = false := decide_eq_false c80; clear c80; have H' := Aside0.mk H; clear H
          try go_wp2
          replace BK240 := Aside0.mk (blk_drew BK240.out); replace BK241 := Aside0.mk (blk_drew BK241.out); replace BK247 := Aside0.mk (blk_drew BK247.out); replace HB := Aside0.mk (below_drew1 HB.out); refine start_ (n := 13) (S := fun w' => True) (ds := []) #[false, false, false, false, false, false, false, false, false, false, false, false, false] (by kernel_rfl) rfl rfl trivial (fun hHeld => ?_); refine with_tabW petrinetref45_Check.tab16 petrinetref45_Check.bits16 (fun HT_ HW_ => ?_)
          generalize wc.drew = w93 at BK240 BK241 BK247 HB hHeld ⊢
          refine sq_p 0 98 (sqm 13 1) HT_.out ?_; refine sq_p 1 99 (sqm 13 3) HT_.out ?_; refine sq_p 2 100 (sqm 13 7) HT_.out ?_; refine sq_u 3 101 (sqm 13 15) HT_.out ?_; refine sq_u 4 102 (sqm 13 31) HT_.out ?_; refine sq_u 5 103 (sqm 13 63) HT_.out ?_; refine sq_u 6 104 (sqm 13 127) HT_.out ?_; refine sq_u 7 105 (sqm 13 255) HT_.out ?_; refine sq_u 8 106 (sqm 13 511) HT_.out ?_; refine sq_u 9 107 (sqm 13 1023) HT_.out ?_; refine sq_u 10 108 (sqm 13 2047) HT_.out ?_; refine sq_u 11 109 (sqm 13 4095) HT_.out ?_; refine sq_p 12 110 (sqm 13 8191) HT_.out ?_; refine done_ (done_of HT_.out (by kernel_rfl)) ?_
          try go_wp2
          go_roundg kj35
          case measure => have := HJ1.out; have := HK2.out; have := HK3.out; have := HJ35.out; omega
          case rel => exact ⟨(wrap64 (x4_3 + 1)), (x242000_3), (x242001_3), tq_z, H', ⟨by have := HJ1.out; have := HK2.out; have := HK3.out; have := HJ35.out; omega⟩, ⟨sq_bk BK240.out⟩, ⟨sq_bk BK241.out⟩, ⟨sq_bs HB.out⟩⟩
         have c80b0 : decide (0 < x4_3) = true := decide_eq_true c80; clear c80; obtain ⟨ji81, hji81⟩ : ∃ j_ : Int, (wrap64 (x4_3 - 1)) = j_ := ⟨_, rfl⟩; replace H : (if 0 ≤ (ji81) then (if (ji81) < (l0_2.length : Int) then ((petrinetref45_after.f kj35 ((rd_T46 l0_2 x4_3).f0) ((rd_T46 l0_2 x4_3).f1) ((rd_T46 l0_2 x4_3).f2) ((rd_T46 l0_2 (ji81)).f0) ((rd_T46 l0_2 (ji81)).f1) ((rd_T46 l0_2 (ji81)).f2)).bind fun t249 => (if t249 = true then (petrinetref45_Check.l1 kj35 (wrap64 (x4_3 + 1)) a0_0 l0_1 l0_2) else (some (8, x4_3)))) else (none)) else (none)) = some (r1, r2) := by first | (rw [hji81] at H; exact H) | (simp only [hji81] at H ⊢; exact H)
         have hji81w : (IntKind.i64.wrap (x4_3 - 1)) = ji81 := (i64_w _).trans hji81; revert H; refine tq_i1 fun c82b0 H => ?_; revert H; refine tq_i1 fun c83b0 H => ?_; revert H; refine tq_o fun t249 A84 H => ?_; cases t249; rotate_left
         ·replace H := tq_t H; have H' := Aside0.mk H; clear H
          try go_wp2
          replace BK240 := Aside0.mk (blk_drew BK240.out); replace BK241 := Aside0.mk (blk_drew BK241.out); replace BK247 := Aside0.mk (blk_drew BK247.out); replace HB := Aside0.mk (below_drew1 HB.out); have p248 : 0 ≤ ((ji81) : Int) := sq_d; have q248 : (ji81) < (l0_2.length : Int) := sq_d; obtain ⟨ad248, e248, hx248_0, hx248_1, hx248_2⟩ := at_T46 HR0_2.out (ji81) p248 q248; have hw248_2 := hx248_2; have hw248_1 := hx248_1; have hw248_0 := hx248_0; obtain rfl : ad246 = ad248 := (by injection e248); replace hx248_0 := tq_hx HB hx248_0; replace hx248_1 := tq_hx HB hx248_1; replace hx248_2 := tq_hx HB hx248_2; replace p248 := eq_true p248; replace q248 := eq_true q248; refine start_ (n := 13) (S := fun w' => w'.cell? ⟨gb247, 0, none⟩ = some (.int .i64 ((rd_T46 l0_2 x4_3).f0)) ∧ w'.cell? ⟨gb247, 1, none⟩ = some (.int .i64 ((rd_T46 l0_2 x4_3).f1)) ∧ w'.cell? ⟨gb247, 2, none⟩ = some (.int .i64 ((rd_T46 l0_2 x4_3).f2)) ∧ w'.cell? ⟨gb240, 0, none⟩ = some (.int .i64 a0_0) ∧ w'.cell? ⟨gb240, 1, none⟩ = some (.slice A0_1 l0_1.length c0_1) ∧ w'.cell? ⟨gb240, 2, none⟩ = some (.slice (some ad246) l0_2.length c0_2) ∧ w'.cell? (ad246.add (((ji81)).toNat * 3)) = some (.int .i64 ((rd_T46 l0_2 (ji81)).f0)) ∧ w'.cell? ⟨(ad246.add (((ji81)).toNat * 3)).block, (ad246.add (((ji81)).toNat * 3)).off + 1, none⟩ = some (.int .i64 ((rd_T46 l0_2 (ji81)).f1)) ∧ w'.cell? ⟨(ad246.add (((ji81)).toNat * 3)).block, (ad246.add (((ji81)).toNat * 3)).off + 2, none⟩ = some (.int .i64 ((rd_T46 l0_2 (ji81)).f2))) (ds := []) #[false, false, false, false, false, false, false, false, false, false, false, false, false] (by kernel_rfl) rfl rfl ⟨tq_q BK247 0, tq_q BK247 1, tq_q BK247 2, tq_q BK240 0, tq_q BK240 1, tq_q BK240 2, ((HB.out.cell (World.block_lt_of_cell? w _ hw248_0)).trans hw248_0), ((HB.out.cell (World.block_lt_of_cell? w _ hw248_1)).trans hw248_1), ((HB.out.cell (World.block_lt_of_cell? w _ hw248_2)).trans hw248_2)⟩ (fun hHeld => ?_); refine with_tabW petrinetref45_Check.tab16 petrinetref45_Check.bits16 (fun HT_ HW_ => ?_)
          generalize wc.drew = w86 at BK240 BK241 BK247 HB hx248_0 hx248_1 hx248_2 hHeld ⊢
          refine sq_p 0 98 (sqm 13 1) HT_.out ?_; refine sq_p 1 99 (sqm 13 3) HT_.out ?_; refine sq_p 2 100 (sqm 13 7) HT_.out ?_; refine sq_p 4 102 (sqm 13 23) HT_.out ?_; refine sq_p 6 104 (sqm 13 87) HT_.out ?_; refine sq_p 7 105 (sqm 13 215) HT_.out ?_; refine sq_t 3 101 (sqm 13 223) HT_.out HW_.out hHeld ?_; refine sq_t 5 103 (sqm 13 255) HT_.out HW_.out hHeld ?_; refine sq_p 8 106 (sqm 13 511) HT_.out ?_; refine sq_t 9 107 (sqm 13 1023) HT_.out HW_.out hHeld ?_; refine one_ (i := 10) (N := some 108) (sqm 13 2047) rfl rfl (one_of HT_.out (by kernel_rfl)) (by decide) (fun K hK => ?_); refine goes_ Tryd.func38 (by kernel_rfl) rfl #[.agg #[.int .i64 ((rd_T46 l0_2 x4_3).f0), .int .i64 ((rd_T46 l0_2 x4_3).f1), .int .i64 ((rd_T46 l0_2 x4_3).f2)], .agg #[.int .i64 ((rd_T46 l0_2 (ji81)).f0), .int .i64 ((rd_T46 l0_2 (ji81)).f1), .int .i64 ((rd_T46 l0_2 (ji81)).f2)]] (by rfl) rfl rfl (by (try simp only [List.map_toArray, List.map_cons, List.map_nil]); first | done | (simp only [hji81]; rfl) | rfl | (simp only [List.length_drop, List.length_take]; rfl)) ?_
          with_reducible refine (petrinetref45_after.calls kj35 ((rd_T46 l0_2 x4_3).f0) ((rd_T46 l0_2 x4_3).f1) ((rd_T46 l0_2 x4_3).f2) ((rd_T46 l0_2 (ji81)).f0) ((rd_T46 l0_2 (ji81)).f1) ((rd_T46 l0_2 (ji81)).f2) true _ A84.out).mono ?_
          rintro e w87 ⟨rfl, hb⟩
          refine ⟨_, rfl, ?_⟩; replace BK240 := tq_k BK240 hb; replace BK241 := tq_k BK241 hb; replace BK247 := tq_k BK247 hb; replace HB := tq_s HB hb
          (try clear hb)
          (try clear hb2)
          (try clear hk)
          (try clear hi)
          refine hK.out _ _ ⟨tq_q BK247 0, tq_q BK247 1, tq_q BK247 2, tq_q BK240 0, tq_q BK240 1, tq_q BK240 2, ((HB.out.cell (World.block_lt_of_cell? w _ hw248_0)).trans hw248_0), ((HB.out.cell (World.block_lt_of_cell? w _ hw248_1)).trans hw248_1), ((HB.out.cell (World.block_lt_of_cell? w _ hw248_2)).trans hw248_2)⟩ (fun hHeld => ?_); clear hK K; refine norm_ (a' := ?_) ?_ ?_; rotate_left
          ·show Act.put _ (some 108) _ = _
           simp only [Act.put, List.setIfInBounds_toArray, List.set_cons_zero, List.set_cons_succ, i64_w, i32_w]
           rfl
          refine sq_p 11 109 (sqm 13 4095) HT_.out ?_; refine sq_p 12 110 (sqm 13 8191) HT_.out ?_; refine done_ (done_of HT_.out (by kernel_rfl)) ?_
          try go_wp2
          go_roundg kj35
          case measure => have := HJ1.out; have := HK2.out; have := HK3.out; have := HJ35.out; omega
          case rel => exact ⟨(wrap64 (x4_3 + 1)), (x242000_3), (x242001_3), tq_z, H', ⟨by have := HJ1.out; have := HK2.out; have := HK3.out; have := HJ35.out; omega⟩, ⟨sq_bk BK240.out⟩, ⟨sq_bk BK241.out⟩, ⟨sq_bs HB.out⟩⟩
         replace H := tq_f H
         simp only [Option.some.injEq, Prod.mk.injEq] at H
         obtain ⟨rfl, rfl⟩ := H
         try go_wp2
         replace BK240 := Aside0.mk (blk_drew BK240.out); replace BK241 := Aside0.mk (blk_drew BK241.out); replace BK247 := Aside0.mk (blk_drew BK247.out); replace HB := Aside0.mk (below_drew1 HB.out); have p248 : 0 ≤ ((ji81) : Int) := sq_d; have q248 : (ji81) < (l0_2.length : Int) := sq_d; obtain ⟨ad248, e248, hx248_0, hx248_1, hx248_2⟩ := at_T46 HR0_2.out (ji81) p248 q248; have hw248_2 := hx248_2; have hw248_1 := hx248_1; have hw248_0 := hx248_0; obtain rfl : ad246 = ad248 := (by injection e248); replace hx248_0 := tq_hx HB hx248_0; replace hx248_1 := tq_hx HB hx248_1; replace hx248_2 := tq_hx HB hx248_2; replace p248 := eq_true p248; replace q248 := eq_true q248; refine start_ (n := 13) (S := fun w' => w'.cell? ⟨gb247, 0, none⟩ = some (.int .i64 ((rd_T46 l0_2 x4_3).f0)) ∧ w'.cell? ⟨gb247, 1, none⟩ = some (.int .i64 ((rd_T46 l0_2 x4_3).f1)) ∧ w'.cell? ⟨gb247, 2, none⟩ = some (.int .i64 ((rd_T46 l0_2 x4_3).f2)) ∧ w'.cell? ⟨gb240, 0, none⟩ = some (.int .i64 a0_0) ∧ w'.cell? ⟨gb240, 1, none⟩ = some (.slice A0_1 l0_1.length c0_1) ∧ w'.cell? ⟨gb240, 2, none⟩ = some (.slice (some ad246) l0_2.length c0_2) ∧ w'.cell? (ad246.add (((ji81)).toNat * 3)) = some (.int .i64 ((rd_T46 l0_2 (ji81)).f0)) ∧ w'.cell? ⟨(ad246.add (((ji81)).toNat * 3)).block, (ad246.add (((ji81)).toNat * 3)).off + 1, none⟩ = some (.int .i64 ((rd_T46 l0_2 (ji81)).f1)) ∧ w'.cell? ⟨(ad246.add (((ji81)).toNat * 3)).block, (ad246.add (((ji81)).toNat * 3)).off + 2, none⟩ = some (.int .i64 ((rd_T46 l0_2 (ji81)).f2))) (ds := []) #[false, false, false, false, false, false, false, false, false, false, false, false, false] (by kernel_rfl) rfl rfl ⟨tq_q BK247 0, tq_q BK247 1, tq_q BK247 2, tq_q BK240 0, tq_q BK240 1, tq_q BK240 2, ((HB.out.cell (World.block_lt_of_cell? w _ hw248_0)).trans hw248_0), ((HB.out.cell (World.block_lt_of_cell? w _ hw248_1)).trans hw248_1), ((HB.out.cell (World.block_lt_of_cell? w _ hw248_2)).trans hw248_2)⟩ (fun hHeld => ?_); refine with_tabW petrinetref45_Check.tab16 petrinetref45_Check.bits16 (fun HT_ HW_ => ?_)
         generalize wc.drew = w88 at BK240 BK241 BK247 HB hx248_0 hx248_1 hx248_2 hHeld ⊢
         refine sq_p 0 98 (sqm 13 1) HT_.out ?_; refine sq_p 1 99 (sqm 13 3) HT_.out ?_; refine sq_p 2 100 (sqm 13 7) HT_.out ?_; refine sq_p 4 102 (sqm 13 23) HT_.out ?_; refine sq_p 6 104 (sqm 13 87) HT_.out ?_; refine sq_p 7 105 (sqm 13 215) HT_.out ?_; refine sq_t 3 101 (sqm 13 223) HT_.out HW_.out hHeld ?_; refine sq_t 5 103 (sqm 13 255) HT_.out HW_.out hHeld ?_; refine sq_p 8 106 (sqm 13 511) HT_.out ?_; refine sq_t 9 107 (sqm 13 1023) HT_.out HW_.out hHeld ?_; refine one_ (i := 10) (N := some 108) (sqm 13 2047) rfl rfl (one_of HT_.out (by kernel_rfl)) (by decide) (fun K hK => ?_); refine goes_ Tryd.func38 (by kernel_rfl) rfl #[.agg #[.int .i64 ((rd_T46 l0_2 x4_3).f0), .int .i64 ((rd_T46 l0_2 x4_3).f1), .int .i64 ((rd_T46 l0_2 x4_3).f2)], .agg #[.int .i64 ((rd_T46 l0_2 (ji81)).f0), .int .i64 ((rd_T46 l0_2 (ji81)).f1), .int .i64 ((rd_T46 l0_2 (ji81)).f2)]] (by rfl) rfl rfl (by (try simp only [List.map_toArray, List.map_cons, List.map_nil]); first | done | (simp only [hji81]; rfl) | rfl | (simp only [List.length_drop, List.length_take]; rfl)) ?_
         with_reducible refine (petrinetref45_after.calls kj35 ((rd_T46 l0_2 x4_3).f0) ((rd_T46 l0_2 x4_3).f1) ((rd_T46 l0_2 x4_3).f2) ((rd_T46 l0_2 (ji81)).f0) ((rd_T46 l0_2 (ji81)).f1) ((rd_T46 l0_2 (ji81)).f2) false _ A84.out).mono ?_
         rintro e w89 ⟨rfl, hb⟩
         refine ⟨_, rfl, ?_⟩; replace BK240 := tq_k BK240 hb; replace BK241 := tq_k BK241 hb; replace BK247 := tq_k BK247 hb; replace HB := tq_s HB hb
         (try clear hb)
         (try clear hb2)
         (try clear hk)
         (try clear hi)
         refine hK.out _ _ ⟨tq_q BK247 0, tq_q BK247 1, tq_q BK247 2, tq_q BK240 0, tq_q BK240 1, tq_q BK240 2, ((HB.out.cell (World.block_lt_of_cell? w _ hw248_0)).trans hw248_0), ((HB.out.cell (World.block_lt_of_cell? w _ hw248_1)).trans hw248_1), ((HB.out.cell (World.block_lt_of_cell? w _ hw248_2)).trans hw248_2)⟩ (fun hHeld => ?_); clear hK K; refine norm_ (a' := ?_) ?_ ?_; rotate_left
         ·show Act.put _ (some 108) _ = _
          simp only [Act.put, List.setIfInBounds_toArray, List.set_cons_zero, List.set_cons_succ, i64_w, i32_w]
          rfl
         refine sq_p 11 109 (sqm 13 4095) HT_.out ?_; refine sq_p 12 110 (sqm 13 8191) HT_.out ?_; refine done_ (done_of HT_.out (by kernel_rfl)) ?_; have hnb90 := NB241_240.out; have hnc90 := NB240_241.out; have hnb91 := NB241_247.out; have hnc91 := NB247_241.out; obtain ⟨hcz92_0, hcz92_1, hfz92_0, hfz92_1⟩ := tq_2 (w := w89) BK241
         try go_wp2
         refine bodyPost_ret (results_cell_row rfl _ _ gb241 30 #[.int .i64 8, .int .i64 x4_3] (0, 0) _ rfl (by refine tq_b ?_; refine blk_put (cs := #[.int .i64 8, .int .i64 x242001_3]) ?_ 1 _ rfl; refine tq_b ?_; refine blk_put (cs := #[.int .i64 x242000_3, .int .i64 x242001_3]) ?_ 0 _ rfl; refine tq_b ?_; exact BK241.out) Tryd.underlying30 rfl (by kernel_rfl)) rfl ?_
         exact ⟨by first | rfl | (simp [errW_none, errW_some] <;> rfl) | (simp only [← hji81]; first | rfl | (simp [errW_none, errW_some] <;> rfl)) | (simp [*, errW_none, errW_some] <;> rfl), sq_bs HB.out⟩
end Go.Proofs.YtcnliampiibpbaaDoor.PAll
