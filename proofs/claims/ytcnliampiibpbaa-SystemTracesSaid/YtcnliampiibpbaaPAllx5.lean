/- Lean functions for Go functions, each with the proof that the call returns what it says; printed by wip/tools/myprint.py. -/
-- squeezed
import Derived.Test.YtcnliampiibpbaaPAllx0
import Derived.Test.YtcnliampiibpbaaPAllx4
namespace Go.Proofs.Ytcnliampiibpbaa.PAll
open Go.RowKit Go.Proofs.YtcnliampiibpbaaW.PrintWords Go.Proofs.YtcnliampiibpbaaW.PrintLast Go.Proofs.YtcnliampiibpbaaW.PrintMore
attribute [local go_sem] Instr.field asAgg max2_int min2_int max_two min_two max_three min_three max_four min_four   -- for this text's walks alone
set_option linter.unusedVariables false
set_option linter.unusedSimpArgs false

/-! ### system_Deterministic: function 12 -/
def system_Deterministic.l0 : Nat → Int → Int → List ByteArray → List (S44) → Option (Bool)
 | 0, _, _, _, _ => none
 | k + 1, x3, x122000, x122001, x122002 => if x3 < (x122002.length : Int) then (if 0 ≤ (wrap64 (x3 - 1)) then (if (wrap64 (x3 - 1)) < (x122002.length : Int) then (if 0 ≤ x3 then (if ((rd_T44 x122002 (wrap64 (x3 - 1))).f0) = ((rd_T44 x122002 x3).f0) then (if ((rd_T44 x122002 (wrap64 (x3 - 1))).f1) = ((rd_T44 x122002 x3).f1) then (some false) else (system_Deterministic.l0 k (wrap64 (x3 + 1)) x122000 x122001 x122002)) else (system_Deterministic.l0 k (wrap64 (x3 + 1)) x122000 x122001 x122002)) else (none)) else (none)) else (none)) else (some true)
def system_Deterministic.f (k : Nat) (a0_0 : Int) (l0_1 : List ByteArray) (l0_2 : List (S44)) : Option (Bool) := (system_valid.f k a0_0 l0_1 l0_2).bind fun t122 => (if t122 = true then (system_Deterministic.l0 k 1 a0_0 l0_1 l0_2) else (some false))
theorem system_Deterministic.mono_l : ∀ k, (∀ y0 y1 y2 y3, LeO (system_Deterministic.l0 k y0 y1 y2 y3) (system_Deterministic.l0 (k + 1) y0 y1 y2 y3))
 | 0 => fun _ _ _ _ r h => by simp [system_Deterministic.l0] at h
 | k + 1 => by
  have ih0 := system_Deterministic.mono_l k
  ·intro y0 y1 y2 y3
   unfold system_Deterministic.l0
   repeat' first
   | (with_reducible exact ih0 _ _ _ _)
   | (with_reducible exact system_valid.mono _ _ _ _)
   | (with_reducible exact LeO.refl _)
   | (with_reducible exact LeO.none _)
   | (with_reducible refine LeO.ite ?_ ?_)
   | (with_reducible refine LeO.bind ?_ (fun _ => ?_))
theorem system_Deterministic.mono : ∀ a0 a1 a2 k, LeO (system_Deterministic.f k a0 a1 a2) (system_Deterministic.f (k + 1) a0 a1 a2) := by
 intro a0 a1 a2 k
 have ih0 := system_Deterministic.mono_l k
 unfold system_Deterministic.f
 repeat' first
   | (with_reducible exact ih0 _ _ _ _)
   | (with_reducible exact system_valid.mono _ _ _ _)
   | (with_reducible exact LeO.refl _)
   | (with_reducible exact LeO.none _)
   | (with_reducible refine LeO.ite ?_ ?_)
   | (with_reducible refine LeO.bind ?_ (fun _ => ?_))
def system_Deterministic.T6 : Bool × List (List Nat × List Nat) := (true, [([], []), ([0], [0]), ([], []), ([2], [2]), ([1, 3], [1, 3]), ([4], [4]), ([], []), ([6], [6]), ([], []), ([7, 8], [7, 8]), ([9], [9]), ([], []), ([], []), ([11, 5, 0, 1, 2, 3, 4, 5, 11, 12], [5, 11]), ([12, 10, 13, 0, 1, 2, 3, 4, 5, 6, 7, 8, 9, 10, 11, 12, 13], [10, 12])])
def system_Deterministic.B6 : List Nat := [0, 1, 0, 4, 15, 31, 0, 64, 0, 448, 960, 0, 0, 6207, 16383]
theorem system_Deterministic.tab6 : rtab .any (opsOf Try.f12 6) = system_Deterministic.T6 := by kernel_rfl
theorem system_Deterministic.bits6 : waitsOk system_Deterministic.T6.2 system_Deterministic.B6 = true := by kernel_rfl
set_option maxHeartbeats 8000000 in
set_option maxRecDepth 100000 in
theorem system_Deterministic.calls (k : Nat) (a0_0 : Int) (A0_1 : Option Addr) (c0_1 : Nat) (l0_1 : List ByteArray) (A0_2 : Option Addr) (c0_2 : Nat) (l0_2 : List (S44)) (r : Bool) (w : World) (hr0_1 : Kd.C Kd.string w A0_1 l0_1.length l0_1) (hc0_1 : l0_1.length ≤ c0_1) (hr0_2 : Kd.C k44 w A0_2 l0_2.length l0_2) (hc0_2 : l0_2.length ≤ c0_2) (h : system_Deterministic.f k a0_0 l0_1 l0_2 = some r) :
  Calls Try.prog 12 #[.agg #[.int .i64 a0_0, .slice A0_1 l0_1.length c0_1, .slice A0_2 l0_2.length c0_2]] w fun e w' => e = .returned (.bool r) ∧ Below w.heap.size w w' := by
 have hv30 := Try.underlying30
 have hu25 := Try.underlying25
 have hu44 := Try.underlying44
 have HR0_1 := Aside0.mk hr0_1
 have HC0_1 := Aside0.mk hc0_1
 clear hr0_1 hc0_1
 have HR0_2 := Aside0.mk hr0_2
 have HC0_2 := Aside0.mk hc0_2
 clear hr0_2 hc0_2
 have HB := Aside0.mk (Below.refl w.heap.size w)
 have H : ((system_valid.f k a0_0 l0_1 l0_2).bind fun t122 => (if t122 = true then (system_Deterministic.l0 k 1 a0_0 l0_1 l0_2) else (some false))) = some r := h
 clear h
 replace H := Option.bind_eq_some_iff.mp H
 obtain ⟨t122, A20, H⟩ := H
 replace H : (if t122 = true then (system_Deterministic.l0 k 1 a0_0 l0_1 l0_2) else (some false)) = some r := H
 have A2 := Aside0.mk A20
 clear A20
 by_cases c3 : t122 = true
 rotate_left
 ·replace c3 := Bool.eq_false_iff.mpr c3
  subst c3
  have H1 : (some false) = some r := by rw [if_neg (show ¬ (false = true) by decide)] at H; exact H
  clear H
  have H := H1
  clear H1
  obtain rfl := Option.some.inj H
  go_enter Try.func12, Try.ntmps12
  go_wp2_with (first | ((with_reducible refine gate_dst (N := 1) rfl ?_); refine sq_box 1 #[.int .i64 a0_0, .slice A0_1 l0_1.length c0_1, .slice A0_2 l0_2.length c0_2] 25 ?_; intro gb121 hg w63 hbox hb; have n0_ := Aside0.mk (below_step (sq_bl HB.out) hb); have n1_ := Aside0.mk (hbox); have n2_ := Aside0.mk ((by rw [hg]; exact (below_size (sq_bl HB.out)) : w.heap.size ≤ gb121)); have n3_ := Aside0.mk ((by rw [hg]; exact (below_size (sq_bl HB.out)) : w.heap.size ≤ gb121)); clear HB; have HB := n0_; have BK121 := n1_; have GW121 := n2_; have GE121 := n3_; clear n0_ n1_ n2_ n3_; clear hb hbox hg; have hcz64_0 : w63.cell? ⟨gb121, 0, none⟩ = some (.int .i64 a0_0) := (blk_cell BK121.out 0).trans rfl; have hcz64_1 : w63.cell? ⟨gb121, 1, none⟩ = some (.slice A0_1 l0_1.length c0_1) := (blk_cell BK121.out 1).trans rfl; have hcz64_2 : w63.cell? ⟨gb121, 2, none⟩ = some (.slice A0_2 l0_2.length c0_2) := (blk_cell BK121.out 2).trans rfl; have hfz64_0 := blk_frozen BK121.out 0; have hfz64_1 := blk_frozen BK121.out 1; have hfz64_2 := blk_frozen BK121.out 2) | ((with_reducible refine gate_callee (f := 31) rfl ?_); refine sq_goes (some 7) Try.func31 #[.agg #[.int .i64 a0_0, .slice A0_1 l0_1.length c0_1, .slice A0_2 l0_2.length c0_2]] ?_; (with_reducible refine (system_valid.calls k a0_0 _ _ l0_1 _ _ l0_2 false _ ?side1 ?side2 ?side3 ?side4 A2.out).mono ?_); (case side1 => exact sq_kc ((Kd.C_below HR0_1.out HB.out))); (case side2 => exact HC0_1.out); (case side3 => exact sq_kc ((Kd.C_below HR0_2.out HB.out))); (case side4 => exact HC0_2.out); rintro e w65 ⟨rfl, hb⟩; refine ⟨_, rfl, ?_⟩; have n0_ := Aside0.mk (blk_below (g := gb121) (o := .cells #[.int .i64 a0_0, .slice A0_1 l0_1.length c0_1, .slice A0_2 l0_2.length c0_2] 25 (0, 0)) (sq_bk BK121.out) hb); have n1_ := Aside0.mk (below_step (sq_bs HB.out) hb); clear BK121; clear HB; have BK121 := n0_; have HB := n1_; clear n0_ n1_; (try clear hb)))
  go_ret
  exact ⟨by first | rfl | (simp [errW_none, errW_some] <;> rfl) | (simp [*, errW_none, errW_some] <;> rfl), sq_bs HB.out⟩
 subst c3
 have H1 : (system_Deterministic.l0 k 1 a0_0 l0_1 l0_2) = some r := by rw [if_pos rfl] at H; exact H
 clear H
 have H := H1
 clear H1
 have H' := Aside0.mk H
 clear H
 go_enter Try.func12, Try.ntmps12
 go_wp2_with (first | ((with_reducible refine gate_dst (N := 1) rfl ?_); refine sq_box 1 #[.int .i64 a0_0, .slice A0_1 l0_1.length c0_1, .slice A0_2 l0_2.length c0_2] 25 ?_; intro gb121 hg w4 hbox hb; have n0_ := Aside0.mk (below_step (sq_bl HB.out) hb); have n1_ := Aside0.mk (hbox); have n2_ := Aside0.mk ((by rw [hg]; exact (below_size (sq_bl HB.out)) : w.heap.size ≤ gb121)); have n3_ := Aside0.mk ((by rw [hg]; exact (below_size (sq_bl HB.out)) : w.heap.size ≤ gb121)); clear HB; have HB := n0_; have BK121 := n1_; have GW121 := n2_; have GE121 := n3_; clear n0_ n1_ n2_ n3_; clear hb hbox hg; have hcz5_0 : w4.cell? ⟨gb121, 0, none⟩ = some (.int .i64 a0_0) := (blk_cell BK121.out 0).trans rfl; have hcz5_1 : w4.cell? ⟨gb121, 1, none⟩ = some (.slice A0_1 l0_1.length c0_1) := (blk_cell BK121.out 1).trans rfl; have hcz5_2 : w4.cell? ⟨gb121, 2, none⟩ = some (.slice A0_2 l0_2.length c0_2) := (blk_cell BK121.out 2).trans rfl; have hfz5_0 := blk_frozen BK121.out 0; have hfz5_1 := blk_frozen BK121.out 1; have hfz5_2 := blk_frozen BK121.out 2) | ((with_reducible refine gate_callee (f := 31) rfl ?_); refine sq_goes (some 7) Try.func31 #[.agg #[.int .i64 a0_0, .slice A0_1 l0_1.length c0_1, .slice A0_2 l0_2.length c0_2]] ?_; (with_reducible refine (system_valid.calls k a0_0 _ _ l0_1 _ _ l0_2 true _ ?side1 ?side2 ?side3 ?side4 A2.out).mono ?_); (case side1 => exact sq_kc ((Kd.C_below HR0_1.out HB.out))); (case side2 => exact HC0_1.out); (case side3 => exact sq_kc ((Kd.C_below HR0_2.out HB.out))); (case side4 => exact HC0_2.out); rintro e w6 ⟨rfl, hb⟩; refine ⟨_, rfl, ?_⟩; have n0_ := Aside0.mk (blk_below (g := gb121) (o := .cells #[.int .i64 a0_0, .slice A0_1 l0_1.length c0_1, .slice A0_2 l0_2.length c0_2] 25 (0, 0)) (sq_bk BK121.out) hb); have n1_ := Aside0.mk (below_step (sq_bs HB.out) hb); clear BK121; clear HB; have BK121 := n0_; have HB := n1_; clear n0_ n1_; (try clear hb)))
 go_loopg [3] k (fun kq v3 w' => ∃ (x3_1 : Int), v3 = .int .i64 x3_1 ∧ Aside0 (system_Deterministic.l0 kq x3_1 a0_0 l0_1 l0_2 = some r) ∧ Aside0 (kq ≤ k) ∧ Aside0 (w'.heap[gb121]? = some (.cells #[.int .i64 a0_0, (.slice A0_1 l0_1.length c0_1), (.slice A0_2 l0_2.length c0_2)] 25 (0, 0))) ∧ Aside0 (Below w.heap.size w w'))
 case atStart => exact ⟨(1), (by first | rfl | (simp; done) | (simp [*]; done)), H', ⟨Nat.le_refl _⟩, ⟨sq_bk BK121.out⟩, ⟨sq_bs HB.out⟩⟩
 case round =>
  clear H'
  try clear c3
  try clear hcz5_0
  try clear hcz5_1
  try clear hcz5_2
  try clear hfz5_0
  try clear hfz5_1
  try clear hfz5_2
  obtain ⟨x3_1, rfl, HA, HK1, BK121, HB⟩ := hrel
  cases gk with
  | zero => exact absurd HA.out (by simp [system_Deterministic.l0])
  | succ k1 =>
   have H := HA.out
   clear HA
   simp only [system_Deterministic.l0] at H
   by_cases c7 : x3_1 < (l0_2.length : Int)
   rotate_left
   ·rw [if_neg c7] at H
    have c7b0 : decide (x3_1 < (l0_2.length : Int)) = false := decide_eq_false c7
    clear c7
    obtain rfl := Option.some.inj H
    have hcz62_0 : wr.cell? ⟨gb121, 0, none⟩ = some (.int .i64 a0_0) := (blk_cell BK121.out 0).trans rfl
    have hcz62_1 : wr.cell? ⟨gb121, 1, none⟩ = some (.slice A0_1 l0_1.length c0_1) := (blk_cell BK121.out 1).trans rfl
    have hcz62_2 : wr.cell? ⟨gb121, 2, none⟩ = some (.slice A0_2 l0_2.length c0_2) := (blk_cell BK121.out 2).trans rfl
    have hfz62_0 := blk_frozen BK121.out 0
    have hfz62_1 := blk_frozen BK121.out 1
    have hfz62_2 := blk_frozen BK121.out 2
    go_wp2
    go_ret
    exact ⟨by first | rfl | (simp [errW_none, errW_some] <;> rfl) | (simp [*, errW_none, errW_some] <;> rfl), sq_bs HB.out⟩
   rw [if_pos c7] at H
   have c7b0 : decide (x3_1 < (l0_2.length : Int)) = true := decide_eq_true c7
   clear c7
   obtain ⟨ji8, hji8⟩ : ∃ j_ : Int, (wrap64 (x3_1 - 1)) = j_ := ⟨_, rfl⟩
   replace H : (if 0 ≤ (ji8) then (if (ji8) < (l0_2.length : Int) then (if 0 ≤ x3_1 then (if ((rd_T44 l0_2 (ji8)).f0) = ((rd_T44 l0_2 x3_1).f0) then (if ((rd_T44 l0_2 (ji8)).f1) = ((rd_T44 l0_2 x3_1).f1) then (some false) else (system_Deterministic.l0 k1 (wrap64 (x3_1 + 1)) a0_0 l0_1 l0_2)) else (system_Deterministic.l0 k1 (wrap64 (x3_1 + 1)) a0_0 l0_1 l0_2)) else (none)) else (none)) else (none)) = some r := by first | (rw [hji8] at H; exact H) | (simp only [hji8] at H ⊢; exact H)
   have hji8w : (IntKind.i64.wrap (x3_1 - 1)) = ji8 := (i64_w _).trans hji8
   by_cases c9 : 0 ≤ (ji8)
   rotate_left
   ·rw [if_neg c9] at H
    exact absurd H (by simp)
   rw [if_pos c9] at H
   have c9b0 : decide (0 ≤ (ji8)) = true := decide_eq_true c9
   clear c9
   by_cases c10 : (ji8) < (l0_2.length : Int)
   rotate_left
   ·rw [if_neg c10] at H
    exact absurd H (by simp)
   rw [if_pos c10] at H
   have c10b0 : decide ((ji8) < (l0_2.length : Int)) = true := decide_eq_true c10
   clear c10
   by_cases c11 : 0 ≤ x3_1
   rotate_left
   ·rw [if_neg c11] at H
    exact absurd H (by simp)
   rw [if_pos c11] at H
   have c11b0 : decide (0 ≤ x3_1) = true := decide_eq_true c11
   clear c11
   have HH_ := Aside0.mk H
   clear H
   have hcz14_0 : wr.cell? ⟨gb121, 0, none⟩ = some (.int .i64 a0_0) := (blk_cell BK121.out 0).trans rfl
   have hcz14_1 : wr.cell? ⟨gb121, 1, none⟩ = some (.slice A0_1 l0_1.length c0_1) := (blk_cell BK121.out 1).trans rfl
   have hcz14_2 : wr.cell? ⟨gb121, 2, none⟩ = some (.slice A0_2 l0_2.length c0_2) := (blk_cell BK121.out 2).trans rfl
   have hfz14_0 := blk_frozen BK121.out 0
   have hfz14_1 := blk_frozen BK121.out 1
   have hfz14_2 := blk_frozen BK121.out 2
   try go_wp2
   have n0_ := Aside0.mk (blk_drew BK121.out)
   have n1_ := Aside0.mk (below_drew1 HB.out)
   clear BK121
   clear HB
   have BK121 := n0_
   have HB := n1_
   clear n0_ n1_
   have p123 : 0 ≤ ((ji8) : Int) := sq_d
   have q123 : (ji8) < (l0_2.length : Int) := sq_d
   obtain ⟨ad123, e123, hx123_0, hx123_1, hx123_2⟩ := at_T44 HR0_2.out (ji8) p123 q123
   have hw123_2 := hx123_2
   have hw123_1 := hx123_1
   have hw123_0 := hx123_0
   cases e123
   replace hx123_0 := (HB.out.cell (World.block_lt_of_cell? w _ hx123_0)).trans hx123_0
   replace hx123_1 := (HB.out.cell (World.block_lt_of_cell? w _ hx123_1)).trans hx123_1
   replace hx123_2 := (HB.out.cell (World.block_lt_of_cell? w _ hx123_2)).trans hx123_2
   replace p123 := eq_true p123
   replace q123 := eq_true q123
   have p124 : 0 ≤ (x3_1 : Int) := sq_d
   have q124 : x3_1 < (l0_2.length : Int) := sq_d
   have LQ124 := Aside0.mk q124
   obtain ⟨ad124, e124, hx124_0, hx124_1, hx124_2⟩ := at_T44 HR0_2.out x3_1 p124 q124
   have hw124_2 := hx124_2
   have hw124_1 := hx124_1
   have hw124_0 := hx124_0
   obtain rfl : ad123 = ad124 := (by injection e124)
   replace hx124_0 := (HB.out.cell (World.block_lt_of_cell? w _ hx124_0)).trans hx124_0
   replace hx124_1 := (HB.out.cell (World.block_lt_of_cell? w _ hx124_1)).trans hx124_1
   replace hx124_2 := (HB.out.cell (World.block_lt_of_cell? w _ hx124_2)).trans hx124_2
   replace p124 := eq_true p124
   replace q124 := eq_true q124
   refine start_ (n := 15) (S := fun w' => w'.cell? ⟨gb121, 0, none⟩ = some (.int .i64 a0_0) ∧ w'.cell? ⟨gb121, 1, none⟩ = some (.slice A0_1 l0_1.length c0_1) ∧ w'.cell? ⟨gb121, 2, none⟩ = some (.slice (some ad123) l0_2.length c0_2) ∧ w'.cell? (ad123.add (((ji8)).toNat * 3)) = some (.int .i64 ((rd_T44 l0_2 (ji8)).f0)) ∧ w'.cell? ⟨(ad123.add (((ji8)).toNat * 3)).block, (ad123.add (((ji8)).toNat * 3)).off + 1, none⟩ = some (.int .i64 ((rd_T44 l0_2 (ji8)).f1)) ∧ w'.cell? ⟨(ad123.add (((ji8)).toNat * 3)).block, (ad123.add (((ji8)).toNat * 3)).off + 2, none⟩ = some (.int .i64 ((rd_T44 l0_2 (ji8)).f2)) ∧ w'.cell? (ad123.add ((x3_1).toNat * 3)) = some (.int .i64 ((rd_T44 l0_2 x3_1).f0)) ∧ w'.cell? ⟨(ad123.add ((x3_1).toNat * 3)).block, (ad123.add ((x3_1).toNat * 3)).off + 1, none⟩ = some (.int .i64 ((rd_T44 l0_2 x3_1).f1)) ∧ w'.cell? ⟨(ad123.add ((x3_1).toNat * 3)).block, (ad123.add ((x3_1).toNat * 3)).off + 2, none⟩ = some (.int .i64 ((rd_T44 l0_2 x3_1).f2))) (ds := []) #[false, false, false, false, false, false, false, false, false, false, false, false, false, false, false] (by kernel_rfl) rfl rfl ⟨(blk_cell BK121.out 0).trans rfl, (blk_cell BK121.out 1).trans rfl, (blk_cell BK121.out 2).trans rfl, ((HB.out.cell (World.block_lt_of_cell? w _ hw123_0)).trans hw123_0), ((HB.out.cell (World.block_lt_of_cell? w _ hw123_1)).trans hw123_1), ((HB.out.cell (World.block_lt_of_cell? w _ hw123_2)).trans hw123_2), ((HB.out.cell (World.block_lt_of_cell? w _ hw124_0)).trans hw124_0), ((HB.out.cell (World.block_lt_of_cell? w _ hw124_1)).trans hw124_1), ((HB.out.cell (World.block_lt_of_cell? w _ hw124_2)).trans hw124_2)⟩ (fun hHeld => ?_); refine with_tabW system_Deterministic.tab6 system_Deterministic.bits6 (fun HT_ HW_ => ?_)
   generalize wr.drew = w15 at BK121 HB hx123_0 hx123_1 hx123_2 hx124_0 hx124_1 hx124_2 hHeld ⊢
   refine sq_p 0 16 (sqm 15 1) HT_.out ?_
   refine sq_p 2 18 (sqm 15 5) HT_.out ?_
   refine sq_p 3 19 (sqm 15 13) HT_.out ?_
   refine sq_p 6 22 (sqm 15 77) HT_.out ?_
   refine sq_p 8 24 (sqm 15 333) HT_.out ?_
   refine sq_t 1 17 (sqm 15 335) HT_.out HW_.out hHeld ?_
   refine sq_p 4 20 (sqm 15 351) HT_.out ?_
   refine sq_t 5 21 (sqm 15 383) HT_.out HW_.out hHeld ?_
   refine sq_t 7 23 (sqm 15 511) HT_.out HW_.out hHeld ?_
   refine sq_p 9 25 (sqm 15 1023) HT_.out ?_
   refine sq_t 10 26 (sqm 15 2047) HT_.out HW_.out hHeld ?_
   refine join_ (σ := Nat × Nat) 2 (sqm 15 8191) (fun s_ => [(4, .pointer (some ⟨s_.1, 0, none⟩)), (5, .pointer (some ⟨s_.2, 0, none⟩))]) (fun s_ w' => (w'.cell? ⟨gb121, 0, none⟩ = some (.int .i64 a0_0) ∧ w'.cell? ⟨gb121, 1, none⟩ = some (.slice A0_1 l0_1.length c0_1) ∧ w'.cell? ⟨gb121, 2, none⟩ = some (.slice (some ad123) l0_2.length c0_2) ∧ w'.cell? (ad123.add (((ji8)).toNat * 3)) = some (.int .i64 ((rd_T44 l0_2 (ji8)).f0)) ∧ w'.cell? ⟨(ad123.add (((ji8)).toNat * 3)).block, (ad123.add (((ji8)).toNat * 3)).off + 1, none⟩ = some (.int .i64 ((rd_T44 l0_2 (ji8)).f1)) ∧ w'.cell? ⟨(ad123.add (((ji8)).toNat * 3)).block, (ad123.add (((ji8)).toNat * 3)).off + 2, none⟩ = some (.int .i64 ((rd_T44 l0_2 (ji8)).f2)) ∧ w'.cell? (ad123.add ((x3_1).toNat * 3)) = some (.int .i64 ((rd_T44 l0_2 x3_1).f0)) ∧ w'.cell? ⟨(ad123.add ((x3_1).toNat * 3)).block, (ad123.add ((x3_1).toNat * 3)).off + 1, none⟩ = some (.int .i64 ((rd_T44 l0_2 x3_1).f1)) ∧ w'.cell? ⟨(ad123.add ((x3_1).toNat * 3)).block, (ad123.add ((x3_1).toNat * 3)).off + 2, none⟩ = some (.int .i64 ((rd_T44 l0_2 x3_1).f2))) ∧ (w'.heap[gb121]? = some (.cells #[.int .i64 a0_0, .slice A0_1 l0_1.length c0_1, .slice (some ad123) l0_2.length c0_2] 25 (0, 0))) ∧ (w'.heap[s_.1]? = some (.cells #[.int .i64 0, .int .i64 0, .int .i64 0] 44 (0, 0))) ∧ (w'.heap[s_.2]? = some (.cells #[.int .i64 0, .int .i64 0, .int .i64 0] 44 (0, 0))) ∧ (w.heap.size ≤ s_.1) ∧ (w.heap.size ≤ s_.1) ∧ (gb121 ≠ s_.1) ∧ (s_.1 ≠ gb121) ∧ (s_.2 ≠ s_.1) ∧ (s_.1 ≠ s_.2) ∧ (w.heap.size ≤ s_.2) ∧ (w.heap.size ≤ s_.2) ∧ (gb121 ≠ s_.2) ∧ (s_.2 ≠ gb121) ∧ (Below w.heap.size w w')) ?_ ?_
   rotate_left
   ·intro hCont
    refine two_ (i := 11) (j := 12) (Ni := some 4) (Nj := some 5) (sqm 15 4095) (sqm 15 6143) rfl rfl rfl rfl (two_of HT_.out (by kernel_rfl)) (by decide) (by decide) (fun K hK => ?_) (fun K hK => ?_)
    ·skip
     refine box_step ?hg (N := 4) ?hd (cs := #[.int .i64 0, .int .i64 0, .int .i64 0]) (t := 44) ?hr ?_; (case hd => rfl); (case hg => rfl); (case hr => first | (go_simp; done) | (go_simp; rfl))
     intro gb125 hg w16 hbox hb
     have n0_ := Aside0.mk (blk_below (g := gb121) (o := .cells #[.int .i64 a0_0, .slice A0_1 l0_1.length c0_1, .slice (some ad123) l0_2.length c0_2] 25 (0, 0)) (sq_bk BK121.out) hb)
     have n1_ := Aside0.mk (below_step (sq_bs HB.out) hb)
     have n2_ := Aside0.mk (hbox)
     have n3_ := Aside0.mk ((by rw [hg]; exact (below_size (sq_bs HB.out)) : w.heap.size ≤ gb125))
     have n4_ := Aside0.mk ((by rw [hg]; exact (below_size (sq_bs HB.out)) : w.heap.size ≤ gb125))
     have n5_ := Aside0.mk ((by rw [hg]; exact Nat.ne_of_lt (blk_lt (g := gb121) (o := .cells #[.int .i64 a0_0, .slice A0_1 l0_1.length c0_1, .slice (some ad123) l0_2.length c0_2] 25 (0, 0)) (sq_bk BK121.out)) : gb121 ≠ gb125))
     have n6_ := Aside0.mk ((by rw [hg]; exact Nat.ne_of_gt (blk_lt (g := gb121) (o := .cells #[.int .i64 a0_0, .slice A0_1 l0_1.length c0_1, .slice (some ad123) l0_2.length c0_2] 25 (0, 0)) (sq_bk BK121.out)) : gb125 ≠ gb121))
     clear BK121
     clear HB
     have BK121 := n0_
     have HB := n1_
     have BK125 := n2_
     have GW125 := n3_
     have GE125 := n4_
     have NB121_125 := n5_
     have NB125_121 := n6_
     clear n0_ n1_ n2_ n3_ n4_ n5_ n6_
     clear hb hbox hg
     refine hK.out _ _ ⟨(blk_cell BK121.out 0).trans rfl, (blk_cell BK121.out 1).trans rfl, (blk_cell BK121.out 2).trans rfl, ((HB.out.cell (World.block_lt_of_cell? w _ hw123_0)).trans hw123_0), ((HB.out.cell (World.block_lt_of_cell? w _ hw123_1)).trans hw123_1), ((HB.out.cell (World.block_lt_of_cell? w _ hw123_2)).trans hw123_2), ((HB.out.cell (World.block_lt_of_cell? w _ hw124_0)).trans hw124_0), ((HB.out.cell (World.block_lt_of_cell? w _ hw124_1)).trans hw124_1), ((HB.out.cell (World.block_lt_of_cell? w _ hw124_2)).trans hw124_2)⟩ (fun hHeld => ?_)
     clear hK K
     refine norm_ (a' := ?_) ?_ ?_
     rotate_left
     ·show Act.put _ (some 4) _ = _
      simp only [Act.put, List.setIfInBounds_toArray, List.set_cons_zero, List.set_cons_succ, i64_w, i32_w]
      rfl
     refine one_ (i := 12) (N := some 5) (sqm 15 8191) rfl rfl (one_of HT_.out (by kernel_rfl)) (by decide) (fun K hK => ?_)
     refine box_step ?hg (N := 5) ?hd (cs := #[.int .i64 0, .int .i64 0, .int .i64 0]) (t := 44) ?hr ?_; (case hd => rfl); (case hg => rfl); (case hr => first | (go_simp; done) | (go_simp; rfl))
     intro gb126 hg w17 hbox hb
     have n0_ := Aside0.mk (blk_below (g := gb121) (o := .cells #[.int .i64 a0_0, .slice A0_1 l0_1.length c0_1, .slice (some ad123) l0_2.length c0_2] 25 (0, 0)) (sq_bk BK121.out) hb)
     have n1_ := Aside0.mk (blk_below (g := gb125) (o := .cells #[.int .i64 0, .int .i64 0, .int .i64 0] 44 (0, 0)) (sq_bk BK125.out) hb)
     have n2_ := Aside0.mk (below_step (sq_bs HB.out) hb)
     have n3_ := Aside0.mk (hbox)
     have n4_ := Aside0.mk ((by rw [hg]; exact (below_size (sq_bs HB.out)) : w.heap.size ≤ gb126))
     have n5_ := Aside0.mk ((by rw [hg]; exact (below_size (sq_bs HB.out)) : w.heap.size ≤ gb126))
     have n6_ := Aside0.mk ((by rw [hg]; exact Nat.ne_of_lt (blk_lt (g := gb121) (o := .cells #[.int .i64 a0_0, .slice A0_1 l0_1.length c0_1, .slice (some ad123) l0_2.length c0_2] 25 (0, 0)) (sq_bk BK121.out)) : gb121 ≠ gb126))
     have n7_ := Aside0.mk ((by rw [hg]; exact Nat.ne_of_gt (blk_lt (g := gb121) (o := .cells #[.int .i64 a0_0, .slice A0_1 l0_1.length c0_1, .slice (some ad123) l0_2.length c0_2] 25 (0, 0)) (sq_bk BK121.out)) : gb126 ≠ gb121))
     have n8_ := Aside0.mk ((by rw [hg]; exact Nat.ne_of_lt (blk_lt (g := gb125) (o := .cells #[.int .i64 0, .int .i64 0, .int .i64 0] 44 (0, 0)) (sq_bk BK125.out)) : gb125 ≠ gb126))
     have n9_ := Aside0.mk ((by rw [hg]; exact Nat.ne_of_gt (blk_lt (g := gb125) (o := .cells #[.int .i64 0, .int .i64 0, .int .i64 0] 44 (0, 0)) (sq_bk BK125.out)) : gb126 ≠ gb125))
     clear BK121
     clear BK125
     clear HB
     have BK121 := n0_
     have BK125 := n1_
     have HB := n2_
     have BK126 := n3_
     have GW126 := n4_
     have GE126 := n5_
     have NB121_126 := n6_
     have NB126_121 := n7_
     have NB125_126 := n8_
     have NB126_125 := n9_
     clear n0_ n1_ n2_ n3_ n4_ n5_ n6_ n7_ n8_ n9_
     clear hb hbox hg
     refine hK.out _ _ ⟨(blk_cell BK121.out 0).trans rfl, (blk_cell BK121.out 1).trans rfl, (blk_cell BK121.out 2).trans rfl, ((HB.out.cell (World.block_lt_of_cell? w _ hw123_0)).trans hw123_0), ((HB.out.cell (World.block_lt_of_cell? w _ hw123_1)).trans hw123_1), ((HB.out.cell (World.block_lt_of_cell? w _ hw123_2)).trans hw123_2), ((HB.out.cell (World.block_lt_of_cell? w _ hw124_0)).trans hw124_0), ((HB.out.cell (World.block_lt_of_cell? w _ hw124_1)).trans hw124_1), ((HB.out.cell (World.block_lt_of_cell? w _ hw124_2)).trans hw124_2)⟩ (fun hHeld => ?_)
     clear hK K
     refine norm_ (a' := ?_) ?_ ?_
     rotate_left
     ·show Act.put _ (some 5) _ = _
      simp only [Act.put, List.setIfInBounds_toArray, List.set_cons_zero, List.set_cons_succ, i64_w, i32_w]
      rfl
     exact norm_ (by simp only [putAll, Act.put, List.setIfInBounds_toArray, List.set_cons_zero, List.set_cons_succ]) (hCont (gb125, gb126) _ ⟨hHeld, (sq_bk BK121.out), (sq_bk BK125.out), (sq_bk BK126.out), GW125.out, GE125.out, NB121_125.out, NB125_121.out, NB126_125.out, NB125_126.out, GW126.out, GE126.out, NB121_126.out, NB126_121.out, (sq_bs HB.out)⟩)
    ·skip
     refine box_step ?hg (N := 5) ?hd (cs := #[.int .i64 0, .int .i64 0, .int .i64 0]) (t := 44) ?hr ?_; (case hd => rfl); (case hg => rfl); (case hr => first | (go_simp; done) | (go_simp; rfl))
     intro gb126 hg w16 hbox hb
     have n0_ := Aside0.mk (blk_below (g := gb121) (o := .cells #[.int .i64 a0_0, .slice A0_1 l0_1.length c0_1, .slice (some ad123) l0_2.length c0_2] 25 (0, 0)) (sq_bk BK121.out) hb)
     have n1_ := Aside0.mk (below_step (sq_bs HB.out) hb)
     have n2_ := Aside0.mk (hbox)
     have n3_ := Aside0.mk ((by rw [hg]; exact (below_size (sq_bs HB.out)) : w.heap.size ≤ gb126))
     have n4_ := Aside0.mk ((by rw [hg]; exact (below_size (sq_bs HB.out)) : w.heap.size ≤ gb126))
     have n5_ := Aside0.mk ((by rw [hg]; exact Nat.ne_of_lt (blk_lt (g := gb121) (o := .cells #[.int .i64 a0_0, .slice A0_1 l0_1.length c0_1, .slice (some ad123) l0_2.length c0_2] 25 (0, 0)) (sq_bk BK121.out)) : gb121 ≠ gb126))
     have n6_ := Aside0.mk ((by rw [hg]; exact Nat.ne_of_gt (blk_lt (g := gb121) (o := .cells #[.int .i64 a0_0, .slice A0_1 l0_1.length c0_1, .slice (some ad123) l0_2.length c0_2] 25 (0, 0)) (sq_bk BK121.out)) : gb126 ≠ gb121))
     clear BK121
     clear HB
     have BK121 := n0_
     have HB := n1_
     have BK126 := n2_
     have GW126 := n3_
     have GE126 := n4_
     have NB121_126 := n5_
     have NB126_121 := n6_
     clear n0_ n1_ n2_ n3_ n4_ n5_ n6_
     clear hb hbox hg
     refine hK.out _ _ ⟨(blk_cell BK121.out 0).trans rfl, (blk_cell BK121.out 1).trans rfl, (blk_cell BK121.out 2).trans rfl, ((HB.out.cell (World.block_lt_of_cell? w _ hw123_0)).trans hw123_0), ((HB.out.cell (World.block_lt_of_cell? w _ hw123_1)).trans hw123_1), ((HB.out.cell (World.block_lt_of_cell? w _ hw123_2)).trans hw123_2), ((HB.out.cell (World.block_lt_of_cell? w _ hw124_0)).trans hw124_0), ((HB.out.cell (World.block_lt_of_cell? w _ hw124_1)).trans hw124_1), ((HB.out.cell (World.block_lt_of_cell? w _ hw124_2)).trans hw124_2)⟩ (fun hHeld => ?_)
     clear hK K
     refine norm_ (a' := ?_) ?_ ?_
     rotate_left
     ·show Act.put _ (some 5) _ = _
      simp only [Act.put, List.setIfInBounds_toArray, List.set_cons_zero, List.set_cons_succ, i64_w, i32_w]
      rfl
     refine one_ (i := 11) (N := some 4) (sqm 15 8191) rfl rfl (one_of HT_.out (by kernel_rfl)) (by decide) (fun K hK => ?_)
     refine box_step ?hg (N := 4) ?hd (cs := #[.int .i64 0, .int .i64 0, .int .i64 0]) (t := 44) ?hr ?_; (case hd => rfl); (case hg => rfl); (case hr => first | (go_simp; done) | (go_simp; rfl))
     intro gb125 hg w17 hbox hb
     have n0_ := Aside0.mk (blk_below (g := gb121) (o := .cells #[.int .i64 a0_0, .slice A0_1 l0_1.length c0_1, .slice (some ad123) l0_2.length c0_2] 25 (0, 0)) (sq_bk BK121.out) hb)
     have n1_ := Aside0.mk (blk_below (g := gb126) (o := .cells #[.int .i64 0, .int .i64 0, .int .i64 0] 44 (0, 0)) (sq_bk BK126.out) hb)
     have n2_ := Aside0.mk (below_step (sq_bs HB.out) hb)
     have n3_ := Aside0.mk (hbox)
     have n4_ := Aside0.mk ((by rw [hg]; exact (below_size (sq_bs HB.out)) : w.heap.size ≤ gb125))
     have n5_ := Aside0.mk ((by rw [hg]; exact (below_size (sq_bs HB.out)) : w.heap.size ≤ gb125))
     have n6_ := Aside0.mk ((by rw [hg]; exact Nat.ne_of_lt (blk_lt (g := gb121) (o := .cells #[.int .i64 a0_0, .slice A0_1 l0_1.length c0_1, .slice (some ad123) l0_2.length c0_2] 25 (0, 0)) (sq_bk BK121.out)) : gb121 ≠ gb125))
     have n7_ := Aside0.mk ((by rw [hg]; exact Nat.ne_of_gt (blk_lt (g := gb121) (o := .cells #[.int .i64 a0_0, .slice A0_1 l0_1.length c0_1, .slice (some ad123) l0_2.length c0_2] 25 (0, 0)) (sq_bk BK121.out)) : gb125 ≠ gb121))
     have n8_ := Aside0.mk ((by rw [hg]; exact Nat.ne_of_lt (blk_lt (g := gb126) (o := .cells #[.int .i64 0, .int .i64 0, .int .i64 0] 44 (0, 0)) (sq_bk BK126.out)) : gb126 ≠ gb125))
     have n9_ := Aside0.mk ((by rw [hg]; exact Nat.ne_of_gt (blk_lt (g := gb126) (o := .cells #[.int .i64 0, .int .i64 0, .int .i64 0] 44 (0, 0)) (sq_bk BK126.out)) : gb125 ≠ gb126))
     clear BK121
     clear BK126
     clear HB
     have BK121 := n0_
     have BK126 := n1_
     have HB := n2_
     have BK125 := n3_
     have GW125 := n4_
     have GE125 := n5_
     have NB121_125 := n6_
     have NB125_121 := n7_
     have NB126_125 := n8_
     have NB125_126 := n9_
     clear n0_ n1_ n2_ n3_ n4_ n5_ n6_ n7_ n8_ n9_
     clear hb hbox hg
     refine hK.out _ _ ⟨(blk_cell BK121.out 0).trans rfl, (blk_cell BK121.out 1).trans rfl, (blk_cell BK121.out 2).trans rfl, ((HB.out.cell (World.block_lt_of_cell? w _ hw123_0)).trans hw123_0), ((HB.out.cell (World.block_lt_of_cell? w _ hw123_1)).trans hw123_1), ((HB.out.cell (World.block_lt_of_cell? w _ hw123_2)).trans hw123_2), ((HB.out.cell (World.block_lt_of_cell? w _ hw124_0)).trans hw124_0), ((HB.out.cell (World.block_lt_of_cell? w _ hw124_1)).trans hw124_1), ((HB.out.cell (World.block_lt_of_cell? w _ hw124_2)).trans hw124_2)⟩ (fun hHeld => ?_)
     clear hK K
     refine norm_ (a' := ?_) ?_ ?_
     rotate_left
     ·show Act.put _ (some 4) _ = _
      simp only [Act.put, List.setIfInBounds_toArray, List.set_cons_zero, List.set_cons_succ, i64_w, i32_w]
      rfl
     exact norm_ (by simp only [putAll, Act.put, List.setIfInBounds_toArray, List.set_cons_zero, List.set_cons_succ]) (hCont (gb125, gb126) _ ⟨hHeld, (sq_bk BK121.out), (sq_bk BK125.out), (sq_bk BK126.out), GW125.out, GE125.out, NB121_125.out, NB125_121.out, NB126_125.out, NB125_126.out, GW126.out, GE126.out, NB121_126.out, NB126_121.out, (sq_bs HB.out)⟩)
   rintro ⟨gb125, gb126⟩ w18 ⟨hS_, h0_, h1_, h2_, h3_, h4_, h5_, h6_, h7_, h8_, h9_, h10_, h11_, h12_, h13_⟩
   have n0_ : Aside0 (w18.heap[gb121]? = some (.cells #[.int .i64 a0_0, .slice A0_1 l0_1.length c0_1, .slice (some ad123) l0_2.length c0_2] 25 (0, 0))) := ⟨h0_⟩
   have n1_ : Aside0 (w18.heap[gb125]? = some (.cells #[.int .i64 0, .int .i64 0, .int .i64 0] 44 (0, 0))) := ⟨h1_⟩
   have n2_ : Aside0 (w18.heap[gb126]? = some (.cells #[.int .i64 0, .int .i64 0, .int .i64 0] 44 (0, 0))) := ⟨h2_⟩
   have n3_ : Aside0 (w.heap.size ≤ gb125) := ⟨h3_⟩
   have n4_ : Aside0 (w.heap.size ≤ gb125) := ⟨h4_⟩
   have n5_ : Aside0 (gb121 ≠ gb125) := ⟨h5_⟩
   have n6_ : Aside0 (gb125 ≠ gb121) := ⟨h6_⟩
   have n7_ : Aside0 (gb126 ≠ gb125) := ⟨h7_⟩
   have n8_ : Aside0 (gb125 ≠ gb126) := ⟨h8_⟩
   have n9_ : Aside0 (w.heap.size ≤ gb126) := ⟨h9_⟩
   have n10_ : Aside0 (w.heap.size ≤ gb126) := ⟨h10_⟩
   have n11_ : Aside0 (gb121 ≠ gb126) := ⟨h11_⟩
   have n12_ : Aside0 (gb126 ≠ gb121) := ⟨h12_⟩
   have n13_ : Aside0 (Below w.heap.size w w18) := ⟨h13_⟩
   clear BK121
   clear HB
   clear h0_ h1_ h2_ h3_ h4_ h5_ h6_ h7_ h8_ h9_ h10_ h11_ h12_ h13_
   have BK121 := n0_
   have BK125 := n1_
   have BK126 := n2_
   have GW125 := n3_
   have GE125 := n4_
   have NB121_125 := n5_
   have NB125_121 := n6_
   have NB126_125 := n7_
   have NB125_126 := n8_
   have GW126 := n9_
   have GE126 := n10_
   have NB121_126 := n11_
   have NB126_121 := n12_
   have HB := n13_
   clear n0_ n1_ n2_ n3_ n4_ n5_ n6_ n7_ n8_ n9_ n10_ n11_ n12_ n13_
   have hHeld : w18.cell? ⟨gb121, 0, none⟩ = some (.int .i64 a0_0) ∧ w18.cell? ⟨gb121, 1, none⟩ = some (.slice A0_1 l0_1.length c0_1) ∧ w18.cell? ⟨gb121, 2, none⟩ = some (.slice (some ad123) l0_2.length c0_2) ∧ w18.cell? (ad123.add (((ji8)).toNat * 3)) = some (.int .i64 ((rd_T44 l0_2 (ji8)).f0)) ∧ w18.cell? ⟨(ad123.add (((ji8)).toNat * 3)).block, (ad123.add (((ji8)).toNat * 3)).off + 1, none⟩ = some (.int .i64 ((rd_T44 l0_2 (ji8)).f1)) ∧ w18.cell? ⟨(ad123.add (((ji8)).toNat * 3)).block, (ad123.add (((ji8)).toNat * 3)).off + 2, none⟩ = some (.int .i64 ((rd_T44 l0_2 (ji8)).f2)) ∧ w18.cell? (ad123.add ((x3_1).toNat * 3)) = some (.int .i64 ((rd_T44 l0_2 x3_1).f0)) ∧ w18.cell? ⟨(ad123.add ((x3_1).toNat * 3)).block, (ad123.add ((x3_1).toNat * 3)).off + 1, none⟩ = some (.int .i64 ((rd_T44 l0_2 x3_1).f1)) ∧ w18.cell? ⟨(ad123.add ((x3_1).toNat * 3)).block, (ad123.add ((x3_1).toNat * 3)).off + 2, none⟩ = some (.int .i64 ((rd_T44 l0_2 x3_1).f2)) := hS_
   refine norm_ (a' := ?_) ?_ ?_
   rotate_left
   ·simp only [putAll, Act.put, List.setIfInBounds_toArray, List.set_cons_zero, List.set_cons_succ]
    rfl
   refine one_ (i := 13) (N := none) (sqm 15 16383) rfl rfl (one_of HT_.out (by kernel_rfl)) (by decide) (fun K hK => ?_)
   have hs19 : w18.cell? ⟨gb125, 0, none⟩ = some (.int .i64 0) := (blk_cell BK125.out 0).trans rfl
   have hfs19 := blk_frozen BK125.out 0
   have hns19_0 := NB121_125.out
   have hns19_2 := NB126_125.out
   have hms19_0 := NB125_121.out
   have hms19_2 := NB125_126.out
   have hs20 : w18.cell? ⟨gb125, 1, none⟩ = some (.int .i64 0) := (blk_cell BK125.out 1).trans rfl
   have hfs20 := blk_frozen BK125.out 1
   have hns20_0 := NB121_125.out
   have hns20_2 := NB126_125.out
   have hms20_0 := NB125_121.out
   have hms20_2 := NB125_126.out
   have hs21 : w18.cell? ⟨gb125, 2, none⟩ = some (.int .i64 0) := (blk_cell BK125.out 2).trans rfl
   have hfs21 := blk_frozen BK125.out 2
   have hns21_0 := NB121_125.out
   have hns21_2 := NB126_125.out
   have hms21_0 := NB125_121.out
   have hms21_2 := NB125_126.out
   refine skip_ (w1 := ?_) (by rfl) rfl ?_ ?_
   rotate_left
   ·go_simp
    rfl
   refine hK.out _ _ ⟨((cell_far (p := ⟨gb125, _, none⟩) NB121_125.out _).trans (((cell_far (p := ⟨gb125, _, none⟩) NB121_125.out _).trans (((cell_far (p := ⟨gb125, _, none⟩) NB121_125.out _).trans (hHeld.1)))))), ((cell_far (p := ⟨gb125, _, none⟩) NB121_125.out _).trans (((cell_far (p := ⟨gb125, _, none⟩) NB121_125.out _).trans (((cell_far (p := ⟨gb125, _, none⟩) NB121_125.out _).trans (hHeld.2.1)))))), ((cell_far (p := ⟨gb125, _, none⟩) NB121_125.out _).trans (((cell_far (p := ⟨gb125, _, none⟩) NB121_125.out _).trans (((cell_far (p := ⟨gb125, _, none⟩) NB121_125.out _).trans (hHeld.2.2.1)))))), ((cell_far (p := ⟨gb125, _, none⟩) (sq_far hw123_0 GW125.out :) _).trans (((cell_far (p := ⟨gb125, _, none⟩) (sq_far hw123_0 GW125.out :) _).trans (((cell_far (p := ⟨gb125, _, none⟩) (sq_far hw123_0 GW125.out :) _).trans (hHeld.2.2.2.1)))))), ((cell_far (p := ⟨gb125, _, none⟩) (sq_far hw123_1 GW125.out :) _).trans (((cell_far (p := ⟨gb125, _, none⟩) (sq_far hw123_1 GW125.out :) _).trans (((cell_far (p := ⟨gb125, _, none⟩) (sq_far hw123_1 GW125.out :) _).trans (hHeld.2.2.2.2.1)))))), ((cell_far (p := ⟨gb125, _, none⟩) (sq_far hw123_2 GW125.out :) _).trans (((cell_far (p := ⟨gb125, _, none⟩) (sq_far hw123_2 GW125.out :) _).trans (((cell_far (p := ⟨gb125, _, none⟩) (sq_far hw123_2 GW125.out :) _).trans (hHeld.2.2.2.2.2.1)))))), ((cell_far (p := ⟨gb125, _, none⟩) (sq_far hw124_0 GW125.out :) _).trans (((cell_far (p := ⟨gb125, _, none⟩) (sq_far hw124_0 GW125.out :) _).trans (((cell_far (p := ⟨gb125, _, none⟩) (sq_far hw124_0 GW125.out :) _).trans (hHeld.2.2.2.2.2.2.1)))))), ((cell_far (p := ⟨gb125, _, none⟩) (sq_far hw124_1 GW125.out :) _).trans (((cell_far (p := ⟨gb125, _, none⟩) (sq_far hw124_1 GW125.out :) _).trans (((cell_far (p := ⟨gb125, _, none⟩) (sq_far hw124_1 GW125.out :) _).trans (hHeld.2.2.2.2.2.2.2.1)))))), ((cell_far (p := ⟨gb125, _, none⟩) (sq_far hw124_2 GW125.out :) _).trans (((cell_far (p := ⟨gb125, _, none⟩) (sq_far hw124_2 GW125.out :) _).trans (((cell_far (p := ⟨gb125, _, none⟩) (sq_far hw124_2 GW125.out :) _).trans (hHeld.2.2.2.2.2.2.2.2))))))⟩ (fun hHeld => ?_)
   clear hK K
   refine one_ (i := 14) (N := none) (sqm 15 32767) rfl rfl (one_of HT_.out (by kernel_rfl)) (by decide) (fun K hK => ?_)
   have hs22 : w18.cell? ⟨gb126, 0, none⟩ = some (.int .i64 0) := (blk_cell BK126.out 0).trans rfl
   have hfs22 := blk_frozen BK126.out 0
   have hns22_0 := NB121_126.out
   have hns22_1 := NB125_126.out
   have hms22_0 := NB126_121.out
   have hms22_1 := NB126_125.out
   have hs23 : w18.cell? ⟨gb126, 1, none⟩ = some (.int .i64 0) := (blk_cell BK126.out 1).trans rfl
   have hfs23 := blk_frozen BK126.out 1
   have hns23_0 := NB121_126.out
   have hns23_1 := NB125_126.out
   have hms23_0 := NB126_121.out
   have hms23_1 := NB126_125.out
   have hs24 : w18.cell? ⟨gb126, 2, none⟩ = some (.int .i64 0) := (blk_cell BK126.out 2).trans rfl
   have hfs24 := blk_frozen BK126.out 2
   have hns24_0 := NB121_126.out
   have hns24_1 := NB125_126.out
   have hms24_0 := NB126_121.out
   have hms24_1 := NB126_125.out
   refine skip_ (w1 := ?_) (by rfl) rfl ?_ ?_
   rotate_left
   ·go_simp
    rfl
   refine hK.out _ _ ⟨((cell_far (p := ⟨gb126, _, none⟩) NB121_126.out _).trans (((cell_far (p := ⟨gb126, _, none⟩) NB121_126.out _).trans (((cell_far (p := ⟨gb126, _, none⟩) NB121_126.out _).trans (hHeld.1)))))), ((cell_far (p := ⟨gb126, _, none⟩) NB121_126.out _).trans (((cell_far (p := ⟨gb126, _, none⟩) NB121_126.out _).trans (((cell_far (p := ⟨gb126, _, none⟩) NB121_126.out _).trans (hHeld.2.1)))))), ((cell_far (p := ⟨gb126, _, none⟩) NB121_126.out _).trans (((cell_far (p := ⟨gb126, _, none⟩) NB121_126.out _).trans (((cell_far (p := ⟨gb126, _, none⟩) NB121_126.out _).trans (hHeld.2.2.1)))))), ((cell_far (p := ⟨gb126, _, none⟩) (sq_far hw123_0 GW126.out :) _).trans (((cell_far (p := ⟨gb126, _, none⟩) (sq_far hw123_0 GW126.out :) _).trans (((cell_far (p := ⟨gb126, _, none⟩) (sq_far hw123_0 GW126.out :) _).trans (hHeld.2.2.2.1)))))), ((cell_far (p := ⟨gb126, _, none⟩) (sq_far hw123_1 GW126.out :) _).trans (((cell_far (p := ⟨gb126, _, none⟩) (sq_far hw123_1 GW126.out :) _).trans (((cell_far (p := ⟨gb126, _, none⟩) (sq_far hw123_1 GW126.out :) _).trans (hHeld.2.2.2.2.1)))))), ((cell_far (p := ⟨gb126, _, none⟩) (sq_far hw123_2 GW126.out :) _).trans (((cell_far (p := ⟨gb126, _, none⟩) (sq_far hw123_2 GW126.out :) _).trans (((cell_far (p := ⟨gb126, _, none⟩) (sq_far hw123_2 GW126.out :) _).trans (hHeld.2.2.2.2.2.1)))))), ((cell_far (p := ⟨gb126, _, none⟩) (sq_far hw124_0 GW126.out :) _).trans (((cell_far (p := ⟨gb126, _, none⟩) (sq_far hw124_0 GW126.out :) _).trans (((cell_far (p := ⟨gb126, _, none⟩) (sq_far hw124_0 GW126.out :) _).trans (hHeld.2.2.2.2.2.2.1)))))), ((cell_far (p := ⟨gb126, _, none⟩) (sq_far hw124_1 GW126.out :) _).trans (((cell_far (p := ⟨gb126, _, none⟩) (sq_far hw124_1 GW126.out :) _).trans (((cell_far (p := ⟨gb126, _, none⟩) (sq_far hw124_1 GW126.out :) _).trans (hHeld.2.2.2.2.2.2.2.1)))))), ((cell_far (p := ⟨gb126, _, none⟩) (sq_far hw124_2 GW126.out :) _).trans (((cell_far (p := ⟨gb126, _, none⟩) (sq_far hw124_2 GW126.out :) _).trans (((cell_far (p := ⟨gb126, _, none⟩) (sq_far hw124_2 GW126.out :) _).trans (hHeld.2.2.2.2.2.2.2.2))))))⟩ (fun hHeld => ?_)
   clear hK K
   refine done_ (done_of HT_.out (by kernel_rfl)) ?_
   have hnb25 := NB125_121.out
   have hnc25 := NB121_125.out
   have hnb26 := NB125_126.out
   have hnc26 := NB126_125.out
   have hcz27_0 : w18.cell? ⟨gb125, 0, none⟩ = some (.int .i64 0) := (blk_cell BK125.out 0).trans rfl
   have hcz27_1 : w18.cell? ⟨gb125, 1, none⟩ = some (.int .i64 0) := (blk_cell BK125.out 1).trans rfl
   have hcz27_2 : w18.cell? ⟨gb125, 2, none⟩ = some (.int .i64 0) := (blk_cell BK125.out 2).trans rfl
   have hfz27_0 := blk_frozen BK125.out 0
   have hfz27_1 := blk_frozen BK125.out 1
   have hfz27_2 := blk_frozen BK125.out 2
   have hnb28 := NB126_121.out
   have hnc28 := NB121_126.out
   have hcz29_0 : w18.cell? ⟨gb126, 0, none⟩ = some (.int .i64 0) := (blk_cell BK126.out 0).trans rfl
   have hcz29_1 : w18.cell? ⟨gb126, 1, none⟩ = some (.int .i64 0) := (blk_cell BK126.out 1).trans rfl
   have hcz29_2 : w18.cell? ⟨gb126, 2, none⟩ = some (.int .i64 0) := (blk_cell BK126.out 2).trans rfl
   have hfz29_0 := blk_frozen BK126.out 0
   have hfz29_1 := blk_frozen BK126.out 1
   have hfz29_2 := blk_frozen BK126.out 2
   have H := HH_.out
   clear HH_
   by_cases c12 : ((rd_T44 l0_2 (ji8)).f0) = ((rd_T44 l0_2 x3_1).f0)
   rotate_left
   ·rw [if_neg c12] at H
    have c12b0 : (((rd_T44 l0_2 (ji8)).f0) == ((rd_T44 l0_2 x3_1).f0)) = false := beq_eq_false_iff_ne.mpr c12
    have c12b1 : (((rd_T44 l0_2 (ji8)).f0) != ((rd_T44 l0_2 x3_1).f0)) = true := bne_iff_ne.mpr c12
    have H' := Aside0.mk H
    clear H
    try simp only [c12b0, c12b1]
    try go_wp2
    go_roundg k1
    case measure => have := HK1.out; omega
    case rel => exact ⟨(wrap64 (x3_1 + 1)), (by first | rfl | (simp; done) | (simp [*]; done)), H', ⟨by have := HK1.out; omega⟩, ⟨by (with_reducible repeat (first | refine blk_drewN ?_ _ | refine blk_drew ?_ | refine blk_alloc ?_ _)); refine blk_far ?_ NB121_126.out _; (with_reducible repeat (first | refine blk_drewN ?_ _ | refine blk_drew ?_ | refine blk_alloc ?_ _)); refine blk_far ?_ NB121_126.out _; (with_reducible repeat (first | refine blk_drewN ?_ _ | refine blk_drew ?_ | refine blk_alloc ?_ _)); refine blk_far ?_ NB121_126.out _; (with_reducible repeat (first | refine blk_drewN ?_ _ | refine blk_drew ?_ | refine blk_alloc ?_ _)); refine blk_far ?_ NB121_125.out _; (with_reducible repeat (first | refine blk_drewN ?_ _ | refine blk_drew ?_ | refine blk_alloc ?_ _)); refine blk_far ?_ NB121_125.out _; (with_reducible repeat (first | refine blk_drewN ?_ _ | refine blk_drew ?_ | refine blk_alloc ?_ _)); refine blk_far ?_ NB121_125.out _; (with_reducible repeat (first | refine blk_drewN ?_ _ | refine blk_drew ?_ | refine blk_alloc ?_ _)); exact BK121.out⟩, ⟨sq_bs HB.out⟩⟩
   rw [if_pos c12] at H
   have c12b0 : (((rd_T44 l0_2 (ji8)).f0) == ((rd_T44 l0_2 x3_1).f0)) = true := beq_iff_eq.mpr c12
   have c12b1 : (((rd_T44 l0_2 (ji8)).f0) != ((rd_T44 l0_2 x3_1).f0)) = false := bne_eq_false_iff_eq.mpr c12
   clear c12
   have HH_ := Aside0.mk H
   clear H
   try simp only [c12b0, c12b1]
   have H := HH_.out
   clear HH_
   by_cases c13 : ((rd_T44 l0_2 (ji8)).f1) = ((rd_T44 l0_2 x3_1).f1)
   ·rw [if_pos c13] at H
    have c13b0 : (((rd_T44 l0_2 (ji8)).f1) == ((rd_T44 l0_2 x3_1).f1)) = true := beq_iff_eq.mpr c13
    have c13b1 : (((rd_T44 l0_2 (ji8)).f1) != ((rd_T44 l0_2 x3_1).f1)) = false := bne_eq_false_iff_eq.mpr c13
    clear c13
    obtain rfl := Option.some.inj H
    try simp only [c13b0, c13b1]
    try go_wp2
    go_ret
    exact ⟨by first | rfl | (simp [errW_none, errW_some] <;> rfl) | (simp only [← hji8]; first | rfl | (simp [errW_none, errW_some] <;> rfl)) | (simp [*, errW_none, errW_some] <;> rfl), sq_bs HB.out⟩
   rw [if_neg c13] at H
   have c13b0 : (((rd_T44 l0_2 (ji8)).f1) == ((rd_T44 l0_2 x3_1).f1)) = false := beq_eq_false_iff_ne.mpr c13
   have c13b1 : (((rd_T44 l0_2 (ji8)).f1) != ((rd_T44 l0_2 x3_1).f1)) = true := bne_iff_ne.mpr c13
   have H' := Aside0.mk H
   clear H
   try simp only [c13b0, c13b1]
   try go_wp2
   go_roundg k1
   case measure => have := HK1.out; omega
   case rel => exact ⟨(wrap64 (x3_1 + 1)), (by first | rfl | (simp; done) | (simp [*]; done)), H', ⟨by have := HK1.out; omega⟩, ⟨by (with_reducible repeat (first | refine blk_drewN ?_ _ | refine blk_drew ?_ | refine blk_alloc ?_ _)); refine blk_far ?_ NB121_126.out _; (with_reducible repeat (first | refine blk_drewN ?_ _ | refine blk_drew ?_ | refine blk_alloc ?_ _)); refine blk_far ?_ NB121_126.out _; (with_reducible repeat (first | refine blk_drewN ?_ _ | refine blk_drew ?_ | refine blk_alloc ?_ _)); refine blk_far ?_ NB121_126.out _; (with_reducible repeat (first | refine blk_drewN ?_ _ | refine blk_drew ?_ | refine blk_alloc ?_ _)); refine blk_far ?_ NB121_125.out _; (with_reducible repeat (first | refine blk_drewN ?_ _ | refine blk_drew ?_ | refine blk_alloc ?_ _)); refine blk_far ?_ NB121_125.out _; (with_reducible repeat (first | refine blk_drewN ?_ _ | refine blk_drew ?_ | refine blk_alloc ?_ _)); refine blk_far ?_ NB121_125.out _; (with_reducible repeat (first | refine blk_drewN ?_ _ | refine blk_drew ?_ | refine blk_alloc ?_ _)); exact BK121.out⟩, ⟨sq_bs HB.out⟩⟩
end Go.Proofs.Ytcnliampiibpbaa.PAll
