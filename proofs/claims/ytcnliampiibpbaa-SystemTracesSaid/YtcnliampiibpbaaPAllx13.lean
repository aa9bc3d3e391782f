/- Lean functions for Go functions, each with the proof that the call returns what it says; printed by wip/tools/myprint.py. -/
-- squeezed
import Derived.Test.YtcnliampiibpbaaPAllx0
import Derived.Test.YtcnliampiibpbaaPAllx12
namespace Go.Proofs.Ytcnliampiibpbaa.PAll
open Go.RowKit Go.Proofs.YtcnliampiibpbaaW.PrintWords Go.Proofs.YtcnliampiibpbaaW.PrintLast Go.Proofs.YtcnliampiibpbaaW.PrintMore
attribute [local go_sem] Instr.field asAgg max2_int min2_int max_two min_two max_three min_three max_four min_four   -- for this text's walks alone
set_option linter.unusedVariables false
set_option linter.unusedSimpArgs false

/-! ### petrinetref45_Valid: function 32 -/
def petrinetref45_Valid.f (k : Nat) (a0_0 : Int) (l0_1 : List ByteArray) (l0_2 : List (S44)) : Option (Bool) := (petrinetref45_Check.f k a0_0 l0_1 l0_2).bind fun bt239 => (some (bt239.1 == 0))
theorem petrinetref45_Valid.mono : ∀ a0 a1 a2 k, LeO (petrinetref45_Valid.f k a0 a1 a2) (petrinetref45_Valid.f (k + 1) a0 a1 a2) := by
 intro a0 a1 a2 k
 unfold petrinetref45_Valid.f
 repeat' first
   | (with_reducible exact petrinetref45_Check.mono _ _ _ _)
   | (with_reducible exact LeO.refl _)
   | (with_reducible exact LeO.none _)
   | (with_reducible refine LeO.ite ?_ ?_)
   | (with_reducible refine LeO.bind ?_ (fun _ => ?_))
set_option maxHeartbeats 8000000 in
set_option maxRecDepth 100000 in
theorem petrinetref45_Valid.calls (k : Nat) (a0_0 : Int) (A0_1 : Option Addr) (c0_1 : Nat) (l0_1 : List ByteArray) (A0_2 : Option Addr) (c0_2 : Nat) (l0_2 : List (S44)) (r : Bool) (w : World) (hr0_1 : Kd.C Kd.string w A0_1 l0_1.length l0_1) (hc0_1 : l0_1.length ≤ c0_1) (hr0_2 : Kd.C k44 w A0_2 l0_2.length l0_2) (hc0_2 : l0_2.length ≤ c0_2) (h : petrinetref45_Valid.f k a0_0 l0_1 l0_2 = some r) :
  Calls Try.prog 32 #[.agg #[.int .i64 a0_0, .slice A0_1 l0_1.length c0_1, .slice A0_2 l0_2.length c0_2]] w fun e w' => e = .returned (.bool r) ∧ Below w.heap.size w w' := by
 have hv30 := Try.underlying30
 have hu25 := Try.underlying25
 have HR0_1 := Aside0.mk hr0_1
 have HC0_1 := Aside0.mk hc0_1
 clear hr0_1 hc0_1
 have HR0_2 := Aside0.mk hr0_2
 have HC0_2 := Aside0.mk hc0_2
 clear hr0_2 hc0_2
 have HB := Aside0.mk (Below.refl w.heap.size w)
 have H : ((petrinetref45_Check.f k a0_0 l0_1 l0_2).bind fun bt239 => (some (bt239.1 == 0))) = some r := h
 clear h
 replace H := Option.bind_eq_some_iff.mp H
 obtain ⟨⟨t239, t240⟩, A20, H⟩ := H
 replace H : (some (t239 == 0)) = some r := H
 have A2 := Aside0.mk A20
 clear A20
 obtain rfl := Option.some.inj H
 go_enter Try.func32, Try.ntmps32
 go_wp2_with (first | ((with_reducible refine gate_dst (N := 1) rfl ?_); refine sq_box 1 #[.int .i64 a0_0, .slice A0_1 l0_1.length c0_1, .slice A0_2 l0_2.length c0_2] 25 ?_; intro gb238 hg w3 hbox hb; have n0_ := Aside0.mk (below_step (sq_bl HB.out) hb); have n1_ := Aside0.mk (hbox); have n2_ := Aside0.mk ((by rw [hg]; exact (below_size (sq_bl HB.out)) : w.heap.size ≤ gb238)); have n3_ := Aside0.mk ((by rw [hg]; exact (below_size (sq_bl HB.out)) : w.heap.size ≤ gb238)); clear HB; have HB := n0_; have BK238 := n1_; have GW238 := n2_; have GE238 := n3_; clear n0_ n1_ n2_ n3_; clear hb hbox hg; have hcz4_0 : w3.cell? ⟨gb238, 0, none⟩ = some (.int .i64 a0_0) := (blk_cell BK238.out 0).trans rfl; have hcz4_1 : w3.cell? ⟨gb238, 1, none⟩ = some (.slice A0_1 l0_1.length c0_1) := (blk_cell BK238.out 1).trans rfl; have hcz4_2 : w3.cell? ⟨gb238, 2, none⟩ = some (.slice A0_2 l0_2.length c0_2) := (blk_cell BK238.out 2).trans rfl; have hfz4_0 := blk_frozen BK238.out 0; have hfz4_1 := blk_frozen BK238.out 1; have hfz4_2 := blk_frozen BK238.out 2) | ((with_reducible refine gate_callee (f := 11) rfl ?_); refine sq_goes (some 4) Try.func11 #[.agg #[.int .i64 a0_0, .slice A0_1 l0_1.length c0_1, .slice A0_2 l0_2.length c0_2]] ?_; (with_reducible refine (petrinetref45_Check.calls k a0_0 _ _ l0_1 _ _ l0_2 t239 t240 _ ?side1 ?side2 ?side3 ?side4 A2.out).mono ?_); (case side1 => exact sq_kc ((Kd.C_below HR0_1.out HB.out))); (case side2 => exact HC0_1.out); (case side3 => exact sq_kc ((Kd.C_below HR0_2.out HB.out))); (case side4 => exact HC0_2.out); rintro e w5 ⟨rfl, hb⟩; refine ⟨_, rfl, ?_⟩; have n0_ := Aside0.mk (blk_below (g := gb238) (o := .cells #[.int .i64 a0_0, .slice A0_1 l0_1.length c0_1, .slice A0_2 l0_2.length c0_2] 25 (0, 0)) (sq_bk BK238.out) hb); have n1_ := Aside0.mk (below_step (sq_bs HB.out) hb); clear BK238; clear HB; have BK238 := n0_; have HB := n1_; clear n0_ n1_; (try clear hb)))
 go_ret
 exact ⟨by first | rfl | (simp [errW_none, errW_some] <;> rfl) | (simp [*, errW_none, errW_some] <;> rfl), sq_bs HB.out⟩
/-! ### petrinetref45_Deterministic: function 13 -/
def petrinetref45_Deterministic.l0 : Nat → Int → Int → List ByteArray → List (S44) → Option (Bool)
 | 0, _, _, _, _ => none
 | k + 1, x3, x242000, x242001, x242002 => if x3 < (x242002.length : Int) then (if 0 ≤ x3 then (if 0 ≤ (wrap64 (x3 - 1)) then (if (wrap64 (x3 - 1)) < (x242002.length : Int) then (if ((rd_T44 x242002 x3).f0) = ((rd_T44 x242002 (wrap64 (x3 - 1))).f0) then (if ((rd_T44 x242002 x3).f1) = ((rd_T44 x242002 (wrap64 (x3 - 1))).f1) then (some false) else (petrinetref45_Deterministic.l0 k (wrap64 (x3 + 1)) x242000 x242001 x242002)) else (petrinetref45_Deterministic.l0 k (wrap64 (x3 + 1)) x242000 x242001 x242002)) else (none)) else (none)) else (none)) else ((petrinetref45_Valid.f k x242000 x242001 x242002).bind fun t246 => (some t246))
def petrinetref45_Deterministic.f (k : Nat) (a0_0 : Int) (l0_1 : List ByteArray) (l0_2 : List (S44)) : Option (Bool) := petrinetref45_Deterministic.l0 k 1 a0_0 l0_1 l0_2
theorem petrinetref45_Deterministic.mono_l : ∀ k, (∀ y0 y1 y2 y3, LeO (petrinetref45_Deterministic.l0 k y0 y1 y2 y3) (petrinetref45_Deterministic.l0 (k + 1) y0 y1 y2 y3))
 | 0 => fun _ _ _ _ r h => by simp [petrinetref45_Deterministic.l0] at h
 | k + 1 => by
  have ih0 := petrinetref45_Deterministic.mono_l k
  ·intro y0 y1 y2 y3
   unfold petrinetref45_Deterministic.l0
   repeat' first
   | (with_reducible exact ih0 _ _ _ _)
   | (with_reducible exact petrinetref45_Valid.mono _ _ _ _)
   | (with_reducible exact LeO.refl _)
   | (with_reducible exact LeO.none _)
   | (with_reducible refine LeO.ite ?_ ?_)
   | (with_reducible refine LeO.bind ?_ (fun _ => ?_))
theorem petrinetref45_Deterministic.mono : ∀ a0 a1 a2 k, LeO (petrinetref45_Deterministic.f k a0 a1 a2) (petrinetref45_Deterministic.f (k + 1) a0 a1 a2) := by
 intro a0 a1 a2 k
 have ih0 := petrinetref45_Deterministic.mono_l k
 unfold petrinetref45_Deterministic.f
 repeat' first
   | (with_reducible exact ih0 _ _ _ _)
   | (with_reducible exact petrinetref45_Valid.mono _ _ _ _)
   | (with_reducible exact LeO.refl _)
   | (with_reducible exact LeO.none _)
   | (with_reducible refine LeO.ite ?_ ?_)
   | (with_reducible refine LeO.bind ?_ (fun _ => ?_))
set_option maxHeartbeats 8000000 in
set_option maxRecDepth 100000 in
theorem petrinetref45_Deterministic.calls (k : Nat) (a0_0 : Int) (A0_1 : Option Addr) (c0_1 : Nat) (l0_1 : List ByteArray) (A0_2 : Option Addr) (c0_2 : Nat) (l0_2 : List (S44)) (r : Bool) (w : World) (hr0_1 : Kd.C Kd.string w A0_1 l0_1.length l0_1) (hc0_1 : l0_1.length ≤ c0_1) (hr0_2 : Kd.C k44 w A0_2 l0_2.length l0_2) (hc0_2 : l0_2.length ≤ c0_2) (h : petrinetref45_Deterministic.f k a0_0 l0_1 l0_2 = some r) :
  Calls Try.prog 13 #[.agg #[.int .i64 a0_0, .slice A0_1 l0_1.length c0_1, .slice A0_2 l0_2.length c0_2]] w fun e w' => e = .returned (.bool r) ∧ Below w.heap.size w w' := by
 have hv30 := Try.underlying30
 have hu25 := Try.underlying25
 have HR0_1 := Aside0.mk hr0_1
 have HC0_1 := Aside0.mk hc0_1
 clear hr0_1 hc0_1
 have HR0_2 := Aside0.mk hr0_2
 have HC0_2 := Aside0.mk hc0_2
 clear hr0_2 hc0_2
 have HB := Aside0.mk (Below.refl w.heap.size w)
 have H : (petrinetref45_Deterministic.l0 k 1 a0_0 l0_1 l0_2) = some r := h
 clear h
 have H' := Aside0.mk H
 clear H
 go_enter Try.func13, Try.ntmps13
 go_wp2_with (first | ((with_reducible refine gate_dst (N := 1) rfl ?_); refine sq_box 1 #[.int .i64 a0_0, .slice A0_1 l0_1.length c0_1, .slice A0_2 l0_2.length c0_2] 25 ?_; intro gb241 hg w2 hbox hb; have n0_ := Aside0.mk (below_step (sq_bl HB.out) hb); have n1_ := Aside0.mk (hbox); have n2_ := Aside0.mk ((by rw [hg]; exact (below_size (sq_bl HB.out)) : w.heap.size ≤ gb241)); have n3_ := Aside0.mk ((by rw [hg]; exact (below_size (sq_bl HB.out)) : w.heap.size ≤ gb241)); clear HB; have HB := n0_; have BK241 := n1_; have GW241 := n2_; have GE241 := n3_; clear n0_ n1_ n2_ n3_; clear hb hbox hg))
 repeat (go_quiet (first | ((with_reducible refine gate_dst (N := 1) rfl ?_); refine sq_box 1 #[.int .i64 a0_0, .slice A0_1 l0_1.length c0_1, .slice A0_2 l0_2.length c0_2] 25 ?_; intro gb241 hg w2 hbox hb; have n0_ := Aside0.mk (below_step (sq_bl HB.out) hb); have n1_ := Aside0.mk (hbox); have n2_ := Aside0.mk ((by rw [hg]; exact (below_size (sq_bl HB.out)) : w.heap.size ≤ gb241)); have n3_ := Aside0.mk ((by rw [hg]; exact (below_size (sq_bl HB.out)) : w.heap.size ≤ gb241)); clear HB; have HB := n0_; have BK241 := n1_; have GW241 := n2_; have GE241 := n3_; clear n0_ n1_ n2_ n3_; clear hb hbox hg)); try go_wp2_with (first | ((with_reducible refine gate_dst (N := 1) rfl ?_); refine sq_box 1 #[.int .i64 a0_0, .slice A0_1 l0_1.length c0_1, .slice A0_2 l0_2.length c0_2] 25 ?_; intro gb241 hg w2 hbox hb; have n0_ := Aside0.mk (below_step (sq_bl HB.out) hb); have n1_ := Aside0.mk (hbox); have n2_ := Aside0.mk ((by rw [hg]; exact (below_size (sq_bl HB.out)) : w.heap.size ≤ gb241)); have n3_ := Aside0.mk ((by rw [hg]; exact (below_size (sq_bl HB.out)) : w.heap.size ≤ gb241)); clear HB; have HB := n0_; have BK241 := n1_; have GW241 := n2_; have GE241 := n3_; clear n0_ n1_ n2_ n3_; clear hb hbox hg)))
 go_loopg [3] k (fun kq v3 w' => ∃ (x3_1 : Int), v3 = .int .i64 x3_1 ∧ Aside0 (petrinetref45_Deterministic.l0 kq x3_1 a0_0 l0_1 l0_2 = some r) ∧ Aside0 (kq ≤ k) ∧ Aside0 (w'.heap[gb241]? = some (.cells #[.int .i64 a0_0, (.slice A0_1 l0_1.length c0_1), (.slice A0_2 l0_2.length c0_2)] 25 (0, 0))) ∧ Aside0 (Below w.heap.size w w'))
 case atStart => exact ⟨(1), (by first | rfl | (simp; done) | (simp [*]; done)), H', ⟨Nat.le_refl _⟩, ⟨sq_bk BK241.out⟩, ⟨sq_bs HB.out⟩⟩
 case round =>
  clear H'
  obtain ⟨x3_1, rfl, HA, HK1, BK241, HB⟩ := hrel
  cases gk with
  | zero => exact absurd HA.out (by simp [petrinetref45_Deterministic.l0])
  | succ k1 =>
   have H := HA.out
   clear HA
   simp only [petrinetref45_Deterministic.l0] at H
   by_cases c3 : x3_1 < (l0_2.length : Int)
   rotate_left
   ·rw [if_neg c3] at H
    have c3b0 : decide (x3_1 < (l0_2.length : Int)) = false := decide_eq_false c3
    clear c3
    replace H := Option.bind_eq_some_iff.mp H
    obtain ⟨t246, A130, H⟩ := H
    replace H : (some t246) = some r := H
    have A13 := Aside0.mk A130
    clear A130
    obtain rfl := Option.some.inj H
    have hcz14_0 : wr.cell? ⟨gb241, 0, none⟩ = some (.int .i64 a0_0) := (blk_cell BK241.out 0).trans rfl
    have hcz14_1 : wr.cell? ⟨gb241, 1, none⟩ = some (.slice A0_1 l0_1.length c0_1) := (blk_cell BK241.out 1).trans rfl
    have hcz14_2 : wr.cell? ⟨gb241, 2, none⟩ = some (.slice A0_2 l0_2.length c0_2) := (blk_cell BK241.out 2).trans rfl
    have hfz14_0 := blk_frozen BK241.out 0
    have hfz14_1 := blk_frozen BK241.out 1
    have hfz14_2 := blk_frozen BK241.out 2
    go_wp2_with (first | (go_at_call 32; (with_reducible refine (petrinetref45_Valid.calls k1 a0_0 _ _ l0_1 _ _ l0_2 t246 _ ?side1 ?side2 ?side3 ?side4 A13.out).mono ?_); (case side1 => exact sq_kc ((Kd.C_below HR0_1.out HB.out))); (case side2 => exact HC0_1.out); (case side3 => exact sq_kc ((Kd.C_below HR0_2.out HB.out))); (case side4 => exact HC0_2.out); rintro e w15 ⟨rfl, hb⟩; have n0_ := Aside0.mk (blk_below (g := gb241) (o := .cells #[.int .i64 a0_0, .slice A0_1 l0_1.length c0_1, .slice A0_2 l0_2.length c0_2] 25 (0, 0)) (sq_bk BK241.out) hb); have n1_ := Aside0.mk (below_step (sq_bs HB.out) hb); clear BK241; clear HB; have BK241 := n0_; have HB := n1_; clear n0_ n1_; (try clear hb); (try clear hb2); (try clear hk); (try clear hi)))
    repeat (go_quiet (first | (go_at_call 32; (with_reducible refine (petrinetref45_Valid.calls k1 a0_0 _ _ l0_1 _ _ l0_2 t246 _ ?side1 ?side2 ?side3 ?side4 A13.out).mono ?_); (case side1 => exact sq_kc ((Kd.C_below HR0_1.out HB.out))); (case side2 => exact HC0_1.out); (case side3 => exact sq_kc ((Kd.C_below HR0_2.out HB.out))); (case side4 => exact HC0_2.out); rintro e w15 ⟨rfl, hb⟩; have n0_ := Aside0.mk (blk_below (g := gb241) (o := .cells #[.int .i64 a0_0, .slice A0_1 l0_1.length c0_1, .slice A0_2 l0_2.length c0_2] 25 (0, 0)) (sq_bk BK241.out) hb); have n1_ := Aside0.mk (below_step (sq_bs HB.out) hb); clear BK241; clear HB; have BK241 := n0_; have HB := n1_; clear n0_ n1_; (try clear hb); (try clear hb2); (try clear hk); (try clear hi))); try go_wp2_with (first | (go_at_call 32; (with_reducible refine (petrinetref45_Valid.calls k1 a0_0 _ _ l0_1 _ _ l0_2 t246 _ ?side1 ?side2 ?side3 ?side4 A13.out).mono ?_); (case side1 => exact sq_kc ((Kd.C_below HR0_1.out HB.out))); (case side2 => exact HC0_1.out); (case side3 => exact sq_kc ((Kd.C_below HR0_2.out HB.out))); (case side4 => exact HC0_2.out); rintro e w15 ⟨rfl, hb⟩; have n0_ := Aside0.mk (blk_below (g := gb241) (o := .cells #[.int .i64 a0_0, .slice A0_1 l0_1.length c0_1, .slice A0_2 l0_2.length c0_2] 25 (0, 0)) (sq_bk BK241.out) hb); have n1_ := Aside0.mk (below_step (sq_bs HB.out) hb); clear BK241; clear HB; have BK241 := n0_; have HB := n1_; clear n0_ n1_; (try clear hb); (try clear hb2); (try clear hk); (try clear hi))))
    go_ret
    exact ⟨by first | rfl | (simp [errW_none, errW_some] <;> rfl) | (simp [*, errW_none, errW_some] <;> rfl), sq_bs HB.out⟩
   rw [if_pos c3] at H
   have c3b0 : decide (x3_1 < (l0_2.length : Int)) = true := decide_eq_true c3
   clear c3
   by_cases c4 : 0 ≤ x3_1
   rotate_left
   ·rw [if_neg c4] at H
    exact absurd H (by simp)
   rw [if_pos c4] at H
   have c4b0 : decide (0 ≤ x3_1) = true := decide_eq_true c4
   clear c4
   obtain ⟨ji5, hji5⟩ : ∃ j_ : Int, (wrap64 (x3_1 - 1)) = j_ := ⟨_, rfl⟩
   replace H : (if 0 ≤ (ji5) then (if (ji5) < (l0_2.length : Int) then (if ((rd_T44 l0_2 x3_1).f0) = ((rd_T44 l0_2 (ji5)).f0) then (if ((rd_T44 l0_2 x3_1).f1) = ((rd_T44 l0_2 (ji5)).f1) then (some false) else (petrinetref45_Deterministic.l0 k1 (wrap64 (x3_1 + 1)) a0_0 l0_1 l0_2)) else (petrinetref45_Deterministic.l0 k1 (wrap64 (x3_1 + 1)) a0_0 l0_1 l0_2)) else (none)) else (none)) = some r := by first | (rw [hji5] at H; exact H) | (simp only [hji5] at H ⊢; exact H)
   have hji5w : (IntKind.i64.wrap (x3_1 - 1)) = ji5 := (i64_w _).trans hji5
   by_cases c6 : 0 ≤ (ji5)
   rotate_left
   ·rw [if_neg c6] at H
    exact absurd H (by simp)
   rw [if_pos c6] at H
   have c6b0 : decide (0 ≤ (ji5)) = true := decide_eq_true c6
   clear c6
   by_cases c7 : (ji5) < (l0_2.length : Int)
   rotate_left
   ·rw [if_neg c7] at H
    exact absurd H (by simp)
   rw [if_pos c7] at H
   have c7b0 : decide ((ji5) < (l0_2.length : Int)) = true := decide_eq_true c7
   clear c7
   have HH_ := Aside0.mk H
   clear H
   have hcz10_0 : wr.cell? ⟨gb241, 0, none⟩ = some (.int .i64 a0_0) := (blk_cell BK241.out 0).trans rfl
   have hcz10_1 : wr.cell? ⟨gb241, 1, none⟩ = some (.slice A0_1 l0_1.length c0_1) := (blk_cell BK241.out 1).trans rfl
   have hcz10_2 : wr.cell? ⟨gb241, 2, none⟩ = some (.slice A0_2 l0_2.length c0_2) := (blk_cell BK241.out 2).trans rfl
   have hfz10_0 := blk_frozen BK241.out 0
   have hfz10_1 := blk_frozen BK241.out 1
   have hfz10_2 := blk_frozen BK241.out 2
   have p242 : 0 ≤ (x3_1 : Int) := sq_d
   have q242 : x3_1 < (l0_2.length : Int) := sq_d
   have LQ242 := Aside0.mk q242
   obtain ⟨ad242, e242, hx242_0, hx242_1, hx242_2⟩ := at_T44 HR0_2.out x3_1 p242 q242
   cases e242
   replace hx242_0 := (HB.out.cell (World.block_lt_of_cell? w _ hx242_0)).trans hx242_0
   replace hx242_1 := (HB.out.cell (World.block_lt_of_cell? w _ hx242_1)).trans hx242_1
   replace hx242_2 := (HB.out.cell (World.block_lt_of_cell? w _ hx242_2)).trans hx242_2
   replace p242 := eq_true p242
   replace q242 := eq_true q242
   have p243 : 0 ≤ ((ji5) : Int) := sq_d
   have q243 : (ji5) < (l0_2.length : Int) := sq_d
   obtain ⟨ad243, e243, hx243_0, hx243_1, hx243_2⟩ := at_T44 HR0_2.out (ji5) p243 q243
   obtain rfl : ad242 = ad243 := (by injection e243)
   replace hx243_0 := (HB.out.cell (World.block_lt_of_cell? w _ hx243_0)).trans hx243_0
   replace hx243_1 := (HB.out.cell (World.block_lt_of_cell? w _ hx243_1)).trans hx243_1
   replace hx243_2 := (HB.out.cell (World.block_lt_of_cell? w _ hx243_2)).trans hx243_2
   replace p243 := eq_true p243
   replace q243 := eq_true q243
   have H := HH_.out
   clear HH_
   by_cases c8 : ((rd_T44 l0_2 x3_1).f0) = ((rd_T44 l0_2 (ji5)).f0)
   rotate_left
   ·rw [if_neg c8] at H
    have c8b0 : (((rd_T44 l0_2 x3_1).f0) == ((rd_T44 l0_2 (ji5)).f0)) = false := beq_eq_false_iff_ne.mpr c8
    have c8b1 : (((rd_T44 l0_2 x3_1).f0) != ((rd_T44 l0_2 (ji5)).f0)) = true := bne_iff_ne.mpr c8
    have H' := Aside0.mk H
    clear H
    go_wp2
    repeat (go_quiet (fail); try go_wp2)
    go_roundg k1
    case measure => have := HK1.out; omega
    case rel => exact ⟨(wrap64 (x3_1 + 1)), (by first | rfl | (simp; done) | (simp [*]; done)), H', ⟨by have := HK1.out; omega⟩, ⟨sq_bk BK241.out⟩, ⟨sq_bs HB.out⟩⟩
   rw [if_pos c8] at H
   have c8b0 : (((rd_T44 l0_2 x3_1).f0) == ((rd_T44 l0_2 (ji5)).f0)) = true := beq_iff_eq.mpr c8
   have c8b1 : (((rd_T44 l0_2 x3_1).f0) != ((rd_T44 l0_2 (ji5)).f0)) = false := bne_eq_false_iff_eq.mpr c8
   clear c8
   have HH_ := Aside0.mk H
   clear H
   have p244 : 0 ≤ (x3_1 : Int) := sq_d
   have q244 : x3_1 < (l0_2.length : Int) := sq_d
   have LQ244 := Aside0.mk q244
   obtain ⟨ad244, e244, hx244_0, hx244_1, hx244_2⟩ := at_T44 HR0_2.out x3_1 p244 q244
   obtain rfl : ad242 = ad244 := (by injection e244)
   replace hx244_0 := (HB.out.cell (World.block_lt_of_cell? w _ hx244_0)).trans hx244_0
   replace hx244_1 := (HB.out.cell (World.block_lt_of_cell? w _ hx244_1)).trans hx244_1
   replace hx244_2 := (HB.out.cell (World.block_lt_of_cell? w _ hx244_2)).trans hx244_2
   replace p244 := eq_true p244
   replace q244 := eq_true q244
   have p245 : 0 ≤ ((ji5) : Int) := sq_d
   have q245 : (ji5) < (l0_2.length : Int) := sq_d
   obtain ⟨ad245, e245, hx245_0, hx245_1, hx245_2⟩ := at_T44 HR0_2.out (ji5) p245 q245
   obtain rfl : ad242 = ad245 := (by injection e245)
   replace hx245_0 := (HB.out.cell (World.block_lt_of_cell? w _ hx245_0)).trans hx245_0
   replace hx245_1 := (HB.out.cell (World.block_lt_of_cell? w _ hx245_1)).trans hx245_1
   replace hx245_2 := (HB.out.cell (World.block_lt_of_cell? w _ hx245_2)).trans hx245_2
   replace p245 := eq_true p245
   replace q245 := eq_true q245
   have H := HH_.out
   clear HH_
   by_cases c9 : ((rd_T44 l0_2 x3_1).f1) = ((rd_T44 l0_2 (ji5)).f1)
   ·rw [if_pos c9] at H
    have c9b0 : (((rd_T44 l0_2 x3_1).f1) == ((rd_T44 l0_2 (ji5)).f1)) = true := beq_iff_eq.mpr c9
    have c9b1 : (((rd_T44 l0_2 x3_1).f1) != ((rd_T44 l0_2 (ji5)).f1)) = false := bne_eq_false_iff_eq.mpr c9
    clear c9
    obtain rfl := Option.some.inj H
    go_wp2
    repeat (go_quiet (fail); try go_wp2)
    go_ret
    exact ⟨by first | rfl | (simp [errW_none, errW_some] <;> rfl) | (simp only [← hji5]; first | rfl | (simp [errW_none, errW_some] <;> rfl)) | (simp [*, errW_none, errW_some] <;> rfl), sq_bs HB.out⟩
   rw [if_neg c9] at H
   have c9b0 : (((rd_T44 l0_2 x3_1).f1) == ((rd_T44 l0_2 (ji5)).f1)) = false := beq_eq_false_iff_ne.mpr c9
   have c9b1 : (((rd_T44 l0_2 x3_1).f1) != ((rd_T44 l0_2 (ji5)).f1)) = true := bne_iff_ne.mpr c9
   have H' := Aside0.mk H
   clear H
   go_wp2
   repeat (go_quiet (fail); try go_wp2)
   go_roundg k1
   case measure => have := HK1.out; omega
   case rel => exact ⟨(wrap64 (x3_1 + 1)), (by first | rfl | (simp; done) | (simp [*]; done)), H', ⟨by have := HK1.out; omega⟩, ⟨sq_bk BK241.out⟩, ⟨sq_bs HB.out⟩⟩
/-! ### petrinetref07_Table: function 47 -/
mutual
def petrinetref07_Table.l0 : Nat → List (List Int) → List (List Bool) → Int → Option ((List (List Bool)))
 | 0, _, _, _ => none
 | k + 1, x0, x3, x4 => if x4 < (x0.length : Int) then (if 0 ≤ (x0.length : Int) then (if ((x0.length : Int) : Int).toNat ≤ 281474976710656 then (petrinetref07_Table.l1 k x0 x3 x4 (List.replicate ((x0.length : Int) : Int).toNat false) 0) else (none)) else (none)) else (some x3)
def petrinetref07_Table.l1 : Nat → List (List Int) → List (List Bool) → Int → List Bool → Int → Option ((List (List Bool)))
 | 0, _, _, _, _, _ => none
 | k + 1, x0, x3, x4, x5, x6 => if 0 ≤ x4 then (if x4 < (x0.length : Int) then (if x6 < ((rd_L4 x0 x4).length : Int) then (if 0 ≤ x6 then (if (rd (rd_L4 x0 x4) x6) ≥ 0 then (if (rd (rd_L4 x0 x4) x6) < (x0.length : Int) then (if 0 ≤ (rd (rd_L4 x0 x4) x6) then (if (rd (rd_L4 x0 x4) x6) < (x5.length : Int) then (petrinetref07_Table.l1 k x0 x3 x4 (x5.set ((rd (rd_L4 x0 x4) x6) : Int).toNat true) (wrap64 (x6 + 1))) else (none)) else (none)) else (petrinetref07_Table.l1 k x0 x3 x4 x5 (wrap64 (x6 + 1)))) else (petrinetref07_Table.l1 k x0 x3 x4 x5 (wrap64 (x6 + 1)))) else (none)) else (if x3.length < 5864062014805 then (petrinetref07_Table.l0 k x0 (x3 ++ [x5]) (wrap64 (x4 + 1))) else (none))) else (none)) else (none)
end
def petrinetref07_Table.f (k : Nat) (l0 : List (List Int)) : Option ((List (List Bool))) := petrinetref07_Table.l0 k l0 ([] : List (List Bool)) 0
theorem petrinetref07_Table.mono_l : ∀ k, (∀ y0 y1 y2, LeO (petrinetref07_Table.l0 k y0 y1 y2) (petrinetref07_Table.l0 (k + 1) y0 y1 y2)) ∧ (∀ y0 y1 y2 y3 y4, LeO (petrinetref07_Table.l1 k y0 y1 y2 y3 y4) (petrinetref07_Table.l1 (k + 1) y0 y1 y2 y3 y4))
 | 0 => ⟨fun _ _ _ r h => by simp [petrinetref07_Table.l0] at h, fun _ _ _ _ _ r h => by simp [petrinetref07_Table.l1] at h⟩
 | k + 1 => by
  obtain ⟨ih0, ih1⟩ := petrinetref07_Table.mono_l k
  refine ⟨?_, ?_⟩
  ·intro y0 y1 y2
   unfold petrinetref07_Table.l0
   repeat' first
   | (with_reducible exact ih0 _ _ _)
   | (with_reducible exact ih1 _ _ _ _ _)
   | (with_reducible exact LeO.refl _)
   | (with_reducible exact LeO.none _)
   | (with_reducible refine LeO.ite ?_ ?_)
   | (with_reducible refine LeO.bind ?_ (fun _ => ?_))
  ·intro y0 y1 y2 y3 y4
   unfold petrinetref07_Table.l1
   repeat' first
   | (with_reducible exact ih0 _ _ _)
   | (with_reducible exact ih1 _ _ _ _ _)
   | (with_reducible exact LeO.refl _)
   | (with_reducible exact LeO.none _)
   | (with_reducible refine LeO.ite ?_ ?_)
   | (with_reducible refine LeO.bind ?_ (fun _ => ?_))
theorem petrinetref07_Table.mono : ∀ a0 k, LeO (petrinetref07_Table.f k a0) (petrinetref07_Table.f (k + 1) a0) := by
 intro a0 k
 obtain ⟨ih0, ih1⟩ := petrinetref07_Table.mono_l k
 unfold petrinetref07_Table.f
 repeat' first
   | (with_reducible exact ih0 _ _ _)
   | (with_reducible exact ih1 _ _ _ _ _)
   | (with_reducible exact LeO.refl _)
   | (with_reducible exact LeO.none _)
   | (with_reducible refine LeO.ite ?_ ?_)
   | (with_reducible refine LeO.bind ?_ (fun _ => ?_))
set_option maxHeartbeats 8000000 in
set_option maxRecDepth 100000 in
theorem petrinetref07_Table.calls (k : Nat) (A0 : Option Addr) (c0 : Nat) (l0 : List (List Int)) (r : List (List Bool)) (w : World) (hr0 : Kd.C (Kd.slice 3 (Kd.int .i64)) w A0 l0.length l0) (hc0 : l0.length ≤ c0) (h : petrinetref07_Table.f k l0 = some r) :
  Calls Try.prog 47 #[.slice A0 l0.length c0] w fun e w' => ∃ v0_ : Value, e = .returned (v0_) ∧ Kd.S (Kd.slice 4 Kd.bool) 50 w' w.heap.size (fun _ => True) v0_ r ∧ Below w.heap.size w w' := by
 have hv30 := Try.underlying30
 have HR0 := Aside0.mk hr0
 have HC0 := Aside0.mk hc0
 clear hr0 hc0
 have HB := Aside0.mk (Below.refl w.heap.size w)
 have H : (petrinetref07_Table.l0 k l0 ([] : List (List Bool)) 0) = some r := h
 clear h
 have H' := Aside0.mk H
 clear H
 go_enter Try.func47, Try.ntmps47
 go_wp2
 go_loopg [3, 4] k (fun kq v3 v4 w' => ∃ (x3_1 : List (List Bool)) (x4_1 : Int), v4 = .int .i64 x4_1 ∧ Aside0 (petrinetref07_Table.l0 kq l0 x3_1 x4_1 = some r) ∧ Aside0 (kq ≤ k) ∧ Aside0 (Kd.S (Kd.slice 4 Kd.bool) 50 w' w.heap.size (fun _ => True) v3 x3_1) ∧ Aside0 (Below w.heap.size w w'))
 case atStart => exact ⟨(([] : List (List Bool))), (0), (by first | rfl | (simp; done) | (simp [*]; done)), H', ⟨Nat.le_refl _⟩, ⟨by first | exact Kd.S_nil _ _ _ _ _ | exact Kd.N_nil _ _ _ _ _ | exact Kd.V_nil _ _ _ _ _ | exact Kd.Q_nil _ _ _ _ _ | exact Kd.R_nil _ _ _ _ _⟩, ⟨sq_bl HB.out⟩⟩
 case round =>
  clear H'
  obtain ⟨x3_1, x4_1, rfl, HA, HK1, HO_3, HB⟩ := hrel
  cases gk with
  | zero => exact absurd HA.out (by simp [petrinetref07_Table.l0])
  | succ k1 =>
   have H := HA.out
   clear HA
   simp only [petrinetref07_Table.l0] at H
   by_cases c2 : x4_1 < (l0.length : Int)
   rotate_left
   ·rw [if_neg c2] at H
    have c2b0 : decide (x4_1 < (l0.length : Int)) = false := decide_eq_false c2
    clear c2
    obtain rfl := Option.some.inj H
    go_wp2
    go_ret
    exact ⟨_, by first | rfl | (simp [errW_none, errW_some] <;> rfl) | (simp [*, errW_none, errW_some] <;> rfl), by (with_reducible repeat (first | apply Kd.S_alloc | apply Kd.S_drewN | apply Kd.S_drew)); exact HO_3.out, sq_bl HB.out⟩
   rw [if_pos c2] at H
   have c2b0 : decide (x4_1 < (l0.length : Int)) = true := decide_eq_true c2
   clear c2
   by_cases c3 : 0 ≤ (l0.length : Int)
   rotate_left
   ·rw [if_neg c3] at H
    exact absurd H (by simp)
   rw [if_pos c3] at H
   have c3b0 := eq_true c3
   have c3b1 : decide (0 ≤ (l0.length : Int)) = true := decide_eq_true c3
   clear c3
   by_cases c4 : ((l0.length : Int) : Int).toNat ≤ 281474976710656
   rotate_left
   ·rw [if_neg c4] at H
    exact absurd H (by simp)
   rw [if_pos c4] at H
   have c4b0 := eq_true c4
   have c4b1 : decide (((l0.length : Int) : Int).toNat ≤ 281474976710656) = true := decide_eq_true c4
   clear c4
   obtain ⟨y247, hy247⟩ : ∃ y_ : List Bool, y_ = (List.replicate ((l0.length : Int) : Int).toNat false) := ⟨_, rfl⟩
   replace H : (petrinetref07_Table.l1 k1 l0 x3_1 x4_1 y247 0) = some r := by first | (rw [hy247]; with_reducible exact H) | (have H2_ := (Option.bind_some _ _).symm.trans H; rw [hy247]; with_reducible exact H2_) | (have H2_ := (Option.bind_some _ _).symm.trans H; with_reducible exact H2_) | with_reducible exact H | (rw [hy247]; exact H) | exact H
   have Ny247 := Aside0.mk hy247
   clear hy247
   have H' := Aside0.mk H
   clear H
   go_wp2_with (first | ((with_reducible refine gate_dst (N := 15) rfl ?_); (try (refine gate_guard (by rfl) ?_; dsimp only)); refine Kd.R_make Kd.bool _ 4 rfl (N := 15) rfl 50 _ _ rfl (l0.length : Int) rfl rfl Try.underlying50 (.bool false) 1 info4 rfl (by decide) (by omega) false (ok := fun _ => True) (okp := fun _ => True) rfl (fun _ hk => hk) trivial sq_d (Nat.le_trans (Nat.mul_le_mul_right _ (sq_d : (l0.length : Int).toNat ≤ 281474976710656)) (by omega)) (Below.refl _ _) (Nat.le_refl _) ?_; intro v248 w5 ho6 hb hg_ hnew_; clear hg_ hnew_; (first | rw [← Ny247.out] at ho6 | (simp only [Int.reduceToNat] at ho6; rw [← Ny247.out] at ho6)); have n0_ := Aside0.mk (Kd.S_elder' (by (with_reducible repeat (first | apply Kd.S_alloc | apply Kd.S_drewN | apply Kd.S_drew)); exact HO_3.out) (Kd.R_base ho6) hb); have n1_ := Aside0.mk (Kd.R_lower ho6 (below_size (sq_bl HB.out))); have n2_ := Aside0.mk (below_step (sq_bl HB.out) hb); clear HO_3; clear HB; have HO_3 := n0_; have HO249 := n1_; have HB := n2_; clear n0_ n1_ n2_; clear hb ho6))
   go_loopg [6] k1 (fun kq v6 w' => ∃ (x5_2 : List Bool) (x6_2 : Int), v6 = .int .i64 x6_2 ∧ Aside0 (petrinetref07_Table.l1 kq l0 x3_1 x4_1 x5_2 x6_2 = some r) ∧ Aside0 (kq ≤ k1) ∧ Aside0 (Kd.S (Kd.slice 4 Kd.bool) 50 w' w.heap.size (fun k_ => some k_ ≠ (v248 : Value).ownBlock) u3 x3_1) ∧ Aside0 (Kd.R Kd.bool 4 w' w.heap.size (fun _ => True) v248 x5_2) ∧ Aside0 (Below w.heap.size w w'))
   case atStart => exact ⟨(y247), (0), (by first | rfl | (simp; done) | (simp [*]; done)), H', ⟨Nat.le_refl _⟩, ⟨by (with_reducible repeat (first | apply Kd.S_alloc | apply Kd.S_drewN | apply Kd.S_drew)); exact Kd.S_mono HO_3.out (fun _ hk => hk.2)⟩, ⟨sq_kr HO249.out⟩, ⟨sq_bl HB.out⟩⟩
   case round =>
    clear H'
    try clear c2b0
    try clear c3b0
    try clear c3b1
    try clear c4b0
    try clear c4b1
    obtain ⟨x5_2, x6_2, rfl, HA, HK2, HO_3, HO_5, HB⟩ := hrel
    cases gk with
    | zero => exact absurd HA.out (by simp [petrinetref07_Table.l1])
    | succ k2 =>
     have H := HA.out
     clear HA
     simp only [petrinetref07_Table.l1] at H
     by_cases c7 : 0 ≤ x4_1
     rotate_left
     ·rw [if_neg c7] at H
      exact absurd H (by simp)
     rw [if_pos c7] at H
     have c7b0 : decide (0 ≤ x4_1) = true := decide_eq_true c7
     clear c7
     by_cases c8 : x4_1 < (l0.length : Int)
     rotate_left
     ·rw [if_neg c8] at H
      exact absurd H (by simp)
     rw [if_pos c8] at H
     have c8b0 : decide (x4_1 < (l0.length : Int)) = true := decide_eq_true c8
     clear c8
     by_cases c9 : x6_2 < ((rd_L4 l0 x4_1).length : Int)
     rotate_left
     ·rw [if_neg c9] at H
      have c9b0 : decide (x6_2 < ((rd_L4 l0 x4_1).length : Int)) = false := decide_eq_false c9
      clear c9
      by_cases c18 : x3_1.length < 5864062014805
      rotate_left
      ·rw [if_neg c18] at H
       exact absurd H (by simp)
      rw [if_pos c18] at H
      have LMc18 := Aside0.mk c18
      clear c18
      obtain ⟨y258, hy258⟩ : ∃ y_ : List (List Bool), y_ = (x3_1 ++ [x5_2]) := ⟨_, rfl⟩
      replace H : (petrinetref07_Table.l0 k2 l0 y258 (wrap64 (x4_1 + 1))) = some r := by first | (rw [hy258]; with_reducible exact H) | (have H2_ := (Option.bind_some _ _).symm.trans H; rw [hy258]; with_reducible exact H2_) | (have H2_ := (Option.bind_some _ _).symm.trans H; with_reducible exact H2_) | with_reducible exact H | (rw [hy258]; exact H) | exact H
      have Ny258 := Aside0.mk hy258
      clear hy258
      have H' := Aside0.mk H
      clear H
      have p250 : 0 ≤ (x4_1 : Int) := sq_d
      have q250 : x4_1 < (l0.length : Int) := sq_d
      have LQ250 := Aside0.mk q250
      obtain ⟨ad250, A250_0, c250_0, e250, hx250_0, hl250_0, hi250_0⟩ := at_L4 HR0.out x4_1 p250 q250
      cases e250
      replace hx250_0 := (HB.out.cell (World.block_lt_of_cell? w _ hx250_0)).trans hx250_0
      have HR250_0 := Aside0.mk hi250_0
      have HC250_0 := Aside0.mk hl250_0
      clear hi250_0 hl250_0
      replace p250 := eq_true p250
      replace q250 := eq_true q250
      obtain ⟨Ao20, co20, eo20⟩ := Kd.R_slice HO_5.out
      subst eo20
      go_wp2_with (first | ((with_reducible refine gate_builtin (b := .append) (xs := #[.tmp 54, .tmp 56]) rfl ?_); (try (refine gate_guard (by rfl) ?_; dsimp only)); at_builtin; refine Kd.S_append (Kd.slice 4 Kd.bool) (w0 := w) w.heap.size rfl (.tmp 54) (.tmp 56) 64 50 (.slice none 0 0) 24 rfl Try.underlying64 info50 rfl (by decide) (by omega) u3 x3_1 x5_2 [.slice Ao20 x5_2.length co20] (fun _ => True) (fun k_ => some k_ = (.slice Ao20 x5_2.length co20 : Value).ownBlock) rfl rfl ?aP (fun k_ hk_ => ((Kd.R_mono (ok' := fun k_ => ((fun _ => True)) k_ ∧ some k_ ≠ (u3 : Value).ownBlock) (Kd.R_apart' (HO_5.out) (Kd.S_typed HO_3.out) (by decide)) (fun k_ hk => ⟨trivial, hk.2⟩))).1 k_ hk_.symm) ?aF ?aO ?aB ?aS ?aL ?_; (case aP => exact Kd.M_row (Kd.R_mono (Kd.R_tight rfl (Kd.R_mono (ok' := fun k_ => ((fun _ => True)) k_ ∧ some k_ ≠ (u3 : Value).ownBlock) (Kd.R_apart' (HO_5.out) (Kd.S_typed HO_3.out) (by decide)) (fun k_ hk => ⟨trivial, hk.2⟩))) (fun _ h_ => h_))); (case aB => exact (sq_bl HB.out)); (case aF => exact (fun _ _ => trivial)); (case aO => exact (by (with_reducible repeat (first | apply Kd.S_alloc | apply Kd.S_drewN | apply Kd.S_drew)); exact Kd.S_mono HO_3.out (fun k_ hk => ⟨trivial, fun e_ => hk e_⟩))); (case aS => exact (below_size (sq_bl HB.out))); (case aL => have := LMc18.out; omega); intro v259 w19 ho hb hg hat; rw [← Ny258.out] at ho; have n0_ := Aside0.mk (hb); have n1_ := Aside0.mk (ho); clear HB; clear HO_3; clear HO_5; have HB := n0_; have HO260 := n1_; clear n0_ n1_; clear ho hb hg hat))
      go_roundg k2
      case measure => have := HK1.out; have := HK2.out; omega
      case rel => exact ⟨(y258), (wrap64 (x4_1 + 1)), (by first | rfl | (simp; done) | (simp [*]; done)), H', ⟨by have := HK1.out; have := HK2.out; omega⟩, ⟨by (with_reducible repeat (first | apply Kd.S_alloc | apply Kd.S_drewN | apply Kd.S_drew)); exact HO260.out⟩, ⟨sq_bl HB.out⟩⟩
     rw [if_pos c9] at H
     have c9b0 : decide (x6_2 < ((rd_L4 l0 x4_1).length : Int)) = true := decide_eq_true c9
     clear c9
     by_cases c10 : 0 ≤ x6_2
     rotate_left
     ·rw [if_neg c10] at H
      exact absurd H (by simp)
     rw [if_pos c10] at H
     have c10b0 : decide (0 ≤ x6_2) = true := decide_eq_true c10
     clear c10
     by_cases c11 : (rd (rd_L4 l0 x4_1) x6_2) ≥ 0
     rotate_left
     ·rw [if_neg c11] at H
      have c11b0 : decide (0 ≤ (rd (rd_L4 l0 x4_1) x6_2)) = false := decide_eq_false c11
      clear c11
      have H' := Aside0.mk H
      clear H
      have p250 : 0 ≤ (x4_1 : Int) := sq_d
      have q250 : x4_1 < (l0.length : Int) := sq_d
      have LQ250 := Aside0.mk q250
      obtain ⟨ad250, A250_0, c250_0, e250, hx250_0, hl250_0, hi250_0⟩ := at_L4 HR0.out x4_1 p250 q250
      cases e250
      replace hx250_0 := (HB.out.cell (World.block_lt_of_cell? w _ hx250_0)).trans hx250_0
      have HR250_0 := Aside0.mk hi250_0
      have HC250_0 := Aside0.mk hl250_0
      clear hi250_0 hl250_0
      replace p250 := eq_true p250
      replace q250 := eq_true q250
      have p251 : 0 ≤ (x4_1 : Int) := sq_d
      have q251 : x4_1 < (l0.length : Int) := sq_d
      have LQ251 := Aside0.mk q251
      obtain ⟨ad251, A251_0, c251_0, e251, hx251_0, hl251_0, hi251_0⟩ := at_L4 HR0.out x4_1 p251 q251
      obtain rfl : ad250 = ad251 := (by injection e251)
      replace hx251_0 := (HB.out.cell (World.block_lt_of_cell? w _ hx251_0)).trans hx251_0
      have HR251_0 := Aside0.mk hi251_0
      have HC251_0 := Aside0.mk hl251_0
      clear hi251_0 hl251_0
      replace p251 := eq_true p251
      replace q251 := eq_true q251
      have ea_ := Option.some.inj (hx250_0.symm.trans hx251_0)
      injection ea_ with ea_ en_ ec_
      subst ea_
      subst ec_
      clear en_
      have p252 : 0 ≤ (x6_2 : Int) := sq_d
      have q252 : x6_2 < ((rd_L4 l0 x4_1).length : Int) := sq_d
      obtain ⟨ad252, e252, hx252_0⟩ := Kd.at_int HR251_0.out x6_2 p252 q252
      cases e252
      replace hx252_0 := (HB.out.cell (World.block_lt_of_cell? w _ hx252_0)).trans hx252_0
      replace p252 := eq_true p252
      replace q252 := eq_true q252
      go_wp2
      go_roundg k2
      case measure => have := HK1.out; have := HK2.out; omega
      case rel => exact ⟨(x5_2), (wrap64 (x6_2 + 1)), (by first | rfl | (simp; done) | (simp [*]; done)), H', ⟨by have := HK1.out; have := HK2.out; omega⟩, ⟨by (with_reducible repeat (first | apply Kd.S_alloc | apply Kd.S_drewN | apply Kd.S_drew)); exact HO_3.out⟩, ⟨sq_kr HO_5.out⟩, ⟨sq_bl HB.out⟩⟩
     rw [if_pos c11] at H
     have c11b0 : decide (0 ≤ (rd (rd_L4 l0 x4_1) x6_2)) = true := decide_eq_true c11
     clear c11
     by_cases c12 : (rd (rd_L4 l0 x4_1) x6_2) < (l0.length : Int)
     rotate_left
     ·rw [if_neg c12] at H
      have c12b0 : decide ((rd (rd_L4 l0 x4_1) x6_2) < (l0.length : Int)) = false := decide_eq_false c12
      clear c12
      have H' := Aside0.mk H
      clear H
      have p250 : 0 ≤ (x4_1 : Int) := sq_d
      have q250 : x4_1 < (l0.length : Int) := sq_d
      have LQ250 := Aside0.mk q250
      obtain ⟨ad250, A250_0, c250_0, e250, hx250_0, hl250_0, hi250_0⟩ := at_L4 HR0.out x4_1 p250 q250
      cases e250
      replace hx250_0 := (HB.out.cell (World.block_lt_of_cell? w _ hx250_0)).trans hx250_0
      have HR250_0 := Aside0.mk hi250_0
      have HC250_0 := Aside0.mk hl250_0
      clear hi250_0 hl250_0
      replace p250 := eq_true p250
      replace q250 := eq_true q250
      have p251 : 0 ≤ (x4_1 : Int) := sq_d
      have q251 : x4_1 < (l0.length : Int) := sq_d
      have LQ251 := Aside0.mk q251
      obtain ⟨ad251, A251_0, c251_0, e251, hx251_0, hl251_0, hi251_0⟩ := at_L4 HR0.out x4_1 p251 q251
      obtain rfl : ad250 = ad251 := (by injection e251)
      replace hx251_0 := (HB.out.cell (World.block_lt_of_cell? w _ hx251_0)).trans hx251_0
      have HR251_0 := Aside0.mk hi251_0
      have HC251_0 := Aside0.mk hl251_0
      clear hi251_0 hl251_0
      replace p251 := eq_true p251
      replace q251 := eq_true q251
      have ea_ := Option.some.inj (hx250_0.symm.trans hx251_0)
      injection ea_ with ea_ en_ ec_
      subst ea_
      subst ec_
      clear en_
      have p252 : 0 ≤ (x6_2 : Int) := sq_d
      have q252 : x6_2 < ((rd_L4 l0 x4_1).length : Int) := sq_d
      obtain ⟨ad252, e252, hx252_0⟩ := Kd.at_int HR251_0.out x6_2 p252 q252
      cases e252
      replace hx252_0 := (HB.out.cell (World.block_lt_of_cell? w _ hx252_0)).trans hx252_0
      replace p252 := eq_true p252
      replace q252 := eq_true q252
      have p253 : 0 ≤ (x4_1 : Int) := sq_d
      have q253 : x4_1 < (l0.length : Int) := sq_d
      have LQ253 := Aside0.mk q253
      obtain ⟨ad253, A253_0, c253_0, e253, hx253_0, hl253_0, hi253_0⟩ := at_L4 HR0.out x4_1 p253 q253
      obtain rfl : ad250 = ad253 := (by injection e253)
      replace hx253_0 := (HB.out.cell (World.block_lt_of_cell? w _ hx253_0)).trans hx253_0
      have HR253_0 := Aside0.mk hi253_0
      have HC253_0 := Aside0.mk hl253_0
      clear hi253_0 hl253_0
      replace p253 := eq_true p253
      replace q253 := eq_true q253
      have ea_ := Option.some.inj (hx250_0.symm.trans hx253_0)
      injection ea_ with ea_ en_ ec_
      subst ea_
      subst ec_
      clear en_
      have p254 : 0 ≤ (x6_2 : Int) := sq_d
      have q254 : x6_2 < ((rd_L4 l0 x4_1).length : Int) := sq_d
      obtain ⟨ad254, e254, hx254_0⟩ := Kd.at_int HR253_0.out x6_2 p254 q254
      cases e254
      replace hx254_0 := (HB.out.cell (World.block_lt_of_cell? w _ hx254_0)).trans hx254_0
      replace p254 := eq_true p254
      replace q254 := eq_true q254
      go_wp2
      go_roundg k2
      case measure => have := HK1.out; have := HK2.out; omega
      case rel => exact ⟨(x5_2), (wrap64 (x6_2 + 1)), (by first | rfl | (simp; done) | (simp [*]; done)), H', ⟨by have := HK1.out; have := HK2.out; omega⟩, ⟨by (with_reducible repeat (first | apply Kd.S_alloc | apply Kd.S_drewN | apply Kd.S_drew)); exact HO_3.out⟩, ⟨sq_kr HO_5.out⟩, ⟨sq_bl HB.out⟩⟩
     rw [if_pos c12] at H
     have c12b0 : decide ((rd (rd_L4 l0 x4_1) x6_2) < (l0.length : Int)) = true := decide_eq_true c12
     clear c12
     by_cases c13 : 0 ≤ (rd (rd_L4 l0 x4_1) x6_2)
     rotate_left
     ·rw [if_neg c13] at H
      exact absurd H (by simp)
     rw [if_pos c13] at H
     have c13b0 : decide (0 ≤ (rd (rd_L4 l0 x4_1) x6_2)) = true := decide_eq_true c13
     clear c13
     by_cases c14 : (rd (rd_L4 l0 x4_1) x6_2) < (x5_2.length : Int)
     rotate_left
     ·rw [if_neg c14] at H
      exact absurd H (by simp)
     rw [if_pos c14] at H
     have c14b0 : decide ((rd (rd_L4 l0 x4_1) x6_2) < (x5_2.length : Int)) = true := decide_eq_true c14
     clear c14
     obtain ⟨y257, hy257⟩ : ∃ y_ : List Bool, y_ = (x5_2.set ((rd (rd_L4 l0 x4_1) x6_2) : Int).toNat true) := ⟨_, rfl⟩
     replace H : (petrinetref07_Table.l1 k2 l0 x3_1 x4_1 y257 (wrap64 (x6_2 + 1))) = some r := by first | (rw [hy257]; with_reducible exact H) | (have H2_ := (Option.bind_some _ _).symm.trans H; rw [hy257]; with_reducible exact H2_) | (have H2_ := (Option.bind_some _ _).symm.trans H; with_reducible exact H2_) | with_reducible exact H | (rw [hy257]; exact H) | exact H
     have Ny257 := Aside0.mk hy257
     clear hy257
     have H' := Aside0.mk H
     clear H
     have p250 : 0 ≤ (x4_1 : Int) := sq_d
     have q250 : x4_1 < (l0.length : Int) := sq_d
     have LQ250 := Aside0.mk q250
     obtain ⟨ad250, A250_0, c250_0, e250, hx250_0, hl250_0, hi250_0⟩ := at_L4 HR0.out x4_1 p250 q250
     cases e250
     replace hx250_0 := (HB.out.cell (World.block_lt_of_cell? w _ hx250_0)).trans hx250_0
     have HR250_0 := Aside0.mk hi250_0
     have HC250_0 := Aside0.mk hl250_0
     clear hi250_0 hl250_0
     replace p250 := eq_true p250
     replace q250 := eq_true q250
     have p251 : 0 ≤ (x4_1 : Int) := sq_d
     have q251 : x4_1 < (l0.length : Int) := sq_d
     have LQ251 := Aside0.mk q251
     obtain ⟨ad251, A251_0, c251_0, e251, hx251_0, hl251_0, hi251_0⟩ := at_L4 HR0.out x4_1 p251 q251
     obtain rfl : ad250 = ad251 := (by injection e251)
     replace hx251_0 := (HB.out.cell (World.block_lt_of_cell? w _ hx251_0)).trans hx251_0
     have HR251_0 := Aside0.mk hi251_0
     have HC251_0 := Aside0.mk hl251_0
     clear hi251_0 hl251_0
     replace p251 := eq_true p251
     replace q251 := eq_true q251
     have ea_ := Option.some.inj (hx250_0.symm.trans hx251_0)
     injection ea_ with ea_ en_ ec_
     subst ea_
     subst ec_
     clear en_
     have p252 : 0 ≤ (x6_2 : Int) := sq_d
     have q252 : x6_2 < ((rd_L4 l0 x4_1).length : Int) := sq_d
     obtain ⟨ad252, e252, hx252_0⟩ := Kd.at_int HR251_0.out x6_2 p252 q252
     cases e252
     replace hx252_0 := (HB.out.cell (World.block_lt_of_cell? w _ hx252_0)).trans hx252_0
     replace p252 := eq_true p252
     replace q252 := eq_true q252
     have p253 : 0 ≤ (x4_1 : Int) := sq_d
     have q253 : x4_1 < (l0.length : Int) := sq_d
     have LQ253 := Aside0.mk q253
     obtain ⟨ad253, A253_0, c253_0, e253, hx253_0, hl253_0, hi253_0⟩ := at_L4 HR0.out x4_1 p253 q253
     obtain rfl : ad250 = ad253 := (by injection e253)
     replace hx253_0 := (HB.out.cell (World.block_lt_of_cell? w _ hx253_0)).trans hx253_0
     have HR253_0 := Aside0.mk hi253_0
     have HC253_0 := Aside0.mk hl253_0
     clear hi253_0 hl253_0
     replace p253 := eq_true p253
     replace q253 := eq_true q253
     have ea_ := Option.some.inj (hx250_0.symm.trans hx253_0)
     injection ea_ with ea_ en_ ec_
     subst ea_
     subst ec_
     clear en_
     have p254 : 0 ≤ (x6_2 : Int) := sq_d
     have q254 : x6_2 < ((rd_L4 l0 x4_1).length : Int) := sq_d
     obtain ⟨ad254, e254, hx254_0⟩ := Kd.at_int HR253_0.out x6_2 p254 q254
     cases e254
     replace hx254_0 := (HB.out.cell (World.block_lt_of_cell? w _ hx254_0)).trans hx254_0
     replace p254 := eq_true p254
     replace q254 := eq_true q254
     have p255 : 0 ≤ (x4_1 : Int) := sq_d
     have q255 : x4_1 < (l0.length : Int) := sq_d
     have LQ255 := Aside0.mk q255
     obtain ⟨ad255, A255_0, c255_0, e255, hx255_0, hl255_0, hi255_0⟩ := at_L4 HR0.out x4_1 p255 q255
     obtain rfl : ad250 = ad255 := (by injection e255)
     replace hx255_0 := (HB.out.cell (World.block_lt_of_cell? w _ hx255_0)).trans hx255_0
     have HR255_0 := Aside0.mk hi255_0
     have HC255_0 := Aside0.mk hl255_0
     clear hi255_0 hl255_0
     replace p255 := eq_true p255
     replace q255 := eq_true q255
     have ea_ := Option.some.inj (hx250_0.symm.trans hx255_0)
     injection ea_ with ea_ en_ ec_
     subst ea_
     subst ec_
     clear en_
     have p256 : 0 ≤ (x6_2 : Int) := sq_d
     have q256 : x6_2 < ((rd_L4 l0 x4_1).length : Int) := sq_d
     obtain ⟨ad256, e256, hx256_0⟩ := Kd.at_int HR255_0.out x6_2 p256 q256
     cases e256
     replace hx256_0 := (HB.out.cell (World.block_lt_of_cell? w _ hx256_0)).trans hx256_0
     replace p256 := eq_true p256
     replace q256 := eq_true q256
     have p15 : 0 ≤ ((rd (rd_L4 l0 x4_1) x6_2) : Int) := sq_d
     have q15 : ((rd (rd_L4 l0 x4_1) x6_2) : Int) < ((x5_2.length : Int) : Int) := sq_d
     obtain ⟨go15, co15, eo15, gb15, gl15, cl15, HG15⟩ := Kd.R_form HO_5.out (by omega)
     (first | cases eo15 | (injection eo15 with ea_ en_ ec_; (first | subst ea_ | (injection ea_ with ea_; subst ea_)); subst ec_; clear en_))
     have GB15 := Aside0.mk gb15
     have GG15 := Aside0.mk HG15
     clear gb15 gl15 HG15
     obtain ⟨hx15_0, hf15_0⟩ := Kd.R_celln false HO_5.out ((rd (rd_L4 l0 x4_1) x6_2) : Int) p15 q15
     replace p15 := eq_true p15
     replace q15 := eq_true q15
     have HP16 := Kd.R_putg HO_5.out ((rd (rd_L4 l0 x4_1) x6_2) : Int) true
     go_wp2_with (first | ((with_reducible refine gate_store (t := 4) (p := 53) rfl ?_); refine store_event (t := 4) (p := 53) (v := ?vo_w17) (w1 := (wr.setCell ⟨go15, ((rd (rd_L4 l0 x4_1) x6_2) : Int).toNat, none⟩ (.bool true))) ?hg ?ho ?hn ?hr ?_; (case ho => rfl); (case hg => rfl); (case hn => rfl); (case hr => first | (go_simp; done) | (go_simp; rfl)); intro w17 hw; have hg : wr.grownBy w17 (some go15) := (by rw [hw]; exact HP16.2); have hp_ : Kd.R Kd.bool 4 w17 w.heap.size (fun _ => True) (.slice (some ⟨go15, 0, none⟩) x5_2.length co15) y257 := (by rw [hw, Ny257.out]; exact HP16.1); clear HP16; have n0_ := Aside0.mk (Kd.S_after (v := (.slice (some ⟨go15, 0, none⟩) x5_2.length co15)) (v1 := (.slice (some ⟨go15, 0, none⟩) x5_2.length co15)) (ok := (fun _ => True)) (by (with_reducible repeat (first | apply Kd.S_alloc | apply Kd.S_drewN | apply Kd.S_drew)); exact Kd.S_mono HO_3.out (fun _ hk => ⟨trivial, hk⟩)) hg (.inl rfl)); have n1_ := Aside0.mk (hp_); have n2_ := Aside0.mk ((by rw [hw]; exact below_set (HB.out) GB15.out : Below w.heap.size w w17)); clear HO_3; clear HO_5; clear HB; have HO_3 := n0_; have HO_5 := n1_; have HB := n2_; clear n0_ n1_ n2_; clear hg hw hp_))
     go_roundg k2
     case measure => have := HK1.out; have := HK2.out; omega
     case rel => exact ⟨(y257), (wrap64 (x6_2 + 1)), (by first | rfl | (simp; done) | (simp [*]; done)), H', ⟨by have := HK1.out; have := HK2.out; omega⟩, ⟨by (with_reducible repeat (first | apply Kd.S_alloc | apply Kd.S_drewN | apply Kd.S_drew)); exact Kd.S_mono HO_3.out (fun _ hk => hk.2)⟩, ⟨sq_kr HO_5.out⟩, ⟨sq_bl HB.out⟩⟩
end Go.Proofs.Ytcnliampiibpbaa.PAll
