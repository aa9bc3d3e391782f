/- Lean functions for Go functions, each with the proof that the call returns what it says; printed by wip/tools/myprint.py. -/
-- squeezed
import Derived.Test.YtcnliampiibpbaaPAllx0
import Derived.Test.YtcnliampiibpbaaPAllx2
import Derived.Test.YtcnliampiibpbaaPAllx9
import Derived.Test.YtcnliampiibpbaaPAllx10
import Derived.Test.YtcnliampiibpbaaPAllx19
namespace Go.Proofs.Ytcnliampiibpbaa.PAll
open Go.RowKit Go.Proofs.YtcnliampiibpbaaW.PrintWords Go.Proofs.YtcnliampiibpbaaW.PrintLast Go.Proofs.YtcnliampiibpbaaW.PrintMore
attribute [local go_sem] Instr.field asAgg max2_int min2_int max_two min_two max_three min_three max_four min_four   -- for this text's walks alone
set_option linter.unusedVariables false
set_option linter.unusedSimpArgs false

/-! ### petrinetlaw45_SystemIso: function 5 -/
def petrinetlaw45_SystemIso.j0 : Nat → Bool → Int → List ByteArray → List (S44) → Int → List ByteArray → List (S44) → Option (Bool)
 | 0, _, _, _, _, _, _, _ => none
 | k + 1, x16, x375000, x375001, x375002, x376000, x376001, x376002 => if x16 = true then ((petrinetlaw45_alive.f k).bind fun t378 => (some t378)) else ((system_Iso.f k x375000 x375001 x375002 x376000 x376001 x376002).bind fun bt379 => ((petrinetref45_Iso.f k x375000 x375001 x375002 x376000 x376001 x376002).bind fun bt383 => (if (bt379.2 == bt383.2) = true then ((petrinetref04_Same.f k bt379.1 bt383.1).bind fun t387 => (if t387 = true then ((petrinetlaw45_alive.f k).bind fun t388 => (some t388)) else (some false))) else (some false))))
def petrinetlaw45_SystemIso.f (k : Nat) (a0_0 : Int) (l0_1 : List ByteArray) (l0_2 : List (S44)) (a1_0 : Int) (l1_1 : List ByteArray) (l1_2 : List (S44)) : Option (Bool) := (petrinetlaw45_few.f k a0_0 l0_1 l0_2).bind fun t376 => (if t376 = true then ((petrinetlaw45_few.f k a1_0 l1_1 l1_2).bind fun t377 => (petrinetlaw45_SystemIso.j0 k (!t377) a0_0 l0_1 l0_2 a1_0 l1_1 l1_2)) else (petrinetlaw45_SystemIso.j0 k true a0_0 l0_1 l0_2 a1_0 l1_1 l1_2))
theorem petrinetlaw45_SystemIso.mono_l : ∀ k, (∀ y0 y1 y2 y3 y4 y5 y6, LeO (petrinetlaw45_SystemIso.j0 k y0 y1 y2 y3 y4 y5 y6) (petrinetlaw45_SystemIso.j0 (k + 1) y0 y1 y2 y3 y4 y5 y6))
 | 0 => fun _ _ _ _ _ _ _ r h => by simp [petrinetlaw45_SystemIso.j0] at h
 | k + 1 => by
  have ih0 := petrinetlaw45_SystemIso.mono_l k
  ·intro y0 y1 y2 y3 y4 y5 y6
   unfold petrinetlaw45_SystemIso.j0
   repeat' first
   | (with_reducible exact ih0 _ _ _ _ _ _ _)
   | (with_reducible exact petrinetlaw45_alive.mono _)
   | (with_reducible exact petrinetlaw45_few.mono _ _ _ _)
   | (with_reducible exact petrinetref04_Same.mono _ _ _)
   | (with_reducible exact petrinetref45_Iso.mono _ _ _ _ _ _ _)
   | (with_reducible exact system_Iso.mono _ _ _ _ _ _ _)
   | (with_reducible exact LeO.refl _)
   | (with_reducible exact LeO.none _)
   | (with_reducible refine LeO.ite ?_ ?_)
   | (with_reducible refine LeO.bind ?_ (fun _ => ?_))
theorem petrinetlaw45_SystemIso.mono : ∀ a0 a1 a2 a3 a4 a5 k, LeO (petrinetlaw45_SystemIso.f k a0 a1 a2 a3 a4 a5) (petrinetlaw45_SystemIso.f (k + 1) a0 a1 a2 a3 a4 a5) := by
 intro a0 a1 a2 a3 a4 a5 k
 have ih0 := petrinetlaw45_SystemIso.mono_l k
 unfold petrinetlaw45_SystemIso.f
 repeat' first
   | (with_reducible exact ih0 _ _ _ _ _ _ _)
   | (with_reducible exact petrinetlaw45_alive.mono _)
   | (with_reducible exact petrinetlaw45_few.mono _ _ _ _)
   | (with_reducible exact petrinetref04_Same.mono _ _ _)
   | (with_reducible exact petrinetref45_Iso.mono _ _ _ _ _ _ _)
   | (with_reducible exact system_Iso.mono _ _ _ _ _ _ _)
   | (with_reducible exact LeO.refl _)
   | (with_reducible exact LeO.none _)
   | (with_reducible refine LeO.ite ?_ ?_)
   | (with_reducible refine LeO.bind ?_ (fun _ => ?_))
set_option maxHeartbeats 8000000 in
set_option maxRecDepth 100000 in
theorem petrinetlaw45_SystemIso.calls (k : Nat) (a0_0 : Int) (A0_1 : Option Addr) (c0_1 : Nat) (l0_1 : List ByteArray) (A0_2 : Option Addr) (c0_2 : Nat) (l0_2 : List (S44)) (a1_0 : Int) (A1_1 : Option Addr) (c1_1 : Nat) (l1_1 : List ByteArray) (A1_2 : Option Addr) (c1_2 : Nat) (l1_2 : List (S44)) (r : Bool) (w : World) (hr0_1 : Kd.C Kd.string w A0_1 l0_1.length l0_1) (hc0_1 : l0_1.length ≤ c0_1) (hr0_2 : Kd.C k44 w A0_2 l0_2.length l0_2) (hc0_2 : l0_2.length ≤ c0_2) (hr1_1 : Kd.C Kd.string w A1_1 l1_1.length l1_1) (hc1_1 : l1_1.length ≤ c1_1) (hr1_2 : Kd.C k44 w A1_2 l1_2.length l1_2) (hc1_2 : l1_2.length ≤ c1_2) (h : petrinetlaw45_SystemIso.f k a0_0 l0_1 l0_2 a1_0 l1_1 l1_2 = some r) :
  Calls Try.prog 5 #[.agg #[.int .i64 a0_0, .slice A0_1 l0_1.length c0_1, .slice A0_2 l0_2.length c0_2], .agg #[.int .i64 a1_0, .slice A1_1 l1_1.length c1_1, .slice A1_2 l1_2.length c1_2]] w fun e w' => e = .returned (.bool r) ∧ Below w.heap.size w w' := by
 have hv30 := Try.underlying30
 have hu25 := Try.underlying25
 have HR0_1 := Aside0.mk hr0_1
 have HC0_1 := Aside0.mk hc0_1
 clear hr0_1 hc0_1
 have HR0_2 := Aside0.mk hr0_2
 have HC0_2 := Aside0.mk hc0_2
 clear hr0_2 hc0_2
 have HR1_1 := Aside0.mk hr1_1
 have HC1_1 := Aside0.mk hc1_1
 clear hr1_1 hc1_1
 have HR1_2 := Aside0.mk hr1_2
 have HC1_2 := Aside0.mk hc1_2
 clear hr1_2 hc1_2
 have HB := Aside0.mk (Below.refl w.heap.size w)
 have H : ((petrinetlaw45_few.f k a0_0 l0_1 l0_2).bind fun t376 => (if t376 = true then ((petrinetlaw45_few.f k a1_0 l1_1 l1_2).bind fun t377 => (petrinetlaw45_SystemIso.j0 k (!t377) a0_0 l0_1 l0_2 a1_0 l1_1 l1_2)) else (petrinetlaw45_SystemIso.j0 k true a0_0 l0_1 l0_2 a1_0 l1_1 l1_2))) = some r := h
 clear h
 have HC3 := Aside0.mk H
 clear H
 go_enter Try.func5, Try.ntmps5
 go_upto_region 1 with (first | ((with_reducible refine gate_dst (N := 2) rfl ?_); refine sq_box 2 #[.int .i64 a0_0, .slice A0_1 l0_1.length c0_1, .slice A0_2 l0_2.length c0_2] 25 ?_; intro gb374 hg w4 hbox hb; have n0_ := Aside0.mk (below_step (sq_bl HB.out) hb); have n1_ := Aside0.mk (hbox); have n2_ := Aside0.mk ((by rw [hg]; exact (below_size (sq_bl HB.out)) : w.heap.size ≤ gb374)); have n3_ := Aside0.mk ((by rw [hg]; exact (below_size (sq_bl HB.out)) : w.heap.size ≤ gb374)); clear HB; have HB := n0_; have BK374 := n1_; have GW374 := n2_; have GE374 := n3_; clear n0_ n1_ n2_ n3_; clear hb hbox hg) | ((with_reducible refine gate_dst (N := 3) rfl ?_); refine sq_box 3 #[.int .i64 a1_0, .slice A1_1 l1_1.length c1_1, .slice A1_2 l1_2.length c1_2] 25 ?_; intro gb375 hg w5 hbox hb; have n0_ := Aside0.mk (blk_below (g := gb374) (o := .cells #[.int .i64 a0_0, .slice A0_1 l0_1.length c0_1, .slice A0_2 l0_2.length c0_2] 25 (0, 0)) (sq_bk BK374.out) hb); have n1_ := Aside0.mk (below_step (sq_bs HB.out) hb); have n2_ := Aside0.mk (hbox); have n3_ := Aside0.mk ((by rw [hg]; exact (below_size (sq_bs HB.out)) : w.heap.size ≤ gb375)); have n4_ := Aside0.mk ((by rw [hg]; exact (below_size (sq_bs HB.out)) : w.heap.size ≤ gb375)); have n5_ := Aside0.mk ((by rw [hg]; exact Nat.ne_of_lt (blk_lt (g := gb374) (o := .cells #[.int .i64 a0_0, .slice A0_1 l0_1.length c0_1, .slice A0_2 l0_2.length c0_2] 25 (0, 0)) (sq_bk BK374.out)) : gb374 ≠ gb375)); have n6_ := Aside0.mk ((by rw [hg]; exact Nat.ne_of_gt (blk_lt (g := gb374) (o := .cells #[.int .i64 a0_0, .slice A0_1 l0_1.length c0_1, .slice A0_2 l0_2.length c0_2] 25 (0, 0)) (sq_bk BK374.out)) : gb375 ≠ gb374)); clear BK374; clear HB; have BK374 := n0_; have HB := n1_; have BK375 := n2_; have GW375 := n3_; have GE375 := n4_; have NB374_375 := n5_; have NB375_374 := n6_; clear n0_ n1_ n2_ n3_ n4_ n5_ n6_; clear hb hbox hg))
 (try simp only [Act.put, List.setIfInBounds_toArray, List.set_cons_zero, List.set_cons_succ])
 go_cut [16] (fun v16 wc => ∃ (kq : Nat) (x16_2 : Bool), v16 = .bool x16_2 ∧ Aside0 (petrinetlaw45_SystemIso.j0 kq x16_2 a0_0 l0_1 l0_2 a1_0 l1_1 l1_2 = some r) ∧ Aside0 (kq ≤ k) ∧ Aside0 (wc.heap[gb374]? = some (.cells #[.int .i64 a0_0, (.slice A0_1 l0_1.length c0_1), (.slice A0_2 l0_2.length c0_2)] 25 (0, 0))) ∧ Aside0 (wc.heap[gb375]? = some (.cells #[.int .i64 a1_0, (.slice A1_1 l1_1.length c1_1), (.slice A1_2 l1_2.length c1_2)] 25 (0, 0))) ∧ Aside0 (Below w.heap.size w wc))
 case first =>
  have H := HC3.out
  clear HC3
  replace H := Option.bind_eq_some_iff.mp H
  obtain ⟨t376, A60, H⟩ := H
  replace H : (if t376 = true then ((petrinetlaw45_few.f k a1_0 l1_1 l1_2).bind fun t377 => (petrinetlaw45_SystemIso.j0 k (!t377) a0_0 l0_1 l0_2 a1_0 l1_1 l1_2)) else (petrinetlaw45_SystemIso.j0 k true a0_0 l0_1 l0_2 a1_0 l1_1 l1_2)) = some r := H
  have A6 := Aside0.mk A60
  clear A60
  by_cases c7 : t376 = true
  ·subst c7
   have H1 : ((petrinetlaw45_few.f k a1_0 l1_1 l1_2).bind fun t377 => (petrinetlaw45_SystemIso.j0 k (!t377) a0_0 l0_1 l0_2 a1_0 l1_1 l1_2)) = some r := by rw [if_pos rfl] at H; exact H
   clear H
   have H := H1
   clear H1
   replace H := Option.bind_eq_some_iff.mp H
   obtain ⟨t377, A80, H⟩ := H
   replace H : (petrinetlaw45_SystemIso.j0 k (!t377) a0_0 l0_1 l0_2 a1_0 l1_1 l1_2) = some r := H
   have A8 := Aside0.mk A80
   clear A80
   have H' := Aside0.mk H
   clear H
   have hnb9 := NB374_375.out
   have hnc9 := NB375_374.out
   have hcz10_0 : w5.cell? ⟨gb374, 0, none⟩ = some (.int .i64 a0_0) := (blk_cell BK374.out 0).trans rfl
   have hcz10_1 : w5.cell? ⟨gb374, 1, none⟩ = some (.slice A0_1 l0_1.length c0_1) := (blk_cell BK374.out 1).trans rfl
   have hcz10_2 : w5.cell? ⟨gb374, 2, none⟩ = some (.slice A0_2 l0_2.length c0_2) := (blk_cell BK374.out 2).trans rfl
   have hfz10_0 := blk_frozen BK374.out 0
   have hfz10_1 := blk_frozen BK374.out 1
   have hfz10_2 := blk_frozen BK374.out 2
   go_wp2_with (first | ((with_reducible refine gate_callee (f := 8) rfl ?_); refine sq_goes (some 10) Try.func8 #[.agg #[.int .i64 a0_0, .slice A0_1 l0_1.length c0_1, .slice A0_2 l0_2.length c0_2]] ?_; (with_reducible refine (petrinetlaw45_few.calls k a0_0 _ _ l0_1 _ _ l0_2 true _ ?side1 ?side2 ?side3 ?side4 A6.out).mono ?_); (case side1 => exact sq_kc ((Kd.C_below HR0_1.out HB.out))); (case side2 => exact HC0_1.out); (case side3 => exact sq_kc ((Kd.C_below HR0_2.out HB.out))); (case side4 => exact HC0_2.out); rintro e w11 ⟨rfl, hb⟩; refine ⟨_, rfl, ?_⟩; have n0_ := Aside0.mk (blk_below (g := gb374) (o := .cells #[.int .i64 a0_0, .slice A0_1 l0_1.length c0_1, .slice A0_2 l0_2.length c0_2] 25 (0, 0)) (sq_bk BK374.out) hb); have n1_ := Aside0.mk (blk_below (g := gb375) (o := .cells #[.int .i64 a1_0, .slice A1_1 l1_1.length c1_1, .slice A1_2 l1_2.length c1_2] 25 (0, 0)) (sq_bk BK375.out) hb); have n2_ := Aside0.mk (below_step (sq_bs HB.out) hb); clear BK374; clear BK375; clear HB; have BK374 := n0_; have BK375 := n1_; have HB := n2_; clear n0_ n1_ n2_; (try clear hb); have hcz12_0 : w11.cell? ⟨gb375, 0, none⟩ = some (.int .i64 a1_0) := (blk_cell BK375.out 0).trans rfl; have hcz12_1 : w11.cell? ⟨gb375, 1, none⟩ = some (.slice A1_1 l1_1.length c1_1) := (blk_cell BK375.out 1).trans rfl; have hcz12_2 : w11.cell? ⟨gb375, 2, none⟩ = some (.slice A1_2 l1_2.length c1_2) := (blk_cell BK375.out 2).trans rfl; have hfz12_0 := blk_frozen BK375.out 0; have hfz12_1 := blk_frozen BK375.out 1; have hfz12_2 := blk_frozen BK375.out 2) | (go_at_call 8; (with_reducible refine (petrinetlaw45_few.calls k a1_0 _ _ l1_1 _ _ l1_2 t377 _ ?side1 ?side2 ?side3 ?side4 A8.out).mono ?_); (case side1 => exact sq_kc ((Kd.C_below HR1_1.out HB.out))); (case side2 => exact HC1_1.out); (case side3 => exact sq_kc ((Kd.C_below HR1_2.out HB.out))); (case side4 => exact HC1_2.out); rintro e w13 ⟨rfl, hb⟩; have n0_ := Aside0.mk (blk_below (g := gb374) (o := .cells #[.int .i64 a0_0, .slice A0_1 l0_1.length c0_1, .slice A0_2 l0_2.length c0_2] 25 (0, 0)) (sq_bk BK374.out) hb); have n1_ := Aside0.mk (blk_below (g := gb375) (o := .cells #[.int .i64 a1_0, .slice A1_1 l1_1.length c1_1, .slice A1_2 l1_2.length c1_2] 25 (0, 0)) (sq_bk BK375.out) hb); have n2_ := Aside0.mk (below_step (sq_bs HB.out) hb); clear BK374; clear BK375; clear HB; have BK374 := n0_; have BK375 := n1_; have HB := n2_; clear n0_ n1_ n2_; (try clear hb)))
   go_meet
   case rel => exact ⟨_, (!t377), (by first | rfl | (simp; done) | (simp [*]; done)), H', ⟨by first | omega | exact Nat.le_refl _⟩, ⟨sq_bk BK374.out⟩, ⟨sq_bk BK375.out⟩, ⟨sq_bs HB.out⟩⟩
  ·replace c7 := Bool.eq_false_iff.mpr c7
   subst c7
   have H1 : (petrinetlaw45_SystemIso.j0 k true a0_0 l0_1 l0_2 a1_0 l1_1 l1_2) = some r := by rw [if_neg (show ¬ (false = true) by decide)] at H; exact H
   clear H
   have H := H1
   clear H1
   have H' := Aside0.mk H
   clear H
   have hnb14 := NB374_375.out
   have hnc14 := NB375_374.out
   have hcz15_0 : w5.cell? ⟨gb374, 0, none⟩ = some (.int .i64 a0_0) := (blk_cell BK374.out 0).trans rfl
   have hcz15_1 : w5.cell? ⟨gb374, 1, none⟩ = some (.slice A0_1 l0_1.length c0_1) := (blk_cell BK374.out 1).trans rfl
   have hcz15_2 : w5.cell? ⟨gb374, 2, none⟩ = some (.slice A0_2 l0_2.length c0_2) := (blk_cell BK374.out 2).trans rfl
   have hfz15_0 := blk_frozen BK374.out 0
   have hfz15_1 := blk_frozen BK374.out 1
   have hfz15_2 := blk_frozen BK374.out 2
   go_wp2_with (first | ((with_reducible refine gate_callee (f := 8) rfl ?_); refine sq_goes (some 10) Try.func8 #[.agg #[.int .i64 a0_0, .slice A0_1 l0_1.length c0_1, .slice A0_2 l0_2.length c0_2]] ?_; (with_reducible refine (petrinetlaw45_few.calls k a0_0 _ _ l0_1 _ _ l0_2 false _ ?side1 ?side2 ?side3 ?side4 A6.out).mono ?_); (case side1 => exact sq_kc ((Kd.C_below HR0_1.out HB.out))); (case side2 => exact HC0_1.out); (case side3 => exact sq_kc ((Kd.C_below HR0_2.out HB.out))); (case side4 => exact HC0_2.out); rintro e w16 ⟨rfl, hb⟩; refine ⟨_, rfl, ?_⟩; have n0_ := Aside0.mk (blk_below (g := gb374) (o := .cells #[.int .i64 a0_0, .slice A0_1 l0_1.length c0_1, .slice A0_2 l0_2.length c0_2] 25 (0, 0)) (sq_bk BK374.out) hb); have n1_ := Aside0.mk (blk_below (g := gb375) (o := .cells #[.int .i64 a1_0, .slice A1_1 l1_1.length c1_1, .slice A1_2 l1_2.length c1_2] 25 (0, 0)) (sq_bk BK375.out) hb); have n2_ := Aside0.mk (below_step (sq_bs HB.out) hb); clear BK374; clear BK375; clear HB; have BK374 := n0_; have BK375 := n1_; have HB := n2_; clear n0_ n1_ n2_; (try clear hb)))
   go_meet
   case rel => exact ⟨_, (true), (by first | rfl | (simp; done) | (simp [*]; done)), H', ⟨by first | omega | exact Nat.le_refl _⟩, ⟨sq_bk BK374.out⟩, ⟨sq_bk BK375.out⟩, ⟨sq_bs HB.out⟩⟩
 case rest =>
  clear HC3
  obtain ⟨kq, x16_2, rfl, HA, HJ2, BK374, BK375, HB⟩ := hcut
  cases kq with
  | zero => exact absurd HA.out (by simp [petrinetlaw45_SystemIso.j0])
  | succ kj2 =>
   have H := HA.out
   clear HA
   simp only [petrinetlaw45_SystemIso.j0] at H
   by_cases c17 : x16_2 = true
   ·subst c17
    have H1 : ((petrinetlaw45_alive.f kj2).bind fun t378 => (some t378)) = some r := by rw [if_pos rfl] at H; exact H
    clear H
    have H := H1
    clear H1
    replace H := Option.bind_eq_some_iff.mp H
    obtain ⟨t378, A180, H⟩ := H
    replace H : (some t378) = some r := H
    have A18 := Aside0.mk A180
    clear A180
    obtain rfl := Option.some.inj H
    go_wp2_with (first | ((with_reducible refine gate_callee (f := 9) rfl ?_); refine sq_goes (some 17) Try.func9 #[] ?_; (with_reducible refine (petrinetlaw45_alive.calls kj2  t378 _ A18.out).mono ?_); rintro e w19 ⟨rfl, hb⟩; refine ⟨_, rfl, ?_⟩; have n0_ := Aside0.mk (blk_below (g := gb374) (o := .cells #[.int .i64 a0_0, .slice A0_1 l0_1.length c0_1, .slice A0_2 l0_2.length c0_2] 25 (0, 0)) (sq_bk BK374.out) hb); have n1_ := Aside0.mk (blk_below (g := gb375) (o := .cells #[.int .i64 a1_0, .slice A1_1 l1_1.length c1_1, .slice A1_2 l1_2.length c1_2] 25 (0, 0)) (sq_bk BK375.out) hb); have n2_ := Aside0.mk (below_step (sq_bs HB.out) hb); clear BK374; clear BK375; clear HB; have BK374 := n0_; have BK375 := n1_; have HB := n2_; clear n0_ n1_ n2_; (try clear hb)))
    go_ret
    exact ⟨by first | rfl | (simp [errW_none, errW_some] <;> rfl) | (simp [*, errW_none, errW_some] <;> rfl), sq_bs HB.out⟩
   ·replace c17 := Bool.eq_false_iff.mpr c17
    subst c17
    have H1 : ((system_Iso.f kj2 a0_0 l0_1 l0_2 a1_0 l1_1 l1_2).bind fun bt379 => ((petrinetref45_Iso.f kj2 a0_0 l0_1 l0_2 a1_0 l1_1 l1_2).bind fun bt383 => (if (bt379.2 == bt383.2) = true then ((petrinetref04_Same.f kj2 bt379.1 bt383.1).bind fun t387 => (if t387 = true then ((petrinetlaw45_alive.f kj2).bind fun t388 => (some t388)) else (some false))) else (some false)))) = some r := by rw [if_neg (show ¬ (false = true) by decide)] at H; exact H
    clear H
    have H := H1
    clear H1
    replace H := Option.bind_eq_some_iff.mp H
    obtain ⟨⟨t379, t382⟩, A200, H⟩ := H
    replace H : ((petrinetref45_Iso.f kj2 a0_0 l0_1 l0_2 a1_0 l1_1 l1_2).bind fun bt383 => (if (t382 == bt383.2) = true then ((petrinetref04_Same.f kj2 t379 bt383.1).bind fun t387 => (if t387 = true then ((petrinetlaw45_alive.f kj2).bind fun t388 => (some t388)) else (some false))) else (some false))) = some r := H
    have A20 := Aside0.mk A200
    clear A200
    replace H := Option.bind_eq_some_iff.mp H
    obtain ⟨⟨t383, t386⟩, A210, H⟩ := H
    replace H : (if (t382 == t386) = true then ((petrinetref04_Same.f kj2 t379 t383).bind fun t387 => (if t387 = true then ((petrinetlaw45_alive.f kj2).bind fun t388 => (some t388)) else (some false))) else (some false)) = some r := H
    have A21 := Aside0.mk A210
    clear A210
    by_cases c22 : (t382 == t386) = true
    ·rw [if_pos c22] at H
     have c22b0 : (t382 == t386) = true := c22
     (try (have c22b1 : decide (t382 = t386) = true := by simpa using c22))
     (try (have c22b2 : (t382 == t386) = true := by simpa using c22))
     clear c22
     replace H := Option.bind_eq_some_iff.mp H
     obtain ⟨t387, A230, H⟩ := H
     replace H : (if t387 = true then ((petrinetlaw45_alive.f kj2).bind fun t388 => (some t388)) else (some false)) = some r := H
     have A23 := Aside0.mk A230
     clear A230
     by_cases c24 : t387 = true
     ·subst c24
      have H1 : ((petrinetlaw45_alive.f kj2).bind fun t388 => (some t388)) = some r := by rw [if_pos rfl] at H; exact H
      clear H
      have H := H1
      clear H1
      replace H := Option.bind_eq_some_iff.mp H
      obtain ⟨t388, A250, H⟩ := H
      replace H : (some t388) = some r := H
      have A25 := Aside0.mk A250
      clear A250
      obtain rfl := Option.some.inj H
      have hnb26 := NB374_375.out
      have hnc26 := NB375_374.out
      have hcz27_0 : wc.cell? ⟨gb374, 0, none⟩ = some (.int .i64 a0_0) := (blk_cell BK374.out 0).trans rfl
      have hcz27_1 : wc.cell? ⟨gb374, 1, none⟩ = some (.slice A0_1 l0_1.length c0_1) := (blk_cell BK374.out 1).trans rfl
      have hcz27_2 : wc.cell? ⟨gb374, 2, none⟩ = some (.slice A0_2 l0_2.length c0_2) := (blk_cell BK374.out 2).trans rfl
      have hfz27_0 := blk_frozen BK374.out 0
      have hfz27_1 := blk_frozen BK374.out 1
      have hfz27_2 := blk_frozen BK374.out 2
      have hcz28_0 : wc.cell? ⟨gb375, 0, none⟩ = some (.int .i64 a1_0) := (blk_cell BK375.out 0).trans rfl
      have hcz28_1 : wc.cell? ⟨gb375, 1, none⟩ = some (.slice A1_1 l1_1.length c1_1) := (blk_cell BK375.out 1).trans rfl
      have hcz28_2 : wc.cell? ⟨gb375, 2, none⟩ = some (.slice A1_2 l1_2.length c1_2) := (blk_cell BK375.out 2).trans rfl
      have hfz28_0 := blk_frozen BK375.out 0
      have hfz28_1 := blk_frozen BK375.out 1
      have hfz28_2 := blk_frozen BK375.out 2
      go_wp2_with (first | ((with_reducible refine gate_callee (f := 18) rfl ?_); refine sq_goes (some 21) Try.func18 #[.agg #[.int .i64 a0_0, .slice A0_1 l0_1.length c0_1, .slice A0_2 l0_2.length c0_2], .agg #[.int .i64 a1_0, .slice A1_1 l1_1.length c1_1, .slice A1_2 l1_2.length c1_2]] ?_; (with_reducible refine (system_Iso.calls kj2 a0_0 _ _ l0_1 _ _ l0_2 a1_0 _ _ l1_1 _ _ l1_2 t379 t382 _ ?side1 ?side2 ?side3 ?side4 ?side5 ?side6 ?side7 ?side8 A20.out).mono ?_); (case side1 => exact sq_kc ((Kd.C_below HR0_1.out HB.out))); (case side2 => exact HC0_1.out); (case side3 => exact sq_kc ((Kd.C_below HR0_2.out HB.out))); (case side4 => exact HC0_2.out); (case side5 => exact sq_kc ((Kd.C_below HR1_1.out HB.out))); (case side6 => exact HC1_1.out); (case side7 => exact sq_kc ((Kd.C_below HR1_2.out HB.out))); (case side8 => exact HC1_2.out); rintro e w29 ⟨v380, rfl, ho0, hb⟩; refine ⟨_, rfl, ?_⟩; have n0_ := Aside0.mk (Kd.R_lower ho0 (below_size (sq_bs HB.out))); have n1_ := Aside0.mk (blk_below (g := gb374) (o := .cells #[.int .i64 a0_0, .slice A0_1 l0_1.length c0_1, .slice A0_2 l0_2.length c0_2] 25 (0, 0)) (sq_bk BK374.out) hb); have n2_ := Aside0.mk (blk_below (g := gb375) (o := .cells #[.int .i64 a1_0, .slice A1_1 l1_1.length c1_1, .slice A1_2 l1_2.length c1_2] 25 (0, 0)) (sq_bk BK375.out) hb); have n3_ := Aside0.mk (below_step (sq_bs HB.out) hb); clear BK374; clear BK375; clear HB; have HO381 := n0_; have BK374 := n1_; have BK375 := n2_; have HB := n3_; clear n0_ n1_ n2_ n3_; (try clear hb); (try clear ho0); have hcz30_0 : w29.cell? ⟨gb374, 0, none⟩ = some (.int .i64 a0_0) := (blk_cell BK374.out 0).trans rfl; have hcz30_1 : w29.cell? ⟨gb374, 1, none⟩ = some (.slice A0_1 l0_1.length c0_1) := (blk_cell BK374.out 1).trans rfl; have hcz30_2 : w29.cell? ⟨gb374, 2, none⟩ = some (.slice A0_2 l0_2.length c0_2) := (blk_cell BK374.out 2).trans rfl; have hfz30_0 := blk_frozen BK374.out 0; have hfz30_1 := blk_frozen BK374.out 1; have hfz30_2 := blk_frozen BK374.out 2; have hcz31_0 : w29.cell? ⟨gb375, 0, none⟩ = some (.int .i64 a1_0) := (blk_cell BK375.out 0).trans rfl; have hcz31_1 : w29.cell? ⟨gb375, 1, none⟩ = some (.slice A1_1 l1_1.length c1_1) := (blk_cell BK375.out 1).trans rfl; have hcz31_2 : w29.cell? ⟨gb375, 2, none⟩ = some (.slice A1_2 l1_2.length c1_2) := (blk_cell BK375.out 2).trans rfl; have hfz31_0 := blk_frozen BK375.out 0; have hfz31_1 := blk_frozen BK375.out 1; have hfz31_2 := blk_frozen BK375.out 2) | ((with_reducible refine gate_callee (f := 19) rfl ?_); refine sq_goes (some 27) Try.func19 #[.agg #[.int .i64 a0_0, .slice A0_1 l0_1.length c0_1, .slice A0_2 l0_2.length c0_2], .agg #[.int .i64 a1_0, .slice A1_1 l1_1.length c1_1, .slice A1_2 l1_2.length c1_2]] ?_; (with_reducible refine (petrinetref45_Iso.calls kj2 a0_0 _ _ l0_1 _ _ l0_2 a1_0 _ _ l1_1 _ _ l1_2 t383 t386 _ ?side1 ?side2 ?side3 ?side4 ?side5 ?side6 ?side7 ?side8 A21.out).mono ?_); (case side1 => exact sq_kc ((Kd.C_below HR0_1.out HB.out))); (case side2 => exact HC0_1.out); (case side3 => exact sq_kc ((Kd.C_below HR0_2.out HB.out))); (case side4 => exact HC0_2.out); (case side5 => exact sq_kc ((Kd.C_below HR1_1.out HB.out))); (case side6 => exact HC1_1.out); (case side7 => exact sq_kc ((Kd.C_below HR1_2.out HB.out))); (case side8 => exact HC1_2.out); rintro e w32 ⟨v384, rfl, ho0, hb⟩; refine ⟨_, rfl, ?_⟩; have n0_ := Aside0.mk (Kd.R_elder' (sq_kr HO381.out) (Kd.R_base ho0) hb); have n1_ := Aside0.mk (Kd.R_lower (Kd.R_new' ho0 (Kd.R_lt (sq_kr HO381.out))) (below_size (sq_bs HB.out))); have n2_ := Aside0.mk (blk_below (g := gb374) (o := .cells #[.int .i64 a0_0, .slice A0_1 l0_1.length c0_1, .slice A0_2 l0_2.length c0_2] 25 (0, 0)) (sq_bk BK374.out) hb); have n3_ := Aside0.mk (blk_below (g := gb375) (o := .cells #[.int .i64 a1_0, .slice A1_1 l1_1.length c1_1, .slice A1_2 l1_2.length c1_2] 25 (0, 0)) (sq_bk BK375.out) hb); have n4_ := Aside0.mk (below_step (sq_bs HB.out) hb); clear HO381; clear BK374; clear BK375; clear HB; have HO381 := n0_; have HO385 := n1_; have BK374 := n2_; have BK375 := n3_; have HB := n4_; clear n0_ n1_ n2_ n3_ n4_; (try clear hb); (try clear ho0); obtain ⟨Ao33, co33, eo33⟩ := Kd.R_slice HO381.out; subst eo33; obtain ⟨Ao34, co34, eo34⟩ := Kd.R_slice HO385.out; subst eo34) | (go_at_call 20; (with_reducible refine (petrinetref04_Same.calls kj2 _ _ t379 _ _ t383 true _ ?side1 ?side2 ?side3 ?side4 A23.out).mono ?_); (case side1 => exact sq_kc ((Kd.R_reads' HO381.out).2.2)); (case side2 => exact (Kd.R_reads' HO381.out).2.1); (case side3 => exact sq_kc ((Kd.R_reads' HO385.out).2.2)); (case side4 => exact (Kd.R_reads' HO385.out).2.1); rintro e w' ⟨rfl, ⟨nd, rfl⟩⟩) | (go_at_call 9; (with_reducible refine (petrinetlaw45_alive.calls kj2  t388 _ A25.out).mono ?_); rintro e w35 ⟨rfl, hb⟩; have n0_ := Aside0.mk (Kd.R_below (sq_kr HO381.out) hb); have n1_ := Aside0.mk (Kd.R_below (sq_kr HO385.out) hb); have n2_ := Aside0.mk (blk_below (g := gb374) (o := .cells #[.int .i64 a0_0, .slice A0_1 l0_1.length c0_1, .slice A0_2 l0_2.length c0_2] 25 (0, 0)) (sq_bk BK374.out) hb); have n3_ := Aside0.mk (blk_below (g := gb375) (o := .cells #[.int .i64 a1_0, .slice A1_1 l1_1.length c1_1, .slice A1_2 l1_2.length c1_2] 25 (0, 0)) (sq_bk BK375.out) hb); have n4_ := Aside0.mk (below_step (sq_bs HB.out) hb); clear HO381; clear HO385; clear BK374; clear BK375; clear HB; have HO381 := n0_; have HO385 := n1_; have BK374 := n2_; have BK375 := n3_; have HB := n4_; clear n0_ n1_ n2_ n3_ n4_; (try clear hb)))
      go_ret
      exact ⟨by first | rfl | (simp [errW_none, errW_some] <;> rfl) | (simp [*, errW_none, errW_some] <;> rfl), sq_bs HB.out⟩
     ·replace c24 := Bool.eq_false_iff.mpr c24
      subst c24
      have H1 : (some false) = some r := by rw [if_neg (show ¬ (false = true) by decide)] at H; exact H
      clear H
      have H := H1
      clear H1
      obtain rfl := Option.some.inj H
      have hnb36 := NB374_375.out
      have hnc36 := NB375_374.out
      have hcz37_0 : wc.cell? ⟨gb374, 0, none⟩ = some (.int .i64 a0_0) := (blk_cell BK374.out 0).trans rfl
      have hcz37_1 : wc.cell? ⟨gb374, 1, none⟩ = some (.slice A0_1 l0_1.length c0_1) := (blk_cell BK374.out 1).trans rfl
      have hcz37_2 : wc.cell? ⟨gb374, 2, none⟩ = some (.slice A0_2 l0_2.length c0_2) := (blk_cell BK374.out 2).trans rfl
      have hfz37_0 := blk_frozen BK374.out 0
      have hfz37_1 := blk_frozen BK374.out 1
      have hfz37_2 := blk_frozen BK374.out 2
      have hcz38_0 : wc.cell? ⟨gb375, 0, none⟩ = some (.int .i64 a1_0) := (blk_cell BK375.out 0).trans rfl
      have hcz38_1 : wc.cell? ⟨gb375, 1, none⟩ = some (.slice A1_1 l1_1.length c1_1) := (blk_cell BK375.out 1).trans rfl
      have hcz38_2 : wc.cell? ⟨gb375, 2, none⟩ = some (.slice A1_2 l1_2.length c1_2) := (blk_cell BK375.out 2).trans rfl
      have hfz38_0 := blk_frozen BK375.out 0
      have hfz38_1 := blk_frozen BK375.out 1
      have hfz38_2 := blk_frozen BK375.out 2
      go_wp2_with (first | ((with_reducible refine gate_callee (f := 18) rfl ?_); refine sq_goes (some 21) Try.func18 #[.agg #[.int .i64 a0_0, .slice A0_1 l0_1.length c0_1, .slice A0_2 l0_2.length c0_2], .agg #[.int .i64 a1_0, .slice A1_1 l1_1.length c1_1, .slice A1_2 l1_2.length c1_2]] ?_; (with_reducible refine (system_Iso.calls kj2 a0_0 _ _ l0_1 _ _ l0_2 a1_0 _ _ l1_1 _ _ l1_2 t379 t382 _ ?side1 ?side2 ?side3 ?side4 ?side5 ?side6 ?side7 ?side8 A20.out).mono ?_); (case side1 => exact sq_kc ((Kd.C_below HR0_1.out HB.out))); (case side2 => exact HC0_1.out); (case side3 => exact sq_kc ((Kd.C_below HR0_2.out HB.out))); (case side4 => exact HC0_2.out); (case side5 => exact sq_kc ((Kd.C_below HR1_1.out HB.out))); (case side6 => exact HC1_1.out); (case side7 => exact sq_kc ((Kd.C_below HR1_2.out HB.out))); (case side8 => exact HC1_2.out); rintro e w39 ⟨v380, rfl, ho0, hb⟩; refine ⟨_, rfl, ?_⟩; have n0_ := Aside0.mk (Kd.R_lower ho0 (below_size (sq_bs HB.out))); have n1_ := Aside0.mk (blk_below (g := gb374) (o := .cells #[.int .i64 a0_0, .slice A0_1 l0_1.length c0_1, .slice A0_2 l0_2.length c0_2] 25 (0, 0)) (sq_bk BK374.out) hb); have n2_ := Aside0.mk (blk_below (g := gb375) (o := .cells #[.int .i64 a1_0, .slice A1_1 l1_1.length c1_1, .slice A1_2 l1_2.length c1_2] 25 (0, 0)) (sq_bk BK375.out) hb); have n3_ := Aside0.mk (below_step (sq_bs HB.out) hb); clear BK374; clear BK375; clear HB; have HO381 := n0_; have BK374 := n1_; have BK375 := n2_; have HB := n3_; clear n0_ n1_ n2_ n3_; (try clear hb); (try clear ho0); have hcz40_0 : w39.cell? ⟨gb374, 0, none⟩ = some (.int .i64 a0_0) := (blk_cell BK374.out 0).trans rfl; have hcz40_1 : w39.cell? ⟨gb374, 1, none⟩ = some (.slice A0_1 l0_1.length c0_1) := (blk_cell BK374.out 1).trans rfl; have hcz40_2 : w39.cell? ⟨gb374, 2, none⟩ = some (.slice A0_2 l0_2.length c0_2) := (blk_cell BK374.out 2).trans rfl; have hfz40_0 := blk_frozen BK374.out 0; have hfz40_1 := blk_frozen BK374.out 1; have hfz40_2 := blk_frozen BK374.out 2; have hcz41_0 : w39.cell? ⟨gb375, 0, none⟩ = some (.int .i64 a1_0) := (blk_cell BK375.out 0).trans rfl; have hcz41_1 : w39.cell? ⟨gb375, 1, none⟩ = some (.slice A1_1 l1_1.length c1_1) := (blk_cell BK375.out 1).trans rfl; have hcz41_2 : w39.cell? ⟨gb375, 2, none⟩ = some (.slice A1_2 l1_2.length c1_2) := (blk_cell BK375.out 2).trans rfl; have hfz41_0 := blk_frozen BK375.out 0; have hfz41_1 := blk_frozen BK375.out 1; have hfz41_2 := blk_frozen BK375.out 2) | ((with_reducible refine gate_callee (f := 19) rfl ?_); refine sq_goes (some 27) Try.func19 #[.agg #[.int .i64 a0_0, .slice A0_1 l0_1.length c0_1, .slice A0_2 l0_2.length c0_2], .agg #[.int .i64 a1_0, .slice A1_1 l1_1.length c1_1, .slice A1_2 l1_2.length c1_2]] ?_; (with_reducible refine (petrinetref45_Iso.calls kj2 a0_0 _ _ l0_1 _ _ l0_2 a1_0 _ _ l1_1 _ _ l1_2 t383 t386 _ ?side1 ?side2 ?side3 ?side4 ?side5 ?side6 ?side7 ?side8 A21.out).mono ?_); (case side1 => exact sq_kc ((Kd.C_below HR0_1.out HB.out))); (case side2 => exact HC0_1.out); (case side3 => exact sq_kc ((Kd.C_below HR0_2.out HB.out))); (case side4 => exact HC0_2.out); (case side5 => exact sq_kc ((Kd.C_below HR1_1.out HB.out))); (case side6 => exact HC1_1.out); (case side7 => exact sq_kc ((Kd.C_below HR1_2.out HB.out))); (case side8 => exact HC1_2.out); rintro e w42 ⟨v384, rfl, ho0, hb⟩; refine ⟨_, rfl, ?_⟩; have n0_ := Aside0.mk (Kd.R_elder' (sq_kr HO381.out) (Kd.R_base ho0) hb); have n1_ := Aside0.mk (Kd.R_lower (Kd.R_new' ho0 (Kd.R_lt (sq_kr HO381.out))) (below_size (sq_bs HB.out))); have n2_ := Aside0.mk (blk_below (g := gb374) (o := .cells #[.int .i64 a0_0, .slice A0_1 l0_1.length c0_1, .slice A0_2 l0_2.length c0_2] 25 (0, 0)) (sq_bk BK374.out) hb); have n3_ := Aside0.mk (blk_below (g := gb375) (o := .cells #[.int .i64 a1_0, .slice A1_1 l1_1.length c1_1, .slice A1_2 l1_2.length c1_2] 25 (0, 0)) (sq_bk BK375.out) hb); have n4_ := Aside0.mk (below_step (sq_bs HB.out) hb); clear HO381; clear BK374; clear BK375; clear HB; have HO381 := n0_; have HO385 := n1_; have BK374 := n2_; have BK375 := n3_; have HB := n4_; clear n0_ n1_ n2_ n3_ n4_; (try clear hb); (try clear ho0); obtain ⟨Ao43, co43, eo43⟩ := Kd.R_slice HO381.out; subst eo43; obtain ⟨Ao44, co44, eo44⟩ := Kd.R_slice HO385.out; subst eo44) | (go_at_call 20; (with_reducible refine (petrinetref04_Same.calls kj2 _ _ t379 _ _ t383 false _ ?side1 ?side2 ?side3 ?side4 A23.out).mono ?_); (case side1 => exact sq_kc ((Kd.R_reads' HO381.out).2.2)); (case side2 => exact (Kd.R_reads' HO381.out).2.1); (case side3 => exact sq_kc ((Kd.R_reads' HO385.out).2.2)); (case side4 => exact (Kd.R_reads' HO385.out).2.1); rintro e w' ⟨rfl, ⟨nd, rfl⟩⟩))
      go_ret
      exact ⟨by first | rfl | (simp [errW_none, errW_some] <;> rfl) | (simp [*, errW_none, errW_some] <;> rfl), sq_bs HB.out⟩
    ·rw [if_neg c22] at H
     have c22b0 : (t382 == t386) = false := by simpa using c22
     (try (have c22b1 : decide (t382 = t386) = false := by simpa using c22))
     (try (have c22b2 : (t382 == t386) = false := by simpa using c22))
     (try (have c22b3 : ¬ (t382 = t386) := by simpa using c22))
     clear c22
     obtain rfl := Option.some.inj H
     have hnb45 := NB374_375.out
     have hnc45 := NB375_374.out
     have hcz46_0 : wc.cell? ⟨gb374, 0, none⟩ = some (.int .i64 a0_0) := (blk_cell BK374.out 0).trans rfl
     have hcz46_1 : wc.cell? ⟨gb374, 1, none⟩ = some (.slice A0_1 l0_1.length c0_1) := (blk_cell BK374.out 1).trans rfl
     have hcz46_2 : wc.cell? ⟨gb374, 2, none⟩ = some (.slice A0_2 l0_2.length c0_2) := (blk_cell BK374.out 2).trans rfl
     have hfz46_0 := blk_frozen BK374.out 0
     have hfz46_1 := blk_frozen BK374.out 1
     have hfz46_2 := blk_frozen BK374.out 2
     have hcz47_0 : wc.cell? ⟨gb375, 0, none⟩ = some (.int .i64 a1_0) := (blk_cell BK375.out 0).trans rfl
     have hcz47_1 : wc.cell? ⟨gb375, 1, none⟩ = some (.slice A1_1 l1_1.length c1_1) := (blk_cell BK375.out 1).trans rfl
     have hcz47_2 : wc.cell? ⟨gb375, 2, none⟩ = some (.slice A1_2 l1_2.length c1_2) := (blk_cell BK375.out 2).trans rfl
     have hfz47_0 := blk_frozen BK375.out 0
     have hfz47_1 := blk_frozen BK375.out 1
     have hfz47_2 := blk_frozen BK375.out 2
     go_wp2_with (first | ((with_reducible refine gate_callee (f := 18) rfl ?_); refine sq_goes (some 21) Try.func18 #[.agg #[.int .i64 a0_0, .slice A0_1 l0_1.length c0_1, .slice A0_2 l0_2.length c0_2], .agg #[.int .i64 a1_0, .slice A1_1 l1_1.length c1_1, .slice A1_2 l1_2.length c1_2]] ?_; (with_reducible refine (system_Iso.calls kj2 a0_0 _ _ l0_1 _ _ l0_2 a1_0 _ _ l1_1 _ _ l1_2 t379 t382 _ ?side1 ?side2 ?side3 ?side4 ?side5 ?side6 ?side7 ?side8 A20.out).mono ?_); (case side1 => exact sq_kc ((Kd.C_below HR0_1.out HB.out))); (case side2 => exact HC0_1.out); (case side3 => exact sq_kc ((Kd.C_below HR0_2.out HB.out))); (case side4 => exact HC0_2.out); (case side5 => exact sq_kc ((Kd.C_below HR1_1.out HB.out))); (case side6 => exact HC1_1.out); (case side7 => exact sq_kc ((Kd.C_below HR1_2.out HB.out))); (case side8 => exact HC1_2.out); rintro e w48 ⟨v380, rfl, ho0, hb⟩; refine ⟨_, rfl, ?_⟩; have n0_ := Aside0.mk (Kd.R_lower ho0 (below_size (sq_bs HB.out))); have n1_ := Aside0.mk (blk_below (g := gb374) (o := .cells #[.int .i64 a0_0, .slice A0_1 l0_1.length c0_1, .slice A0_2 l0_2.length c0_2] 25 (0, 0)) (sq_bk BK374.out) hb); have n2_ := Aside0.mk (blk_below (g := gb375) (o := .cells #[.int .i64 a1_0, .slice A1_1 l1_1.length c1_1, .slice A1_2 l1_2.length c1_2] 25 (0, 0)) (sq_bk BK375.out) hb); have n3_ := Aside0.mk (below_step (sq_bs HB.out) hb); clear BK374; clear BK375; clear HB; have HO381 := n0_; have BK374 := n1_; have BK375 := n2_; have HB := n3_; clear n0_ n1_ n2_ n3_; (try clear hb); (try clear ho0); have hcz49_0 : w48.cell? ⟨gb374, 0, none⟩ = some (.int .i64 a0_0) := (blk_cell BK374.out 0).trans rfl; have hcz49_1 : w48.cell? ⟨gb374, 1, none⟩ = some (.slice A0_1 l0_1.length c0_1) := (blk_cell BK374.out 1).trans rfl; have hcz49_2 : w48.cell? ⟨gb374, 2, none⟩ = some (.slice A0_2 l0_2.length c0_2) := (blk_cell BK374.out 2).trans rfl; have hfz49_0 := blk_frozen BK374.out 0; have hfz49_1 := blk_frozen BK374.out 1; have hfz49_2 := blk_frozen BK374.out 2; have hcz50_0 : w48.cell? ⟨gb375, 0, none⟩ = some (.int .i64 a1_0) := (blk_cell BK375.out 0).trans rfl; have hcz50_1 : w48.cell? ⟨gb375, 1, none⟩ = some (.slice A1_1 l1_1.length c1_1) := (blk_cell BK375.out 1).trans rfl; have hcz50_2 : w48.cell? ⟨gb375, 2, none⟩ = some (.slice A1_2 l1_2.length c1_2) := (blk_cell BK375.out 2).trans rfl; have hfz50_0 := blk_frozen BK375.out 0; have hfz50_1 := blk_frozen BK375.out 1; have hfz50_2 := blk_frozen BK375.out 2) | ((with_reducible refine gate_callee (f := 19) rfl ?_); refine sq_goes (some 27) Try.func19 #[.agg #[.int .i64 a0_0, .slice A0_1 l0_1.length c0_1, .slice A0_2 l0_2.length c0_2], .agg #[.int .i64 a1_0, .slice A1_1 l1_1.length c1_1, .slice A1_2 l1_2.length c1_2]] ?_; (with_reducible refine (petrinetref45_Iso.calls kj2 a0_0 _ _ l0_1 _ _ l0_2 a1_0 _ _ l1_1 _ _ l1_2 t383 t386 _ ?side1 ?side2 ?side3 ?side4 ?side5 ?side6 ?side7 ?side8 A21.out).mono ?_); (case side1 => exact sq_kc ((Kd.C_below HR0_1.out HB.out))); (case side2 => exact HC0_1.out); (case side3 => exact sq_kc ((Kd.C_below HR0_2.out HB.out))); (case side4 => exact HC0_2.out); (case side5 => exact sq_kc ((Kd.C_below HR1_1.out HB.out))); (case side6 => exact HC1_1.out); (case side7 => exact sq_kc ((Kd.C_below HR1_2.out HB.out))); (case side8 => exact HC1_2.out); rintro e w51 ⟨v384, rfl, ho0, hb⟩; refine ⟨_, rfl, ?_⟩; have n0_ := Aside0.mk (Kd.R_elder' (sq_kr HO381.out) (Kd.R_base ho0) hb); have n1_ := Aside0.mk (Kd.R_lower (Kd.R_new' ho0 (Kd.R_lt (sq_kr HO381.out))) (below_size (sq_bs HB.out))); have n2_ := Aside0.mk (blk_below (g := gb374) (o := .cells #[.int .i64 a0_0, .slice A0_1 l0_1.length c0_1, .slice A0_2 l0_2.length c0_2] 25 (0, 0)) (sq_bk BK374.out) hb); have n3_ := Aside0.mk (blk_below (g := gb375) (o := .cells #[.int .i64 a1_0, .slice A1_1 l1_1.length c1_1, .slice A1_2 l1_2.length c1_2] 25 (0, 0)) (sq_bk BK375.out) hb); have n4_ := Aside0.mk (below_step (sq_bs HB.out) hb); clear HO381; clear BK374; clear BK375; clear HB; have HO381 := n0_; have HO385 := n1_; have BK374 := n2_; have BK375 := n3_; have HB := n4_; clear n0_ n1_ n2_ n3_ n4_; (try clear hb); (try clear ho0)))
     go_ret
     exact ⟨by first | rfl | (simp [errW_none, errW_some] <;> rfl) | (simp [*, errW_none, errW_some] <;> rfl), sq_bs HB.out⟩
end Go.Proofs.Ytcnliampiibpbaa.PAll
