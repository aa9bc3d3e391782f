/- Lean functions for Go functions, each with the proof that the call returns what it says; printed by wip/tools/myprint.py. -/
-- squeezed
-- tight
import Derived.Test.YtcnliampiibpbaaTq
import Derived.Test.YtcnliampiibpbaaPAllx0
import Derived.Test.YtcnliampiibpbaaPAllx13
namespace Go.Proofs.Ytcnliampiibpbaa.PAll
open Go.RowKit Go.Proofs.YtcnliampiibpbaaW.PrintWords Go.Proofs.YtcnliampiibpbaaW.PrintLast Go.Proofs.YtcnliampiibpbaaW.PrintMore
attribute [local go_sem] Instr.field asAgg max2_int min2_int max_two min_two max_three min_three max_four min_four   -- for this text's walks alone
set_option linter.unusedVariables false
set_option linter.unusedSimpArgs false

/-! ### petrinetref45_Next: function 17 -/
def petrinetref45_Next.l0 : Nat → Int → Int → Int → Int → List ByteArray → List (S44) → Option (Int)
 | 0, _, _, _, _, _, _ => none
 | k + 1, x1, x2, x7, x333000, x333001, x333002 => if x7 < (x333002.length : Int) then (if 0 ≤ x7 then (if ((rd_T44 x333002 x7).f0) = x1 then (if ((rd_T44 x333002 x7).f1) = x2 then (some ((rd_T44 x333002 x7).f2)) else (petrinetref45_Next.l0 k x1 x2 (wrap64 (x7 + 1)) x333000 x333001 x333002)) else (petrinetref45_Next.l0 k x1 x2 (wrap64 (x7 + 1)) x333000 x333001 x333002)) else (none)) else (some (-1))
def petrinetref45_Next.f (k : Nat) (a0_0 : Int) (l0_1 : List ByteArray) (l0_2 : List (S44)) (a1 : Int) (a2 : Int) : Option (Int) := (petrinetref45_Valid.f k a0_0 l0_1 l0_2).bind fun t333 => (if t333 = true then (petrinetref45_Next.l0 k a1 a2 0 a0_0 l0_1 l0_2) else (some (-1)))
theorem petrinetref45_Next.mono_l : ∀ k, (∀ y0 y1 y2 y3 y4 y5, LeO (petrinetref45_Next.l0 k y0 y1 y2 y3 y4 y5) (petrinetref45_Next.l0 (k + 1) y0 y1 y2 y3 y4 y5))
 | 0 => fun _ _ _ _ _ _ r h => by simp [petrinetref45_Next.l0] at h
 | k + 1 => by
  have ih0 := petrinetref45_Next.mono_l k
  ·intro y0 y1 y2 y3 y4 y5
   unfold petrinetref45_Next.l0
   repeat' (with_reducible first | exact ih0 _ _ _ _ _ _ | exact petrinetref45_Valid.mono _ _ _ _ | exact LeO.refl _ | exact LeO.none _ | refine LeO.ite ?_ ?_ | refine LeO.bind ?_ (fun _ => ?_))
theorem petrinetref45_Next.mono : ∀ a0 a1 a2 a3 a4 k, LeO (petrinetref45_Next.f k a0 a1 a2 a3 a4) (petrinetref45_Next.f (k + 1) a0 a1 a2 a3 a4) := by
 intro a0 a1 a2 a3 a4 k
 have ih0 := petrinetref45_Next.mono_l k
 unfold petrinetref45_Next.f
 repeat' (with_reducible first | exact ih0 _ _ _ _ _ _ | exact petrinetref45_Valid.mono _ _ _ _ | exact LeO.refl _ | exact LeO.none _ | refine LeO.ite ?_ ?_ | refine LeO.bind ?_ (fun _ => ?_))
set_option maxHeartbeats 8000000 in
set_option maxRecDepth 100000 in
theorem petrinetref45_Next.calls (k : Nat) (a0_0 : Int) (A0_1 : Option Addr) (c0_1 : Nat) (l0_1 : List ByteArray) (A0_2 : Option Addr) (c0_2 : Nat) (l0_2 : List (S44)) (a1 : Int) (a2 : Int) (r : Int) (w : World) (hr0_1 : Kd.C Kd.string w A0_1 l0_1.length l0_1) (hc0_1 : l0_1.length ≤ c0_1) (hr0_2 : Kd.C k44 w A0_2 l0_2.length l0_2) (hc0_2 : l0_2.length ≤ c0_2) (h : petrinetref45_Next.f k a0_0 l0_1 l0_2 a1 a2 = some r) :
  Calls Try.prog 17 #[.agg #[.int .i64 a0_0, .slice A0_1 l0_1.length c0_1, .slice A0_2 l0_2.length c0_2], .int .i64 a1, .int .i64 a2] w fun e w' => e = .returned (.int .i64 r) ∧ Below w.heap.size w w' := by
 have hv30 := Try.underlying30; have hu25 := Try.underlying25; have HR0_1 := Aside0.mk hr0_1; have HC0_1 := Aside0.mk hc0_1; clear hr0_1 hc0_1; have HR0_2 := Aside0.mk hr0_2; have HC0_2 := Aside0.mk hc0_2; clear hr0_2 hc0_2; have HB := Aside0.mk (Below.refl w.heap.size w); have H : ((petrinetref45_Valid.f k a0_0 l0_1 l0_2).bind fun t333 => (if t333 = true then (petrinetref45_Next.l0 k a1 a2 0 a0_0 l0_1 l0_2) else (some (-1)))) = some r := h; clear h; revert H; refine tq_o fun t333 A4 H => ?_; cases t333
 ·replace H := tq_f H; obtain rfl := Option.some.inj H
  go_enter Try.func17, Try.ntmps17
  go_wp2_with (first | ((with_reducible refine gate_dst (N := 3) rfl ?_); refine sq_box 3 #[.int .i64 a0_0, .slice A0_1 l0_1.length c0_1, .slice A0_2 l0_2.length c0_2] 25 ?_; intro gb332 hg w17 hbox hb; have BK332 := Aside0.mk hbox; have GW332 := tq_w HB hg; have GE332 := tq_w HB hg; replace HB := tq_s HB hb; clear hb hbox hg; obtain ⟨hcz18_0, hcz18_1, hcz18_2, hfz18_0, hfz18_1, hfz18_2⟩ := tq_3 (w := w17) BK332) | ((with_reducible refine gate_callee (f := 32) rfl ?_); refine sq_goes (some 9) Try.func32 #[.agg #[.int .i64 a0_0, .slice A0_1 l0_1.length c0_1, .slice A0_2 l0_2.length c0_2]] ?_; (with_reducible refine (petrinetref45_Valid.calls k a0_0 _ _ l0_1 _ _ l0_2 false _ ?s1 ?s2 ?s3 ?s4 A4.out).mono ?_); (case s1 => exact tq_c HR0_1 HB); (case s2 => exact HC0_1.out); (case s3 => exact tq_c HR0_2 HB); (case s4 => exact HC0_2.out); rintro e w19 ⟨rfl, hb⟩; refine ⟨_, rfl, ?_⟩; replace BK332 := tq_k BK332 hb; replace HB := tq_s HB hb; (try clear hb)))
  go_ret
  exact tq_v (sq_bs HB.out)
 replace H := tq_t H; have H' := Aside0.mk H; clear H
 go_enter Try.func17, Try.ntmps17
 go_wp2_with (first | ((with_reducible refine gate_dst (N := 3) rfl ?_); refine sq_box 3 #[.int .i64 a0_0, .slice A0_1 l0_1.length c0_1, .slice A0_2 l0_2.length c0_2] 25 ?_; intro gb332 hg w6 hbox hb; have BK332 := Aside0.mk hbox; have GW332 := tq_w HB hg; have GE332 := tq_w HB hg; replace HB := tq_s HB hb; clear hb hbox hg; obtain ⟨hcz7_0, hcz7_1, hcz7_2, hfz7_0, hfz7_1, hfz7_2⟩ := tq_3 (w := w6) BK332) | ((with_reducible refine gate_callee (f := 32) rfl ?_); refine sq_goes (some 9) Try.func32 #[.agg #[.int .i64 a0_0, .slice A0_1 l0_1.length c0_1, .slice A0_2 l0_2.length c0_2]] ?_; (with_reducible refine (petrinetref45_Valid.calls k a0_0 _ _ l0_1 _ _ l0_2 true _ ?s1 ?s2 ?s3 ?s4 A4.out).mono ?_); (case s1 => exact tq_c HR0_1 HB); (case s2 => exact HC0_1.out); (case s3 => exact tq_c HR0_2 HB); (case s4 => exact HC0_2.out); rintro e w8 ⟨rfl, hb⟩; refine ⟨_, rfl, ?_⟩; replace BK332 := tq_k BK332 hb; replace HB := tq_s HB hb; (try clear hb)))
 go_loopg [7] k (fun kq v7 w' => ∃ (x7_1 : Int), v7 = .int .i64 x7_1 ∧ Aside0 (petrinetref45_Next.l0 kq a1 a2 x7_1 a0_0 l0_1 l0_2 = some r) ∧ Aside0 (kq ≤ k) ∧ Aside0 (w'.heap[gb332]? = some (.cells #[.int .i64 a0_0, (.slice A0_1 l0_1.length c0_1), (.slice A0_2 l0_2.length c0_2)] 25 (0, 0))) ∧ Aside0 (Below w.heap.size w w'))
 case atStart => exact ⟨(0), tq_z, H', ⟨Nat.le_refl _⟩, ⟨sq_bk BK332.out⟩, ⟨sq_bs HB.out⟩⟩
 case round =>
  clear H'
  try clear c5
  try clear hcz7_0
  try clear hcz7_1
  try clear hcz7_2
  try clear hfz7_0
  try clear hfz7_1
  try clear hfz7_2
  obtain ⟨x7_1, rfl, HA, HK1, BK332, HB⟩ := hrel
  cases gk with
  | zero => exact absurd HA.out (by simp [petrinetref45_Next.l0])
  | succ k1 =>
   have H := HA.out; clear HA
   simp only [petrinetref45_Next.l0] at H
   revert H; refine tq_dd (fun c9b0 H => ?_) (fun c9b0 H => ?_); rotate_left
   ·obtain rfl := Option.some.inj H; obtain ⟨hcz16_0, hcz16_1, hcz16_2, hfz16_0, hfz16_1, hfz16_2⟩ := tq_3 (w := wr) BK332
    go_wp2
    go_ret
    exact tq_v (sq_bs HB.out)
   revert H; refine tq_i1 fun c10b0 H => ?_; have HH_ := Aside0.mk H; clear H; obtain ⟨hcz13_0, hcz13_1, hcz13_2, hfz13_0, hfz13_1, hfz13_2⟩ := tq_3 (w := wr) BK332; have p334 : 0 ≤ (x7_1 : Int) := sq_d; have q334 : x7_1 < (l0_2.length : Int) := sq_d; have LQ334 := Aside0.mk q334; obtain ⟨ad334, e334, hx334_0, hx334_1, hx334_2⟩ := at_T44 HR0_2.out x7_1 p334 q334; cases e334; replace hx334_0 := tq_hx HB hx334_0; replace hx334_1 := tq_hx HB hx334_1; replace hx334_2 := tq_hx HB hx334_2; replace p334 := eq_true p334; replace q334 := eq_true q334; have H := HH_.out; clear HH_; revert H; refine tq_rr (fun c11 H => ?_) (fun c11 H => ?_); rotate_left
   ·obtain ⟨c11b0, c11b1⟩ := tq_n c11; have H' := Aside0.mk H; clear H
    go_wp2
    go_roundg k1
    case measure => have := HK1.out; omega
    case rel => exact ⟨(wrap64 (x7_1 + 1)), tq_z, H', ⟨by have := HK1.out; omega⟩, ⟨sq_bk BK332.out⟩, ⟨sq_bs HB.out⟩⟩
   obtain ⟨c11b0, c11b1⟩ := tq_e c11; clear c11; have HH_ := Aside0.mk H; clear H; have p335 : 0 ≤ (x7_1 : Int) := sq_d; have q335 : x7_1 < (l0_2.length : Int) := sq_d; have LQ335 := Aside0.mk q335; obtain ⟨ad335, e335, hx335_0, hx335_1, hx335_2⟩ := at_T44 HR0_2.out x7_1 p335 q335; obtain rfl : ad334 = ad335 := (by injection e335); replace hx335_0 := tq_hx HB hx335_0; replace hx335_1 := tq_hx HB hx335_1; replace hx335_2 := tq_hx HB hx335_2; replace p335 := eq_true p335; replace q335 := eq_true q335; have H := HH_.out; clear HH_; revert H; refine tq_rr (fun c12 H => ?_) (fun c12 H => ?_); rotate_left
   ·obtain ⟨c12b0, c12b1⟩ := tq_n c12; have H' := Aside0.mk H; clear H
    go_wp2
    go_roundg k1
    case measure => have := HK1.out; omega
    case rel => exact ⟨(wrap64 (x7_1 + 1)), tq_z, H', ⟨by have := HK1.out; omega⟩, ⟨sq_bk BK332.out⟩, ⟨sq_bs HB.out⟩⟩
   obtain ⟨c12b0, c12b1⟩ := tq_e c12; clear c12; obtain rfl := Option.some.inj H; have p336 : 0 ≤ (x7_1 : Int) := sq_d; have q336 : x7_1 < (l0_2.length : Int) := sq_d; have LQ336 := Aside0.mk q336; obtain ⟨ad336, e336, hx336_0, hx336_1, hx336_2⟩ := at_T44 HR0_2.out x7_1 p336 q336; obtain rfl : ad334 = ad336 := (by injection e336); replace hx336_0 := tq_hx HB hx336_0; replace hx336_1 := tq_hx HB hx336_1; replace hx336_2 := tq_hx HB hx336_2; replace p336 := eq_true p336; replace q336 := eq_true q336
   go_wp2
   go_ret
   exact tq_v (sq_bs HB.out)
end Go.Proofs.Ytcnliampiibpbaa.PAll
