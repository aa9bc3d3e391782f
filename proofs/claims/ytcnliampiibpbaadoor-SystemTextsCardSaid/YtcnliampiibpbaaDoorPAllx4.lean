/- Lean functions for Go functions, each with the proof that the call returns what it says; printed by wip/tools/myprint.py. -/
-- squeezed
-- tight
import Derived.Test.YtcnliampiibpbaaDoorTq
import Derived.Test.YtcnliampiibpbaaDoorPAllx0
import Derived.Test.YtcnliampiibpbaaDoorPAllx3
namespace Go.Proofs.YtcnliampiibpbaaDoor.PAll
open Go.RowKit Go.Proofs.YtcnliampiibpbaaDoorW.PrintWords Go.Proofs.YtcnliampiibpbaaDoorW.PrintLast Go.Proofs.YtcnliampiibpbaaDoorW.PrintMore
attribute [local go_sem] Instr.field asAgg max2_int min2_int max_two min_two max_three min_three max_four min_four   -- for this text's walks alone
set_option linter.unusedVariables false
set_option linter.unusedSimpArgs false

/-! ### system_Check: function 18 -/
mutual
def system_Check.j0 : Nat → Bool → Int → List ByteArray → List (S46) → Option (Int × Int)
 | 0, _, _, _, _ => none
 | k + 1, x23, x106000, x106001, x106002 => if x23 = true then (some (2, 0)) else (system_Check.l0 k x106001 (x106001.length : Int) 0 x106000 x106001 x106002)
def system_Check.l0 : Nat → List ByteArray → Int → Int → Int → List ByteArray → List (S46) → Option (Int × Int)
 | 0, _, _, _, _, _, _ => none
 | k + 1, x26, x27, x28, x106000, x106001, x106002 => if x28 < x27 then (if 0 ≤ x28 then (if x28 < (x26.length : Int) then ((system_name.f (rdOf ByteArray.empty x26 x28)).bind fun t108 => (if t108 = true then (if x28 ≤ (x106001.length : Int) then (system_Check.l1 k x28 (rdOf ByteArray.empty x26 x28) x26 x27 x28 (x106001.take (x28 : Int).toNat) ((x106001.take (x28 : Int).toNat).length : Int) 0 x106000 x106001 x106002) else (none)) else (some (5, x28)))) else (none)) else (none)) else (system_Check.l2 k x106002 (x106002.length : Int) 0 x106000 x106001 x106002)
def system_Check.l1 : Nat → Int → ByteArray → List ByteArray → Int → Int → List ByteArray → Int → Int → Int → List ByteArray → List (S46) → Option (Int × Int)
 | 0, _, _, _, _, _, _, _, _, _, _, _ => none
 | k + 1, x3, x4, x26, x27, x28, x41, x42, x43, x106000, x106001, x106002 => if x43 < x42 then (if 0 ≤ x43 then (if x43 < (x41.length : Int) then (if x4.toList = (rdOf ByteArray.empty x41 x43).toList then (some (6, x3)) else (system_Check.l1 k x3 x4 x26 x27 x28 x41 x42 (wrap64 (x43 + 1)) x106000 x106001 x106002)) else (none)) else (none)) else (system_Check.l0 k x26 x27 (wrap64 (x28 + 1)) x106000 x106001 x106002)
def system_Check.l2 : Nat → List (S46) → Int → Int → Int → List ByteArray → List (S46) → Option (Int × Int)
 | 0, _, _, _, _, _, _ => none
 | k + 1, x55, x56, x57, x106000, x106001, x106002 => if x57 < x56 then (if 0 ≤ x57 then (if x57 < (x55.length : Int) then ((system_Check_1.f ((rd_T46 x55 x57).f0) x106000).bind fun t113 => (if t113 = true then ((system_Check_1.f ((rd_T46 x55 x57).f2) x106000).bind fun t114 => (if t114 = true then ((system_Check_1.f ((rd_T46 x55 x57).f1) (x106001.length : Int)).bind fun t115 => (system_Check.j4 k x57 x55 x56 x57 (!t115) x106000 x106001 x106002 ((rd_T46 x55 x57).f0) ((rd_T46 x55 x57).f1) ((rd_T46 x55 x57).f2))) else (system_Check.j4 k x57 x55 x56 x57 true x106000 x106001 x106002 ((rd_T46 x55 x57).f0) ((rd_T46 x55 x57).f1) ((rd_T46 x55 x57).f2)))) else (system_Check.j4 k x57 x55 x56 x57 true x106000 x106001 x106002 ((rd_T46 x55 x57).f0) ((rd_T46 x55 x57).f1) ((rd_T46 x55 x57).f2)))) else (none)) else (none)) else (some (0, 0))
def system_Check.j4 : Nat → Int → List (S46) → Int → Int → Bool → Int → List ByteArray → List (S46) → Int → Int → Int → Option (Int × Int)
 | 0, _, _, _, _, _, _, _, _, _, _, _ => none
 | k + 1, x8, x55, x56, x57, x87, x106000, x106001, x106002, x113000, x113001, x113002 => if x87 = true then (some (1, x8)) else (if x8 > 0 then (if 0 ≤ (wrap64 (x8 - 1)) then (if (wrap64 (x8 - 1)) < (x106002.length : Int) then ((system_before.f ((rd_T46 x106002 (wrap64 (x8 - 1))).f0) ((rd_T46 x106002 (wrap64 (x8 - 1))).f1) ((rd_T46 x106002 (wrap64 (x8 - 1))).f2) x113000 x113001 x113002).bind fun t117 => (if t117 = true then (system_Check.l2 k x55 x56 (wrap64 (x57 + 1)) x106000 x106001 x106002) else (some (8, x8)))) else (none)) else (none)) else (system_Check.l2 k x55 x56 (wrap64 (x57 + 1)) x106000 x106001 x106002))
end
def system_Check.f (k : Nat) (a0_0 : Int) (l0_1 : List ByteArray) (l0_2 : List (S46)) : Option (Int × Int) := if a0_0 < 1 then (system_Check.j0 k true a0_0 l0_1 l0_2) else (if a0_0 > 200 then (system_Check.j0 k true a0_0 l0_1 l0_2) else (system_Check.j0 k (decide ((l0_1.length : Int) > 24)) a0_0 l0_1 l0_2))
theorem system_Check.mono_l : ∀ k, (∀ y0 y1 y2 y3, LeO (system_Check.j0 k y0 y1 y2 y3) (system_Check.j0 (k + 1) y0 y1 y2 y3)) ∧ (∀ y0 y1 y2 y3 y4 y5, LeO (system_Check.l0 k y0 y1 y2 y3 y4 y5) (system_Check.l0 (k + 1) y0 y1 y2 y3 y4 y5)) ∧ (∀ y0 y1 y2 y3 y4 y5 y6 y7 y8 y9 y10, LeO (system_Check.l1 k y0 y1 y2 y3 y4 y5 y6 y7 y8 y9 y10) (system_Check.l1 (k + 1) y0 y1 y2 y3 y4 y5 y6 y7 y8 y9 y10)) ∧ (∀ y0 y1 y2 y3 y4 y5, LeO (system_Check.l2 k y0 y1 y2 y3 y4 y5) (system_Check.l2 (k + 1) y0 y1 y2 y3 y4 y5)) ∧ (∀ y0 y1 y2 y3 y4 y5 y6 y7 y8 y9 y10, LeO (system_Check.j4 k y0 y1 y2 y3 y4 y5 y6 y7 y8 y9 y10) (system_Check.j4 (k + 1) y0 y1 y2 y3 y4 y5 y6 y7 y8 y9 y10))
 | 0 => ⟨fun _ _ _ _ r h => by simp [system_Check.j0] at h, fun _ _ _ _ _ _ r h => by simp [system_Check.l0] at h, fun _ _ _ _ _ _ _ _ _ _ _ r h => by simp [system_Check.l1] at h, fun _ _ _ _ _ _ r h => by simp [system_Check.l2] at h, fun _ _ _ _ _ _ _ _ _ _ _ r h => by simp [system_Check.j4] at h⟩
 | k + 1 => by
  obtain ⟨ih0, ih1, ih2, ih3, ih4⟩ := system_Check.mono_l k
  refine ⟨?_, ?_, ?_, ?_, ?_⟩
  all_goals intros
  all_goals first | unfold system_Check.j0 | unfold system_Check.l0 | unfold system_Check.l1 | unfold system_Check.l2 | unfold system_Check.j4
  all_goals repeat' (with_reducible first | exact ih0 _ _ _ _ | exact ih1 _ _ _ _ _ _ | exact ih2 _ _ _ _ _ _ _ _ _ _ _ | exact ih3 _ _ _ _ _ _ | exact ih4 _ _ _ _ _ _ _ _ _ _ _ | exact LeO.refl _ | exact LeO.none _ | refine LeO.ite ?_ ?_ | refine LeO.bind ?_ (fun _ => ?_))
theorem system_Check.mono : ∀ a0 a1 a2 k, LeO (system_Check.f k a0 a1 a2) (system_Check.f (k + 1) a0 a1 a2) := by
 intro a0 a1 a2 k
 obtain ⟨ih0, ih1, ih2, ih3, ih4⟩ := system_Check.mono_l k
 unfold system_Check.f
 repeat' (with_reducible first | exact ih0 _ _ _ _ | exact ih1 _ _ _ _ _ _ | exact ih2 _ _ _ _ _ _ _ _ _ _ _ | exact ih3 _ _ _ _ _ _ | exact ih4 _ _ _ _ _ _ _ _ _ _ _ | exact LeO.refl _ | exact LeO.none _ | refine LeO.ite ?_ ?_ | refine LeO.bind ?_ (fun _ => ?_))
def system_Check.T21 : Bool × List (List Nat × List Nat) := (true, [([], []), ([0], [0]), ([1], [1]), ([2], [2]), ([3, 2], [2, 3]), ([2], [2]), ([5, 2], [2, 5]), ([4, 6, 2], [2, 4, 6]), ([7, 2], [2, 7]), ([2], [2]), ([8, 9, 2, 2], [2, 8, 9]), ([10, 2], [2, 10]), ([2, 11], [2, 11])])
def system_Check.B21 : List Nat := [0, 1, 3, 7, 15, 7, 39, 127, 255, 7, 1023, 2047, 4095]
theorem system_Check.tab21 : rtab .any (opsOf Tryd.f18 21) = system_Check.T21 := by kernel_rfl
theorem system_Check.bits21 : waitsOk system_Check.T21.2 system_Check.B21 = true := by kernel_rfl
set_option maxHeartbeats 8000000 in
set_option maxRecDepth 100000 in
theorem system_Check.calls (k : Nat) (a0_0 : Int) (A0_1 : Option Addr) (c0_1 : Nat) (l0_1 : List ByteArray) (A0_2 : Option Addr) (c0_2 : Nat) (l0_2 : List (S46)) (r1 : Int) (r2 : Int) (w : World) (hr0_1 : Kd.C Kd.string w A0_1 l0_1.length l0_1) (hc0_1 : l0_1.length ≤ c0_1) (hr0_2 : Kd.C k46 w A0_2 l0_2.length l0_2) (hc0_2 : l0_2.length ≤ c0_2) (h : system_Check.f k a0_0 l0_1 l0_2 = some (r1, r2)) :
  Calls Tryd.prog 18 #[.agg #[.int .i64 a0_0, .slice A0_1 l0_1.length c0_1, .slice A0_2 l0_2.length c0_2]] w fun e w' => e = .returned (.agg #[.int .i64 r1, .int .i64 r2]) ∧ Below w.heap.size w w' := by
 have hv30 := Tryd.underlying30; have hu25 := Tryd.underlying25; have hu30 := Tryd.underlying30; have hu46 := Tryd.underlying46; have HR0_1 := Aside0.mk hr0_1; have HC0_1 := Aside0.mk hc0_1; clear hr0_1 hc0_1; have HR0_2 := Aside0.mk hr0_2; have HC0_2 := Aside0.mk hc0_2; clear hr0_2 hc0_2; have HB := Aside0.mk (Below.refl w.heap.size w); have H : (if a0_0 < 1 then (system_Check.j0 k true a0_0 l0_1 l0_2) else (if a0_0 > 200 then (system_Check.j0 k true a0_0 l0_1 l0_2) else (system_Check.j0 k (decide ((l0_1.length : Int) > 24)) a0_0 l0_1 l0_2))) = some (r1, r2) := h; clear h; have HC2 := Aside0.mk H; clear H
 go_enter Tryd.func18, Tryd.ntmps18
 go_upto_region 1 with (first | ((with_reducible refine gate_dst (N := 1) rfl ?_); (try (refine gate_guard (by rfl) ?_; dsimp only)); refine sq_box 1 #[.int .i64 a0_0, .slice A0_1 l0_1.length c0_1, .slice A0_2 l0_2.length c0_2] 25 ?_; intro gb105 hg w3 hbox hb; have BK105 := Aside0.mk hbox; have GW105 := tq_w HB hg; have GE105 := tq_w HB hg; replace HB := tq_s HB hb; clear hb hbox hg) | ((with_reducible refine gate_dst (N := 2) rfl ?_); (try (refine gate_guard (by rfl) ?_; dsimp only)); refine sq_box 2 #[.int .i64 0, .int .i64 0] 30 ?_; intro gb106 hg w4 hbox hb; have BK106 := Aside0.mk hbox; have GW106 := tq_w HB hg; have GE106 := tq_w HB hg; replace HB := tq_s HB hb; have NB105_106 := tq_nl BK105 hg; have NB106_105 := tq_ng BK105 hg; replace BK105 := tq_k BK105 hb; clear hb hbox hg))
 (try simp only [Act.put, List.setIfInBounds_toArray, List.set_cons_zero, List.set_cons_succ])
 go_cut [23] (fun v23 wc => ∃ (kq : Nat) (x23_1 : Bool), v23 = .bool x23_1 ∧ Aside0 (system_Check.j0 kq x23_1 a0_0 l0_1 l0_2 = some (r1, r2)) ∧ Aside0 (kq ≤ k) ∧ Aside0 (wc.heap[gb105]? = some (.cells #[.int .i64 a0_0, (.slice A0_1 l0_1.length c0_1), (.slice A0_2 l0_2.length c0_2)] 25 (0, 0))) ∧ Aside0 (wc.heap[gb106]? = some (.cells #[.int .i64 0, .int .i64 0] 30 (0, 0))) ∧ Aside0 (Below w.heap.size w wc))
 case first =>
  have H := HC2.out; clear HC2; have HH_ := Aside0.mk H; clear H; have hnb6 := NB105_106.out; have hnc6 := NB106_105.out; obtain ⟨hcz7_0, hcz7_1, hcz7_2, hfz7_0, hfz7_1, hfz7_2⟩ := tq_3 (w := w4) BK105; have H := HH_.out; clear HH_; revert H; refine tq_dd (fun c5b0 H => ?_) (fun c5b0 H => ?_)
  ·(first | rw [c5b0] | (simp only [i64_w, i32_w]; rw [c5b0]) | skip)
   have H' := Aside0.mk H; clear H
   go_wp2
   go_meet
   case rel => exact ⟨_, (true), tq_z, H', ⟨by first | omega | exact Nat.le_refl _⟩, ⟨sq_bk BK105.out⟩, ⟨sq_bk BK106.out⟩, ⟨sq_bs HB.out⟩⟩
  (first | rw [c5b0] | (simp only [i64_w, i32_w]; rw [c5b0]) | skip)
  revert H; refine tq_rr (fun c8 H => ?_) (fun c8 H => ?_); rotate_left
  ·have c8b0 : decide (200 < a0_0) = false := decide_eq_false c8; clear c8; have H' := Aside0.mk H; clear H
   go_wp2
   go_meet
   case rel => exact ⟨_, (decide ((l0_1.length : Int) > 24)), tq_z, H', ⟨by first | omega | exact Nat.le_refl _⟩, ⟨sq_bk BK105.out⟩, ⟨sq_bk BK106.out⟩, ⟨sq_bs HB.out⟩⟩
  have c8b0 : decide (200 < a0_0) = true := decide_eq_true c8; clear c8; have H' := Aside0.mk H; clear H
  go_wp2
  go_meet
  case rel => exact ⟨_, (true), tq_z, H', ⟨by first | omega | exact Nat.le_refl _⟩, ⟨sq_bk BK105.out⟩, ⟨sq_bk BK106.out⟩, ⟨sq_bs HB.out⟩⟩
 case rest =>
  clear HC2; obtain ⟨kq, x23_1, rfl, HA, HJ1, BK105, BK106, HB⟩ := hcut
  cases kq with
  | zero => exact absurd HA.out (by simp [system_Check.j0])
  | succ kj1 =>
   have H := HA.out; clear HA
   simp only [system_Check.j0] at H
   cases x23_1; rotate_left
   ·replace H := tq_t H
    simp only [Option.some.injEq, Prod.mk.injEq] at H
    obtain ⟨rfl, rfl⟩ := H; have hnb14 := NB106_105.out; have hnc14 := NB105_106.out; obtain ⟨hcz15_0, hcz15_1, hfz15_0, hfz15_1⟩ := tq_2 (w := wc) BK106
    go_wp2
    refine bodyPost_ret (results_cell_row rfl _ _ gb106 30 #[.int .i64 2, .int .i64 0] (0, 0) _ rfl (by refine tq_b ?_; refine blk_put (cs := #[.int .i64 2, .int .i64 0]) ?_ 1 _ rfl; refine tq_b ?_; refine blk_put (cs := #[.int .i64 0, .int .i64 0]) ?_ 0 _ rfl; refine tq_b ?_; exact BK106.out) Tryd.underlying30 rfl (by kernel_rfl)) rfl ?_
    exact tq_v (sq_bs HB.out)
   replace H := tq_f H; have H' := Aside0.mk H; clear H; have hnb16 := NB105_106.out; have hnc16 := NB106_105.out; obtain ⟨hcz17_0, hcz17_1, hcz17_2, hfz17_0, hfz17_1, hfz17_2⟩ := tq_3 (w := wc) BK105
   go_wp2
   go_loopg [28] kj1 (fun kq v28 w' => ∃ (x28_2 : Int) (x107000_2 : Int) (x107001_2 : Int), v28 = .int .i64 x28_2 ∧ Aside0 (system_Check.l0 kq l0_1 (l0_1.length : Int) x28_2 a0_0 l0_1 l0_2 = some (r1, r2)) ∧ Aside0 (kq ≤ kj1) ∧ Aside0 (w'.heap[gb105]? = some (.cells #[.int .i64 a0_0, (.slice A0_1 l0_1.length c0_1), (.slice A0_2 l0_2.length c0_2)] 25 (0, 0))) ∧ Aside0 (w'.heap[gb106]? = some (.cells #[.int .i64 x107000_2, .int .i64 x107001_2] 30 (0, 0))) ∧ Aside0 (Below w.heap.size w w'))
   case atStart => exact ⟨(0), (0), (0), tq_z, H', ⟨Nat.le_refl _⟩, ⟨sq_bk BK105.out⟩, ⟨sq_bk BK106.out⟩, ⟨sq_bs HB.out⟩⟩
   case round =>
    clear H'
    try clear c13
    try clear hcz17_0
    try clear hcz17_1
    try clear hcz17_2
    try clear hfz17_0
    try clear hfz17_1
    try clear hfz17_2
    obtain ⟨x28_2, x107000_2, x107001_2, rfl, HA, HK2, BK105, BK106, HB⟩ := hrel
    cases gk with
    | zero => exact absurd HA.out (by simp [system_Check.l0])
    | succ k2 =>
     have H := HA.out; clear HA
     simp only [system_Check.l0] at H
     revert H; refine tq_dd (fun c18b0 H => ?_) (fun c18b0 H => ?_)
     ·revert H; refine tq_i1 fun c19b0 H => ?_; revert H; refine tq_i1 fun c20b0 H => ?_; revert H; refine tq_o fun t108 A21 H => ?_; cases t108
      ·replace H := tq_f H
       simp only [Option.some.injEq, Prod.mk.injEq] at H
       obtain ⟨rfl, rfl⟩ := H; have p107 : 0 ≤ (x28_2 : Int) := sq_d; have q107 : x28_2 < (l0_1.length : Int) := sq_d; have LQ107 := Aside0.mk q107; obtain ⟨ad107, e107, hx107_0⟩ := Kd.at_string HR0_1.out x28_2 p107 q107; cases e107; replace hx107_0 := tq_hx HB hx107_0; replace p107 := eq_true p107; replace q107 := eq_true q107
       go_wp2_with (first | ((with_reducible refine gate_callee (f := 32) rfl ?_); refine sq_goes (some 34) Tryd.func32 #[.string (rdOf ByteArray.empty l0_1 x28_2)] ?_; (with_reducible refine (system_name.calls (rdOf ByteArray.empty l0_1 x28_2) false _ A21.out).mono ?_); rintro e w35 ⟨rfl, hb⟩; refine ⟨_, rfl, ?_⟩; replace BK105 := tq_k BK105 hb; replace BK106 := tq_k BK106 hb; replace HB := tq_s HB hb; (try clear hb); have hnb36 := NB106_105.out; have hnc36 := NB105_106.out; obtain ⟨hcz37_0, hcz37_1, hfz37_0, hfz37_1⟩ := tq_2 (w := w35) BK106))
       refine bodyPost_ret (results_cell_row rfl _ _ gb106 30 #[.int .i64 5, .int .i64 x28_2] (0, 0) _ rfl (by refine tq_b ?_; refine blk_put (cs := #[.int .i64 5, .int .i64 x107001_2]) ?_ 1 _ rfl; refine tq_b ?_; refine blk_put (cs := #[.int .i64 x107000_2, .int .i64 x107001_2]) ?_ 0 _ rfl; refine tq_b ?_; exact BK106.out) Tryd.underlying30 rfl (by kernel_rfl)) rfl ?_
       exact tq_v (sq_bs HB.out)
      replace H := tq_t H; have c23b0 := eq_true (sq_d : 0 ≤ x28_2); revert H; refine tq_ie fun c24b0 c24b1 H => ?_; have H' := Aside0.mk H; clear H; have p107 : 0 ≤ (x28_2 : Int) := sq_d; have q107 : x28_2 < (l0_1.length : Int) := sq_d; have LQ107 := Aside0.mk q107; obtain ⟨ad107, e107, hx107_0⟩ := Kd.at_string HR0_1.out x28_2 p107 q107; cases e107; replace hx107_0 := tq_hx HB hx107_0; replace p107 := eq_true p107; replace q107 := eq_true q107
      go_wp2_with (first | ((with_reducible refine gate_callee (f := 32) rfl ?_); refine sq_goes (some 34) Tryd.func32 #[.string (rdOf ByteArray.empty l0_1 x28_2)] ?_; (with_reducible refine (system_name.calls (rdOf ByteArray.empty l0_1 x28_2) true _ A21.out).mono ?_); rintro e w25 ⟨rfl, hb⟩; refine ⟨_, rfl, ?_⟩; replace BK105 := tq_k BK105 hb; replace BK106 := tq_k BK106 hb; replace HB := tq_s HB hb; (try clear hb); have hnb26 := NB105_106.out; have hnc26 := NB106_105.out; obtain ⟨hcz27_0, hcz27_1, hcz27_2, hfz27_0, hfz27_1, hfz27_2⟩ := tq_3 (w := w25) BK105; obtain ⟨i028, hi028, _, hsz28, _⟩ := info_parts info9; obtain ⟨hcut28, hA28, hC28⟩ := print_take_of (P := Tryd.prog) Value.string (⟨#[]⟩ : ByteArray) 22 9 .i64 Tryd.underlying22 hi028 hsz28 (some ad107) c0_1 l0_1 x28_2 sq_d sq_d HC0_1.out; have HR109 := Aside0.mk (Kd.C_of_reads (h1 := fun _ => rfl) (hA28 _ (Kd.reads_of_C HR0_1.out))); have HC109 := Aside0.mk hC28; clear hA28 hC28 hi028 hsz28))
      go_loopg [43] k2 (fun kq v43 w' => ∃ (x43_3 : Int) (x107000_3 : Int) (x107001_3 : Int), v43 = .int .i64 x43_3 ∧ Aside0 (system_Check.l1 kq x28_2 (rdOf ByteArray.empty l0_1 x28_2) l0_1 (l0_1.length : Int) x28_2 (l0_1.take (x28_2 : Int).toNat) ((l0_1.take (x28_2 : Int).toNat).length : Int) x43_3 a0_0 l0_1 l0_2 = some (r1, r2)) ∧ Aside0 (kq ≤ k2) ∧ Aside0 (w'.heap[gb105]? = some (.cells #[.int .i64 a0_0, (.slice (some ad107) l0_1.length c0_1), (.slice A0_2 l0_2.length c0_2)] 25 (0, 0))) ∧ Aside0 (w'.heap[gb106]? = some (.cells #[.int .i64 x107000_3, .int .i64 x107001_3] 30 (0, 0))) ∧ Aside0 (Below w.heap.size w w'))
      case atStart => exact ⟨(0), (x107000_2), (x107001_2), tq_z, H', ⟨Nat.le_refl _⟩, ⟨sq_bk BK105.out⟩, ⟨sq_bk BK106.out⟩, ⟨sq_bs HB.out⟩⟩
      case round =>
       clear H'
       try clear c18b0
       try clear c19b0
       try clear c20b0
       try clear c22
       try clear c23b0
       try clear c24b0
       try clear c24b1
       try clear hcz27_0
       try clear hcz27_1
       try clear hcz27_2
       try clear hfz27_0
       try clear hfz27_1
       try clear hfz27_2
       try clear hx107_0
       try clear p107
       try clear q107
       obtain ⟨x43_3, x107000_3, x107001_3, rfl, HA, HK3, BK105, BK106, HB⟩ := hrel
       cases gk with
       | zero => exact absurd HA.out (by simp [system_Check.l1])
       | succ k3 =>
        have H := HA.out; clear HA
        simp only [system_Check.l1] at H
        revert H; refine tq_rr (fun c29 H => ?_) (fun c29 H => ?_); rotate_left
        ·have c29b0 : decide (x43_3 < ((l0_1.take (x28_2 : Int).toNat).length : Int)) = false := decide_eq_false c29
         (try (have c29q : decide (x43_3 < max x28_2 0) = false := (by have w0_ := LQ107.out; simp only [decide_eq_true_eq, decide_eq_false_iff_not, List.length_take] at *; omega)))
         (try (have c29t : (x43_3 < max x28_2 0) = False := eq_false (of_decide_eq_false c29q)))
         clear c29; have H' := Aside0.mk H; clear H
         go_wp2
         go_roundg k3
         case measure => have := HJ1.out; have := HK2.out; have := HK3.out; omega
         case rel => exact ⟨(wrap64 (x28_2 + 1)), (x107000_3), (x107001_3), tq_z, H', ⟨by have := HJ1.out; have := HK2.out; have := HK3.out; omega⟩, ⟨sq_bk BK105.out⟩, ⟨sq_bk BK106.out⟩, ⟨sq_bs HB.out⟩⟩
        have c29b0 : decide (x43_3 < ((l0_1.take (x28_2 : Int).toNat).length : Int)) = true := decide_eq_true c29
        (try (have c29q : decide (x43_3 < max x28_2 0) = true := (by have w0_ := LQ107.out; simp only [decide_eq_true_eq, decide_eq_false_iff_not, List.length_take] at *; omega)))
        (try (have c29t : (x43_3 < max x28_2 0) = True := eq_true (of_decide_eq_true c29q)))
        clear c29; revert H; refine tq_i1 fun c30b0 H => ?_; revert H; refine tq_i fun c31 H => ?_; have c31b0 : decide (x43_3 < ((l0_1.take (x28_2 : Int).toNat).length : Int)) = true := decide_eq_true c31
        (try (have c31q : decide (x43_3 < max x28_2 0) = true := (by have w0_ := LQ107.out; simp only [decide_eq_true_eq, decide_eq_false_iff_not, List.length_take] at *; omega)))
        (try (have c31t : (x43_3 < max x28_2 0) = True := eq_true (of_decide_eq_true c31q)))
        clear c31; have HH_ := Aside0.mk H; clear H; have p110 : 0 ≤ (x43_3 : Int) := sq_d; have q110 : x43_3 < ((l0_1.take (x28_2 : Int).toNat).length : Int) := sq_d; obtain ⟨ad110, e110, hx110_0⟩ := Kd.at_string HR109.out x43_3 p110 q110; obtain rfl : ad107 = ad110 := (by injection e110); replace hx110_0 := tq_hx HB hx110_0; replace p110 := eq_true p110; replace q110 := eq_true q110; have H := HH_.out; clear HH_; revert H; refine tq_rr (fun c32 H => ?_) (fun c32 H => ?_); rotate_left
        ·obtain ⟨c32b0, c32b1⟩ := tq_n c32; have H' := Aside0.mk H; clear H
         go_wp2
         go_roundg k3
         case measure => have := HJ1.out; have := HK2.out; have := HK3.out; omega
         case rel => exact ⟨(wrap64 (x43_3 + 1)), (x107000_3), (x107001_3), tq_z, H', ⟨by have := HJ1.out; have := HK2.out; have := HK3.out; omega⟩, ⟨sq_bk BK105.out⟩, ⟨sq_bk BK106.out⟩, ⟨sq_bs HB.out⟩⟩
        obtain ⟨c32b0, c32b1⟩ := tq_e c32; clear c32
        simp only [Option.some.injEq, Prod.mk.injEq] at H
        obtain ⟨rfl, rfl⟩ := H; have hnb33 := NB106_105.out; have hnc33 := NB105_106.out; obtain ⟨hcz34_0, hcz34_1, hfz34_0, hfz34_1⟩ := tq_2 (w := wr) BK106
        go_wp2
        refine bodyPost_ret (results_cell_row rfl _ _ gb106 30 #[.int .i64 6, .int .i64 x28_2] (0, 0) _ rfl (by refine tq_b ?_; refine blk_put (cs := #[.int .i64 6, .int .i64 x107001_3]) ?_ 1 _ rfl; refine tq_b ?_; refine blk_put (cs := #[.int .i64 x107000_3, .int .i64 x107001_3]) ?_ 0 _ rfl; refine tq_b ?_; exact BK106.out) Tryd.underlying30 rfl (by kernel_rfl)) rfl ?_
        exact tq_v (sq_bs HB.out)
     have H' := Aside0.mk H; clear H; have hnb38 := NB105_106.out; have hnc38 := NB106_105.out; obtain ⟨hcz39_0, hcz39_1, hcz39_2, hfz39_0, hfz39_1, hfz39_2⟩ := tq_3 (w := wr) BK105
     go_wp2
     go_loopg [57] k2 (fun kq v57 w' => ∃ (x57_3 : Int) (x107000_3 : Int) (x107001_3 : Int), v57 = .int .i64 x57_3 ∧ Aside0 (system_Check.l2 kq l0_2 (l0_2.length : Int) x57_3 a0_0 l0_1 l0_2 = some (r1, r2)) ∧ Aside0 (kq ≤ k2) ∧ Aside0 (w'.heap[gb105]? = some (.cells #[.int .i64 a0_0, (.slice A0_1 l0_1.length c0_1), (.slice A0_2 l0_2.length c0_2)] 25 (0, 0))) ∧ Aside0 (w'.heap[gb106]? = some (.cells #[.int .i64 x107000_3, .int .i64 x107001_3] 30 (0, 0))) ∧ Aside0 (Below w.heap.size w w'))
     case atStart => exact ⟨(0), (x107000_2), (x107001_2), tq_z, H', ⟨Nat.le_refl _⟩, ⟨sq_bk BK105.out⟩, ⟨sq_bk BK106.out⟩, ⟨sq_bs HB.out⟩⟩
     case round =>
      clear H'
      try clear c18b0
      try clear hcz39_0
      try clear hcz39_1
      try clear hcz39_2
      try clear hfz39_0
      try clear hfz39_1
      try clear hfz39_2
      obtain ⟨x57_3, x107000_3, x107001_3, rfl, HA, HK3, BK105, BK106, HB⟩ := hrel
      cases gk with
      | zero => exact absurd HA.out (by simp [system_Check.l2])
      | succ k3 =>
       have H := HA.out; clear HA
       simp only [system_Check.l2] at H
       revert H; refine tq_dd (fun c40b0 H => ?_) (fun c40b0 H => ?_); rotate_left
       ·simp only [Option.some.injEq, Prod.mk.injEq] at H
        obtain ⟨rfl, rfl⟩ := H; have hnb86 := NB106_105.out; have hnc86 := NB105_106.out; obtain ⟨hcz87_0, hcz87_1, hfz87_0, hfz87_1⟩ := tq_2 (w := wr) BK106
        go_wp2
        refine bodyPost_ret (results_cell_row rfl _ _ gb106 30 #[.int .i64 0, .int .i64 0] (0, 0) _ rfl (by refine tq_b ?_; refine blk_put (cs := #[.int .i64 0, .int .i64 x107001_3]) ?_ 1 _ rfl; refine tq_b ?_; refine blk_put (cs := #[.int .i64 x107000_3, .int .i64 x107001_3]) ?_ 0 _ rfl; refine tq_b ?_; exact BK106.out) Tryd.underlying30 rfl (by kernel_rfl)) rfl ?_
        exact tq_v (sq_bs HB.out)
       revert H; refine tq_i1 fun c41b0 H => ?_; revert H; refine tq_i1 fun c42b0 H => ?_; have HC43 := Aside0.mk H; clear H; have p111 : 0 ≤ (x57_3 : Int) := sq_d; have q111 : x57_3 < (l0_2.length : Int) := sq_d; have LQ111 := Aside0.mk q111; obtain ⟨ad111, e111, hx111_0, hx111_1, hx111_2⟩ := at_T46 HR0_2.out x57_3 p111 q111; cases e111; replace hx111_0 := tq_hx HB hx111_0; replace hx111_1 := tq_hx HB hx111_1; replace hx111_2 := tq_hx HB hx111_2; replace p111 := eq_true p111; replace q111 := eq_true q111
       go_upto_region 19 with (first | ((with_reducible refine gate_dst (N := 9) rfl ?_); (try (refine gate_guard (by rfl) ?_; dsimp only)); refine sq_box 9 #[.int .i64 0, .int .i64 0, .int .i64 0] 46 ?_; intro gb112 hg w44 hbox hb; have BK112 := Aside0.mk hbox; have GW112 := tq_w HB hg; have GE112 := tq_w HB hg; replace HB := tq_s HB hb; have NB105_112 := tq_nl BK105 hg; have NB112_105 := tq_ng BK105 hg; replace BK105 := tq_k BK105 hb; have NB106_112 := tq_nl BK106 hg; have NB112_106 := tq_ng BK106 hg; replace BK106 := tq_k BK106 hb; clear hb hbox hg; have hnb45 := NB112_105.out; have hnc45 := NB105_112.out; have hnb46 := NB112_106.out; have hnc46 := NB106_112.out; obtain ⟨hcz47_0, hcz47_1, hcz47_2, hfz47_0, hfz47_1, hfz47_2⟩ := tq_3 (w := w44) BK112))
       (try simp only [Act.put, List.setIfInBounds_toArray, List.set_cons_zero, List.set_cons_succ])
       go_cut [87] (fun v87 wc => ∃ (kq : Nat) (x87_42 : Bool), v87 = .bool x87_42 ∧ Aside0 (system_Check.j4 kq x57_3 l0_2 (l0_2.length : Int) x57_3 x87_42 a0_0 l0_1 l0_2 ((rd_T46 l0_2 x57_3).f0) ((rd_T46 l0_2 x57_3).f1) ((rd_T46 l0_2 x57_3).f2) = some (r1, r2)) ∧ Aside0 (kq ≤ k3) ∧ Aside0 (wc.heap[gb105]? = some (.cells #[.int .i64 a0_0, (.slice A0_1 l0_1.length c0_1), (.slice (some ad111) l0_2.length c0_2)] 25 (0, 0))) ∧ Aside0 (wc.heap[gb106]? = some (.cells #[.int .i64 x107000_3, .int .i64 x107001_3] 30 (0, 0))) ∧ Aside0 (wc.heap[gb112]? = some (.cells #[.int .i64 ((rd_T46 l0_2 x57_3).f0), .int .i64 ((rd_T46 l0_2 x57_3).f1), .int .i64 ((rd_T46 l0_2 x57_3).f2)] 46 (0, 0))) ∧ Aside0 (Below w.heap.size w wc))
       case first =>
        have H := HC43.out; clear HC43; revert H; refine tq_o fun t113 A48 H => ?_; cases t113
        ·replace H := tq_f H; have H' := Aside0.mk H; clear H; have hnb63 := NB112_105.out; have hnc63 := NB105_112.out; have hnb64 := NB112_106.out; have hnc64 := NB106_112.out; obtain ⟨hcz65_0, hcz65_1, hcz65_2, hfz65_0, hfz65_1, hfz65_2⟩ := tq_3 (w := w44) BK112; have hnb66 := NB105_106.out; have hnc66 := NB106_105.out; obtain ⟨hcz67_0, hcz67_1, hcz67_2, hfz67_0, hfz67_1, hfz67_2⟩ := tq_3 (w := w44) BK105
         go_wp2_with (first | ((with_reducible refine gate_calleeV 33 rfl ?_); refine goesV_ (some 67) rfl rfl Tryd.func33 (by kernel_rfl) rfl #[.int .i64 ((rd_T46 l0_2 x57_3).f0), .int .i64 a0_0] rfl (by (try simp only [List.map_toArray, List.map_cons, List.map_nil]); first | done | rfl | (simp only [List.length_drop, List.length_take]; rfl)) ?_; (with_reducible refine (system_Check_1.calls ((rd_T46 l0_2 x57_3).f0) a0_0 false _ A48.out).mono ?_); rintro e w' ⟨rfl, ⟨nd, rfl⟩⟩; refine ⟨_, rfl, ?_⟩))
         go_meet
         case rel => exact ⟨_, (true), tq_z, H', ⟨by have := HJ1.out; have := HK2.out; have := HK3.out; first | omega | exact Nat.le_refl _⟩, ⟨by refine tq_b ?_; refine blk_far ?_ NB105_112.out _; refine tq_b ?_; refine blk_far ?_ NB105_112.out _; refine tq_b ?_; refine blk_far ?_ NB105_112.out _; refine tq_b ?_; exact BK105.out⟩, ⟨by refine tq_b ?_; refine blk_far ?_ NB106_112.out _; refine tq_b ?_; refine blk_far ?_ NB106_112.out _; refine tq_b ?_; refine blk_far ?_ NB106_112.out _; refine tq_b ?_; exact BK106.out⟩, ⟨by refine tq_b ?_; refine blk_put (cs := #[.int .i64 ((rd_T46 l0_2 x57_3).f0), .int .i64 ((rd_T46 l0_2 x57_3).f1), .int .i64 0]) ?_ 2 _ rfl; refine tq_b ?_; refine blk_put (cs := #[.int .i64 ((rd_T46 l0_2 x57_3).f0), .int .i64 0, .int .i64 0]) ?_ 1 _ rfl; refine tq_b ?_; refine blk_put (cs := #[.int .i64 0, .int .i64 0, .int .i64 0]) ?_ 0 _ rfl; refine tq_b ?_; exact BK112.out⟩, ⟨sq_bs HB.out⟩⟩
        replace H := tq_t H; revert H; refine tq_o fun t114 A50 H => ?_; cases t114
        ·replace H := tq_f H; have H' := Aside0.mk H; clear H; have hnb58 := NB112_105.out; have hnc58 := NB105_112.out; have hnb59 := NB112_106.out; have hnc59 := NB106_112.out; obtain ⟨hcz60_0, hcz60_1, hcz60_2, hfz60_0, hfz60_1, hfz60_2⟩ := tq_3 (w := w44) BK112; have hnb61 := NB105_106.out; have hnc61 := NB106_105.out; obtain ⟨hcz62_0, hcz62_1, hcz62_2, hfz62_0, hfz62_1, hfz62_2⟩ := tq_3 (w := w44) BK105
         go_wp2_with (first | ((with_reducible refine gate_calleeV 33 rfl ?_); refine goesV_ (some 67) rfl rfl Tryd.func33 (by kernel_rfl) rfl #[.int .i64 ((rd_T46 l0_2 x57_3).f0), .int .i64 a0_0] rfl (by (try simp only [List.map_toArray, List.map_cons, List.map_nil]); first | done | rfl | (simp only [List.length_drop, List.length_take]; rfl)) ?_; (with_reducible refine (system_Check_1.calls ((rd_T46 l0_2 x57_3).f0) a0_0 true _ A48.out).mono ?_); rintro e w' ⟨rfl, ⟨nd, rfl⟩⟩; refine ⟨_, rfl, ?_⟩) | (go_at_call 33; (with_reducible refine (system_Check_1.calls ((rd_T46 l0_2 x57_3).f2) a0_0 false _ A50.out).mono ?_); rintro e w' ⟨rfl, ⟨nd, rfl⟩⟩))
         go_meet
         case rel => exact ⟨_, (true), tq_z, H', ⟨by have := HJ1.out; have := HK2.out; have := HK3.out; first | omega | exact Nat.le_refl _⟩, ⟨by refine tq_b ?_; refine blk_far ?_ NB105_112.out _; refine tq_b ?_; refine blk_far ?_ NB105_112.out _; refine tq_b ?_; refine blk_far ?_ NB105_112.out _; refine tq_b ?_; exact BK105.out⟩, ⟨by refine tq_b ?_; refine blk_far ?_ NB106_112.out _; refine tq_b ?_; refine blk_far ?_ NB106_112.out _; refine tq_b ?_; refine blk_far ?_ NB106_112.out _; refine tq_b ?_; exact BK106.out⟩, ⟨by refine tq_b ?_; refine blk_put (cs := #[.int .i64 ((rd_T46 l0_2 x57_3).f0), .int .i64 ((rd_T46 l0_2 x57_3).f1), .int .i64 0]) ?_ 2 _ rfl; refine tq_b ?_; refine blk_put (cs := #[.int .i64 ((rd_T46 l0_2 x57_3).f0), .int .i64 0, .int .i64 0]) ?_ 1 _ rfl; refine tq_b ?_; refine blk_put (cs := #[.int .i64 0, .int .i64 0, .int .i64 0]) ?_ 0 _ rfl; refine tq_b ?_; exact BK112.out⟩, ⟨sq_bs HB.out⟩⟩
        replace H := tq_t H; revert H; refine tq_o fun t115 A52 H => ?_; have H' := Aside0.mk H; clear H; have hnb53 := NB112_105.out; have hnc53 := NB105_112.out; have hnb54 := NB112_106.out; have hnc54 := NB106_112.out; obtain ⟨hcz55_0, hcz55_1, hcz55_2, hfz55_0, hfz55_1, hfz55_2⟩ := tq_3 (w := w44) BK112; have hnb56 := NB105_106.out; have hnc56 := NB106_105.out; obtain ⟨hcz57_0, hcz57_1, hcz57_2, hfz57_0, hfz57_1, hfz57_2⟩ := tq_3 (w := w44) BK105
        go_wp2_with (first | ((with_reducible refine gate_calleeV 33 rfl ?_); refine goesV_ (some 67) rfl rfl Tryd.func33 (by kernel_rfl) rfl #[.int .i64 ((rd_T46 l0_2 x57_3).f0), .int .i64 a0_0] rfl (by (try simp only [List.map_toArray, List.map_cons, List.map_nil]); first | done | rfl | (simp only [List.length_drop, List.length_take]; rfl)) ?_; (with_reducible refine (system_Check_1.calls ((rd_T46 l0_2 x57_3).f0) a0_0 true _ A48.out).mono ?_); rintro e w' ⟨rfl, ⟨nd, rfl⟩⟩; refine ⟨_, rfl, ?_⟩) | (go_at_call 33; (with_reducible refine (system_Check_1.calls ((rd_T46 l0_2 x57_3).f2) a0_0 true _ A50.out).mono ?_); rintro e w' ⟨rfl, ⟨nd, rfl⟩⟩) | (go_at_call 33; (with_reducible refine (system_Check_1.calls ((rd_T46 l0_2 x57_3).f1) (l0_1.length : Int) t115 _ A52.out).mono ?_); rintro e w' ⟨rfl, ⟨nd, rfl⟩⟩))
        go_meet
        case rel => exact ⟨_, (!t115), tq_z, H', ⟨by have := HJ1.out; have := HK2.out; have := HK3.out; first | omega | exact Nat.le_refl _⟩, ⟨by refine tq_b ?_; refine blk_far ?_ NB105_112.out _; refine tq_b ?_; refine blk_far ?_ NB105_112.out _; refine tq_b ?_; refine blk_far ?_ NB105_112.out _; refine tq_b ?_; exact BK105.out⟩, ⟨by refine tq_b ?_; refine blk_far ?_ NB106_112.out _; refine tq_b ?_; refine blk_far ?_ NB106_112.out _; refine tq_b ?_; refine blk_far ?_ NB106_112.out _; refine tq_b ?_; exact BK106.out⟩, ⟨by refine tq_b ?_; refine blk_put (cs := #[.int .i64 ((rd_T46 l0_2 x57_3).f0), .int .i64 ((rd_T46 l0_2 x57_3).f1), .int .i64 0]) ?_ 2 _ rfl; refine tq_b ?_; refine blk_put (cs := #[.int .i64 ((rd_T46 l0_2 x57_3).f0), .int .i64 0, .int .i64 0]) ?_ 1 _ rfl; refine tq_b ?_; refine blk_put (cs := #[.int .i64 0, .int .i64 0, .int .i64 0]) ?_ 0 _ rfl; refine tq_b ?_; exact BK112.out⟩, ⟨sq_bs HB.out⟩⟩
       case rest =>
        clear HC43
        try clear c40b0
        try clear c41b0
        try clear c42b0
        try clear hcz47_0
        try clear hcz47_1
        try clear hcz47_2
        try clear hfz47_0
        try clear hfz47_1
        try clear hfz47_2
        try clear hx111_0
        try clear hx111_1
        try clear hx111_2
        try clear p111
        try clear q111
        obtain ⟨kq, x87_42, rfl, HA, HJ42, BK105, BK106, BK112, HB⟩ := hcut
        cases kq with
        | zero => exact absurd HA.out (by simp [system_Check.j4])
        | succ kj42 =>
         have H := HA.out; clear HA
         simp only [system_Check.j4] at H
         cases x87_42; rotate_left
         ·replace H := tq_t H
          simp only [Option.some.injEq, Prod.mk.injEq] at H
          obtain ⟨rfl, rfl⟩ := H; have hnb69 := NB106_105.out; have hnc69 := NB105_106.out; have hnb70 := NB106_112.out; have hnc70 := NB112_106.out; obtain ⟨hcz71_0, hcz71_1, hfz71_0, hfz71_1⟩ := tq_2 (w := wc) BK106
          go_wp2
          refine bodyPost_ret (results_cell_row rfl _ _ gb106 30 #[.int .i64 1, .int .i64 x57_3] (0, 0) _ rfl (by refine tq_b ?_; refine blk_put (cs := #[.int .i64 1, .int .i64 x107001_3]) ?_ 1 _ rfl; refine tq_b ?_; refine blk_put (cs := #[.int .i64 x107000_3, .int .i64 x107001_3]) ?_ 0 _ rfl; refine tq_b ?_; exact BK106.out) Tryd.underlying30 rfl (by kernel_rfl)) rfl ?_
          exact tq_v (sq_bs HB.out)
         replace H := tq_f H; revert H; refine tq_rr (fun c72 H => ?_) (fun c72 H => ?_); rotate_left
         ·have c72b0 : decide (0 < x57_3) = false := decide_eq_false c72; clear c72; have H' := Aside0.mk H; clear H
          try go_wp2
          replace BK105 := Aside0.mk (blk_drew BK105.out); replace BK106 := Aside0.mk (blk_drew BK106.out); replace BK112 := Aside0.mk (blk_drew BK112.out); replace HB := Aside0.mk (below_drew1 HB.out); refine start_ (n := 13) (S := fun w' => True) (ds := []) #[false, false, false, false, false, false, false, false, false, false, false, false, false] (by kernel_rfl) rfl rfl trivial (fun hHeld => ?_); refine with_tabW system_Check.tab21 system_Check.bits21 (fun HT_ HW_ => ?_)
          generalize wc.drew = w85 at BK105 BK106 BK112 HB hHeld ⊢
          refine sq_p 0 90 (sqm 13 1) HT_.out ?_; refine sq_p 1 91 (sqm 13 3) HT_.out ?_; refine sq_p 2 92 (sqm 13 7) HT_.out ?_; refine sq_u 3 93 (sqm 13 15) HT_.out ?_; refine sq_u 4 94 (sqm 13 31) HT_.out ?_; refine sq_u 5 95 (sqm 13 63) HT_.out ?_; refine sq_u 6 96 (sqm 13 127) HT_.out ?_; refine sq_u 7 97 (sqm 13 255) HT_.out ?_; refine sq_u 8 98 (sqm 13 511) HT_.out ?_; refine sq_u 9 99 (sqm 13 1023) HT_.out ?_; refine sq_u 10 100 (sqm 13 2047) HT_.out ?_; refine sq_u 11 101 (sqm 13 4095) HT_.out ?_; refine sq_p 12 102 (sqm 13 8191) HT_.out ?_; refine done_ (done_of HT_.out (by kernel_rfl)) ?_
          try go_wp2
          go_roundg kj42
          case measure => have := HJ1.out; have := HK2.out; have := HK3.out; have := HJ42.out; omega
          case rel => exact ⟨(wrap64 (x57_3 + 1)), (x107000_3), (x107001_3), tq_z, H', ⟨by have := HJ1.out; have := HK2.out; have := HK3.out; have := HJ42.out; omega⟩, ⟨sq_bk BK105.out⟩, ⟨sq_bk BK106.out⟩, ⟨sq_bs HB.out⟩⟩
         have c72b0 : decide (0 < x57_3) = true := decide_eq_true c72; clear c72; obtain ⟨ji73, hji73⟩ : ∃ j_ : Int, (wrap64 (x57_3 - 1)) = j_ := ⟨_, rfl⟩; replace H : (if 0 ≤ (ji73) then (if (ji73) < (l0_2.length : Int) then ((system_before.f ((rd_T46 l0_2 (ji73)).f0) ((rd_T46 l0_2 (ji73)).f1) ((rd_T46 l0_2 (ji73)).f2) ((rd_T46 l0_2 x57_3).f0) ((rd_T46 l0_2 x57_3).f1) ((rd_T46 l0_2 x57_3).f2)).bind fun t117 => (if t117 = true then (system_Check.l2 kj42 l0_2 (l0_2.length : Int) (wrap64 (x57_3 + 1)) a0_0 l0_1 l0_2) else (some (8, x57_3)))) else (none)) else (none)) = some (r1, r2) := by first | (rw [hji73] at H; exact H) | (simp only [hji73] at H ⊢; exact H)
         have hji73w : (IntKind.i64.wrap (x57_3 - 1)) = ji73 := (i64_w _).trans hji73; revert H; refine tq_i1 fun c74b0 H => ?_; revert H; refine tq_i1 fun c75b0 H => ?_; revert H; refine tq_o fun t117 A76 H => ?_; cases t117; rotate_left
         ·replace H := tq_t H; have H' := Aside0.mk H; clear H
          try go_wp2
          replace BK105 := Aside0.mk (blk_drew BK105.out); replace BK106 := Aside0.mk (blk_drew BK106.out); replace BK112 := Aside0.mk (blk_drew BK112.out); replace HB := Aside0.mk (below_drew1 HB.out); have p116 : 0 ≤ ((ji73) : Int) := sq_d; have q116 : (ji73) < (l0_2.length : Int) := sq_d; obtain ⟨ad116, e116, hx116_0, hx116_1, hx116_2⟩ := at_T46 HR0_2.out (ji73) p116 q116; have hw116_2 := hx116_2; have hw116_1 := hx116_1; have hw116_0 := hx116_0; obtain rfl : ad111 = ad116 := (by injection e116); replace hx116_0 := tq_hx HB hx116_0; replace hx116_1 := tq_hx HB hx116_1; replace hx116_2 := tq_hx HB hx116_2; replace p116 := eq_true p116; replace q116 := eq_true q116; refine start_ (n := 13) (S := fun w' => w'.cell? ⟨gb105, 0, none⟩ = some (.int .i64 a0_0) ∧ w'.cell? ⟨gb105, 1, none⟩ = some (.slice A0_1 l0_1.length c0_1) ∧ w'.cell? ⟨gb105, 2, none⟩ = some (.slice (some ad111) l0_2.length c0_2) ∧ w'.cell? ⟨gb112, 0, none⟩ = some (.int .i64 ((rd_T46 l0_2 x57_3).f0)) ∧ w'.cell? ⟨gb112, 1, none⟩ = some (.int .i64 ((rd_T46 l0_2 x57_3).f1)) ∧ w'.cell? ⟨gb112, 2, none⟩ = some (.int .i64 ((rd_T46 l0_2 x57_3).f2)) ∧ w'.cell? (ad111.add (((ji73)).toNat * 3)) = some (.int .i64 ((rd_T46 l0_2 (ji73)).f0)) ∧ w'.cell? ⟨(ad111.add (((ji73)).toNat * 3)).block, (ad111.add (((ji73)).toNat * 3)).off + 1, none⟩ = some (.int .i64 ((rd_T46 l0_2 (ji73)).f1)) ∧ w'.cell? ⟨(ad111.add (((ji73)).toNat * 3)).block, (ad111.add (((ji73)).toNat * 3)).off + 2, none⟩ = some (.int .i64 ((rd_T46 l0_2 (ji73)).f2))) (ds := []) #[false, false, false, false, false, false, false, false, false, false, false, false, false] (by kernel_rfl) rfl rfl ⟨tq_q BK105 0, tq_q BK105 1, tq_q BK105 2, tq_q BK112 0, tq_q BK112 1, tq_q BK112 2, ((HB.out.cell (World.block_lt_of_cell? w _ hw116_0)).trans hw116_0), ((HB.out.cell (World.block_lt_of_cell? w _ hw116_1)).trans hw116_1), ((HB.out.cell (World.block_lt_of_cell? w _ hw116_2)).trans hw116_2)⟩ (fun hHeld => ?_); refine with_tabW system_Check.tab21 system_Check.bits21 (fun HT_ HW_ => ?_)
          generalize wc.drew = w78 at BK105 BK106 BK112 HB hx116_0 hx116_1 hx116_2 hHeld ⊢
          refine sq_p 0 90 (sqm 13 1) HT_.out ?_; refine sq_p 1 91 (sqm 13 3) HT_.out ?_; refine sq_p 2 92 (sqm 13 7) HT_.out ?_; refine sq_p 3 93 (sqm 13 15) HT_.out ?_; refine sq_p 5 95 (sqm 13 47) HT_.out ?_; refine sq_p 6 96 (sqm 13 111) HT_.out ?_; refine sq_t 4 94 (sqm 13 127) HT_.out HW_.out hHeld ?_; refine sq_p 7 97 (sqm 13 255) HT_.out ?_; refine sq_t 8 98 (sqm 13 511) HT_.out HW_.out hHeld ?_; refine sq_t 9 99 (sqm 13 1023) HT_.out HW_.out hHeld ?_; refine one_ (i := 10) (N := some 100) (sqm 13 2047) rfl rfl (one_of HT_.out (by kernel_rfl)) (by decide) (fun K hK => ?_); refine goes_ Tryd.func34 (by kernel_rfl) rfl #[.agg #[.int .i64 ((rd_T46 l0_2 (ji73)).f0), .int .i64 ((rd_T46 l0_2 (ji73)).f1), .int .i64 ((rd_T46 l0_2 (ji73)).f2)], .agg #[.int .i64 ((rd_T46 l0_2 x57_3).f0), .int .i64 ((rd_T46 l0_2 x57_3).f1), .int .i64 ((rd_T46 l0_2 x57_3).f2)]] (by rfl) rfl rfl (by (try simp only [List.map_toArray, List.map_cons, List.map_nil]); first | done | (simp only [hji73]; rfl) | rfl | (simp only [List.length_drop, List.length_take]; rfl)) ?_
          with_reducible refine (system_before.calls ((rd_T46 l0_2 (ji73)).f0) ((rd_T46 l0_2 (ji73)).f1) ((rd_T46 l0_2 (ji73)).f2) ((rd_T46 l0_2 x57_3).f0) ((rd_T46 l0_2 x57_3).f1) ((rd_T46 l0_2 x57_3).f2) true _ A76.out).mono ?_
          rintro e w79 ⟨rfl, hb⟩
          refine ⟨_, rfl, ?_⟩; replace BK105 := tq_k BK105 hb; replace BK106 := tq_k BK106 hb; replace BK112 := tq_k BK112 hb; replace HB := tq_s HB hb
          (try clear hb)
          (try clear hb2)
          (try clear hk)
          (try clear hi)
          refine hK.out _ _ ⟨tq_q BK105 0, tq_q BK105 1, tq_q BK105 2, tq_q BK112 0, tq_q BK112 1, tq_q BK112 2, ((HB.out.cell (World.block_lt_of_cell? w _ hw116_0)).trans hw116_0), ((HB.out.cell (World.block_lt_of_cell? w _ hw116_1)).trans hw116_1), ((HB.out.cell (World.block_lt_of_cell? w _ hw116_2)).trans hw116_2)⟩ (fun hHeld => ?_); clear hK K; refine norm_ (a' := ?_) ?_ ?_; rotate_left
          ·show Act.put _ (some 100) _ = _
           simp only [Act.put, List.setIfInBounds_toArray, List.set_cons_zero, List.set_cons_succ, i64_w, i32_w]
           rfl
          refine sq_p 11 101 (sqm 13 4095) HT_.out ?_; refine sq_p 12 102 (sqm 13 8191) HT_.out ?_; refine done_ (done_of HT_.out (by kernel_rfl)) ?_
          try go_wp2
          go_roundg kj42
          case measure => have := HJ1.out; have := HK2.out; have := HK3.out; have := HJ42.out; omega
          case rel => exact ⟨(wrap64 (x57_3 + 1)), (x107000_3), (x107001_3), tq_z, H', ⟨by have := HJ1.out; have := HK2.out; have := HK3.out; have := HJ42.out; omega⟩, ⟨sq_bk BK105.out⟩, ⟨sq_bk BK106.out⟩, ⟨sq_bs HB.out⟩⟩
         replace H := tq_f H
         simp only [Option.some.injEq, Prod.mk.injEq] at H
         obtain ⟨rfl, rfl⟩ := H
         try go_wp2
         replace BK105 := Aside0.mk (blk_drew BK105.out); replace BK106 := Aside0.mk (blk_drew BK106.out); replace BK112 := Aside0.mk (blk_drew BK112.out); replace HB := Aside0.mk (below_drew1 HB.out); have p116 : 0 ≤ ((ji73) : Int) := sq_d; have q116 : (ji73) < (l0_2.length : Int) := sq_d; obtain ⟨ad116, e116, hx116_0, hx116_1, hx116_2⟩ := at_T46 HR0_2.out (ji73) p116 q116; have hw116_2 := hx116_2; have hw116_1 := hx116_1; have hw116_0 := hx116_0; obtain rfl : ad111 = ad116 := (by injection e116); replace hx116_0 := tq_hx HB hx116_0; replace hx116_1 := tq_hx HB hx116_1; replace hx116_2 := tq_hx HB hx116_2; replace p116 := eq_true p116; replace q116 := eq_true q116; refine start_ (n := 13) (S := fun w' => w'.cell? ⟨gb105, 0, none⟩ = some (.int .i64 a0_0) ∧ w'.cell? ⟨gb105, 1, none⟩ = some (.slice A0_1 l0_1.length c0_1) ∧ w'.cell? ⟨gb105, 2, none⟩ = some (.slice (some ad111) l0_2.length c0_2) ∧ w'.cell? ⟨gb112, 0, none⟩ = some (.int .i64 ((rd_T46 l0_2 x57_3).f0)) ∧ w'.cell? ⟨gb112, 1, none⟩ = some (.int .i64 ((rd_T46 l0_2 x57_3).f1)) ∧ w'.cell? ⟨gb112, 2, none⟩ = some (.int .i64 ((rd_T46 l0_2 x57_3).f2)) ∧ w'.cell? (ad111.add (((ji73)).toNat * 3)) = some (.int .i64 ((rd_T46 l0_2 (ji73)).f0)) ∧ w'.cell? ⟨(ad111.add (((ji73)).toNat * 3)).block, (ad111.add (((ji73)).toNat * 3)).off + 1, none⟩ = some (.int .i64 ((rd_T46 l0_2 (ji73)).f1)) ∧ w'.cell? ⟨(ad111.add (((ji73)).toNat * 3)).block, (ad111.add (((ji73)).toNat * 3)).off + 2, none⟩ = some (.int .i64 ((rd_T46 l0_2 (ji73)).f2))) (ds := []) #[false, false, false, false, false, false, false, false, false, false, false, false, false] (by kernel_rfl) rfl rfl ⟨tq_q BK105 0, tq_q BK105 1, tq_q BK105 2, tq_q BK112 0, tq_q BK112 1, tq_q BK112 2, ((HB.out.cell (World.block_lt_of_cell? w _ hw116_0)).trans hw116_0), ((HB.out.cell (World.block_lt_of_cell? w _ hw116_1)).trans hw116_1), ((HB.out.cell (World.block_lt_of_cell? w _ hw116_2)).trans hw116_2)⟩ (fun hHeld => ?_); refine with_tabW system_Check.tab21 system_Check.bits21 (fun HT_ HW_ => ?_)
         generalize wc.drew = w80 at BK105 BK106 BK112 HB hx116_0 hx116_1 hx116_2 hHeld ⊢
         refine sq_p 0 90 (sqm 13 1) HT_.out ?_; refine sq_p 1 91 (sqm 13 3) HT_.out ?_; refine sq_p 2 92 (sqm 13 7) HT_.out ?_; refine sq_p 3 93 (sqm 13 15) HT_.out ?_; refine sq_p 5 95 (sqm 13 47) HT_.out ?_; refine sq_p 6 96 (sqm 13 111) HT_.out ?_; refine sq_t 4 94 (sqm 13 127) HT_.out HW_.out hHeld ?_; refine sq_p 7 97 (sqm 13 255) HT_.out ?_; refine sq_t 8 98 (sqm 13 511) HT_.out HW_.out hHeld ?_; refine sq_t 9 99 (sqm 13 1023) HT_.out HW_.out hHeld ?_; refine one_ (i := 10) (N := some 100) (sqm 13 2047) rfl rfl (one_of HT_.out (by kernel_rfl)) (by decide) (fun K hK => ?_); refine goes_ Tryd.func34 (by kernel_rfl) rfl #[.agg #[.int .i64 ((rd_T46 l0_2 (ji73)).f0), .int .i64 ((rd_T46 l0_2 (ji73)).f1), .int .i64 ((rd_T46 l0_2 (ji73)).f2)], .agg #[.int .i64 ((rd_T46 l0_2 x57_3).f0), .int .i64 ((rd_T46 l0_2 x57_3).f1), .int .i64 ((rd_T46 l0_2 x57_3).f2)]] (by rfl) rfl rfl (by (try simp only [List.map_toArray, List.map_cons, List.map_nil]); first | done | (simp only [hji73]; rfl) | rfl | (simp only [List.length_drop, List.length_take]; rfl)) ?_
         with_reducible refine (system_before.calls ((rd_T46 l0_2 (ji73)).f0) ((rd_T46 l0_2 (ji73)).f1) ((rd_T46 l0_2 (ji73)).f2) ((rd_T46 l0_2 x57_3).f0) ((rd_T46 l0_2 x57_3).f1) ((rd_T46 l0_2 x57_3).f2) false _ A76.out).mono ?_
         rintro e w81 ⟨rfl, hb⟩
         refine ⟨_, rfl, ?_⟩; replace BK105 := tq_k BK105 hb; replace BK106 := tq_k BK106 hb; replace BK112 := tq_k BK112 hb; replace HB := tq_s HB hb
         (try clear hb)
         (try clear hb2)
         (try clear hk)
         (try clear hi)
         refine hK.out _ _ ⟨tq_q BK105 0, tq_q BK105 1, tq_q BK105 2, tq_q BK112 0, tq_q BK112 1, tq_q BK112 2, ((HB.out.cell (World.block_lt_of_cell? w _ hw116_0)).trans hw116_0), ((HB.out.cell (World.block_lt_of_cell? w _ hw116_1)).trans hw116_1), ((HB.out.cell (World.block_lt_of_cell? w _ hw116_2)).trans hw116_2)⟩ (fun hHeld => ?_); clear hK K; refine norm_ (a' := ?_) ?_ ?_; rotate_left
         ·show Act.put _ (some 100) _ = _
          simp only [Act.put, List.setIfInBounds_toArray, List.set_cons_zero, List.set_cons_succ, i64_w, i32_w]
          rfl
         refine sq_p 11 101 (sqm 13 4095) HT_.out ?_; refine sq_p 12 102 (sqm 13 8191) HT_.out ?_; refine done_ (done_of HT_.out (by kernel_rfl)) ?_; have hnb82 := NB106_105.out; have hnc82 := NB105_106.out; have hnb83 := NB106_112.out; have hnc83 := NB112_106.out; obtain ⟨hcz84_0, hcz84_1, hfz84_0, hfz84_1⟩ := tq_2 (w := w81) BK106
         try go_wp2
         refine bodyPost_ret (results_cell_row rfl _ _ gb106 30 #[.int .i64 8, .int .i64 x57_3] (0, 0) _ rfl (by refine tq_b ?_; refine blk_put (cs := #[.int .i64 8, .int .i64 x107001_3]) ?_ 1 _ rfl; refine tq_b ?_; refine blk_put (cs := #[.int .i64 x107000_3, .int .i64 x107001_3]) ?_ 0 _ rfl; refine tq_b ?_; exact BK106.out) Tryd.underlying30 rfl (by kernel_rfl)) rfl ?_
         exact ⟨by first | rfl | (simp [errW_none, errW_some] <;> rfl) | (simp only [← hji73]; first | rfl | (simp [errW_none, errW_some] <;> rfl)) | (simp [*, errW_none, errW_some] <;> rfl), sq_bs HB.out⟩
end Go.Proofs.YtcnliampiibpbaaDoor.PAll
