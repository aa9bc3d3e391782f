/- Lean functions for Go functions, each with the proof that the call returns what it says; printed by wip/tools/myprint.py. -/
-- squeezed
-- tight
import Derived.Test.YtcnliampiibpbaaTq
import Derived.Test.YtcnliampiibpbaaPAllx0
namespace Go.Proofs.Ytcnliampiibpbaa.PAll
open Go.RowKit Go.Proofs.YtcnliampiibpbaaW.PrintWords Go.Proofs.YtcnliampiibpbaaW.PrintLast Go.Proofs.YtcnliampiibpbaaW.PrintMore
attribute [local go_sem] Instr.field asAgg max2_int min2_int max_two min_two max_three min_three max_four min_four   -- for this text's walks alone
set_option linter.unusedVariables false
set_option linter.unusedSimpArgs false

/-! ### system_events: function 37 -/
mutual
def system_events.l0 : Nat → List Int → List ByteArray → Int → Int → Int → List ByteArray → List (S44) → Option (List Int × Bool)
 | 0, _, _, _, _, _, _, _ => none
 | k + 1, x6, x20, x21, x22, x154000, x154001, x154002 => if x22 < x21 then (if 0 ≤ x22 then (if x22 < (x20.length : Int) then (system_events.l1 k x6 (rdOf ByteArray.empty x20 x22) (-1) x20 x21 x22 x154001 (x154001.length : Int) 0 x154000 x154001 x154002) else (none)) else (none)) else (some (x6, true))
def system_events.l1 : Nat → List Int → ByteArray → Int → List ByteArray → Int → Int → List ByteArray → Int → Int → Int → List ByteArray → List (S44) → Option (List Int × Bool)
 | 0, _, _, _, _, _, _, _, _, _, _, _, _ => none
 | k + 1, x6, x8, x9, x20, x21, x22, x27, x28, x29, x154000, x154001, x154002 => if x29 < x28 then (if 0 ≤ x29 then (if x29 < (x27.length : Int) then (if x8.toList = (rdOf ByteArray.empty x27 x29).toList then (system_events.l1 k x6 x8 x29 x20 x21 x22 x27 x28 (wrap64 (x29 + 1)) x154000 x154001 x154002) else (system_events.l1 k x6 x8 x9 x20 x21 x22 x27 x28 (wrap64 (x29 + 1)) x154000 x154001 x154002)) else (none)) else (none)) else (if x9 < 0 then (some (([] : List Int), false)) else (if x6.length < 17592186044416 then (system_events.l0 k (x6 ++ [x9]) x20 x21 (wrap64 (x22 + 1)) x154000 x154001 x154002) else (none)))
end
def system_events.f (k : Nat) (a0_0 : Int) (l0_1 : List ByteArray) (l0_2 : List (S44)) (a1_0 : Int) (l1_1 : List ByteArray) (l1_2 : List (S44)) : Option (List Int × Bool) := if (l0_1.length : Int) = (l1_1.length : Int) then (system_events.l0 k ([] : List Int) l0_1 (l0_1.length : Int) 0 a1_0 l1_1 l1_2) else (some (([] : List Int), false))
theorem system_events.mono_l : ∀ k, (∀ y0 y1 y2 y3 y4 y5 y6, LeO (system_events.l0 k y0 y1 y2 y3 y4 y5 y6) (system_events.l0 (k + 1) y0 y1 y2 y3 y4 y5 y6)) ∧ (∀ y0 y1 y2 y3 y4 y5 y6 y7 y8 y9 y10 y11, LeO (system_events.l1 k y0 y1 y2 y3 y4 y5 y6 y7 y8 y9 y10 y11) (system_events.l1 (k + 1) y0 y1 y2 y3 y4 y5 y6 y7 y8 y9 y10 y11))
 | 0 => ⟨fun _ _ _ _ _ _ _ r h => by simp [system_events.l0] at h, fun _ _ _ _ _ _ _ _ _ _ _ _ r h => by simp [system_events.l1] at h⟩
 | k + 1 => by
  obtain ⟨ih0, ih1⟩ := system_events.mono_l k
  refine ⟨?_, ?_⟩
  all_goals intros
  all_goals first | unfold system_events.l0 | unfold system_events.l1
  all_goals repeat' (with_reducible first | exact ih0 _ _ _ _ _ _ _ | exact ih1 _ _ _ _ _ _ _ _ _ _ _ _ | exact LeO.refl _ | exact LeO.none _ | refine LeO.ite ?_ ?_ | refine LeO.bind ?_ (fun _ => ?_))
theorem system_events.mono : ∀ a0 a1 a2 a3 a4 a5 k, LeO (system_events.f k a0 a1 a2 a3 a4 a5) (system_events.f (k + 1) a0 a1 a2 a3 a4 a5) := by
 intro a0 a1 a2 a3 a4 a5 k
 obtain ⟨ih0, ih1⟩ := system_events.mono_l k
 unfold system_events.f
 repeat' (with_reducible first | exact ih0 _ _ _ _ _ _ _ | exact ih1 _ _ _ _ _ _ _ _ _ _ _ _ | exact LeO.refl _ | exact LeO.none _ | refine LeO.ite ?_ ?_ | refine LeO.bind ?_ (fun _ => ?_))
set_option maxHeartbeats 8000000 in
set_option maxRecDepth 100000 in
theorem system_events.calls (k : Nat) (a0_0 : Int) (A0_1 : Option Addr) (c0_1 : Nat) (l0_1 : List ByteArray) (A0_2 : Option Addr) (c0_2 : Nat) (l0_2 : List (S44)) (a1_0 : Int) (A1_1 : Option Addr) (c1_1 : Nat) (l1_1 : List ByteArray) (A1_2 : Option Addr) (c1_2 : Nat) (l1_2 : List (S44)) (r1 : List Int) (r2 : Bool) (w : World) (hr0_1 : Kd.C Kd.string w A0_1 l0_1.length l0_1) (hc0_1 : l0_1.length ≤ c0_1) (hr0_2 : Kd.C k44 w A0_2 l0_2.length l0_2) (hc0_2 : l0_2.length ≤ c0_2) (hr1_1 : Kd.C Kd.string w A1_1 l1_1.length l1_1) (hc1_1 : l1_1.length ≤ c1_1) (hr1_2 : Kd.C k44 w A1_2 l1_2.length l1_2) (hc1_2 : l1_2.length ≤ c1_2) (h : system_events.f k a0_0 l0_1 l0_2 a1_0 l1_1 l1_2 = some (r1, r2)) :
  Calls Try.prog 37 #[.agg #[.int .i64 a0_0, .slice A0_1 l0_1.length c0_1, .slice A0_2 l0_2.length c0_2], .agg #[.int .i64 a1_0, .slice A1_1 l1_1.length c1_1, .slice A1_2 l1_2.length c1_2]] w fun e w' => ∃ v0_ : Value, e = .returned (.tuple #[v0_, .bool r2]) ∧ Kd.R (Kd.int .i64) 3 w' w.heap.size (fun _ => True) v0_ r1 ∧ Below w.heap.size w w' := by
 have hv30 := Try.underlying30; have hu25 := Try.underlying25; have HR0_1 := Aside0.mk hr0_1; have HC0_1 := Aside0.mk hc0_1; clear hr0_1 hc0_1; have HR0_2 := Aside0.mk hr0_2; have HC0_2 := Aside0.mk hc0_2; clear hr0_2 hc0_2; have HR1_1 := Aside0.mk hr1_1; have HC1_1 := Aside0.mk hc1_1; clear hr1_1 hc1_1; have HR1_2 := Aside0.mk hr1_2; have HC1_2 := Aside0.mk hc1_2; clear hr1_2 hc1_2; have HB := Aside0.mk (Below.refl w.heap.size w); have H : (if (l0_1.length : Int) = (l1_1.length : Int) then (system_events.l0 k ([] : List Int) l0_1 (l0_1.length : Int) 0 a1_0 l1_1 l1_2) else (some (([] : List Int), false))) = some (r1, r2) := h; clear h; revert H; refine tq_rr (fun c3 H => ?_) (fun c3 H => ?_); rotate_left
 ·obtain ⟨c3b0, c3b1⟩ := tq_n c3; have c3b2 : (l0_1.length == l1_1.length) = false := by first | simpa using c3 | (simp at c3 ⊢; omega)
  simp only [Option.some.injEq, Prod.mk.injEq] at H
  obtain ⟨rfl, rfl⟩ := H
  go_enter Try.func37, Try.ntmps37
  go_wp2_with (first | ((with_reducible refine gate_dst (N := 2) rfl ?_); refine sq_box 2 #[.int .i64 a0_0, .slice A0_1 l0_1.length c0_1, .slice A0_2 l0_2.length c0_2] 25 ?_; intro gb152 hg w21 hbox hb; have BK152 := Aside0.mk hbox; have GW152 := tq_w HB hg; have GE152 := tq_w HB hg; replace HB := tq_s HB hb; clear hb hbox hg) | ((with_reducible refine gate_dst (N := 3) rfl ?_); refine sq_box 3 #[.int .i64 a1_0, .slice A1_1 l1_1.length c1_1, .slice A1_2 l1_2.length c1_2] 25 ?_; intro gb153 hg w22 hbox hb; have BK153 := Aside0.mk hbox; have GW153 := tq_w HB hg; have GE153 := tq_w HB hg; replace HB := tq_s HB hb; have NB152_153 := tq_nl BK152 hg; have NB153_152 := tq_ng BK152 hg; replace BK152 := tq_k BK152 hb; clear hb hbox hg; have hnb23 := NB152_153.out; have hnc23 := NB153_152.out; obtain ⟨hcz24_0, hcz24_1, hcz24_2, hfz24_0, hfz24_1, hfz24_2⟩ := tq_3 (w := w22) BK152; obtain ⟨hcz25_0, hcz25_1, hcz25_2, hfz25_0, hfz25_1, hfz25_2⟩ := tq_3 (w := w22) BK153))
  go_ret2
  exact ⟨_, tq_v (tq_u (sq_bs HB.out))⟩
 obtain ⟨c3b0, c3b1⟩ := tq_e c3; have c3b2 : (l0_1.length == l1_1.length) = true := by first | simpa using c3 | (simp at c3 ⊢; omega)
 clear c3; have H' := Aside0.mk H; clear H
 go_enter Try.func37, Try.ntmps37
 go_wp2_with (first | ((with_reducible refine gate_dst (N := 2) rfl ?_); refine sq_box 2 #[.int .i64 a0_0, .slice A0_1 l0_1.length c0_1, .slice A0_2 l0_2.length c0_2] 25 ?_; intro gb152 hg w4 hbox hb; have BK152 := Aside0.mk hbox; have GW152 := tq_w HB hg; have GE152 := tq_w HB hg; replace HB := tq_s HB hb; clear hb hbox hg) | ((with_reducible refine gate_dst (N := 3) rfl ?_); refine sq_box 3 #[.int .i64 a1_0, .slice A1_1 l1_1.length c1_1, .slice A1_2 l1_2.length c1_2] 25 ?_; intro gb153 hg w5 hbox hb; have BK153 := Aside0.mk hbox; have GW153 := tq_w HB hg; have GE153 := tq_w HB hg; replace HB := tq_s HB hb; have NB152_153 := tq_nl BK152 hg; have NB153_152 := tq_ng BK152 hg; replace BK152 := tq_k BK152 hb; clear hb hbox hg; have hnb6 := NB152_153.out; have hnc6 := NB153_152.out; obtain ⟨hcz7_0, hcz7_1, hcz7_2, hfz7_0, hfz7_1, hfz7_2⟩ := tq_3 (w := w5) BK152; obtain ⟨hcz8_0, hcz8_1, hcz8_2, hfz8_0, hfz8_1, hfz8_2⟩ := tq_3 (w := w5) BK153))
 go_loopg [6, 22] k (fun kq v6 v22 w' => ∃ (x6_1 : List Int) (x22_1 : Int), v22 = .int .i64 x22_1 ∧ Aside0 (system_events.l0 kq x6_1 l0_1 (l0_1.length : Int) x22_1 a1_0 l1_1 l1_2 = some (r1, r2)) ∧ Aside0 (kq ≤ k) ∧ Aside0 (Kd.R (Kd.int .i64) 3 w' w.heap.size (fun _ => True) v6 x6_1) ∧ Aside0 (w'.heap[gb152]? = some (.cells #[.int .i64 a0_0, (.slice A0_1 l0_1.length c0_1), (.slice A0_2 l0_2.length c0_2)] 25 (0, 0))) ∧ Aside0 (w'.heap[gb153]? = some (.cells #[.int .i64 a1_0, (.slice A1_1 l1_1.length c1_1), (.slice A1_2 l1_2.length c1_2)] 25 (0, 0))) ∧ Aside0 (Below w.heap.size w w'))
 case atStart => exact ⟨(([] : List Int)), (0), tq_z, H', ⟨Nat.le_refl _⟩, ⟨by first | exact Kd.R_nil _ _ _ _ _ | exact Kd.N_nil _ _ _ _ _ | exact Kd.V_nil _ _ _ _ _ | exact Kd.Q_nil _ _ _ _ _ | exact Kd.S_nil _ _ _ _ _⟩, ⟨sq_bk BK152.out⟩, ⟨sq_bk BK153.out⟩, ⟨sq_bs HB.out⟩⟩
 case round =>
  clear H'
  try clear c3b0
  try clear c3b1
  try clear c3b2
  try clear hcz7_0
  try clear hcz7_1
  try clear hcz7_2
  try clear hcz8_0
  try clear hcz8_1
  try clear hcz8_2
  try clear hfz7_0
  try clear hfz7_1
  try clear hfz7_2
  try clear hfz8_0
  try clear hfz8_1
  try clear hfz8_2
  obtain ⟨x6_1, x22_1, rfl, HA, HK1, HO_6, BK152, BK153, HB⟩ := hrel
  cases gk with
  | zero => exact absurd HA.out (by simp [system_events.l0])
  | succ k1 =>
   have H := HA.out; clear HA
   simp only [system_events.l0] at H
   revert H; refine tq_dd (fun c9b0 H => ?_) (fun c9b0 H => ?_); rotate_left
   ·simp only [Option.some.injEq, Prod.mk.injEq] at H
    obtain ⟨rfl, rfl⟩ := H
    go_wp2
    go_ret2
    exact ⟨_, tq_v ⟨sq_kr HO_6.out, sq_bs HB.out⟩⟩
   revert H; refine tq_i1 fun c10b0 H => ?_; revert H; refine tq_i1 fun c11b0 H => ?_; have H' := Aside0.mk H; clear H; have p154 : 0 ≤ (x22_1 : Int) := sq_d; have q154 : x22_1 < (l0_1.length : Int) := sq_d; have LQ154 := Aside0.mk q154; obtain ⟨ad154, e154, hx154_0⟩ := Kd.at_string HR0_1.out x22_1 p154 q154; cases e154; replace hx154_0 := tq_hx HB hx154_0; replace p154 := eq_true p154; replace q154 := eq_true q154; have hnb12 := NB153_152.out; have hnc12 := NB152_153.out; obtain ⟨hcz13_0, hcz13_1, hcz13_2, hfz13_0, hfz13_1, hfz13_2⟩ := tq_3 (w := wr) BK153
   go_wp2
   go_loopg [9, 29] k1 (fun kq v9 v29 w' => ∃ (x9_2 : Int) (x29_2 : Int), v9 = .int .i64 x9_2 ∧ v29 = .int .i64 x29_2 ∧ Aside0 (system_events.l1 kq x6_1 (rdOf ByteArray.empty l0_1 x22_1) x9_2 l0_1 (l0_1.length : Int) x22_1 l1_1 (l1_1.length : Int) x29_2 a1_0 l1_1 l1_2 = some (r1, r2)) ∧ Aside0 (kq ≤ k1) ∧ Aside0 (Kd.R (Kd.int .i64) 3 w' w.heap.size (fun _ => True) u6 x6_1) ∧ Aside0 (w'.heap[gb152]? = some (.cells #[.int .i64 a0_0, (.slice (some ad154) l0_1.length c0_1), (.slice A0_2 l0_2.length c0_2)] 25 (0, 0))) ∧ Aside0 (w'.heap[gb153]? = some (.cells #[.int .i64 a1_0, (.slice A1_1 l1_1.length c1_1), (.slice A1_2 l1_2.length c1_2)] 25 (0, 0))) ∧ Aside0 (Below w.heap.size w w'))
   case atStart => exact ⟨((-1)), (0), tq_z, tq_z, H', ⟨Nat.le_refl _⟩, ⟨sq_kr HO_6.out⟩, ⟨sq_bk BK152.out⟩, ⟨sq_bk BK153.out⟩, ⟨sq_bs HB.out⟩⟩
   case round =>
    clear H'
    try clear c9b0
    try clear c10b0
    try clear c11b0
    try clear hcz13_0
    try clear hcz13_1
    try clear hcz13_2
    try clear hfz13_0
    try clear hfz13_1
    try clear hfz13_2
    try clear hx154_0
    try clear p154
    try clear q154
    obtain ⟨x9_2, x29_2, rfl, rfl, HA, HK2, HO_6, BK152, BK153, HB⟩ := hrel
    cases gk with
    | zero => exact absurd HA.out (by simp [system_events.l1])
    | succ k2 =>
     have H := HA.out; clear HA
     simp only [system_events.l1] at H
     revert H; refine tq_dd (fun c14b0 H => ?_) (fun c14b0 H => ?_); rotate_left
     ·revert H; refine tq_dd (fun c18b0 H => ?_) (fun c18b0 H => ?_)
      ·simp only [Option.some.injEq, Prod.mk.injEq] at H
       obtain ⟨rfl, rfl⟩ := H
       go_wp2
       go_ret2
       exact ⟨_, tq_v (tq_u (sq_bs HB.out))⟩
      revert H; refine tq_i fun c19 H => ?_; have LMc19 := Aside0.mk c19; clear c19; obtain ⟨y156, hy156⟩ : ∃ y_ : List Int, y_ = (x6_1 ++ [x9_2]) := ⟨_, rfl⟩; replace H : (system_events.l0 k2 y156 l0_1 (l0_1.length : Int) (wrap64 (x22_1 + 1)) a1_0 l1_1 l1_2) = some (r1, r2) := by first | (rw [hy156]; exact H) | exact H
      have Ny156 := Aside0.mk hy156; clear hy156; have H' := Aside0.mk H; clear H
      go_wp2_with (first | ((with_reducible refine gate_builtin (b := .append) (xs := #[.tmp 41, .tmp 43]) rfl ?_); at_builtin; refine Kd.R_append (Kd.int .i64) (w0 := w) w.heap.size rfl (.tmp 41) (.tmp 43) 34 3 (.int .i64 0) 8 rfl Try.underlying34 info3 rfl (by decide) (by omega) u6 x6_1 x9_2 [.int .i64 x9_2] (fun _ => True) (fun _ => False) rfl rfl ?aP (fun _ hk => hk.elim) ?aF ?aO ?aB ?aS ?aL ?_; (case aP => exact rfl); (case aB => exact (sq_bs HB.out)); (case aF => exact (fun _ _ => trivial)); (case aO => exact (sq_kr HO_6.out)); (case aS => exact (below_size (sq_bs HB.out))); (case aL => have := LMc19.out; omega); intro v157 w20 ho hb hg hat; rw [← Ny156.out] at ho; replace BK152 := tq_gr BK152 hg (Kd.R_ne HO_6.out BK152.out (by decide)); replace BK153 := tq_gr BK153 hg (Kd.R_ne HO_6.out BK153.out (by decide)); replace HB := Aside0.mk hb; have HO158 := Aside0.mk ho; clear HO_6; clear ho hb hg hat))
      go_roundg k2
      case measure => have := HK1.out; have := HK2.out; omega
      case rel => exact ⟨(y156), (wrap64 (x22_1 + 1)), tq_z, H', ⟨by have := HK1.out; have := HK2.out; omega⟩, ⟨sq_kr HO158.out⟩, ⟨sq_bk BK152.out⟩, ⟨sq_bk BK153.out⟩, ⟨sq_bs HB.out⟩⟩
     revert H; refine tq_i1 fun c15b0 H => ?_; revert H; refine tq_i1 fun c16b0 H => ?_; have HH_ := Aside0.mk H; clear H; have p155 : 0 ≤ (x29_2 : Int) := sq_d; have q155 : x29_2 < (l1_1.length : Int) := sq_d; have LQ155 := Aside0.mk q155; obtain ⟨ad155, e155, hx155_0⟩ := Kd.at_string HR1_1.out x29_2 p155 q155; cases e155; replace hx155_0 := tq_hx HB hx155_0; replace p155 := eq_true p155; replace q155 := eq_true q155; have H := HH_.out; clear HH_; revert H; refine tq_rr (fun c17 H => ?_) (fun c17 H => ?_); rotate_left
     ·obtain ⟨c17b0, c17b1⟩ := tq_n c17; have H' := Aside0.mk H; clear H
      go_wp2
      go_roundg k2
      case measure => have := HK1.out; have := HK2.out; omega
      case rel => exact ⟨(x9_2), (wrap64 (x29_2 + 1)), tq_z, tq_z, H', ⟨by have := HK1.out; have := HK2.out; omega⟩, ⟨sq_kr HO_6.out⟩, ⟨sq_bk BK152.out⟩, ⟨sq_bk BK153.out⟩, ⟨sq_bs HB.out⟩⟩
     obtain ⟨c17b0, c17b1⟩ := tq_e c17; clear c17; have H' := Aside0.mk H; clear H
     go_wp2
     go_roundg k2
     case measure => have := HK1.out; have := HK2.out; omega
     case rel => exact ⟨(x29_2), (wrap64 (x29_2 + 1)), tq_z, tq_z, H', ⟨by have := HK1.out; have := HK2.out; omega⟩, ⟨sq_kr HO_6.out⟩, ⟨sq_bk BK152.out⟩, ⟨sq_bk BK153.out⟩, ⟨sq_bs HB.out⟩⟩
-- NOT PRINTED: function 38 (system_Iso_1)
end Go.Proofs.Ytcnliampiibpbaa.PAll
