/- Lean functions for Go functions, each with the proof that the call returns what it says; printed by wip/tools/myprint.py. -/
-- squeezed
-- tight
import Derived.Test.YtcnliampiibpbaaDoorTq
import Derived.Test.YtcnliampiibpbaaDoorPAllx0
namespace Go.Proofs.YtcnliampiibpbaaDoor.PAll
open Go.RowKit Go.Proofs.YtcnliampiibpbaaDoorW.PrintWords Go.Proofs.YtcnliampiibpbaaDoorW.PrintLast Go.Proofs.YtcnliampiibpbaaDoorW.PrintMore
attribute [local go_sem] Instr.field asAgg max2_int min2_int max_two min_two max_three min_three max_four min_four   -- for this text's walks alone
set_option linter.unusedVariables false
set_option linter.unusedSimpArgs false

/-! ### system_events: function 27 -/
mutual
def system_events.l0 : Nat → List Int → List ByteArray → Int → Int → Int → List ByteArray → List (S46) → Option (List Int × Bool)
 | 0, _, _, _, _, _, _, _ => none
 | k + 1, x6, x20, x21, x22, x148000, x148001, x148002 => if x22 < x21 then (if 0 ≤ x22 then (if x22 < (x20.length : Int) then (system_events.l1 k x6 (rdOf ByteArray.empty x20 x22) (-1) x20 x21 x22 x148001 (x148001.length : Int) 0 x148000 x148001 x148002) else (none)) else (none)) else (some (x6, true))
def system_events.l1 : Nat → List Int → ByteArray → Int → List ByteArray → Int → Int → List ByteArray → Int → Int → Int → List ByteArray → List (S46) → Option (List Int × Bool)
 | 0, _, _, _, _, _, _, _, _, _, _, _, _ => none
 | k + 1, x6, x8, x9, x20, x21, x22, x27, x28, x29, x148000, x148001, x148002 => if x29 < x28 then (if 0 ≤ x29 then (if x29 < (x27.length : Int) then (if x8.toList = (rdOf ByteArray.empty x27 x29).toList then (system_events.l1 k x6 x8 x29 x20 x21 x22 x27 x28 (wrap64 (x29 + 1)) x148000 x148001 x148002) else (system_events.l1 k x6 x8 x9 x20 x21 x22 x27 x28 (wrap64 (x29 + 1)) x148000 x148001 x148002)) else (none)) else (none)) else (if x9 < 0 then (some (([] : List Int), false)) else (if x6.length < 17592186044416 then (system_events.l0 k (x6 ++ [x9]) x20 x21 (wrap64 (x22 + 1)) x148000 x148001 x148002) else (none)))
end
def system_events.f (k : Nat) (a0_0 : Int) (l0_1 : List ByteArray) (l0_2 : List (S46)) (a1_0 : Int) (l1_1 : List ByteArray) (l1_2 : List (S46)) : Option (List Int × Bool) := if (l0_1.length : Int) = (l1_1.length : Int) then (system_events.l0 k ([] : List Int) l0_1 (l0_1.length : Int) 0 a1_0 l1_1 l1_2) else (some (([] : List Int), false))
theorem system_events.mono_l : ∀ k, (∀ y0 y1 y2 y3 y4 y5 y6, LeO (system_events.l0 k y0 y1 y2 y3 y4 y5 y6) (system_events.l0 (k + 1) y0 y1 y2 y3 y4 y5 y6)) ∧ (∀ y0 y1 y2 y3 y4 y5 y6 y7 y8 y9 y10 y11, LeO (system_events.l1 k y0 y1 y2 y3 y4 y5 y6 y7 y8 y9 y10 y11) (system_events.l1 (k + 1) y0 y1 y2 y3 y4 y5 y6 y7 y8 y9 y10 y11))
 | 0 => ⟨fun _ _ _ _ _ _ _ r h => by simp [system_events.l0] at h, fun _ _ _ _ _ _ _ _ _ _ _ _ r h => by simp [system_events.l1] at h⟩
 | k + 1 => by
  obtain ⟨ih0, ih1⟩ := system_events.mono_l k
  refine ⟨?_, ?_⟩
  all_goals intros
  all_goals first | unfold system_events.l0 | unfold system_events.l1
  all_goals repeat' (with_reducible first | exact ih0 _ _ _ _ _ _ _ | exact ih1 _ _ _ _ _ _ _ _ _ _ _ _ | exact LeO.refl _ | exact LeO.none _ | refine LeO.ite ?_ ?_ | refine LeO.bind ?_ (fun _ => ?_))
theorem system_events.mono : ∀ a0 a1 a2 a3 a4 a5 k, LeO (system_events.f k a0 a1 a2 a3 a4 a5) (system_events.f (k + 1) a0 a1 a2 a3 a4 a5) := by
 intro a0 a1 a2 a3 a4 a5 k
 obtain ⟨ih0, ih1⟩ := system_events.mono_l k
 unfold system_events.f
 repeat' (with_reducible first | exact ih0 _ _ _ _ _ _ _ | exact ih1 _ _ _ _ _ _ _ _ _ _ _ _ | exact LeO.refl _ | exact LeO.none _ | refine LeO.ite ?_ ?_ | refine LeO.bind ?_ (fun _ => ?_))
set_option maxHeartbeats 8000000 in
set_option maxRecDepth 100000 in
theorem system_events.calls (k : Nat) (a0_0 : Int) (A0_1 : Option Addr) (c0_1 : Nat) (l0_1 : List ByteArray) (A0_2 : Option Addr) (c0_2 : Nat) (l0_2 : List (S46)) (a1_0 : Int) (A1_1 : Option Addr) (c1_1 : Nat) (l1_1 : List ByteArray) (A1_2 : Option Addr) (c1_2 : Nat) (l1_2 : List (S46)) (r1 : List Int) (r2 : Bool) (w : World) (hr0_1 : Kd.C Kd.string w A0_1 l0_1.length l0_1) (hc0_1 : l0_1.length ≤ c0_1) (hr0_2 : Kd.C k46 w A0_2 l0_2.length l0_2) (hc0_2 : l0_2.length ≤ c0_2) (hr1_1 : Kd.C Kd.string w A1_1 l1_1.length l1_1) (hc1_1 : l1_1.length ≤ c1_1) (hr1_2 : Kd.C k46 w A1_2 l1_2.length l1_2) (hc1_2 : l1_2.length ≤ c1_2) (h : system_events.f k a0_0 l0_1 l0_2 a1_0 l1_1 l1_2 = some (r1, r2)) :
  Calls Tryd.prog 27 #[.agg #[.int .i64 a0_0, .slice A0_1 l0_1.length c0_1, .slice A0_2 l0_2.length c0_2], .agg #[.int .i64 a1_0, .slice A1_1 l1_1.length c1_1, .slice A1_2 l1_2.length c1_2]] w fun e w' => ∃ v0_ : Value, e = .returned (.tuple #[v0_, .bool r2]) ∧ Kd.R (Kd.int .i64) 3 w' w.heap.size (fun _ => True) v0_ r1 ∧ Below w.heap.size w w' := by
 have hv30 := Tryd.underlying30; have hu25 := Tryd.underlying25; have HR0_1 := Aside0.mk hr0_1; have HC0_1 := Aside0.mk hc0_1; clear hr0_1 hc0_1; have HR0_2 := Aside0.mk hr0_2; have HC0_2 := Aside0.mk hc0_2; clear hr0_2 hc0_2; have HR1_1 := Aside0.mk hr1_1; have HC1_1 := Aside0.mk hc1_1; clear hr1_1 hc1_1; have HR1_2 := Aside0.mk hr1_2; have HC1_2 := Aside0.mk hc1_2; clear hr1_2 hc1_2; have HB := Aside0.mk (Below.refl w.heap.size w); have H : (if (l0_1.length : Int) = (l1_1.length : Int) then (system_events.l0 k ([] : List Int) l0_1 (l0_1.length : Int) 0 a1_0 l1_1 l1_2) else (some (([] : List Int), false))) = some (r1, r2) := h; clear h; revert H; refine tq_rr (fun c3 H => ?_) (fun c3 H => ?_); rotate_left
 ·obtain ⟨c3b0, c3b1⟩ := tq_n c3; have c3b2 : (l0_1.length == l1_1.length) = false := by first | simpa using c3 | (simp at c3 ⊢; omega)
  simp only [Option.some.injEq, Prod.mk.injEq] at H
  obtain ⟨rfl, rfl⟩ := H
  go_enter Tryd.func27, Tryd.ntmps27
  go_wp2_with (first | ((with_reducible refine gate_dst (N := 2) rfl ?_); refine sq_box 2 #[.int .i64 a0_0, .slice A0_1 l0_1.length c0_1, .slice A0_2 l0_2.length c0_2] 25 ?_; intro gb146 hg w21 hbox hb; have BK146 := Aside0.mk hbox; have GW146 := tq_w HB hg; have GE146 := tq_w HB hg; replace HB := tq_s HB hb; clear hb hbox hg) | ((with_reducible refine gate_dst (N := 3) rfl ?_); refine sq_box 3 #[.int .i64 a1_0, .slice A1_1 l1_1.length c1_1, .slice A1_2 l1_2.length c1_2] 25 ?_; intro gb147 hg w22 hbox hb; have BK147 := Aside0.mk hbox; have GW147 := tq_w HB hg; have GE147 := tq_w HB hg; replace HB := tq_s HB hb; have NB146_147 := tq_nl BK146 hg; have NB147_146 := tq_ng BK146 hg; replace BK146 := tq_k BK146 hb; clear hb hbox hg; have hnb23 := NB146_147.out; have hnc23 := NB147_146.out; obtain ⟨hcz24_0, hcz24_1, hcz24_2, hfz24_0, hfz24_1, hfz24_2⟩ := tq_3 (w := w22) BK146; obtain ⟨hcz25_0, hcz25_1, hcz25_2, hfz25_0, hfz25_1, hfz25_2⟩ := tq_3 (w := w22) BK147))
  go_ret2
  exact ⟨_, tq_v (tq_u (sq_bs HB.out))⟩
 obtain ⟨c3b0, c3b1⟩ := tq_e c3; have c3b2 : (l0_1.length == l1_1.length) = true := by first | simpa using c3 | (simp at c3 ⊢; omega)
 clear c3; have H' := Aside0.mk H; clear H
 go_enter Tryd.func27, Tryd.ntmps27
 go_wp2_with (first | ((with_reducible refine gate_dst (N := 2) rfl ?_); refine sq_box 2 #[.int .i64 a0_0, .slice A0_1 l0_1.length c0_1, .slice A0_2 l0_2.length c0_2] 25 ?_; intro gb146 hg w4 hbox hb; have BK146 := Aside0.mk hbox; have GW146 := tq_w HB hg; have GE146 := tq_w HB hg; replace HB := tq_s HB hb; clear hb hbox hg) | ((with_reducible refine gate_dst (N := 3) rfl ?_); refine sq_box 3 #[.int .i64 a1_0, .slice A1_1 l1_1.length c1_1, .slice A1_2 l1_2.length c1_2] 25 ?_; intro gb147 hg w5 hbox hb; have BK147 := Aside0.mk hbox; have GW147 := tq_w HB hg; have GE147 := tq_w HB hg; replace HB := tq_s HB hb; have NB146_147 := tq_nl BK146 hg; have NB147_146 := tq_ng BK146 hg; replace BK146 := tq_k BK146 hb; clear hb hbox hg; have hnb6 := NB146_147.out; have hnc6 := NB147_146.out; obtain ⟨hcz7_0, hcz7_1, hcz7_2, hfz7_0, hfz7_1, hfz7_2⟩ := tq_3 (w := w5) BK146; obtain ⟨hcz8_0, hcz8_1, hcz8_2, hfz8_0, hfz8_1, hfz8_2⟩ := tq_3 (w := w5) BK147))
 go_loopg [6, 22] k (fun kq v6 v22 w' => ∃ (x6_1 : List Int) (x22_1 : Int), v22 = .int .i64 x22_1 ∧ Aside0 (system_events.l0 kq x6_1 l0_1 (l0_1.length : Int) x22_1 a1_0 l1_1 l1_2 = some (r1, r2)) ∧ Aside0 (kq ≤ k) ∧ Aside0 (Kd.R (Kd.int .i64) 3 w' w.heap.size (fun _ => True) v6 x6_1) ∧ Aside0 (w'.heap[gb146]? = some (.cells #[.int .i64 a0_0, (.slice A0_1 l0_1.length c0_1), (.slice A0_2 l0_2.length c0_2)] 25 (0, 0))) ∧ Aside0 (w'.heap[gb147]? = some (.cells #[.int .i64 a1_0, (.slice A1_1 l1_1.length c1_1), (.slice A1_2 l1_2.length c1_2)] 25 (0, 0))) ∧ Aside0 (Below w.heap.size w w'))
 case atStart => exact ⟨(([] : List Int)), (0), tq_z, H', ⟨Nat.le_refl _⟩, ⟨by first | exact Kd.R_nil _ _ _ _ _ | exact Kd.N_nil _ _ _ _ _ | exact Kd.V_nil _ _ _ _ _ | exact Kd.Q_nil _ _ _ _ _ | exact Kd.S_nil _ _ _ _ _⟩, ⟨sq_bk BK146.out⟩, ⟨sq_bk BK147.out⟩, ⟨sq_bs HB.out⟩⟩
 case round =>
  clear H'
  try clear c3b0
  try clear c3b1
  try clear c3b2
  try clear hcz7_0
  try clear hcz7_1
  try clear hcz7_2
  try clear hcz8_0
  try clear hcz8_1
  try clear hcz8_2
  try clear hfz7_0
  try clear hfz7_1
  try clear hfz7_2
  try clear hfz8_0
  try clear hfz8_1
  try clear hfz8_2
  obtain ⟨x6_1, x22_1, rfl, HA, HK1, HO_6, BK146, BK147, HB⟩ := hrel
  cases gk with
  | zero => exact absurd HA.out (by simp [system_events.l0])
  | succ k1 =>
   have H := HA.out; clear HA
   simp only [system_events.l0] at H
   revert H; refine tq_dd (fun c9b0 H => ?_) (fun c9b0 H => ?_); rotate_left
   ·simp only [Option.some.injEq, Prod.mk.injEq] at H
    obtain ⟨rfl, rfl⟩ := H
    go_wp2
    go_ret2
    exact ⟨_, tq_v ⟨sq_kr HO_6.out, sq_bs HB.out⟩⟩
   revert H; refine tq_i1 fun c10b0 H => ?_; revert H; refine tq_i1 fun c11b0 H => ?_; have H' := Aside0.mk H; clear H; have p148 : 0 ≤ (x22_1 : Int) := sq_d; have q148 : x22_1 < (l0_1.length : Int) := sq_d; have LQ148 := Aside0.mk q148; obtain ⟨ad148, e148, hx148_0⟩ := Kd.at_string HR0_1.out x22_1 p148 q148; cases e148; replace hx148_0 := tq_hx HB hx148_0; replace p148 := eq_true p148; replace q148 := eq_true q148; have hnb12 := NB147_146.out; have hnc12 := NB146_147.out; obtain ⟨hcz13_0, hcz13_1, hcz13_2, hfz13_0, hfz13_1, hfz13_2⟩ := tq_3 (w := wr) BK147
   go_wp2
   go_loopg [9, 29] k1 (fun kq v9 v29 w' => ∃ (x9_2 : Int) (x29_2 : Int), v9 = .int .i64 x9_2 ∧ v29 = .int .i64 x29_2 ∧ Aside0 (system_events.l1 kq x6_1 (rdOf ByteArray.empty l0_1 x22_1) x9_2 l0_1 (l0_1.length : Int) x22_1 l1_1 (l1_1.length : Int) x29_2 a1_0 l1_1 l1_2 = some (r1, r2)) ∧ Aside0 (kq ≤ k1) ∧ Aside0 (Kd.R (Kd.int .i64) 3 w' w.heap.size (fun _ => True) u6 x6_1) ∧ Aside0 (w'.heap[gb146]? = some (.cells #[.int .i64 a0_0, (.slice (some ad148) l0_1.length c0_1), (.slice A0_2 l0_2.length c0_2)] 25 (0, 0))) ∧ Aside0 (w'.heap[gb147]? = some (.cells #[.int .i64 a1_0, (.slice A1_1 l1_1.length c1_1), (.slice A1_2 l1_2.length c1_2)] 25 (0, 0))) ∧ Aside0 (Below w.heap.size w w'))
   case atStart => exact ⟨((-1)), (0), tq_z, tq_z, H', ⟨Nat.le_refl _⟩, ⟨sq_kr HO_6.out⟩, ⟨sq_bk BK146.out⟩, ⟨sq_bk BK147.out⟩, ⟨sq_bs HB.out⟩⟩
   case round =>
    clear H'
    try clear c9b0
    try clear c10b0
    try clear c11b0
    try clear hcz13_0
    try clear hcz13_1
    try clear hcz13_2
    try clear hfz13_0
    try clear hfz13_1
    try clear hfz13_2
    try clear hx148_0
    try clear p148
    try clear q148
    obtain ⟨x9_2, x29_2, rfl, rfl, HA, HK2, HO_6, BK146, BK147, HB⟩ := hrel
    cases gk with
    | zero => exact absurd HA.out (by simp [system_events.l1])
    | succ k2 =>
     have H := HA.out; clear HA
     simp only [system_events.l1] at H
     revert H; refine tq_dd (fun c14b0 H => ?_) (fun c14b0 H => ?_); rotate_left
     ·revert H; refine tq_dd (fun c18b0 H => ?_) (fun c18b0 H => ?_)
      ·simp only [Option.some.injEq, Prod.mk.injEq] at H
       obtain ⟨rfl, rfl⟩ := H
       go_wp2
       go_ret2
       exact ⟨_, tq_v (tq_u (sq_bs HB.out))⟩
      revert H; refine tq_i fun c19 H => ?_; have LMc19 := Aside0.mk c19; clear c19; obtain ⟨y150, hy150⟩ : ∃ y_ : List Int, y_ = (x6_1 ++ [x9_2]) := ⟨_, rfl⟩; replace H : (system_events.l0 k2 y150 l0_1 (l0_1.length : Int) (wrap64 (x22_1 + 1)) a1_0 l1_1 l1_2) = some (r1, r2) := by first | (rw [hy150]; exact H) | exact H
      have Ny150 := Aside0.mk hy150; clear hy150; have H' := Aside0.mk H; clear H
      go_wp2_with (first | ((with_reducible refine gate_builtin (b := .append) (xs := #[.tmp 41, .tmp 43]) rfl ?_); at_builtin; refine Kd.R_append (Kd.int .i64) (w0 := w) w.heap.size rfl (.tmp 41) (.tmp 43) 37 3 (.int .i64 0) 8 rfl Tryd.underlying37 info3 rfl (by decide) (by omega) u6 x6_1 x9_2 [.int .i64 x9_2] (fun _ => True) (fun _ => False) rfl rfl ?aP (fun _ hk => hk.elim) ?aF ?aO ?aB ?aS ?aL ?_; (case aP => exact rfl); (case aB => exact (sq_bs HB.out)); (case aF => exact (fun _ _ => trivial)); (case aO => exact (sq_kr HO_6.out)); (case aS => exact (below_size (sq_bs HB.out))); (case aL => have := LMc19.out; omega); intro v151 w20 ho hb hg hat; rw [← Ny150.out] at ho; replace BK146 := tq_gr BK146 hg (Kd.R_ne HO_6.out BK146.out (by decide)); replace BK147 := tq_gr BK147 hg (Kd.R_ne HO_6.out BK147.out (by decide)); replace HB := Aside0.mk hb; have HO152 := Aside0.mk ho; clear HO_6; clear ho hb hg hat))
      go_roundg k2
      case measure => have := HK1.out; have := HK2.out; omega
      case rel => exact ⟨(y150), (wrap64 (x22_1 + 1)), tq_z, H', ⟨by have := HK1.out; have := HK2.out; omega⟩, ⟨sq_kr HO152.out⟩, ⟨sq_bk BK146.out⟩, ⟨sq_bk BK147.out⟩, ⟨sq_bs HB.out⟩⟩
     revert H; refine tq_i1 fun c15b0 H => ?_; revert H; refine tq_i1 fun c16b0 H => ?_; have HH_ := Aside0.mk H; clear H; have p149 : 0 ≤ (x29_2 : Int) := sq_d; have q149 : x29_2 < (l1_1.length : Int) := sq_d; have LQ149 := Aside0.mk q149; obtain ⟨ad149, e149, hx149_0⟩ := Kd.at_string HR1_1.out x29_2 p149 q149; cases e149; replace hx149_0 := tq_hx HB hx149_0; replace p149 := eq_true p149; replace q149 := eq_true q149; have H := HH_.out; clear HH_; revert H; refine tq_rr (fun c17 H => ?_) (fun c17 H => ?_); rotate_left
     ·obtain ⟨c17b0, c17b1⟩ := tq_n c17; have H' := Aside0.mk H; clear H
      go_wp2
      go_roundg k2
      case measure => have := HK1.out; have := HK2.out; omega
      case rel => exact ⟨(x9_2), (wrap64 (x29_2 + 1)), tq_z, tq_z, H', ⟨by have := HK1.out; have := HK2.out; omega⟩, ⟨sq_kr HO_6.out⟩, ⟨sq_bk BK146.out⟩, ⟨sq_bk BK147.out⟩, ⟨sq_bs HB.out⟩⟩
     obtain ⟨c17b0, c17b1⟩ := tq_e c17; clear c17; have H' := Aside0.mk H; clear H
     go_wp2
     go_roundg k2
     case measure => have := HK1.out; have := HK2.out; omega
     case rel => exact ⟨(x29_2), (wrap64 (x29_2 + 1)), tq_z, tq_z, H', ⟨by have := HK1.out; have := HK2.out; omega⟩, ⟨sq_kr HO_6.out⟩, ⟨sq_bk BK146.out⟩, ⟨sq_bk BK147.out⟩, ⟨sq_bs HB.out⟩⟩
/-! ### system_next: function 29 -/
def system_next.l0 : Nat → Int → Int → List (S46) → Int → Int → Option (Int)
 | 0, _, _, _, _, _ => none
 | k + 1, x1, x2, x10, x11, x12 => if x12 < x11 then (if 0 ≤ x12 then (if x12 < (x10.length : Int) then (if ((rd_T46 x10 x12).f0) = x1 then (if ((rd_T46 x10 x12).f1) = x2 then (some ((rd_T46 x10 x12).f2)) else (system_next.l0 k x1 x2 x10 x11 (wrap64 (x12 + 1)))) else (system_next.l0 k x1 x2 x10 x11 (wrap64 (x12 + 1)))) else (none)) else (none)) else (some (-1))
def system_next.f (k : Nat) (a0_0 : Int) (l0_1 : List ByteArray) (l0_2 : List (S46)) (a1 : Int) (a2 : Int) : Option (Int) := system_next.l0 k a1 a2 l0_2 (l0_2.length : Int) 0
theorem system_next.mono_l : ∀ k, (∀ y0 y1 y2 y3 y4, LeO (system_next.l0 k y0 y1 y2 y3 y4) (system_next.l0 (k + 1) y0 y1 y2 y3 y4))
 | 0 => fun _ _ _ _ _ r h => by simp [system_next.l0] at h
 | k + 1 => by
  have ih0 := system_next.mono_l k
  ·intro y0 y1 y2 y3 y4
   unfold system_next.l0
   repeat' (with_reducible first | exact ih0 _ _ _ _ _ | exact LeO.refl _ | exact LeO.none _ | refine LeO.ite ?_ ?_ | refine LeO.bind ?_ (fun _ => ?_))
theorem system_next.mono : ∀ a0 a1 a2 a3 a4 k, LeO (system_next.f k a0 a1 a2 a3 a4) (system_next.f (k + 1) a0 a1 a2 a3 a4) := by
 intro a0 a1 a2 a3 a4 k
 have ih0 := system_next.mono_l k
 unfold system_next.f
 repeat' (with_reducible first | exact ih0 _ _ _ _ _ | exact LeO.refl _ | exact LeO.none _ | refine LeO.ite ?_ ?_ | refine LeO.bind ?_ (fun _ => ?_))
set_option maxHeartbeats 8000000 in
set_option maxRecDepth 100000 in
theorem system_next.calls (k : Nat) (a0_0 : Int) (A0_1 : Option Addr) (c0_1 : Nat) (l0_1 : List ByteArray) (A0_2 : Option Addr) (c0_2 : Nat) (l0_2 : List (S46)) (a1 : Int) (a2 : Int) (r : Int) (w : World) (hr0_1 : Kd.C Kd.string w A0_1 l0_1.length l0_1) (hc0_1 : l0_1.length ≤ c0_1) (hr0_2 : Kd.C k46 w A0_2 l0_2.length l0_2) (hc0_2 : l0_2.length ≤ c0_2) (h : system_next.f k a0_0 l0_1 l0_2 a1 a2 = some r) :
  Calls Tryd.prog 29 #[.agg #[.int .i64 a0_0, .slice A0_1 l0_1.length c0_1, .slice A0_2 l0_2.length c0_2], .int .i64 a1, .int .i64 a2] w fun e w' => e = .returned (.int .i64 r) ∧ Below w.heap.size w w' := by
 have hv30 := Tryd.underlying30; have hu25 := Tryd.underlying25; have hu46 := Tryd.underlying46; have HR0_1 := Aside0.mk hr0_1; have HC0_1 := Aside0.mk hc0_1; clear hr0_1 hc0_1; have HR0_2 := Aside0.mk hr0_2; have HC0_2 := Aside0.mk hc0_2; clear hr0_2 hc0_2; have HB := Aside0.mk (Below.refl w.heap.size w); have H : (system_next.l0 k a1 a2 l0_2 (l0_2.length : Int) 0) = some r := h; clear h; have H' := Aside0.mk H; clear H
 go_enter Tryd.func29, Tryd.ntmps29
 go_wp2_with (first | ((with_reducible refine gate_dst (N := 3) rfl ?_); refine sq_box 3 #[.int .i64 a0_0, .slice A0_1 l0_1.length c0_1, .slice A0_2 l0_2.length c0_2] 25 ?_; intro gb153 hg w4 hbox hb; have BK153 := Aside0.mk hbox; have GW153 := tq_w HB hg; have GE153 := tq_w HB hg; replace HB := tq_s HB hb; clear hb hbox hg; obtain ⟨hcz5_0, hcz5_1, hcz5_2, hfz5_0, hfz5_1, hfz5_2⟩ := tq_3 (w := w4) BK153))
 go_loopg [12] k (fun kq v12 w' => ∃ (x12_1 : Int), v12 = .int .i64 x12_1 ∧ Aside0 (system_next.l0 kq a1 a2 l0_2 (l0_2.length : Int) x12_1 = some r) ∧ Aside0 (kq ≤ k) ∧ Aside0 (w'.heap[gb153]? = some (.cells #[.int .i64 a0_0, (.slice A0_1 l0_1.length c0_1), (.slice A0_2 l0_2.length c0_2)] 25 (0, 0))) ∧ Aside0 (Below w.heap.size w w'))
 case atStart => exact ⟨(0), tq_z, H', ⟨Nat.le_refl _⟩, ⟨sq_bk BK153.out⟩, ⟨sq_bs HB.out⟩⟩
 case round =>
  clear H'
  try clear hcz5_0
  try clear hcz5_1
  try clear hcz5_2
  try clear hfz5_0
  try clear hfz5_1
  try clear hfz5_2
  obtain ⟨x12_1, rfl, HA, HK1, BK153, HB⟩ := hrel
  cases gk with
  | zero => exact absurd HA.out (by simp [system_next.l0])
  | succ k1 =>
   have H := HA.out; clear HA
   simp only [system_next.l0] at H
   revert H; refine tq_dd (fun c6b0 H => ?_) (fun c6b0 H => ?_); rotate_left
   ·obtain rfl := Option.some.inj H
    go_wp2
    go_ret
    exact tq_v (sq_bs HB.out)
   revert H; refine tq_i1 fun c7b0 H => ?_; revert H; refine tq_i1 fun c8b0 H => ?_; revert H; refine tq_rr (fun c9 H => ?_) (fun c9 H => ?_); rotate_left
   ·obtain ⟨c9b0, c9b1⟩ := tq_n c9; have H' := Aside0.mk H; clear H; have p154 : 0 ≤ (x12_1 : Int) := sq_d; have q154 : x12_1 < (l0_2.length : Int) := sq_d; have LQ154 := Aside0.mk q154; obtain ⟨ad154, e154, hx154_0, hx154_1, hx154_2⟩ := at_T46 HR0_2.out x12_1 p154 q154; cases e154; replace hx154_0 := tq_hx HB hx154_0; replace hx154_1 := tq_hx HB hx154_1; replace hx154_2 := tq_hx HB hx154_2; replace p154 := eq_true p154; replace q154 := eq_true q154
    go_wp2_with (first | ((with_reducible refine gate_dst (N := 8) rfl ?_); refine sq_box 8 #[.int .i64 0, .int .i64 0, .int .i64 0] 46 ?_; intro gb155 hg w17 hbox hb; have BK155 := Aside0.mk hbox; have GW155 := tq_w HB hg; have GE155 := tq_w HB hg; replace HB := tq_s HB hb; have NB153_155 := tq_nl BK153 hg; have NB155_153 := tq_ng BK153 hg; replace BK153 := tq_k BK153 hb; clear hb hbox hg; have hnb18 := NB155_153.out; have hnc18 := NB153_155.out; obtain ⟨hcz19_0, hcz19_1, hcz19_2, hfz19_0, hfz19_1, hfz19_2⟩ := tq_3 (w := w17) BK155))
    go_roundg k1
    case measure => have := HK1.out; omega
    case rel => exact ⟨(wrap64 (x12_1 + 1)), tq_z, H', ⟨by have := HK1.out; omega⟩, ⟨by refine tq_b ?_; refine blk_far ?_ NB153_155.out _; refine tq_b ?_; refine blk_far ?_ NB153_155.out _; refine tq_b ?_; refine blk_far ?_ NB153_155.out _; refine tq_b ?_; exact BK153.out⟩, ⟨sq_bs HB.out⟩⟩
   obtain ⟨c9b0, c9b1⟩ := tq_e c9; clear c9; revert H; refine tq_rr (fun c10 H => ?_) (fun c10 H => ?_)
   ·obtain ⟨c10b0, c10b1⟩ := tq_e c10; clear c10; obtain rfl := Option.some.inj H; have p154 : 0 ≤ (x12_1 : Int) := sq_d; have q154 : x12_1 < (l0_2.length : Int) := sq_d; have LQ154 := Aside0.mk q154; obtain ⟨ad154, e154, hx154_0, hx154_1, hx154_2⟩ := at_T46 HR0_2.out x12_1 p154 q154; cases e154; replace hx154_0 := tq_hx HB hx154_0; replace hx154_1 := tq_hx HB hx154_1; replace hx154_2 := tq_hx HB hx154_2; replace p154 := eq_true p154; replace q154 := eq_true q154
    go_wp2_with (first | ((with_reducible refine gate_dst (N := 8) rfl ?_); refine sq_box 8 #[.int .i64 0, .int .i64 0, .int .i64 0] 46 ?_; intro gb155 hg w11 hbox hb; have BK155 := Aside0.mk hbox; have GW155 := tq_w HB hg; have GE155 := tq_w HB hg; replace HB := tq_s HB hb; have NB153_155 := tq_nl BK153 hg; have NB155_153 := tq_ng BK153 hg; replace BK153 := tq_k BK153 hb; clear hb hbox hg; have hnb12 := NB155_153.out; have hnc12 := NB153_155.out; obtain ⟨hcz13_0, hcz13_1, hcz13_2, hfz13_0, hfz13_1, hfz13_2⟩ := tq_3 (w := w11) BK155))
    go_ret
    exact tq_v (sq_bs HB.out)
   obtain ⟨c10b0, c10b1⟩ := tq_n c10; have H' := Aside0.mk H; clear H; have p154 : 0 ≤ (x12_1 : Int) := sq_d; have q154 : x12_1 < (l0_2.length : Int) := sq_d; have LQ154 := Aside0.mk q154; obtain ⟨ad154, e154, hx154_0, hx154_1, hx154_2⟩ := at_T46 HR0_2.out x12_1 p154 q154; cases e154; replace hx154_0 := tq_hx HB hx154_0; replace hx154_1 := tq_hx HB hx154_1; replace hx154_2 := tq_hx HB hx154_2; replace p154 := eq_true p154; replace q154 := eq_true q154
   go_wp2_with (first | ((with_reducible refine gate_dst (N := 8) rfl ?_); refine sq_box 8 #[.int .i64 0, .int .i64 0, .int .i64 0] 46 ?_; intro gb155 hg w14 hbox hb; have BK155 := Aside0.mk hbox; have GW155 := tq_w HB hg; have GE155 := tq_w HB hg; replace HB := tq_s HB hb; have NB153_155 := tq_nl BK153 hg; have NB155_153 := tq_ng BK153 hg; replace BK153 := tq_k BK153 hb; clear hb hbox hg; have hnb15 := NB155_153.out; have hnc15 := NB153_155.out; obtain ⟨hcz16_0, hcz16_1, hcz16_2, hfz16_0, hfz16_1, hfz16_2⟩ := tq_3 (w := w14) BK155))
   go_roundg k1
   case measure => have := HK1.out; omega
   case rel => exact ⟨(wrap64 (x12_1 + 1)), tq_z, H', ⟨by have := HK1.out; omega⟩, ⟨by refine tq_b ?_; refine blk_far ?_ NB153_155.out _; refine tq_b ?_; refine blk_far ?_ NB153_155.out _; refine tq_b ?_; refine blk_far ?_ NB153_155.out _; refine tq_b ?_; exact BK153.out⟩, ⟨sq_bs HB.out⟩⟩
-- NOT PRINTED: function 28 (system_Iso_1)
end Go.Proofs.YtcnliampiibpbaaDoor.PAll
