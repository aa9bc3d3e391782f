/- Lean functions for Go functions, each with the proof that the call returns what it says; printed by wip/tools/myprint.py. -/
-- squeezed
-- tight
import Derived.Test.YtcnliampiibpbaaTq
import Derived.Test.YtcnliampiibpbaaPAllx0
import Derived.Test.YtcnliampiibpbaaPAllx13
import Derived.Test.YtcnliampiibpbaaPAllx15
namespace Go.Proofs.Ytcnliampiibpbaa.PAll
open Go.RowKit Go.Proofs.YtcnliampiibpbaaW.PrintWords Go.Proofs.YtcnliampiibpbaaW.PrintLast Go.Proofs.YtcnliampiibpbaaW.PrintMore
attribute [local go_sem] Instr.field asAgg max2_int min2_int max_two min_two max_three min_three max_four min_four   -- for this text's walks alone
set_option linter.unusedVariables false
set_option linter.unusedSimpArgs false

/-! ### petrinetref45_Reachable: function 15 -/
def petrinetref45_Reachable.l0 : Nat → List Bool → Int → Option (Bool)
 | 0, _, _ => none
 | k + 1, x3, x4 => if x4 < (x3.length : Int) then (if 0 ≤ x4 then (if rdOf false x3 x4 = true then (petrinetref45_Reachable.l0 k x3 (wrap64 (x4 + 1))) else (some false)) else (none)) else (some true)
def petrinetref45_Reachable.f (k : Nat) (a0_0 : Int) (l0_1 : List ByteArray) (l0_2 : List (S44)) : Option (Bool) := (petrinetref45_Valid.f k a0_0 l0_1 l0_2).bind fun t309 => (if t309 = true then ((petrinetref45_Graph.f k a0_0 l0_1 l0_2).bind fun t310 => ((petrinetref07_Reach.f k t310 (([0] : List Int))).bind fun t316 => (petrinetref45_Reachable.l0 k t316 0))) else (some false))
theorem petrinetref45_Reachable.mono_l : ∀ k, (∀ y0 y1, LeO (petrinetref45_Reachable.l0 k y0 y1) (petrinetref45_Reachable.l0 (k + 1) y0 y1))
 | 0 => fun _ _ r h => by simp [petrinetref45_Reachable.l0] at h
 | k + 1 => by
  have ih0 := petrinetref45_Reachable.mono_l k
  ·intro y0 y1
   unfold petrinetref45_Reachable.l0
   repeat' (with_reducible first | exact ih0 _ _ | exact petrinetref07_Reach.mono _ _ _ | exact petrinetref45_Graph.mono _ _ _ _ | exact petrinetref45_Valid.mono _ _ _ _ | exact LeO.refl _ | exact LeO.none _ | refine LeO.ite ?_ ?_ | refine LeO.bind ?_ (fun _ => ?_))
theorem petrinetref45_Reachable.mono : ∀ a0 a1 a2 k, LeO (petrinetref45_Reachable.f k a0 a1 a2) (petrinetref45_Reachable.f (k + 1) a0 a1 a2) := by
 intro a0 a1 a2 k
 have ih0 := petrinetref45_Reachable.mono_l k
 unfold petrinetref45_Reachable.f
 repeat' (with_reducible first | exact ih0 _ _ | exact petrinetref07_Reach.mono _ _ _ | exact petrinetref45_Graph.mono _ _ _ _ | exact petrinetref45_Valid.mono _ _ _ _ | exact LeO.refl _ | exact LeO.none _ | refine LeO.ite ?_ ?_ | refine LeO.bind ?_ (fun _ => ?_))
set_option maxHeartbeats 8000000 in
set_option maxRecDepth 100000 in
theorem petrinetref45_Reachable.calls (k : Nat) (a0_0 : Int) (A0_1 : Option Addr) (c0_1 : Nat) (l0_1 : List ByteArray) (A0_2 : Option Addr) (c0_2 : Nat) (l0_2 : List (S44)) (r : Bool) (w : World) (hr0_1 : Kd.C Kd.string w A0_1 l0_1.length l0_1) (hc0_1 : l0_1.length ≤ c0_1) (hr0_2 : Kd.C k44 w A0_2 l0_2.length l0_2) (hc0_2 : l0_2.length ≤ c0_2) (h : petrinetref45_Reachable.f k a0_0 l0_1 l0_2 = some r) :
  Calls Try.prog 15 #[.agg #[.int .i64 a0_0, .slice A0_1 l0_1.length c0_1, .slice A0_2 l0_2.length c0_2]] w fun e w' => e = .returned (.bool r) ∧ Below w.heap.size w w' := by
 have hv30 := Try.underlying30; have hu25 := Try.underlying25; have HR0_1 := Aside0.mk hr0_1; have HC0_1 := Aside0.mk hc0_1; clear hr0_1 hc0_1; have HR0_2 := Aside0.mk hr0_2; have HC0_2 := Aside0.mk hc0_2; clear hr0_2 hc0_2; have HB := Aside0.mk (Below.refl w.heap.size w); have H : ((petrinetref45_Valid.f k a0_0 l0_1 l0_2).bind fun t309 => (if t309 = true then ((petrinetref45_Graph.f k a0_0 l0_1 l0_2).bind fun t310 => ((petrinetref07_Reach.f k t310 (([0] : List Int))).bind fun t316 => (petrinetref45_Reachable.l0 k t316 0))) else (some false))) = some r := h; clear h; revert H; refine tq_o fun t309 A2 H => ?_; cases t309
 ·replace H := tq_f H; obtain rfl := Option.some.inj H
  go_enter Try.func15, Try.ntmps15
  go_wp2_with (first | ((with_reducible refine gate_dst (N := 1) rfl ?_); refine sq_box 1 #[.int .i64 a0_0, .slice A0_1 l0_1.length c0_1, .slice A0_2 l0_2.length c0_2] 25 ?_; intro gb308 hg w23 hbox hb; have BK308 := Aside0.mk hbox; have GW308 := tq_w HB hg; have GE308 := tq_w HB hg; replace HB := tq_s HB hb; clear hb hbox hg; obtain ⟨hcz24_0, hcz24_1, hcz24_2, hfz24_0, hfz24_1, hfz24_2⟩ := tq_3 (w := w23) BK308) | ((with_reducible refine gate_callee (f := 32) rfl ?_); refine sq_goes (some 6) Try.func32 #[.agg #[.int .i64 a0_0, .slice A0_1 l0_1.length c0_1, .slice A0_2 l0_2.length c0_2]] ?_; (with_reducible refine (petrinetref45_Valid.calls k a0_0 _ _ l0_1 _ _ l0_2 false _ ?s1 ?s2 ?s3 ?s4 A2.out).mono ?_); (case s1 => exact tq_c HR0_1 HB); (case s2 => exact HC0_1.out); (case s3 => exact tq_c HR0_2 HB); (case s4 => exact HC0_2.out); rintro e w25 ⟨rfl, hb⟩; refine ⟨_, rfl, ?_⟩; replace BK308 := tq_k BK308 hb; replace HB := tq_s HB hb; (try clear hb)))
  go_ret
  exact tq_v (sq_bs HB.out)
 replace H := tq_t H; revert H; refine tq_o fun t310 A4 H => ?_; obtain ⟨y313, hy313⟩ : ∃ y_ : List Int, y_ = (([0] : List Int)) := ⟨_, rfl⟩; replace H : ((petrinetref07_Reach.f k t310 y313).bind fun t316 => (petrinetref45_Reachable.l0 k t316 0)) = some r := by first | (rw [hy313]; exact H) | exact H
 have Ny313 := Aside0.mk hy313; clear hy313; revert H; refine tq_o fun t316 A5 H => ?_; have H' := Aside0.mk H; clear H
 go_enter Try.func15, Try.ntmps15
 go_wp2_with (first | ((with_reducible refine gate_dst (N := 1) rfl ?_); refine sq_box 1 #[.int .i64 a0_0, .slice A0_1 l0_1.length c0_1, .slice A0_2 l0_2.length c0_2] 25 ?_; intro gb308 hg w6 hbox hb; have BK308 := Aside0.mk hbox; have GW308 := tq_w HB hg; have GE308 := tq_w HB hg; replace HB := tq_s HB hb; clear hb hbox hg; obtain ⟨hcz7_0, hcz7_1, hcz7_2, hfz7_0, hfz7_1, hfz7_2⟩ := tq_3 (w := w6) BK308) | ((with_reducible refine gate_callee (f := 32) rfl ?_); refine sq_goes (some 6) Try.func32 #[.agg #[.int .i64 a0_0, .slice A0_1 l0_1.length c0_1, .slice A0_2 l0_2.length c0_2]] ?_; (with_reducible refine (petrinetref45_Valid.calls k a0_0 _ _ l0_1 _ _ l0_2 true _ ?s1 ?s2 ?s3 ?s4 A2.out).mono ?_); (case s1 => exact tq_c HR0_1 HB); (case s2 => exact HC0_1.out); (case s3 => exact tq_c HR0_2 HB); (case s4 => exact HC0_2.out); rintro e w8 ⟨rfl, hb⟩; refine ⟨_, rfl, ?_⟩; replace BK308 := tq_k BK308 hb; replace HB := tq_s HB hb; (try clear hb); obtain ⟨hcz9_0, hcz9_1, hcz9_2, hfz9_0, hfz9_1, hfz9_2⟩ := tq_3 (w := w8) BK308) | ((with_reducible refine gate_callee (f := 35) rfl ?_); refine sq_goes (some 9) Try.func35 #[.agg #[.int .i64 a0_0, .slice A0_1 l0_1.length c0_1, .slice A0_2 l0_2.length c0_2]] ?_; (with_reducible refine (petrinetref45_Graph.calls k a0_0 _ _ l0_1 _ _ l0_2 t310 _ ?s1 ?s2 ?s3 ?s4 A4.out).mono ?_); (case s1 => exact tq_c HR0_1 HB); (case s2 => exact HC0_1.out); (case s3 => exact tq_c HR0_2 HB); (case s4 => exact HC0_2.out); rintro e w10 ⟨v311, rfl, ho0, hb⟩; refine ⟨_, rfl, ?_⟩; have HO312 := Aside0.mk (Kd.S_lower ho0 (below_size (sq_bs HB.out))); replace BK308 := tq_k BK308 hb; replace HB := tq_s HB hb; (try clear hb); (try clear ho0)) | ((with_reducible refine gate_dst (N := 10) rfl ?_); refine Kd.R_lit (Kd.int .i64) _ 3 ?hg (N := 10) ?hd (xs := ([0] : List Int)) (inner := [.int .i64 0]) (ok := fun _ => True) (okp := fun _ => True) ?hr ?hp (fun _ hk => hk) trivial (Below.refl _ _) (Nat.le_refl _) (by simp) ?_; (case hd => rfl); (case hg => rfl); (case hr => first | (go_simp; done) | (go_simp; rfl)); (case hp => exact (Reps.one (show Kd.M (Kd.int .i64) _ _ _ 0 [.int .i64 0] from rfl) (Reps.none _ _))); intro v314 w11 ho12 hb hg_ hnew_; clear hg_ hnew_; (first | rw [← Ny313.out] at ho12 | (simp only [Int.reduceToNat] at ho12; rw [← Ny313.out] at ho12)); replace HO312 := Aside0.mk (Kd.S_elder' (by (with_reducible repeat (first | apply Kd.S_alloc | apply Kd.S_drewN | apply Kd.S_drew)); exact HO312.out) (Kd.R_base ho12) hb); have HO315 := Aside0.mk (Kd.R_lower ho12 (below_size (sq_bs HB.out))); replace BK308 := tq_k BK308 hb; replace HB := tq_s HB hb; clear hb ho12; obtain ⟨Ao13, co13, eo13⟩ := Kd.S_slice HO312.out; subst eo13; obtain ⟨Ao14, co14, eo14⟩ := Kd.R_slice HO315.out; subst eo14) | ((with_reducible refine gate_callee (f := 34) rfl ?_); refine sq_goes (some 11) Try.func34 #[.slice Ao13 t310.length co13, .slice Ao14 y313.length co14] ?_; (with_reducible refine (petrinetref07_Reach.calls k _ _ t310 _ _ y313 t316 _ ?s1 ?s2 ?s3 ?s4 A5.out).mono ?_); (case s1 => exact sq_kc ((Kd.S_reads' HO312.out).2.2)); (case s2 => exact (Kd.S_reads' HO312.out).2.1); (case s3 => exact sq_kc ((Kd.R_reads' HO315.out).2.2)); (case s4 => exact (Kd.R_reads' HO315.out).2.1); rintro e w15 ⟨v317, rfl, ho0, hb⟩; refine ⟨_, rfl, ?_⟩; replace HO312 := Aside0.mk (Kd.S_below (by (with_reducible repeat (first | apply Kd.S_alloc | apply Kd.S_drewN | apply Kd.S_drew)); exact HO312.out) hb); replace HO315 := tq_r HO315 hb; have HO318 := Aside0.mk (Kd.R_lower ho0 (below_size (sq_bs HB.out))); replace BK308 := tq_k BK308 hb; replace HB := tq_s HB hb; (try clear hb); (try clear ho0)))
 go_loopg [4] k (fun kq v4 w' => ∃ (x4_1 : Int), v4 = .int .i64 x4_1 ∧ Aside0 (petrinetref45_Reachable.l0 kq t316 x4_1 = some r) ∧ Aside0 (kq ≤ k) ∧ Aside0 (Kd.R Kd.bool 4 w' w.heap.size (fun _ => True) v317 t316) ∧ Aside0 (w'.heap[gb308]? = some (.cells #[.int .i64 a0_0, (.slice A0_1 l0_1.length c0_1), (.slice A0_2 l0_2.length c0_2)] 25 (0, 0))) ∧ Aside0 (Below w.heap.size w w'))
 case atStart => exact ⟨(0), tq_z, H', ⟨Nat.le_refl _⟩, ⟨sq_kr HO318.out⟩, ⟨sq_bk BK308.out⟩, ⟨sq_bs HB.out⟩⟩
 case round =>
  clear H'
  try clear c3
  try clear hcz7_0
  try clear hcz7_1
  try clear hcz7_2
  try clear hcz9_0
  try clear hcz9_1
  try clear hcz9_2
  try clear hfz7_0
  try clear hfz7_1
  try clear hfz7_2
  try clear hfz9_0
  try clear hfz9_1
  try clear hfz9_2
  obtain ⟨x4_1, rfl, HA, HK1, HO_3, BK308, HB⟩ := hrel
  cases gk with
  | zero => exact absurd HA.out (by simp [petrinetref45_Reachable.l0])
  | succ k1 =>
   have H := HA.out; clear HA
   simp only [petrinetref45_Reachable.l0] at H
   revert H; refine tq_dd (fun c16b0 H => ?_) (fun c16b0 H => ?_); rotate_left
   ·obtain rfl := Option.some.inj H; obtain ⟨Ao22, co22, eo22⟩ := Kd.R_slice HO_3.out; subst eo22
    go_wp2
    go_ret
    exact tq_v (sq_bs HB.out)
   revert H; refine tq_i1 fun c17b0 H => ?_; obtain ⟨bq18, hbq18⟩ : ∃ b_ : Bool, b_ = (rdOf false t316 x4_1) := ⟨_, rfl⟩; replace H : (if bq18 = true then (petrinetref45_Reachable.l0 k1 t316 (wrap64 (x4_1 + 1))) else (some false)) = some r := by rw [← hbq18] at H; exact H
   have Nbq18 := Aside0.mk hbq18; clear hbq18; cases bq18
   ·replace H := tq_f H; obtain rfl := Option.some.inj H; obtain ⟨Ao21, co21, eo21⟩ := Kd.R_slice HO_3.out; subst eo21; have p319 : 0 ≤ (x4_1 : Int) := sq_d; have q319 : x4_1 < (t316.length : Int) := sq_d; have LQ319 := Aside0.mk q319; obtain ⟨ad319, e319, hx319_0⟩ := Kd.at_bool (Kd.R_reads' HO_3.out).2.2 x4_1 p319 q319
    (try rw [← Nbq18.out] at hx319_0)
    cases e319; replace p319 := eq_true p319
    replace q319 := eq_true q319
    go_wp2
    go_ret
    exact tq_v (sq_bs HB.out)
   replace H := tq_t H; have H' := Aside0.mk H; clear H; obtain ⟨Ao20, co20, eo20⟩ := Kd.R_slice HO_3.out; subst eo20; have p319 : 0 ≤ (x4_1 : Int) := sq_d; have q319 : x4_1 < (t316.length : Int) := sq_d; have LQ319 := Aside0.mk q319; obtain ⟨ad319, e319, hx319_0⟩ := Kd.at_bool (Kd.R_reads' HO_3.out).2.2 x4_1 p319 q319
   (try rw [← Nbq18.out] at hx319_0)
   cases e319; replace p319 := eq_true p319
   replace q319 := eq_true q319
   go_wp2
   go_roundg k1
   case measure => have := HK1.out; omega
   case rel => exact ⟨(wrap64 (x4_1 + 1)), tq_z, H', ⟨by have := HK1.out; omega⟩, ⟨sq_kr HO_3.out⟩, ⟨sq_bk BK308.out⟩, ⟨sq_bs HB.out⟩⟩
end Go.Proofs.Ytcnliampiibpbaa.PAll
