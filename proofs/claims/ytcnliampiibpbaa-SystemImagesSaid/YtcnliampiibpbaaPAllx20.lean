/- Lean functions for Go functions, each with the proof that the call returns what it says; printed by wip/tools/myprint.py. -/
-- squeezed
-- tight
import Derived.Test.YtcnliampiibpbaaTq
import Derived.Test.YtcnliampiibpbaaPAllx0
import Derived.Test.YtcnliampiibpbaaPAllx9
namespace Go.Proofs.Ytcnliampiibpbaa.PAll
open Go.RowKit Go.Proofs.YtcnliampiibpbaaW.PrintWords Go.Proofs.YtcnliampiibpbaaW.PrintLast Go.Proofs.YtcnliampiibpbaaW.PrintMore
attribute [local go_sem] Instr.field asAgg max2_int min2_int max_two min_two max_three min_three max_four min_four   -- for this text's walks alone
set_option linter.unusedVariables false
set_option linter.unusedSimpArgs false

/-! ### petrinetref04_Lists: function 21 -/
def petrinetref04_Lists.l0 : Nat → List (List Int) → List (List Int) → Int → Option (Bool)
 | 0, _, _, _ => none
 | k + 1, x0, x1, x5 => if x5 < (x0.length : Int) then (if 0 ≤ x5 then (if x5 < (x1.length : Int) then ((petrinetref04_Same.f k (rd_L4 x0 x5) (rd_L4 x1 x5)).bind fun t391 => (if t391 = true then (petrinetref04_Lists.l0 k x0 x1 (wrap64 (x5 + 1))) else (some false))) else (none)) else (none)) else (some true)
def petrinetref04_Lists.f (k : Nat) (l0 : List (List Int)) (l1 : List (List Int)) : Option (Bool) := if (l0.length : Int) = (l1.length : Int) then (petrinetref04_Lists.l0 k l0 l1 0) else (some false)
theorem petrinetref04_Lists.mono_l : ∀ k, (∀ y0 y1 y2, LeO (petrinetref04_Lists.l0 k y0 y1 y2) (petrinetref04_Lists.l0 (k + 1) y0 y1 y2))
 | 0 => fun _ _ _ r h => by simp [petrinetref04_Lists.l0] at h
 | k + 1 => by
  have ih0 := petrinetref04_Lists.mono_l k
  ·intro y0 y1 y2
   unfold petrinetref04_Lists.l0
   repeat' (with_reducible first | exact ih0 _ _ _ | exact petrinetref04_Same.mono _ _ _ | exact LeO.refl _ | exact LeO.none _ | refine LeO.ite ?_ ?_ | refine LeO.bind ?_ (fun _ => ?_))
theorem petrinetref04_Lists.mono : ∀ a0 a1 k, LeO (petrinetref04_Lists.f k a0 a1) (petrinetref04_Lists.f (k + 1) a0 a1) := by
 intro a0 a1 k
 have ih0 := petrinetref04_Lists.mono_l k
 unfold petrinetref04_Lists.f
 repeat' (with_reducible first | exact ih0 _ _ _ | exact petrinetref04_Same.mono _ _ _ | exact LeO.refl _ | exact LeO.none _ | refine LeO.ite ?_ ?_ | refine LeO.bind ?_ (fun _ => ?_))
set_option maxHeartbeats 8000000 in
set_option maxRecDepth 100000 in
theorem petrinetref04_Lists.calls (k : Nat) (A0 : Option Addr) (c0 : Nat) (l0 : List (List Int)) (A1 : Option Addr) (c1 : Nat) (l1 : List (List Int)) (r : Bool) (w : World) (hr0 : Kd.C (Kd.slice 3 (Kd.int .i64)) w A0 l0.length l0) (hc0 : l0.length ≤ c0) (hr1 : Kd.C (Kd.slice 3 (Kd.int .i64)) w A1 l1.length l1) (hc1 : l1.length ≤ c1) (h : petrinetref04_Lists.f k l0 l1 = some r) :
  Calls Try.prog 21 #[.slice A0 l0.length c0, .slice A1 l1.length c1] w fun e w' => e = .returned (.bool r) ∧ Drawn0 w w' := by
 have hv30 := Try.underlying30; have HR0 := Aside0.mk hr0; have HC0 := Aside0.mk hc0; clear hr0 hc0; have HR1 := Aside0.mk hr1; have HC1 := Aside0.mk hc1; clear hr1 hc1; have H : (if (l0.length : Int) = (l1.length : Int) then (petrinetref04_Lists.l0 k l0 l1 0) else (some false)) = some r := h; clear h; revert H; refine tq_rr (fun c3 H => ?_) (fun c3 H => ?_); rotate_left
 ·obtain ⟨c3b0, c3b1⟩ := tq_n c3; have c3b2 : (l0.length == l1.length) = false := by first | simpa using c3 | (simp at c3 ⊢; omega)
  obtain rfl := Option.some.inj H
  go_enter Try.func21, Try.ntmps21
  go_wp2
  repeat (go_quiet (fail); try go_wp2)
  go_ret
  exact ⟨by first | rfl | (simp; done) | (simp [*]; done), by repeat (first | exact Drawn0.refl _ | apply Drawn0.step)⟩
 obtain ⟨c3b0, c3b1⟩ := tq_e c3; have c3b2 : (l0.length == l1.length) = true := by first | simpa using c3 | (simp at c3 ⊢; omega)
 clear c3; have H' := Aside0.mk H; clear H
 go_enter Try.func21, Try.ntmps21
 go_wp2
 repeat (go_quiet (fail); try go_wp2)
 go_loopg [5] k (fun kq v5 w' => ∃ (x5_1 : Int), v5 = .int .i64 x5_1 ∧ Aside0 (petrinetref04_Lists.l0 kq l0 l1 x5_1 = some r) ∧ Aside0 (kq ≤ k) ∧ Drawn0 w w')
 case atStart => exact ⟨(0), tq_z, H', ⟨Nat.le_refl _⟩, by repeat (first | exact Drawn0.refl _ | apply Drawn0.step)⟩
 case round =>
  clear H'
  try clear c3b0
  try clear c3b1
  try clear c3b2
  obtain ⟨x5_1, rfl, HA, HK1, ⟨m1, rfl⟩⟩ := hrel
  cases gk with
  | zero => exact absurd HA.out (by simp [petrinetref04_Lists.l0])
  | succ k1 =>
   have H := HA.out; clear HA
   simp only [petrinetref04_Lists.l0] at H
   revert H; refine tq_dd (fun c4b0 H => ?_) (fun c4b0 H => ?_); rotate_left
   ·obtain rfl := Option.some.inj H
    go_wp2
    repeat (go_quiet (fail); try go_wp2)
    go_ret
    exact ⟨by first | rfl | (simp; done) | (simp [*]; done), by repeat (first | exact Drawn0.refl _ | apply Drawn0.step)⟩
   revert H; refine tq_i1 fun c5b0 H => ?_; revert H; refine tq_i1 fun c6b0 H => ?_; revert H; refine tq_o fun t391 A7 H => ?_; cases t391
   ·replace H := tq_f H; obtain rfl := Option.some.inj H; have p389 : 0 ≤ (x5_1 : Int) := sq_d; have q389 : x5_1 < (l0.length : Int) := sq_d; have LQ389 := Aside0.mk q389; obtain ⟨ad389, A389_0, c389_0, e389, hx389_0, hl389_0, hi389_0⟩ := at_L4 HR0.out x5_1 p389 q389; cases e389; have HR389_0 := Aside0.mk hi389_0; have HC389_0 := Aside0.mk hl389_0; clear hi389_0 hl389_0; replace p389 := eq_true p389; replace q389 := eq_true q389; have p390 : 0 ≤ (x5_1 : Int) := sq_d; have q390 : x5_1 < (l1.length : Int) := sq_d; have LQ390 := Aside0.mk q390; obtain ⟨ad390, A390_0, c390_0, e390, hx390_0, hl390_0, hi390_0⟩ := at_L4 HR1.out x5_1 p390 q390; cases e390; have HR390_0 := Aside0.mk hi390_0; have HC390_0 := Aside0.mk hl390_0; clear hi390_0 hl390_0; replace p390 := eq_true p390; replace q390 := eq_true q390
    go_wp2_with (first | (go_at_call 20; (with_reducible refine (petrinetref04_Same.calls k1 _ _ (rd_L4 l0 x5_1) _ _ (rd_L4 l1 x5_1) false _ ?s1 ?s2 ?s3 ?s4 A7.out).mono ?_); (case s1 => exact sq_kc (HR389_0.out)); (case s2 => exact HC389_0.out); (case s3 => exact sq_kc (HR390_0.out)); (case s4 => exact HC390_0.out); rintro e w' ⟨rfl, ⟨nd, rfl⟩⟩; (try first | exact ⟨rfl, _, World.drewN_drewN _ _ _⟩ | exact ⟨rfl, _, Eq.trans (World.drewN_drewN _ _ _) (congrArg (World.drewN _) (Nat.add_assoc _ _ _))⟩)))
    repeat (go_quiet (first | (go_at_call 20; (with_reducible refine (petrinetref04_Same.calls k1 _ _ (rd_L4 l0 x5_1) _ _ (rd_L4 l1 x5_1) false _ ?s1 ?s2 ?s3 ?s4 A7.out).mono ?_); (case s1 => exact sq_kc (HR389_0.out)); (case s2 => exact HC389_0.out); (case s3 => exact sq_kc (HR390_0.out)); (case s4 => exact HC390_0.out); rintro e w' ⟨rfl, ⟨nd, rfl⟩⟩; (try first | exact ⟨rfl, _, World.drewN_drewN _ _ _⟩ | exact ⟨rfl, _, Eq.trans (World.drewN_drewN _ _ _) (congrArg (World.drewN _) (Nat.add_assoc _ _ _))⟩))); try go_wp2_with (first | (go_at_call 20; (with_reducible refine (petrinetref04_Same.calls k1 _ _ (rd_L4 l0 x5_1) _ _ (rd_L4 l1 x5_1) false _ ?s1 ?s2 ?s3 ?s4 A7.out).mono ?_); (case s1 => exact sq_kc (HR389_0.out)); (case s2 => exact HC389_0.out); (case s3 => exact sq_kc (HR390_0.out)); (case s4 => exact HC390_0.out); rintro e w' ⟨rfl, ⟨nd, rfl⟩⟩; (try first | exact ⟨rfl, _, World.drewN_drewN _ _ _⟩ | exact ⟨rfl, _, Eq.trans (World.drewN_drewN _ _ _) (congrArg (World.drewN _) (Nat.add_assoc _ _ _))⟩))))
    go_ret
    exact ⟨by first | rfl | (simp; done) | (simp [*]; done), by repeat (first | exact Drawn0.refl _ | apply Drawn0.step)⟩
   replace H := tq_t H; have H' := Aside0.mk H; clear H; have p389 : 0 ≤ (x5_1 : Int) := sq_d; have q389 : x5_1 < (l0.length : Int) := sq_d; have LQ389 := Aside0.mk q389; obtain ⟨ad389, A389_0, c389_0, e389, hx389_0, hl389_0, hi389_0⟩ := at_L4 HR0.out x5_1 p389 q389; cases e389; have HR389_0 := Aside0.mk hi389_0; have HC389_0 := Aside0.mk hl389_0; clear hi389_0 hl389_0; replace p389 := eq_true p389; replace q389 := eq_true q389; have p390 : 0 ≤ (x5_1 : Int) := sq_d; have q390 : x5_1 < (l1.length : Int) := sq_d; have LQ390 := Aside0.mk q390; obtain ⟨ad390, A390_0, c390_0, e390, hx390_0, hl390_0, hi390_0⟩ := at_L4 HR1.out x5_1 p390 q390; cases e390; have HR390_0 := Aside0.mk hi390_0; have HC390_0 := Aside0.mk hl390_0; clear hi390_0 hl390_0; replace p390 := eq_true p390; replace q390 := eq_true q390
   go_wp2_with (first | (go_at_call 20; (with_reducible refine (petrinetref04_Same.calls k1 _ _ (rd_L4 l0 x5_1) _ _ (rd_L4 l1 x5_1) true _ ?s1 ?s2 ?s3 ?s4 A7.out).mono ?_); (case s1 => exact sq_kc (HR389_0.out)); (case s2 => exact HC389_0.out); (case s3 => exact sq_kc (HR390_0.out)); (case s4 => exact HC390_0.out); rintro e w' ⟨rfl, ⟨nd, rfl⟩⟩; (try first | exact ⟨rfl, _, World.drewN_drewN _ _ _⟩ | exact ⟨rfl, _, Eq.trans (World.drewN_drewN _ _ _) (congrArg (World.drewN _) (Nat.add_assoc _ _ _))⟩)))
   repeat (go_quiet (first | (go_at_call 20; (with_reducible refine (petrinetref04_Same.calls k1 _ _ (rd_L4 l0 x5_1) _ _ (rd_L4 l1 x5_1) true _ ?s1 ?s2 ?s3 ?s4 A7.out).mono ?_); (case s1 => exact sq_kc (HR389_0.out)); (case s2 => exact HC389_0.out); (case s3 => exact sq_kc (HR390_0.out)); (case s4 => exact HC390_0.out); rintro e w' ⟨rfl, ⟨nd, rfl⟩⟩; (try first | exact ⟨rfl, _, World.drewN_drewN _ _ _⟩ | exact ⟨rfl, _, Eq.trans (World.drewN_drewN _ _ _) (congrArg (World.drewN _) (Nat.add_assoc _ _ _))⟩))); try go_wp2_with (first | (go_at_call 20; (with_reducible refine (petrinetref04_Same.calls k1 _ _ (rd_L4 l0 x5_1) _ _ (rd_L4 l1 x5_1) true _ ?s1 ?s2 ?s3 ?s4 A7.out).mono ?_); (case s1 => exact sq_kc (HR389_0.out)); (case s2 => exact HC389_0.out); (case s3 => exact sq_kc (HR390_0.out)); (case s4 => exact HC390_0.out); rintro e w' ⟨rfl, ⟨nd, rfl⟩⟩; (try first | exact ⟨rfl, _, World.drewN_drewN _ _ _⟩ | exact ⟨rfl, _, Eq.trans (World.drewN_drewN _ _ _) (congrArg (World.drewN _) (Nat.add_assoc _ _ _))⟩))))
   go_roundg k1
   case measure => have := HK1.out; omega
   case rel => exact ⟨(wrap64 (x5_1 + 1)), tq_z, H', ⟨by have := HK1.out; omega⟩, by repeat (first | exact Drawn0.refl _ | apply Drawn0.step)⟩
/-! ### system_after: function 39 -/
def system_after.l0 : Nat → List Bool → Int → List Bool → Bool → List (S44) → Int → Int → Option (List Bool × Bool)
 | 0, _, _, _, _, _, _, _ => none
 | k + 1, x1, x2, x8, x9, x16, x17, x18 => if x18 < x17 then (if 0 ≤ x18 then (if x18 < (x16.length : Int) then (if ((rd_T44 x16 x18).f1) = x2 then (if 0 ≤ ((rd_T44 x16 x18).f0) then (if ((rd_T44 x16 x18).f0) < (x1.length : Int) then (if rdOf false x1 ((rd_T44 x16 x18).f0) = true then (if 0 ≤ ((rd_T44 x16 x18).f2) then (if ((rd_T44 x16 x18).f2) < (x8.length : Int) then (system_after.l0 k x1 x2 (x8.set (((rd_T44 x16 x18).f2) : Int).toNat true) true x16 x17 (wrap64 (x18 + 1))) else (none)) else (none)) else (system_after.l0 k x1 x2 x8 x9 x16 x17 (wrap64 (x18 + 1)))) else (none)) else (none)) else (system_after.l0 k x1 x2 x8 x9 x16 x17 (wrap64 (x18 + 1)))) else (none)) else (none)) else (some (x8, x9))
def system_after.f (k : Nat) (a0_0 : Int) (l0_1 : List ByteArray) (l0_2 : List (S44)) (l1 : List Bool) (a2 : Int) : Option (List Bool × Bool) := if 0 ≤ a0_0 then (if (a0_0 : Int).toNat ≤ 281474976710656 then (system_after.l0 k l1 a2 (List.replicate (a0_0 : Int).toNat false) false l0_2 (l0_2.length : Int) 0) else (none)) else (none)
theorem system_after.mono_l : ∀ k, (∀ y0 y1 y2 y3 y4 y5 y6, LeO (system_after.l0 k y0 y1 y2 y3 y4 y5 y6) (system_after.l0 (k + 1) y0 y1 y2 y3 y4 y5 y6))
 | 0 => fun _ _ _ _ _ _ _ r h => by simp [system_after.l0] at h
 | k + 1 => by
  have ih0 := system_after.mono_l k
  ·intro y0 y1 y2 y3 y4 y5 y6
   unfold system_after.l0
   repeat' (with_reducible first | exact ih0 _ _ _ _ _ _ _ | exact LeO.refl _ | exact LeO.none _ | refine LeO.ite ?_ ?_ | refine LeO.bind ?_ (fun _ => ?_))
theorem system_after.mono : ∀ a0 a1 a2 a3 a4 k, LeO (system_after.f k a0 a1 a2 a3 a4) (system_after.f (k + 1) a0 a1 a2 a3 a4) := by
 intro a0 a1 a2 a3 a4 k
 have ih0 := system_after.mono_l k
 unfold system_after.f
 repeat' (with_reducible first | exact ih0 _ _ _ _ _ _ _ | exact LeO.refl _ | exact LeO.none _ | refine LeO.ite ?_ ?_ | refine LeO.bind ?_ (fun _ => ?_))
set_option maxHeartbeats 8000000 in
set_option maxRecDepth 100000 in
theorem system_after.calls (k : Nat) (a0_0 : Int) (A0_1 : Option Addr) (c0_1 : Nat) (l0_1 : List ByteArray) (A0_2 : Option Addr) (c0_2 : Nat) (l0_2 : List (S44)) (A1 : Option Addr) (c1 : Nat) (l1 : List Bool) (a2 : Int) (r1 : List Bool) (r2 : Bool) (w : World) (hr0_1 : Kd.C Kd.string w A0_1 l0_1.length l0_1) (hc0_1 : l0_1.length ≤ c0_1) (hr0_2 : Kd.C k44 w A0_2 l0_2.length l0_2) (hc0_2 : l0_2.length ≤ c0_2) (hr1 : Kd.C Kd.bool w A1 l1.length l1) (hc1 : l1.length ≤ c1) (h : system_after.f k a0_0 l0_1 l0_2 l1 a2 = some (r1, r2)) :
  Calls Try.prog 39 #[.agg #[.int .i64 a0_0, .slice A0_1 l0_1.length c0_1, .slice A0_2 l0_2.length c0_2], .slice A1 l1.length c1, .int .i64 a2] w fun e w' => ∃ v0_ : Value, e = .returned (.tuple #[v0_, .bool r2]) ∧ Kd.R Kd.bool 4 w' w.heap.size (fun _ => True) v0_ r1 ∧ Below w.heap.size w w' := by
 have hv30 := Try.underlying30; have hu25 := Try.underlying25; have hu44 := Try.underlying44; have HR0_1 := Aside0.mk hr0_1; have HC0_1 := Aside0.mk hc0_1; clear hr0_1 hc0_1; have HR0_2 := Aside0.mk hr0_2; have HC0_2 := Aside0.mk hc0_2; clear hr0_2 hc0_2; have HR1 := Aside0.mk hr1; have HC1 := Aside0.mk hc1; clear hr1 hc1; have HB := Aside0.mk (Below.refl w.heap.size w); have H : (if 0 ≤ a0_0 then (if (a0_0 : Int).toNat ≤ 281474976710656 then (system_after.l0 k l1 a2 (List.replicate (a0_0 : Int).toNat false) false l0_2 (l0_2.length : Int) 0) else (none)) else (none)) = some (r1, r2) := h; clear h; revert H; refine tq_ie fun c4b0 c4b1 H => ?_; revert H; refine tq_ie fun c5b0 c5b1 H => ?_; obtain ⟨y393, hy393⟩ : ∃ y_ : List Bool, y_ = (List.replicate (a0_0 : Int).toNat false) := ⟨_, rfl⟩; replace H : (system_after.l0 k l1 a2 y393 false l0_2 (l0_2.length : Int) 0) = some (r1, r2) := by first | (rw [hy393]; exact H) | exact H
 have Ny393 := Aside0.mk hy393; clear hy393; have H' := Aside0.mk H; clear H
 go_enter Try.func39, Try.ntmps39
 go_wp2_with (first | ((with_reducible refine gate_dst (N := 3) rfl ?_); refine sq_box 3 #[.int .i64 a0_0, .slice A0_1 l0_1.length c0_1, .slice A0_2 l0_2.length c0_2] 25 ?_; intro gb392 hg w6 hbox hb; have BK392 := Aside0.mk hbox; have GW392 := tq_w HB hg; have GE392 := tq_w HB hg; replace HB := tq_s HB hb; clear hb hbox hg; obtain ⟨hcz7_0, hcz7_1, hcz7_2, hfz7_0, hfz7_1, hfz7_2⟩ := tq_3 (w := w6) BK392) | ((with_reducible refine gate_dst (N := 14) rfl ?_); refine Kd.R_make Kd.bool _ 4 rfl (N := 14) rfl 50 _ _ rfl a0_0 rfl rfl Try.underlying50 (.bool false) 1 info4 rfl (by decide) (by omega) false (ok := fun _ => True) (okp := fun _ => True) rfl (fun _ hk => hk) trivial sq_d (Nat.le_trans (Nat.mul_le_mul_right _ (sq_d : a0_0.toNat ≤ 281474976710656)) (by omega)) (Below.refl _ _) (Nat.le_refl _) ?_; intro v394 w8 ho9 hb hg_ hnew_; clear hg_ hnew_; (first | rw [← Ny393.out] at ho9 | (simp only [Int.reduceToNat] at ho9; rw [← Ny393.out] at ho9)); have HO395 := Aside0.mk (Kd.R_lower ho9 (below_size (sq_bs HB.out))); replace BK392 := tq_k BK392 hb; replace HB := tq_s HB hb; clear hb ho9; obtain ⟨hcz10_0, hcz10_1, hcz10_2, hfz10_0, hfz10_1, hfz10_2⟩ := tq_3 (w := w8) BK392))
 go_loopg [9, 18] k (fun kq v9 v18 w' => ∃ (x8_1 : List Bool) (x9_1 : Bool) (x18_1 : Int), v9 = .bool x9_1 ∧ v18 = .int .i64 x18_1 ∧ Aside0 (system_after.l0 kq l1 a2 x8_1 x9_1 l0_2 (l0_2.length : Int) x18_1 = some (r1, r2)) ∧ Aside0 (kq ≤ k) ∧ Aside0 (Kd.R Kd.bool 4 w' w.heap.size (fun _ => True) v394 x8_1) ∧ Aside0 (w'.heap[gb392]? = some (.cells #[.int .i64 a0_0, (.slice A0_1 l0_1.length c0_1), (.slice A0_2 l0_2.length c0_2)] 25 (0, 0))) ∧ Aside0 (Below w.heap.size w w'))
 case atStart => exact ⟨(y393), (false), (0), tq_z, tq_z, H', ⟨Nat.le_refl _⟩, ⟨sq_kr HO395.out⟩, ⟨sq_bk BK392.out⟩, ⟨sq_bs HB.out⟩⟩
 case round =>
  clear H'
  try clear c4b0
  try clear c4b1
  try clear c5b0
  try clear c5b1
  try clear hcz10_0
  try clear hcz10_1
  try clear hcz10_2
  try clear hcz7_0
  try clear hcz7_1
  try clear hcz7_2
  try clear hfz10_0
  try clear hfz10_1
  try clear hfz10_2
  try clear hfz7_0
  try clear hfz7_1
  try clear hfz7_2
  obtain ⟨x8_1, x9_1, x18_1, rfl, rfl, HA, HK1, HO_8, BK392, HB⟩ := hrel
  cases gk with
  | zero => exact absurd HA.out (by simp [system_after.l0])
  | succ k1 =>
   have H := HA.out; clear HA
   simp only [system_after.l0] at H
   revert H; refine tq_dd (fun c11b0 H => ?_) (fun c11b0 H => ?_); rotate_left
   ·simp only [Option.some.injEq, Prod.mk.injEq] at H
    obtain ⟨rfl, rfl⟩ := H
    go_wp2
    go_ret2
    exact ⟨_, tq_v ⟨sq_kr HO_8.out, sq_bs HB.out⟩⟩
   revert H; refine tq_i1 fun c12b0 H => ?_; revert H; refine tq_i1 fun c13b0 H => ?_; revert H; refine tq_rr (fun c14 H => ?_) (fun c14 H => ?_); rotate_left
   ·obtain ⟨c14b0, c14b1⟩ := tq_n c14; have H' := Aside0.mk H; clear H; have p396 : 0 ≤ (x18_1 : Int) := sq_d; have q396 : x18_1 < (l0_2.length : Int) := sq_d; have LQ396 := Aside0.mk q396; obtain ⟨ad396, e396, hx396_0, hx396_1, hx396_2⟩ := at_T44 HR0_2.out x18_1 p396 q396; cases e396; replace hx396_0 := tq_hx HB hx396_0; replace hx396_1 := tq_hx HB hx396_1; replace hx396_2 := tq_hx HB hx396_2; replace p396 := eq_true p396; replace q396 := eq_true q396
    go_wp2_with (first | ((with_reducible refine gate_dst (N := 11) rfl ?_); refine sq_box 11 #[.int .i64 0, .int .i64 0, .int .i64 0] 44 ?_; intro gb397 hg w32 hbox hb; replace HO_8 := tq_r HO_8 hb; have BK397 := Aside0.mk hbox; have GW397 := tq_w HB hg; have GE397 := tq_w HB hg; replace HB := tq_s HB hb; have NB392_397 := tq_nl BK392 hg; have NB397_392 := tq_ng BK392 hg; replace BK392 := tq_k BK392 hb; clear hb hbox hg; have hnb33 := NB397_392.out; have hnc33 := NB392_397.out; obtain ⟨hcz34_0, hcz34_1, hcz34_2, hfz34_0, hfz34_1, hfz34_2⟩ := tq_3 (w := w32) BK397))
    go_roundg k1
    case measure => have := HK1.out; omega
    case rel => exact ⟨(x8_1), (x9_1), (wrap64 (x18_1 + 1)), tq_z, tq_z, H', ⟨by have := HK1.out; omega⟩, ⟨by (with_reducible repeat (first | apply Kd.R_alloc | apply Kd.R_drewN | apply Kd.R_drew)); exact Kd.R_mono (Kd.R_far (p := ⟨gb397, 2, none⟩) (Kd.R_far (p := ⟨gb397, 1, none⟩) (Kd.R_far (p := ⟨gb397, 0, none⟩) (Kd.R_types HO_8.out BK397.out (by decide)) (fun _ hk => hk.2) (.int .i64 ((rd_T44 l0_2 x18_1).f0))) (fun _ hk => hk.2) (.int .i64 ((rd_T44 l0_2 x18_1).f1))) (fun _ hk => hk.2) (.int .i64 ((rd_T44 l0_2 x18_1).f2))) (fun _ hk => trivial)⟩, ⟨by refine tq_b ?_; refine blk_far ?_ NB392_397.out _; refine tq_b ?_; refine blk_far ?_ NB392_397.out _; refine tq_b ?_; refine blk_far ?_ NB392_397.out _; refine tq_b ?_; exact BK392.out⟩, ⟨sq_bs HB.out⟩⟩
   obtain ⟨c14b0, c14b1⟩ := tq_e c14; clear c14; revert H; refine tq_i1 fun c15b0 H => ?_; revert H; refine tq_i1 fun c16b0 H => ?_; obtain ⟨bq17, hbq17⟩ : ∃ b_ : Bool, b_ = (rdOf false l1 ((rd_T44 l0_2 x18_1).f0)) := ⟨_, rfl⟩; replace H : (if bq17 = true then (if 0 ≤ ((rd_T44 l0_2 x18_1).f2) then (if ((rd_T44 l0_2 x18_1).f2) < (x8_1.length : Int) then (system_after.l0 k1 l1 a2 (x8_1.set (((rd_T44 l0_2 x18_1).f2) : Int).toNat true) true l0_2 (l0_2.length : Int) (wrap64 (x18_1 + 1))) else (none)) else (none)) else (system_after.l0 k1 l1 a2 x8_1 x9_1 l0_2 (l0_2.length : Int) (wrap64 (x18_1 + 1)))) = some (r1, r2) := by rw [← hbq17] at H; exact H
   have Nbq17 := Aside0.mk hbq17; clear hbq17; cases bq17
   ·replace H := tq_f H; have H' := Aside0.mk H; clear H; have p396 : 0 ≤ (x18_1 : Int) := sq_d; have q396 : x18_1 < (l0_2.length : Int) := sq_d; have LQ396 := Aside0.mk q396; obtain ⟨ad396, e396, hx396_0, hx396_1, hx396_2⟩ := at_T44 HR0_2.out x18_1 p396 q396; cases e396; replace hx396_0 := tq_hx HB hx396_0; replace hx396_1 := tq_hx HB hx396_1; replace hx396_2 := tq_hx HB hx396_2; replace p396 := eq_true p396; replace q396 := eq_true q396
    go_wp2_with (first | ((with_reducible refine gate_dst (N := 11) rfl ?_); refine sq_box 11 #[.int .i64 0, .int .i64 0, .int .i64 0] 44 ?_; intro gb397 hg w29 hbox hb; replace HO_8 := tq_r HO_8 hb; have BK397 := Aside0.mk hbox; have GW397 := tq_w HB hg; have GE397 := tq_w HB hg; replace HB := tq_s HB hb; have NB392_397 := tq_nl BK392 hg; have NB397_392 := tq_ng BK392 hg; replace BK392 := tq_k BK392 hb; clear hb hbox hg; have hnb30 := NB397_392.out; have hnc30 := NB392_397.out; obtain ⟨hcz31_0, hcz31_1, hcz31_2, hfz31_0, hfz31_1, hfz31_2⟩ := tq_3 (w := w29) BK397; have p398 : 0 ≤ (((rd_T44 l0_2 x18_1).f0) : Int) := sq_d; have q398 : ((rd_T44 l0_2 x18_1).f0) < (l1.length : Int) := sq_d; obtain ⟨ad398, e398, hx398_0⟩ := Kd.at_bool HR1.out ((rd_T44 l0_2 x18_1).f0) p398 q398; (try rw [← Nbq17.out] at hx398_0); cases e398; have hn398_0 : ad398.block ≠ gb397 := Nat.ne_of_lt (Nat.lt_of_lt_of_le (by have := World.block_lt_of_cell? _ _ hx398_0; first | rwa [add_block] at this | exact this) GW397.out); have hn398_1 : ad398.block ≠ gb397 := Nat.ne_of_lt (Nat.lt_of_lt_of_le (by have := World.block_lt_of_cell? _ _ hx398_0; first | rwa [add_block] at this | exact this) GW397.out); have hn398_2 : ad398.block ≠ gb397 := Nat.ne_of_lt (Nat.lt_of_lt_of_le (by have := World.block_lt_of_cell? _ _ hx398_0; first | rwa [add_block] at this | exact this) GW397.out); replace hx398_0 := tq_hx HB hx398_0; replace hx398_0 := (cell_far (p := ⟨gb397, 0, none⟩) (by first | (rw [add_block]; exact hn398_0) | (show (Addr.add _ _).block ≠ _; rw [add_block]; exact hn398_0) | exact hn398_0) (.int .i64 ((rd_T44 l0_2 x18_1).f0))).trans hx398_0; replace hx398_0 := (cell_far (p := ⟨gb397, 1, none⟩) (by first | (rw [add_block]; exact hn398_1) | (show (Addr.add _ _).block ≠ _; rw [add_block]; exact hn398_1) | exact hn398_1) (.int .i64 ((rd_T44 l0_2 x18_1).f1))).trans hx398_0; replace hx398_0 := (cell_far (p := ⟨gb397, 2, none⟩) (by first | (rw [add_block]; exact hn398_2) | (show (Addr.add _ _).block ≠ _; rw [add_block]; exact hn398_2) | exact hn398_2) (.int .i64 ((rd_T44 l0_2 x18_1).f2))).trans hx398_0; clear hn398_0; clear hn398_1; clear hn398_2; replace p398 := eq_true p398; replace q398 := eq_true q398))
    go_roundg k1
    case measure => have := HK1.out; omega
    case rel => exact ⟨(x8_1), (x9_1), (wrap64 (x18_1 + 1)), tq_z, tq_z, H', ⟨by have := HK1.out; omega⟩, ⟨by (with_reducible repeat (first | apply Kd.R_alloc | apply Kd.R_drewN | apply Kd.R_drew)); exact Kd.R_mono (Kd.R_far (p := ⟨gb397, 2, none⟩) (Kd.R_far (p := ⟨gb397, 1, none⟩) (Kd.R_far (p := ⟨gb397, 0, none⟩) (Kd.R_types HO_8.out BK397.out (by decide)) (fun _ hk => hk.2) (.int .i64 ((rd_T44 l0_2 x18_1).f0))) (fun _ hk => hk.2) (.int .i64 ((rd_T44 l0_2 x18_1).f1))) (fun _ hk => hk.2) (.int .i64 ((rd_T44 l0_2 x18_1).f2))) (fun _ hk => trivial)⟩, ⟨by refine tq_b ?_; refine blk_far ?_ NB392_397.out _; refine tq_b ?_; refine blk_far ?_ NB392_397.out _; refine tq_b ?_; refine blk_far ?_ NB392_397.out _; refine tq_b ?_; exact BK392.out⟩, ⟨sq_bs HB.out⟩⟩
   replace H := tq_t H; revert H; refine tq_i1 fun c19b0 H => ?_; revert H; refine tq_i1 fun c20b0 H => ?_; obtain ⟨y399, hy399⟩ : ∃ y_ : List Bool, y_ = (x8_1.set (((rd_T44 l0_2 x18_1).f2) : Int).toNat true) := ⟨_, rfl⟩; replace H : (system_after.l0 k1 l1 a2 y399 true l0_2 (l0_2.length : Int) (wrap64 (x18_1 + 1))) = some (r1, r2) := by first | (rw [hy399]; exact H) | exact H
   have Ny399 := Aside0.mk hy399; clear hy399; have H' := Aside0.mk H; clear H; have p396 : 0 ≤ (x18_1 : Int) := sq_d; have q396 : x18_1 < (l0_2.length : Int) := sq_d; have LQ396 := Aside0.mk q396; obtain ⟨ad396, e396, hx396_0, hx396_1, hx396_2⟩ := at_T44 HR0_2.out x18_1 p396 q396; cases e396; replace hx396_0 := tq_hx HB hx396_0; replace hx396_1 := tq_hx HB hx396_1; replace hx396_2 := tq_hx HB hx396_2; replace p396 := eq_true p396; replace q396 := eq_true q396
   go_wp2_with (first | ((with_reducible refine gate_dst (N := 11) rfl ?_); refine sq_box 11 #[.int .i64 0, .int .i64 0, .int .i64 0] 44 ?_; intro gb397 hg w22 hbox hb; replace HO_8 := tq_r HO_8 hb; have BK397 := Aside0.mk hbox; have GW397 := tq_w HB hg; have GE397 := tq_w HB hg; replace HB := tq_s HB hb; have NB392_397 := tq_nl BK392 hg; have NB397_392 := tq_ng BK392 hg; replace BK392 := tq_k BK392 hb; clear hb hbox hg; have hnb23 := NB397_392.out; have hnc23 := NB392_397.out; obtain ⟨hcz24_0, hcz24_1, hcz24_2, hfz24_0, hfz24_1, hfz24_2⟩ := tq_3 (w := w22) BK397) | ((with_reducible refine gate_store (t := 44) (p := 11) rfl ?_); refine store_event (t := 44) (p := 11) (v := ?vo_w25) (w1 := (((w22.setCell ⟨gb397, 0, none⟩ (.int .i64 ((rd_T44 l0_2 x18_1).f0))).setCell ⟨gb397, 1, none⟩ (.int .i64 ((rd_T44 l0_2 x18_1).f1))).setCell ⟨gb397, 2, none⟩ (.int .i64 ((rd_T44 l0_2 x18_1).f2)))) ?hg ?ho ?hn ?hr ?_; (case ho => rfl); (case hg => rfl); (case hn => rfl); (case hr => first | (go_simp; done) | (go_simp; rfl)); intro w25 hw; have n0_ : Aside0 (Kd.R Kd.bool 4 w25 w.heap.size (fun _ => True) v394 x8_1) := ⟨(by rw [hw]; exact (by (with_reducible repeat (first | apply Kd.R_alloc | apply Kd.R_drewN | apply Kd.R_drew)); exact Kd.R_mono (Kd.R_far (p := ⟨gb397, 2, none⟩) (Kd.R_far (p := ⟨gb397, 1, none⟩) (Kd.R_far (p := ⟨gb397, 0, none⟩) (Kd.R_types HO_8.out BK397.out (by decide)) (fun _ hk => hk.2) (.int .i64 ((rd_T44 l0_2 x18_1).f0))) (fun _ hk => hk.2) (.int .i64 ((rd_T44 l0_2 x18_1).f1))) (fun _ hk => hk.2) (.int .i64 ((rd_T44 l0_2 x18_1).f2))) (fun _ hk => trivial)))⟩; have n1_ : Aside0 (w25.heap[gb392]? = some (.cells #[.int .i64 a0_0, .slice A0_1 l0_1.length c0_1, .slice (some ad396) l0_2.length c0_2] 25 (0, 0))) := ⟨(by rw [hw]; exact (by refine tq_b ?_; refine blk_far ?_ NB392_397.out _; refine tq_b ?_; refine blk_far ?_ NB392_397.out _; refine tq_b ?_; refine blk_far ?_ NB392_397.out _; refine tq_b ?_; exact BK392.out))⟩; have n2_ : Aside0 (w25.heap[gb397]? = some (.cells #[.int .i64 ((rd_T44 l0_2 x18_1).f0), .int .i64 ((rd_T44 l0_2 x18_1).f1), .int .i64 ((rd_T44 l0_2 x18_1).f2)] 44 (0, 0))) := ⟨(by rw [hw]; exact (by refine tq_b ?_; refine blk_put (cs := #[.int .i64 ((rd_T44 l0_2 x18_1).f0), .int .i64 ((rd_T44 l0_2 x18_1).f1), .int .i64 0]) ?_ 2 _ rfl; refine tq_b ?_; refine blk_put (cs := #[.int .i64 ((rd_T44 l0_2 x18_1).f0), .int .i64 0, .int .i64 0]) ?_ 1 _ rfl; refine tq_b ?_; refine blk_put (cs := #[.int .i64 0, .int .i64 0, .int .i64 0]) ?_ 0 _ rfl; refine tq_b ?_; exact BK397.out))⟩; have n3_ : Aside0 (Below w.heap.size w w25) := ⟨(by rw [hw]; exact (sq_bs HB.out))⟩; clear hw; clear HO_8; clear BK392; clear BK397; clear HB; have HO_8 := n0_; have BK392 := n1_; have BK397 := n2_; have HB := n3_; clear n0_ n1_ n2_ n3_; obtain ⟨hcz26_0, hcz26_1, hcz26_2, hfz26_0, hfz26_1, hfz26_2⟩ := tq_3 (w := w25) BK397; have p398 : 0 ≤ (((rd_T44 l0_2 x18_1).f0) : Int) := sq_d; have q398 : ((rd_T44 l0_2 x18_1).f0) < (l1.length : Int) := sq_d; obtain ⟨ad398, e398, hx398_0⟩ := Kd.at_bool HR1.out ((rd_T44 l0_2 x18_1).f0) p398 q398; (try rw [← Nbq17.out] at hx398_0); cases e398; replace hx398_0 := tq_hx HB hx398_0; replace p398 := eq_true p398; replace q398 := eq_true q398; have p21 : 0 ≤ (((rd_T44 l0_2 x18_1).f2) : Int) := sq_d; have q21 : (((rd_T44 l0_2 x18_1).f2) : Int) < ((x8_1.length : Int) : Int) := sq_d; obtain ⟨go21, co21, eo21, gb21, gl21, cl21, HG21⟩ := Kd.R_form HO_8.out (by omega); (first | cases eo21 | (injection eo21 with ea_ en_ ec_; (first | subst ea_ | (injection ea_ with ea_; subst ea_)); subst ec_; clear en_)); have GB21 := Aside0.mk gb21; have GG21 := Aside0.mk HG21; clear gb21 gl21 HG21; obtain ⟨hx21_0, hf21_0⟩ := Kd.R_celln false HO_8.out (((rd_T44 l0_2 x18_1).f2) : Int) p21 q21; replace p21 := eq_true p21; replace q21 := eq_true q21; obtain ⟨hy27_, hz27_⟩ := Kd.R_celln false HO_8.out (((rd_T44 l0_2 x18_1).f2) : Int) sq_d sq_d; have HP27 := Kd.R_putg HO_8.out (((rd_T44 l0_2 x18_1).f2) : Int) true) | ((with_reducible refine gate_store (t := 4) (p := 36) rfl ?_); refine store_event (t := 4) (p := 36) (v := ?vo_w28) (w1 := (w25.setCell ⟨go21, (((rd_T44 l0_2 x18_1).f2) : Int).toNat, none⟩ (.bool true))) ?hg ?ho ?hn ?hr ?_; (case ho => rfl); (case hg => rfl); (case hn => rfl); (case hr => first | (go_simp; done) | (go_simp; rfl)); intro w28 hw; have hg : w25.grownBy w28 (some go21) := (by rw [hw]; exact HP27.2); have hp_ : Kd.R Kd.bool 4 w28 w.heap.size (fun _ => True) (.slice (some ⟨go21, 0, none⟩) x8_1.length co21) y399 := (by rw [hw, Ny399.out]; exact HP27.1); clear HP27; replace BK392 := tq_gr BK392 hg (Kd.R_ne HO_8.out BK392.out (by decide)); replace BK397 := tq_gr BK397 hg (Kd.R_ne HO_8.out BK397.out (by decide)); replace HO_8 := Aside0.mk hp_; replace HB := Aside0.mk (by rw [hw]; exact below_set (HB.out) GB21.out : Below w.heap.size w w28); clear hg hw hp_))
   go_roundg k1
   case measure => have := HK1.out; omega
   case rel => exact ⟨(y399), (true), (wrap64 (x18_1 + 1)), tq_z, tq_z, H', ⟨by have := HK1.out; omega⟩, ⟨sq_kr HO_8.out⟩, ⟨sq_bk BK392.out⟩, ⟨sq_bs HB.out⟩⟩
end Go.Proofs.Ytcnliampiibpbaa.PAll
