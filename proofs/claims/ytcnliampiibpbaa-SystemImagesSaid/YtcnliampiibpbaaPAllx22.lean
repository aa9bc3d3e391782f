/- Lean functions for Go functions, each with the proof that the call returns what it says; printed by wip/tools/myprint.py. -/
-- squeezed
-- tight
import Derived.Test.YtcnliampiibpbaaTq
import Derived.Test.YtcnliampiibpbaaPAllx0
namespace Go.Proofs.Ytcnliampiibpbaa.PAll
open Go.RowKit Go.Proofs.YtcnliampiibpbaaW.PrintWords Go.Proofs.YtcnliampiibpbaaW.PrintLast Go.Proofs.YtcnliampiibpbaaW.PrintMore
attribute [local go_sem] Instr.field asAgg max2_int min2_int max_two min_two max_three min_three max_four min_four   -- for this text's walks alone
set_option linter.unusedVariables false
set_option linter.unusedSimpArgs false

/-! ### petrinetref04_Copy: function 40 -/
def petrinetref04_Copy.l0 : Nat → List Int → List Int → Int → Option (List Int)
 | 0, _, _, _ => none
 | k + 1, x0, x3, x4 => if x4 < (x0.length : Int) then (if 0 ≤ x4 then (if x3.length < 17592186044416 then (petrinetref04_Copy.l0 k x0 (x3 ++ [rd x0 x4]) (wrap64 (x4 + 1))) else (none)) else (none)) else (some x3)
def petrinetref04_Copy.f (k : Nat) (l0 : List Int) : Option (List Int) := petrinetref04_Copy.l0 k l0 ([] : List Int) 0
theorem petrinetref04_Copy.mono_l : ∀ k, (∀ y0 y1 y2, LeO (petrinetref04_Copy.l0 k y0 y1 y2) (petrinetref04_Copy.l0 (k + 1) y0 y1 y2))
 | 0 => fun _ _ _ r h => by simp [petrinetref04_Copy.l0] at h
 | k + 1 => by
  have ih0 := petrinetref04_Copy.mono_l k
  ·intro y0 y1 y2
   unfold petrinetref04_Copy.l0
   repeat' (with_reducible first | exact ih0 _ _ _ | exact LeO.refl _ | exact LeO.none _ | refine LeO.ite ?_ ?_ | refine LeO.bind ?_ (fun _ => ?_))
theorem petrinetref04_Copy.mono : ∀ a0 k, LeO (petrinetref04_Copy.f k a0) (petrinetref04_Copy.f (k + 1) a0) := by
 intro a0 k
 have ih0 := petrinetref04_Copy.mono_l k
 unfold petrinetref04_Copy.f
 repeat' (with_reducible first | exact ih0 _ _ _ | exact LeO.refl _ | exact LeO.none _ | refine LeO.ite ?_ ?_ | refine LeO.bind ?_ (fun _ => ?_))
set_option maxHeartbeats 8000000 in
set_option maxRecDepth 100000 in
theorem petrinetref04_Copy.calls (k : Nat) (A0 : Option Addr) (c0 : Nat) (l0 : List Int) (r : List Int) (w : World) (hr0 : Kd.C (Kd.int .i64) w A0 l0.length l0) (hc0 : l0.length ≤ c0) (h : petrinetref04_Copy.f k l0 = some r) :
  Calls Try.prog 40 #[.slice A0 l0.length c0] w fun e w' => ∃ v0_ : Value, e = .returned (v0_) ∧ Kd.R (Kd.int .i64) 3 w' w.heap.size (fun _ => True) v0_ r ∧ Below w.heap.size w w' := by
 have hv30 := Try.underlying30; have HR0 := Aside0.mk hr0; have HC0 := Aside0.mk hc0; clear hr0 hc0; have HB := Aside0.mk (Below.refl w.heap.size w); have H : (petrinetref04_Copy.l0 k l0 ([] : List Int) 0) = some r := h; clear h; have H' := Aside0.mk H; clear H
 go_enter Try.func40, Try.ntmps40
 go_wp2
 go_loopg [3, 4] k (fun kq v3 v4 w' => ∃ (x3_1 : List Int) (x4_1 : Int), v4 = .int .i64 x4_1 ∧ Aside0 (petrinetref04_Copy.l0 kq l0 x3_1 x4_1 = some r) ∧ Aside0 (kq ≤ k) ∧ Aside0 (Kd.R (Kd.int .i64) 3 w' w.heap.size (fun _ => True) v3 x3_1) ∧ Aside0 (Below w.heap.size w w'))
 case atStart => exact ⟨(([] : List Int)), (0), tq_z, H', ⟨Nat.le_refl _⟩, ⟨by first | exact Kd.R_nil _ _ _ _ _ | exact Kd.N_nil _ _ _ _ _ | exact Kd.V_nil _ _ _ _ _ | exact Kd.Q_nil _ _ _ _ _ | exact Kd.S_nil _ _ _ _ _⟩, ⟨sq_bl HB.out⟩⟩
 case round =>
  clear H'; obtain ⟨x3_1, x4_1, rfl, HA, HK1, HO_3, HB⟩ := hrel
  cases gk with
  | zero => exact absurd HA.out (by simp [petrinetref04_Copy.l0])
  | succ k1 =>
   have H := HA.out; clear HA
   simp only [petrinetref04_Copy.l0] at H
   revert H; refine tq_dd (fun c2b0 H => ?_) (fun c2b0 H => ?_); rotate_left
   ·obtain rfl := Option.some.inj H
    go_wp2
    go_ret
    exact ⟨_, tq_v ⟨sq_kr HO_3.out, sq_bl HB.out⟩⟩
   revert H; refine tq_i1 fun c3b0 H => ?_; revert H; refine tq_i fun c4 H => ?_; have LMc4 := Aside0.mk c4; clear c4; obtain ⟨y431, hy431⟩ : ∃ y_ : List Int, y_ = (x3_1 ++ [rd l0 x4_1]) := ⟨_, rfl⟩; replace H : (petrinetref04_Copy.l0 k1 l0 y431 (wrap64 (x4_1 + 1))) = some r := by first | (rw [hy431]; exact H) | exact H
   have Ny431 := Aside0.mk hy431; clear hy431; have H' := Aside0.mk H; clear H; have p430 : 0 ≤ (x4_1 : Int) := sq_d; have q430 : x4_1 < (l0.length : Int) := sq_d; have LQ430 := Aside0.mk q430; obtain ⟨ad430, e430, hx430_0⟩ := Kd.at_int HR0.out x4_1 p430 q430; cases e430; replace hx430_0 := tq_hx HB hx430_0; replace p430 := eq_true p430; replace q430 := eq_true q430
   go_wp2_with (first | ((with_reducible refine gate_builtin (b := .append) (xs := #[.tmp 11, .tmp 16]) rfl ?_); at_builtin; refine Kd.R_append (Kd.int .i64) (w0 := w) w.heap.size rfl (.tmp 11) (.tmp 16) 34 3 (.int .i64 0) 8 rfl Try.underlying34 info3 rfl (by decide) (by omega) u3 x3_1 (rd l0 x4_1) [.int .i64 (rd l0 x4_1)] (fun _ => True) (fun _ => False) rfl rfl ?aP (fun _ hk => hk.elim) ?aF ?aO ?aB ?aS ?aL ?_; (case aP => exact rfl); (case aB => exact (sq_bl HB.out)); (case aF => exact (fun _ _ => trivial)); (case aO => exact (sq_kr HO_3.out)); (case aS => exact (below_size (sq_bl HB.out))); (case aL => have := LMc4.out; omega); intro v432 w5 ho hb hg hat; rw [← Ny431.out] at ho; replace HB := Aside0.mk hb; have HO433 := Aside0.mk ho; clear HO_3; clear ho hb hg hat))
   go_roundg k1
   case measure => have := HK1.out; omega
   case rel => exact ⟨(y431), (wrap64 (x4_1 + 1)), tq_z, H', ⟨by have := HK1.out; omega⟩, ⟨sq_kr HO433.out⟩, ⟨sq_bl HB.out⟩⟩
/-! ### petrinetref45_Follow: function 46 -/
mutual
def petrinetref45_Follow.l0 : Nat → List Int → List Bool → Int → Int → List ByteArray → List (S44) → Option (List Bool)
 | 0, _, _, _, _, _, _ => none
 | k + 1, x1, x5, x6, x435000, x435001, x435002 => if x6 < (x1.length : Int) then (if 0 ≤ x435000 then (if (x435000 : Int).toNat ≤ 281474976710656 then (petrinetref45_Follow.l1 k x1 x5 x6 (List.replicate (x435000 : Int).toNat false) 0 x435000 x435001 x435002) else (none)) else (none)) else (some x5)
def petrinetref45_Follow.l1 : Nat → List Int → List Bool → Int → List Bool → Int → Int → List ByteArray → List (S44) → Option (List Bool)
 | 0, _, _, _, _, _, _, _, _ => none
 | k + 1, x1, x5, x6, x7, x8, x435000, x435001, x435002 => if x8 < (x435002.length : Int) then (if 0 ≤ x8 then (if 0 ≤ x6 then (if x6 < (x1.length : Int) then (if ((rd_T44 x435002 x8).f1) = (rd x1 x6) then (if 0 ≤ ((rd_T44 x435002 x8).f0) then (if ((rd_T44 x435002 x8).f0) < (x5.length : Int) then (if rdOf false x5 ((rd_T44 x435002 x8).f0) = true then (if 0 ≤ ((rd_T44 x435002 x8).f2) then (if ((rd_T44 x435002 x8).f2) < (x7.length : Int) then (petrinetref45_Follow.l1 k x1 x5 x6 (x7.set (((rd_T44 x435002 x8).f2) : Int).toNat true) (wrap64 (x8 + 1)) x435000 x435001 x435002) else (none)) else (none)) else (petrinetref45_Follow.l1 k x1 x5 x6 x7 (wrap64 (x8 + 1)) x435000 x435001 x435002)) else (none)) else (none)) else (petrinetref45_Follow.l1 k x1 x5 x6 x7 (wrap64 (x8 + 1)) x435000 x435001 x435002)) else (none)) else (none)) else (none)) else (petrinetref45_Follow.l0 k x1 x7 (wrap64 (x6 + 1)) x435000 x435001 x435002)
end
def petrinetref45_Follow.f (k : Nat) (a0_0 : Int) (l0_1 : List ByteArray) (l0_2 : List (S44)) (l1 : List Int) : Option (List Bool) := if 0 ≤ a0_0 then (if (a0_0 : Int).toNat ≤ 281474976710656 then ((some (List.replicate (a0_0 : Int).toNat false : List Bool)).bind fun y435 => (if 0 < (y435.length : Int) then (petrinetref45_Follow.l0 k l1 (y435.set (0 : Int).toNat true) 0 a0_0 l0_1 l0_2) else (none))) else (none)) else (none)
theorem petrinetref45_Follow.mono_l : ∀ k, (∀ y0 y1 y2 y3 y4 y5, LeO (petrinetref45_Follow.l0 k y0 y1 y2 y3 y4 y5) (petrinetref45_Follow.l0 (k + 1) y0 y1 y2 y3 y4 y5)) ∧ (∀ y0 y1 y2 y3 y4 y5 y6 y7, LeO (petrinetref45_Follow.l1 k y0 y1 y2 y3 y4 y5 y6 y7) (petrinetref45_Follow.l1 (k + 1) y0 y1 y2 y3 y4 y5 y6 y7))
 | 0 => ⟨fun _ _ _ _ _ _ r h => by simp [petrinetref45_Follow.l0] at h, fun _ _ _ _ _ _ _ _ r h => by simp [petrinetref45_Follow.l1] at h⟩
 | k + 1 => by
  obtain ⟨ih0, ih1⟩ := petrinetref45_Follow.mono_l k
  refine ⟨?_, ?_⟩
  all_goals intros
  all_goals first | unfold petrinetref45_Follow.l0 | unfold petrinetref45_Follow.l1
  all_goals repeat' (with_reducible first | exact ih0 _ _ _ _ _ _ | exact ih1 _ _ _ _ _ _ _ _ | exact LeO.refl _ | exact LeO.none _ | refine LeO.ite ?_ ?_ | refine LeO.bind ?_ (fun _ => ?_))
theorem petrinetref45_Follow.mono : ∀ a0 a1 a2 a3 k, LeO (petrinetref45_Follow.f k a0 a1 a2 a3) (petrinetref45_Follow.f (k + 1) a0 a1 a2 a3) := by
 intro a0 a1 a2 a3 k
 obtain ⟨ih0, ih1⟩ := petrinetref45_Follow.mono_l k
 unfold petrinetref45_Follow.f
 repeat' (with_reducible first | exact ih0 _ _ _ _ _ _ | exact ih1 _ _ _ _ _ _ _ _ | exact LeO.refl _ | exact LeO.none _ | refine LeO.ite ?_ ?_ | refine LeO.bind ?_ (fun _ => ?_))
set_option maxHeartbeats 8000000 in
set_option maxRecDepth 100000 in
theorem petrinetref45_Follow.calls (k : Nat) (a0_0 : Int) (A0_1 : Option Addr) (c0_1 : Nat) (l0_1 : List ByteArray) (A0_2 : Option Addr) (c0_2 : Nat) (l0_2 : List (S44)) (A1 : Option Addr) (c1 : Nat) (l1 : List Int) (r : List Bool) (w : World) (hr0_1 : Kd.C Kd.string w A0_1 l0_1.length l0_1) (hc0_1 : l0_1.length ≤ c0_1) (hr0_2 : Kd.C k44 w A0_2 l0_2.length l0_2) (hc0_2 : l0_2.length ≤ c0_2) (hr1 : Kd.C (Kd.int .i64) w A1 l1.length l1) (hc1 : l1.length ≤ c1) (h : petrinetref45_Follow.f k a0_0 l0_1 l0_2 l1 = some r) :
  Calls Try.prog 46 #[.agg #[.int .i64 a0_0, .slice A0_1 l0_1.length c0_1, .slice A0_2 l0_2.length c0_2], .slice A1 l1.length c1] w fun e w' => ∃ v0_ : Value, e = .returned (v0_) ∧ Kd.R Kd.bool 4 w' w.heap.size (fun _ => True) v0_ r ∧ Below w.heap.size w w' := by
 have hv30 := Try.underlying30; have hu25 := Try.underlying25; have HR0_1 := Aside0.mk hr0_1; have HC0_1 := Aside0.mk hc0_1; clear hr0_1 hc0_1; have HR0_2 := Aside0.mk hr0_2; have HC0_2 := Aside0.mk hc0_2; clear hr0_2 hc0_2; have HR1 := Aside0.mk hr1; have HC1 := Aside0.mk hc1; clear hr1 hc1; have HB := Aside0.mk (Below.refl w.heap.size w); have H : (if 0 ≤ a0_0 then (if (a0_0 : Int).toNat ≤ 281474976710656 then ((some (List.replicate (a0_0 : Int).toNat false : List Bool)).bind fun y435 => (if 0 < (y435.length : Int) then (petrinetref45_Follow.l0 k l1 (y435.set (0 : Int).toNat true) 0 a0_0 l0_1 l0_2) else (none))) else (none)) else (none)) = some r := h; clear h; revert H; refine tq_ie fun c3b0 c3b1 H => ?_; revert H; refine tq_ie fun c4b0 c4b1 H => ?_; revert H; refine tq_y fun y435 Ny435 H => ?_; revert H; refine tq_i fun c5 H => ?_; have c5b0 : decide (0 < (y435.length : Int)) = true := decide_eq_true c5; have c5b1 : decide (0 < y435.length) = true := decide_eq_true (by omega); clear c5; obtain ⟨y438, hy438⟩ : ∃ y_ : List Bool, y_ = (y435.set (0 : Int).toNat true) := ⟨_, rfl⟩; replace H : (petrinetref45_Follow.l0 k l1 y438 0 a0_0 l0_1 l0_2) = some r := by first | (rw [hy438]; exact H) | exact H
 have Ny438 := Aside0.mk hy438; clear hy438; have H' := Aside0.mk H; clear H
 go_enter Try.func46, Try.ntmps46
 go_wp2_with (first | ((with_reducible refine gate_dst (N := 2) rfl ?_); refine sq_box 2 #[.int .i64 a0_0, .slice A0_1 l0_1.length c0_1, .slice A0_2 l0_2.length c0_2] 25 ?_; intro gb434 hg w7 hbox hb; have BK434 := Aside0.mk hbox; have GW434 := tq_w HB hg; have GE434 := tq_w HB hg; replace HB := tq_s HB hb; clear hb hbox hg; obtain ⟨hcz8_0, hcz8_1, hcz8_2, hfz8_0, hfz8_1, hfz8_2⟩ := tq_3 (w := w7) BK434) | ((with_reducible refine gate_dst (N := 11) rfl ?_); refine Kd.R_make Kd.bool _ 4 rfl (N := 11) rfl 50 _ _ rfl a0_0 rfl rfl Try.underlying50 (.bool false) 1 info4 rfl (by decide) (by omega) false (ok := fun _ => True) (okp := fun _ => True) rfl (fun _ hk => hk) trivial sq_d (Nat.le_trans (Nat.mul_le_mul_right _ (sq_d : a0_0.toNat ≤ 281474976710656)) (by omega)) (Below.refl _ _) (Nat.le_refl _) ?_; intro v436 w9 ho10 hb hg_ hnew_; clear hg_ hnew_; (first | rw [← Ny435.out] at ho10 | (simp only [Int.reduceToNat] at ho10; rw [← Ny435.out] at ho10)); have HO437 := Aside0.mk (Kd.R_lower ho10 (below_size (sq_bs HB.out))); replace BK434 := tq_k BK434 hb; replace HB := tq_s HB hb; clear hb ho10; have p6 : 0 ≤ (0 : Int) := (by omega); have q6 : (0 : Int) < ((y435.length : Int) : Int) := sq_d; have qi6 : (0 < y435.length) = True := eq_true (by omega); obtain ⟨go6, co6, eo6, gb6, gl6, cl6, HG6⟩ := Kd.R_form HO437.out (by omega); (first | cases eo6 | (injection eo6 with ea_ en_ ec_; (first | subst ea_ | (injection ea_ with ea_; subst ea_)); subst ec_; clear en_)); have GB6 := Aside0.mk gb6; have GG6 := Aside0.mk HG6; clear gb6 gl6 HG6; obtain ⟨hx6_0, hf6_0⟩ := Kd.R_celln false HO437.out (0 : Int) p6 q6; (try rw [show ((0 : Int)).toNat = 0 from rfl] at hx6_0); (try simp only [Nat.reduceMul, Nat.zero_mul, Nat.zero_add, Nat.reduceAdd] at hx6_0); (try rw [show ((0 : Int)).toNat = 0 from rfl] at hf6_0); (try simp only [Nat.reduceMul, Nat.zero_mul, Nat.zero_add, Nat.reduceAdd] at hf6_0); replace p6 := eq_true p6; replace q6 := eq_true q6; obtain ⟨hy11_, hz11_⟩ := Kd.R_celln false HO437.out (0 : Int) (by omega) sq_d; (try simp only [Int.reduceToNat, Int.toNat_zero, Int.toNat_ofNat, Nat.reduceMul, Nat.zero_mul, Nat.zero_add] at hy11_ hz11_); (try rw [show ((0 : Int)).toNat = 0 from rfl] at hy11_); (try rw [show ((0 : Int)).toNat = 0 from rfl] at hz11_); have HP11 := Kd.R_putg HO437.out (0 : Int) true) | ((with_reducible refine gate_store (t := 4) (p := 13) rfl ?_); (try (rw [drewN_self w9]; generalize hq_ : World.drewN w9 _ = w9; replace HO437 := Aside0.mk (Kd.R_at hq_ HO437.out); replace BK434 := Aside0.mk (blk_at hq_ BK434.out); replace HB := Aside0.mk (below_at hq_ HB.out); clear hq_; (try (obtain ⟨hy11_, hz11_⟩ := Kd.R_celln false HO437.out (0 : Int) (by omega) sq_d)); (try (try simp only [Int.reduceToNat, Int.toNat_zero, Int.toNat_ofNat, Nat.reduceMul, Nat.zero_mul, Nat.zero_add] at hy11_ hz11_)); (try (try rw [show ((0 : Int)).toNat = 0 from rfl] at hy11_)); (try (try rw [show ((0 : Int)).toNat = 0 from rfl] at hz11_)); (try (have HP11 := Kd.R_putg HO437.out (0 : Int) true)))); refine store_event (t := 4) (p := 13) (v := ?vo_w12) (w1 := (w9.setCell ⟨go6, (0 : Int).toNat, none⟩ (.bool true))) ?hg ?ho ?hn ?hr ?_; (case ho => rfl); (case hg => rfl); (case hn => rfl); (case hr => first | (go_simp; done) | (go_simp; rfl)); intro w12 hw; have hg : w9.grownBy w12 (some go6) := (by rw [hw]; exact HP11.2); have hp_ : Kd.R Kd.bool 4 w12 w.heap.size (fun _ => True) (.slice (some ⟨go6, 0, none⟩) y435.length co6) y438 := (by rw [hw, Ny438.out]; exact HP11.1); clear HP11; replace BK434 := tq_gr BK434 hg (Kd.R_ne HO437.out BK434.out (by decide)); replace HO437 := Aside0.mk hp_; replace HB := Aside0.mk (by rw [hw]; exact below_set (HB.out) GB6.out : Below w.heap.size w w12); clear hg hw hp_))
 repeat (go_quiet (first | ((with_reducible refine gate_dst (N := 2) rfl ?_); refine sq_box 2 #[.int .i64 a0_0, .slice A0_1 l0_1.length c0_1, .slice A0_2 l0_2.length c0_2] 25 ?_; intro gb434 hg w7 hbox hb; have BK434 := Aside0.mk hbox; have GW434 := tq_w HB hg; have GE434 := tq_w HB hg; replace HB := tq_s HB hb; clear hb hbox hg; obtain ⟨hcz8_0, hcz8_1, hcz8_2, hfz8_0, hfz8_1, hfz8_2⟩ := tq_3 (w := w7) BK434) | ((with_reducible refine gate_dst (N := 11) rfl ?_); refine Kd.R_make Kd.bool _ 4 rfl (N := 11) rfl 50 _ _ rfl a0_0 rfl rfl Try.underlying50 (.bool false) 1 info4 rfl (by decide) (by omega) false (ok := fun _ => True) (okp := fun _ => True) rfl (fun _ hk => hk) trivial sq_d (Nat.le_trans (Nat.mul_le_mul_right _ (sq_d : a0_0.toNat ≤ 281474976710656)) (by omega)) (Below.refl _ _) (Nat.le_refl _) ?_; intro v436 w9 ho10 hb hg_ hnew_; clear hg_ hnew_; (first | rw [← Ny435.out] at ho10 | (simp only [Int.reduceToNat] at ho10; rw [← Ny435.out] at ho10)); have HO437 := Aside0.mk (Kd.R_lower ho10 (below_size (sq_bs HB.out))); replace BK434 := tq_k BK434 hb; replace HB := tq_s HB hb; clear hb ho10; have p6 : 0 ≤ (0 : Int) := (by omega); have q6 : (0 : Int) < ((y435.length : Int) : Int) := sq_d; have qi6 : (0 < y435.length) = True := eq_true (by omega); obtain ⟨go6, co6, eo6, gb6, gl6, cl6, HG6⟩ := Kd.R_form HO437.out (by omega); (first | cases eo6 | (injection eo6 with ea_ en_ ec_; (first | subst ea_ | (injection ea_ with ea_; subst ea_)); subst ec_; clear en_)); have GB6 := Aside0.mk gb6; have GG6 := Aside0.mk HG6; clear gb6 gl6 HG6; obtain ⟨hx6_0, hf6_0⟩ := Kd.R_celln false HO437.out (0 : Int) p6 q6; (try rw [show ((0 : Int)).toNat = 0 from rfl] at hx6_0); (try simp only [Nat.reduceMul, Nat.zero_mul, Nat.zero_add, Nat.reduceAdd] at hx6_0); (try rw [show ((0 : Int)).toNat = 0 from rfl] at hf6_0); (try simp only [Nat.reduceMul, Nat.zero_mul, Nat.zero_add, Nat.reduceAdd] at hf6_0); replace p6 := eq_true p6; replace q6 := eq_true q6; obtain ⟨hy11_, hz11_⟩ := Kd.R_celln false HO437.out (0 : Int) (by omega) sq_d; (try simp only [Int.reduceToNat, Int.toNat_zero, Int.toNat_ofNat, Nat.reduceMul, Nat.zero_mul, Nat.zero_add] at hy11_ hz11_); (try rw [show ((0 : Int)).toNat = 0 from rfl] at hy11_); (try rw [show ((0 : Int)).toNat = 0 from rfl] at hz11_); have HP11 := Kd.R_putg HO437.out (0 : Int) true) | ((with_reducible refine gate_store (t := 4) (p := 13) rfl ?_); (try (rw [drewN_self w9]; generalize hq_ : World.drewN w9 _ = w9; replace HO437 := Aside0.mk (Kd.R_at hq_ HO437.out); replace BK434 := Aside0.mk (blk_at hq_ BK434.out); replace HB := Aside0.mk (below_at hq_ HB.out); clear hq_; (try (obtain ⟨hy11_, hz11_⟩ := Kd.R_celln false HO437.out (0 : Int) (by omega) sq_d)); (try (try simp only [Int.reduceToNat, Int.toNat_zero, Int.toNat_ofNat, Nat.reduceMul, Nat.zero_mul, Nat.zero_add] at hy11_ hz11_)); (try (try rw [show ((0 : Int)).toNat = 0 from rfl] at hy11_)); (try (try rw [show ((0 : Int)).toNat = 0 from rfl] at hz11_)); (try (have HP11 := Kd.R_putg HO437.out (0 : Int) true)))); refine store_event (t := 4) (p := 13) (v := ?vo_w12) (w1 := (w9.setCell ⟨go6, (0 : Int).toNat, none⟩ (.bool true))) ?hg ?ho ?hn ?hr ?_; (case ho => rfl); (case hg => rfl); (case hn => rfl); (case hr => first | (go_simp; done) | (go_simp; rfl)); intro w12 hw; have hg : w9.grownBy w12 (some go6) := (by rw [hw]; exact HP11.2); have hp_ : Kd.R Kd.bool 4 w12 w.heap.size (fun _ => True) (.slice (some ⟨go6, 0, none⟩) y435.length co6) y438 := (by rw [hw, Ny438.out]; exact HP11.1); clear HP11; replace BK434 := tq_gr BK434 hg (Kd.R_ne HO437.out BK434.out (by decide)); replace HO437 := Aside0.mk hp_; replace HB := Aside0.mk (by rw [hw]; exact below_set (HB.out) GB6.out : Below w.heap.size w w12); clear hg hw hp_)); try go_wp2_with (first | ((with_reducible refine gate_dst (N := 2) rfl ?_); refine sq_box 2 #[.int .i64 a0_0, .slice A0_1 l0_1.length c0_1, .slice A0_2 l0_2.length c0_2] 25 ?_; intro gb434 hg w7 hbox hb; have BK434 := Aside0.mk hbox; have GW434 := tq_w HB hg; have GE434 := tq_w HB hg; replace HB := tq_s HB hb; clear hb hbox hg; obtain ⟨hcz8_0, hcz8_1, hcz8_2, hfz8_0, hfz8_1, hfz8_2⟩ := tq_3 (w := w7) BK434) | ((with_reducible refine gate_dst (N := 11) rfl ?_); refine Kd.R_make Kd.bool _ 4 rfl (N := 11) rfl 50 _ _ rfl a0_0 rfl rfl Try.underlying50 (.bool false) 1 info4 rfl (by decide) (by omega) false (ok := fun _ => True) (okp := fun _ => True) rfl (fun _ hk => hk) trivial sq_d (Nat.le_trans (Nat.mul_le_mul_right _ (sq_d : a0_0.toNat ≤ 281474976710656)) (by omega)) (Below.refl _ _) (Nat.le_refl _) ?_; intro v436 w9 ho10 hb hg_ hnew_; clear hg_ hnew_; (first | rw [← Ny435.out] at ho10 | (simp only [Int.reduceToNat] at ho10; rw [← Ny435.out] at ho10)); have HO437 := Aside0.mk (Kd.R_lower ho10 (below_size (sq_bs HB.out))); replace BK434 := tq_k BK434 hb; replace HB := tq_s HB hb; clear hb ho10; have p6 : 0 ≤ (0 : Int) := (by omega); have q6 : (0 : Int) < ((y435.length : Int) : Int) := sq_d; have qi6 : (0 < y435.length) = True := eq_true (by omega); obtain ⟨go6, co6, eo6, gb6, gl6, cl6, HG6⟩ := Kd.R_form HO437.out (by omega); (first | cases eo6 | (injection eo6 with ea_ en_ ec_; (first | subst ea_ | (injection ea_ with ea_; subst ea_)); subst ec_; clear en_)); have GB6 := Aside0.mk gb6; have GG6 := Aside0.mk HG6; clear gb6 gl6 HG6; obtain ⟨hx6_0, hf6_0⟩ := Kd.R_celln false HO437.out (0 : Int) p6 q6; (try rw [show ((0 : Int)).toNat = 0 from rfl] at hx6_0); (try simp only [Nat.reduceMul, Nat.zero_mul, Nat.zero_add, Nat.reduceAdd] at hx6_0); (try rw [show ((0 : Int)).toNat = 0 from rfl] at hf6_0); (try simp only [Nat.reduceMul, Nat.zero_mul, Nat.zero_add, Nat.reduceAdd] at hf6_0); replace p6 := eq_true p6; replace q6 := eq_true q6; obtain ⟨hy11_, hz11_⟩ := Kd.R_celln false HO437.out (0 : Int) (by omega) sq_d; (try simp only [Int.reduceToNat, Int.toNat_zero, Int.toNat_ofNat, Nat.reduceMul, Nat.zero_mul, Nat.zero_add] at hy11_ hz11_); (try rw [show ((0 : Int)).toNat = 0 from rfl] at hy11_); (try rw [show ((0 : Int)).toNat = 0 from rfl] at hz11_); have HP11 := Kd.R_putg HO437.out (0 : Int) true) | ((with_reducible refine gate_store (t := 4) (p := 13) rfl ?_); (try (rw [drewN_self w9]; generalize hq_ : World.drewN w9 _ = w9; replace HO437 := Aside0.mk (Kd.R_at hq_ HO437.out); replace BK434 := Aside0.mk (blk_at hq_ BK434.out); replace HB := Aside0.mk (below_at hq_ HB.out); clear hq_; (try (obtain ⟨hy11_, hz11_⟩ := Kd.R_celln false HO437.out (0 : Int) (by omega) sq_d)); (try (try simp only [Int.reduceToNat, Int.toNat_zero, Int.toNat_ofNat, Nat.reduceMul, Nat.zero_mul, Nat.zero_add] at hy11_ hz11_)); (try (try rw [show ((0 : Int)).toNat = 0 from rfl] at hy11_)); (try (try rw [show ((0 : Int)).toNat = 0 from rfl] at hz11_)); (try (have HP11 := Kd.R_putg HO437.out (0 : Int) true)))); refine store_event (t := 4) (p := 13) (v := ?vo_w12) (w1 := (w9.setCell ⟨go6, (0 : Int).toNat, none⟩ (.bool true))) ?hg ?ho ?hn ?hr ?_; (case ho => rfl); (case hg => rfl); (case hn => rfl); (case hr => first | (go_simp; done) | (go_simp; rfl)); intro w12 hw; have hg : w9.grownBy w12 (some go6) := (by rw [hw]; exact HP11.2); have hp_ : Kd.R Kd.bool 4 w12 w.heap.size (fun _ => True) (.slice (some ⟨go6, 0, none⟩) y435.length co6) y438 := (by rw [hw, Ny438.out]; exact HP11.1); clear HP11; replace BK434 := tq_gr BK434 hg (Kd.R_ne HO437.out BK434.out (by decide)); replace HO437 := Aside0.mk hp_; replace HB := Aside0.mk (by rw [hw]; exact below_set (HB.out) GB6.out : Below w.heap.size w w12); clear hg hw hp_)))
 go_loopg [5, 6] k (fun kq v5 v6 w' => ∃ (x5_1 : List Bool) (x6_1 : Int), v6 = .int .i64 x6_1 ∧ Aside0 (petrinetref45_Follow.l0 kq l1 x5_1 x6_1 a0_0 l0_1 l0_2 = some r) ∧ Aside0 (kq ≤ k) ∧ Aside0 (Kd.R Kd.bool 4 w' w.heap.size (fun _ => True) v5 x5_1) ∧ Aside0 (w'.heap[gb434]? = some (.cells #[.int .i64 a0_0, (.slice A0_1 l0_1.length c0_1), (.slice A0_2 l0_2.length c0_2)] 25 (0, 0))) ∧ Aside0 (Below w.heap.size w w'))
 case atStart => exact ⟨(y438), (0), tq_z, H', ⟨Nat.le_refl _⟩, ⟨sq_kr HO437.out⟩, ⟨sq_bk BK434.out⟩, ⟨sq_bs HB.out⟩⟩
 case round =>
  clear H'
  try clear c3b0
  try clear c3b1
  try clear c4b0
  try clear c4b1
  try clear c5b0
  try clear c5b1
  try clear p6
  try clear q6
  try clear qi6
  try clear hcz8_0
  try clear hcz8_1
  try clear hcz8_2
  try clear hfz8_0
  try clear hfz8_1
  try clear hfz8_2
  try clear hx6_0
  obtain ⟨x5_1, x6_1, rfl, HA, HK1, HO_5, BK434, HB⟩ := hrel
  cases gk with
  | zero => exact absurd HA.out (by simp [petrinetref45_Follow.l0])
  | succ k1 =>
   have H := HA.out; clear HA
   simp only [petrinetref45_Follow.l0] at H
   revert H; refine tq_dd (fun c13b0 H => ?_) (fun c13b0 H => ?_); rotate_left
   ·obtain rfl := Option.some.inj H
    go_wp2
    repeat (go_quiet (fail); try go_wp2)
    go_ret
    exact ⟨_, tq_v ⟨sq_kr HO_5.out, sq_bs HB.out⟩⟩
   revert H; refine tq_ie fun c14b0 c14b1 H => ?_; revert H; refine tq_ie fun c15b0 c15b1 H => ?_; obtain ⟨y439, hy439⟩ : ∃ y_ : List Bool, y_ = (List.replicate (a0_0 : Int).toNat false) := ⟨_, rfl⟩; replace H : (petrinetref45_Follow.l1 k1 l1 x5_1 x6_1 y439 0 a0_0 l0_1 l0_2) = some r := by first | (rw [hy439]; exact H) | exact H
   have Ny439 := Aside0.mk hy439; clear hy439; have H' := Aside0.mk H; clear H; obtain ⟨hcz16_0, hcz16_1, hcz16_2, hfz16_0, hfz16_1, hfz16_2⟩ := tq_3 (w := wr) BK434
   go_wp2_with (first | ((with_reducible refine gate_dst (N := 22) rfl ?_); refine Kd.R_make Kd.bool _ 4 rfl (N := 22) rfl 50 _ _ rfl a0_0 rfl rfl Try.underlying50 (.bool false) 1 info4 rfl (by decide) (by omega) false (ok := fun _ => True) (okp := fun _ => True) rfl (fun _ hk => hk) trivial sq_d (Nat.le_trans (Nat.mul_le_mul_right _ (sq_d : a0_0.toNat ≤ 281474976710656)) (by omega)) (Below.refl _ _) (Nat.le_refl _) ?_; intro v440 w17 ho18 hb hg_ hnew_; clear hg_ hnew_; (first | rw [← Ny439.out] at ho18 | (simp only [Int.reduceToNat] at ho18; rw [← Ny439.out] at ho18)); have HO441 := Aside0.mk (Kd.R_lower (Kd.R_new' ho18 (Kd.R_lt (sq_kr HO_5.out))) (below_size (sq_bs HB.out))); replace HO_5 := Aside0.mk (Kd.R_elder' (sq_kr HO_5.out) (Kd.R_base ho18) hb); replace BK434 := tq_k BK434 hb; replace HB := tq_s HB hb; clear hb ho18))
   repeat (go_quiet (first | ((with_reducible refine gate_dst (N := 22) rfl ?_); refine Kd.R_make Kd.bool _ 4 rfl (N := 22) rfl 50 _ _ rfl a0_0 rfl rfl Try.underlying50 (.bool false) 1 info4 rfl (by decide) (by omega) false (ok := fun _ => True) (okp := fun _ => True) rfl (fun _ hk => hk) trivial sq_d (Nat.le_trans (Nat.mul_le_mul_right _ (sq_d : a0_0.toNat ≤ 281474976710656)) (by omega)) (Below.refl _ _) (Nat.le_refl _) ?_; intro v440 w17 ho18 hb hg_ hnew_; clear hg_ hnew_; (first | rw [← Ny439.out] at ho18 | (simp only [Int.reduceToNat] at ho18; rw [← Ny439.out] at ho18)); have HO441 := Aside0.mk (Kd.R_lower (Kd.R_new' ho18 (Kd.R_lt (sq_kr HO_5.out))) (below_size (sq_bs HB.out))); replace HO_5 := Aside0.mk (Kd.R_elder' (sq_kr HO_5.out) (Kd.R_base ho18) hb); replace BK434 := tq_k BK434 hb; replace HB := tq_s HB hb; clear hb ho18)); try go_wp2_with (first | ((with_reducible refine gate_dst (N := 22) rfl ?_); refine Kd.R_make Kd.bool _ 4 rfl (N := 22) rfl 50 _ _ rfl a0_0 rfl rfl Try.underlying50 (.bool false) 1 info4 rfl (by decide) (by omega) false (ok := fun _ => True) (okp := fun _ => True) rfl (fun _ hk => hk) trivial sq_d (Nat.le_trans (Nat.mul_le_mul_right _ (sq_d : a0_0.toNat ≤ 281474976710656)) (by omega)) (Below.refl _ _) (Nat.le_refl _) ?_; intro v440 w17 ho18 hb hg_ hnew_; clear hg_ hnew_; (first | rw [← Ny439.out] at ho18 | (simp only [Int.reduceToNat] at ho18; rw [← Ny439.out] at ho18)); have HO441 := Aside0.mk (Kd.R_lower (Kd.R_new' ho18 (Kd.R_lt (sq_kr HO_5.out))) (below_size (sq_bs HB.out))); replace HO_5 := Aside0.mk (Kd.R_elder' (sq_kr HO_5.out) (Kd.R_base ho18) hb); replace BK434 := tq_k BK434 hb; replace HB := tq_s HB hb; clear hb ho18)))
   go_loopg [8] k1 (fun kq v8 w' => ∃ (x7_2 : List Bool) (x8_2 : Int), v8 = .int .i64 x8_2 ∧ Aside0 (petrinetref45_Follow.l1 kq l1 x5_1 x6_1 x7_2 x8_2 a0_0 l0_1 l0_2 = some r) ∧ Aside0 (kq ≤ k1) ∧ Aside0 (Kd.R Kd.bool 4 w' w.heap.size (fun k_ => some k_ ≠ (v440 : Value).ownBlock) u5 x5_1) ∧ Aside0 (Kd.R Kd.bool 4 w' w.heap.size (fun k_ => some k_ ≠ (u5 : Value).ownBlock) v440 x7_2) ∧ Aside0 (w'.heap[gb434]? = some (.cells #[.int .i64 a0_0, (.slice A0_1 l0_1.length c0_1), (.slice A0_2 l0_2.length c0_2)] 25 (0, 0))) ∧ Aside0 (Below w.heap.size w w'))
   case atStart => exact ⟨(y439), (0), tq_z, H', ⟨Nat.le_refl _⟩, ⟨tq_m HO_5 (fun _ hk => hk.2)⟩, ⟨tq_m HO441 (fun _ hk => hk.2)⟩, ⟨sq_bk BK434.out⟩, ⟨sq_bs HB.out⟩⟩
   case round =>
    clear H'
    try clear c13b0
    try clear c14b0
    try clear c14b1
    try clear c15b0
    try clear c15b1
    try clear hcz16_0
    try clear hcz16_1
    try clear hcz16_2
    try clear hfz16_0
    try clear hfz16_1
    try clear hfz16_2
    obtain ⟨x7_2, x8_2, rfl, HA, HK2, HO_5, HO_7, BK434, HB⟩ := hrel
    cases gk with
    | zero => exact absurd HA.out (by simp [petrinetref45_Follow.l1])
    | succ k2 =>
     have H := HA.out; clear HA
     simp only [petrinetref45_Follow.l1] at H
     revert H; refine tq_dd (fun c19b0 H => ?_) (fun c19b0 H => ?_); rotate_left
     ·have H' := Aside0.mk H; clear H; obtain ⟨hcz38_0, hcz38_1, hcz38_2, hfz38_0, hfz38_1, hfz38_2⟩ := tq_3 (w := wr) BK434
      go_wp2
      repeat (go_quiet (fail); try go_wp2)
      go_roundg k2
      case measure => have := HK1.out; have := HK2.out; omega
      case rel => exact ⟨(x7_2), (wrap64 (x6_1 + 1)), tq_z, H', ⟨by have := HK1.out; have := HK2.out; omega⟩, ⟨tq_m HO_7 (fun _ hk => trivial)⟩, ⟨sq_bk BK434.out⟩, ⟨sq_bs HB.out⟩⟩
     revert H; refine tq_i1 fun c20b0 H => ?_; revert H; refine tq_i1 fun c21b0 H => ?_; revert H; refine tq_i1 fun c22b0 H => ?_; revert H; refine tq_rr (fun c23 H => ?_) (fun c23 H => ?_); rotate_left
     ·obtain ⟨c23b0, c23b1⟩ := tq_n c23; have H' := Aside0.mk H; clear H; obtain ⟨hcz37_0, hcz37_1, hcz37_2, hfz37_0, hfz37_1, hfz37_2⟩ := tq_3 (w := wr) BK434; have p442 : 0 ≤ (x8_2 : Int) := sq_d; have q442 : x8_2 < (l0_2.length : Int) := sq_d; have LQ442 := Aside0.mk q442; obtain ⟨ad442, e442, hx442_0, hx442_1, hx442_2⟩ := at_T44 HR0_2.out x8_2 p442 q442; cases e442; replace hx442_0 := tq_hx HB hx442_0; replace hx442_1 := tq_hx HB hx442_1; replace hx442_2 := tq_hx HB hx442_2; replace p442 := eq_true p442; replace q442 := eq_true q442; have p443 : 0 ≤ (x6_1 : Int) := sq_d; have q443 : x6_1 < (l1.length : Int) := sq_d; have LQ443 := Aside0.mk q443; obtain ⟨ad443, e443, hx443_0⟩ := Kd.at_int HR1.out x6_1 p443 q443; cases e443; replace hx443_0 := tq_hx HB hx443_0; replace p443 := eq_true p443; replace q443 := eq_true q443
      go_wp2
      repeat (go_quiet (fail); try go_wp2)
      go_roundg k2
      case measure => have := HK1.out; have := HK2.out; omega
      case rel => exact ⟨(x7_2), (wrap64 (x8_2 + 1)), tq_z, H', ⟨by have := HK1.out; have := HK2.out; omega⟩, ⟨sq_kr HO_5.out⟩, ⟨sq_kr HO_7.out⟩, ⟨sq_bk BK434.out⟩, ⟨sq_bs HB.out⟩⟩
     obtain ⟨c23b0, c23b1⟩ := tq_e c23; clear c23; revert H; refine tq_i1 fun c24b0 H => ?_; revert H; refine tq_i1 fun c25b0 H => ?_; obtain ⟨bq26, hbq26⟩ : ∃ b_ : Bool, b_ = (rdOf false x5_1 ((rd_T44 l0_2 x8_2).f0)) := ⟨_, rfl⟩; replace H : (if bq26 = true then (if 0 ≤ ((rd_T44 l0_2 x8_2).f2) then (if ((rd_T44 l0_2 x8_2).f2) < (x7_2.length : Int) then (petrinetref45_Follow.l1 k2 l1 x5_1 x6_1 (x7_2.set (((rd_T44 l0_2 x8_2).f2) : Int).toNat true) (wrap64 (x8_2 + 1)) a0_0 l0_1 l0_2) else (none)) else (none)) else (petrinetref45_Follow.l1 k2 l1 x5_1 x6_1 x7_2 (wrap64 (x8_2 + 1)) a0_0 l0_1 l0_2)) = some r := by rw [← hbq26] at H; exact H
     have Nbq26 := Aside0.mk hbq26; clear hbq26; cases bq26
     ·replace H := tq_f H; have H' := Aside0.mk H; clear H; obtain ⟨hcz35_0, hcz35_1, hcz35_2, hfz35_0, hfz35_1, hfz35_2⟩ := tq_3 (w := wr) BK434; have p442 : 0 ≤ (x8_2 : Int) := sq_d; have q442 : x8_2 < (l0_2.length : Int) := sq_d; have LQ442 := Aside0.mk q442; obtain ⟨ad442, e442, hx442_0, hx442_1, hx442_2⟩ := at_T44 HR0_2.out x8_2 p442 q442; cases e442; replace hx442_0 := tq_hx HB hx442_0; replace hx442_1 := tq_hx HB hx442_1; replace hx442_2 := tq_hx HB hx442_2; replace p442 := eq_true p442; replace q442 := eq_true q442; have p443 : 0 ≤ (x6_1 : Int) := sq_d; have q443 : x6_1 < (l1.length : Int) := sq_d; have LQ443 := Aside0.mk q443; obtain ⟨ad443, e443, hx443_0⟩ := Kd.at_int HR1.out x6_1 p443 q443; cases e443; replace hx443_0 := tq_hx HB hx443_0; replace p443 := eq_true p443; replace q443 := eq_true q443; have p444 : 0 ≤ (x8_2 : Int) := sq_d; have q444 : x8_2 < (l0_2.length : Int) := sq_d; have LQ444 := Aside0.mk q444; obtain ⟨ad444, e444, hx444_0, hx444_1, hx444_2⟩ := at_T44 HR0_2.out x8_2 p444 q444; obtain rfl : ad442 = ad444 := (by injection e444); replace hx444_0 := tq_hx HB hx444_0; replace hx444_1 := tq_hx HB hx444_1; replace hx444_2 := tq_hx HB hx444_2; replace p444 := eq_true p444; replace q444 := eq_true q444; obtain ⟨Ao36, co36, eo36⟩ := Kd.R_slice HO_5.out; subst eo36; have p445 : 0 ≤ (((rd_T44 l0_2 x8_2).f0) : Int) := sq_d; have q445 : ((rd_T44 l0_2 x8_2).f0) < (x5_1.length : Int) := sq_d; obtain ⟨ad445, e445, hx445_0⟩ := Kd.at_bool (Kd.R_reads' HO_5.out).2.2 ((rd_T44 l0_2 x8_2).f0) p445 q445
      (try rw [← Nbq26.out] at hx445_0)
      cases e445; replace p445 := eq_true p445
      replace q445 := eq_true q445
      go_wp2
      repeat (go_quiet (fail); try go_wp2)
      go_roundg k2
      case measure => have := HK1.out; have := HK2.out; omega
      case rel => exact ⟨(x7_2), (wrap64 (x8_2 + 1)), tq_z, H', ⟨by have := HK1.out; have := HK2.out; omega⟩, ⟨sq_kr HO_5.out⟩, ⟨sq_kr HO_7.out⟩, ⟨sq_bk BK434.out⟩, ⟨sq_bs HB.out⟩⟩
     replace H := tq_t H; revert H; refine tq_i1 fun c28b0 H => ?_; revert H; refine tq_i1 fun c29b0 H => ?_; obtain ⟨y447, hy447⟩ : ∃ y_ : List Bool, y_ = (x7_2.set (((rd_T44 l0_2 x8_2).f2) : Int).toNat true) := ⟨_, rfl⟩; replace H : (petrinetref45_Follow.l1 k2 l1 x5_1 x6_1 y447 (wrap64 (x8_2 + 1)) a0_0 l0_1 l0_2) = some r := by first | (rw [hy447]; exact H) | exact H
     have Ny447 := Aside0.mk hy447; clear hy447; have H' := Aside0.mk H; clear H; obtain ⟨hcz31_0, hcz31_1, hcz31_2, hfz31_0, hfz31_1, hfz31_2⟩ := tq_3 (w := wr) BK434; have p442 : 0 ≤ (x8_2 : Int) := sq_d; have q442 : x8_2 < (l0_2.length : Int) := sq_d; have LQ442 := Aside0.mk q442; obtain ⟨ad442, e442, hx442_0, hx442_1, hx442_2⟩ := at_T44 HR0_2.out x8_2 p442 q442; cases e442; replace hx442_0 := tq_hx HB hx442_0; replace hx442_1 := tq_hx HB hx442_1; replace hx442_2 := tq_hx HB hx442_2; replace p442 := eq_true p442; replace q442 := eq_true q442; have p443 : 0 ≤ (x6_1 : Int) := sq_d; have q443 : x6_1 < (l1.length : Int) := sq_d; have LQ443 := Aside0.mk q443; obtain ⟨ad443, e443, hx443_0⟩ := Kd.at_int HR1.out x6_1 p443 q443; cases e443; replace hx443_0 := tq_hx HB hx443_0; replace p443 := eq_true p443; replace q443 := eq_true q443; have p444 : 0 ≤ (x8_2 : Int) := sq_d; have q444 : x8_2 < (l0_2.length : Int) := sq_d; have LQ444 := Aside0.mk q444; obtain ⟨ad444, e444, hx444_0, hx444_1, hx444_2⟩ := at_T44 HR0_2.out x8_2 p444 q444; obtain rfl : ad442 = ad444 := (by injection e444); replace hx444_0 := tq_hx HB hx444_0; replace hx444_1 := tq_hx HB hx444_1; replace hx444_2 := tq_hx HB hx444_2; replace p444 := eq_true p444; replace q444 := eq_true q444; obtain ⟨Ao32, co32, eo32⟩ := Kd.R_slice HO_5.out; subst eo32; have p445 : 0 ≤ (((rd_T44 l0_2 x8_2).f0) : Int) := sq_d; have q445 : ((rd_T44 l0_2 x8_2).f0) < (x5_1.length : Int) := sq_d; obtain ⟨ad445, e445, hx445_0⟩ := Kd.at_bool (Kd.R_reads' HO_5.out).2.2 ((rd_T44 l0_2 x8_2).f0) p445 q445
     (try rw [← Nbq26.out] at hx445_0)
     cases e445; replace p445 := eq_true p445
     replace q445 := eq_true q445; have p446 : 0 ≤ (x8_2 : Int) := sq_d; have q446 : x8_2 < (l0_2.length : Int) := sq_d; have LQ446 := Aside0.mk q446; obtain ⟨ad446, e446, hx446_0, hx446_1, hx446_2⟩ := at_T44 HR0_2.out x8_2 p446 q446; obtain rfl : ad442 = ad446 := (by injection e446); replace hx446_0 := tq_hx HB hx446_0; replace hx446_1 := tq_hx HB hx446_1; replace hx446_2 := tq_hx HB hx446_2; replace p446 := eq_true p446; replace q446 := eq_true q446; have p30 : 0 ≤ (((rd_T44 l0_2 x8_2).f2) : Int) := sq_d; have q30 : (((rd_T44 l0_2 x8_2).f2) : Int) < ((x7_2.length : Int) : Int) := sq_d; obtain ⟨go30, co30, eo30, gb30, gl30, cl30, HG30⟩ := Kd.R_form HO_7.out (by omega)
     (first | cases eo30 | (injection eo30 with ea_ en_ ec_; (first | subst ea_ | (injection ea_ with ea_; subst ea_)); subst ec_; clear en_))
     have GB30 := Aside0.mk gb30; have GG30 := Aside0.mk HG30; clear gb30 gl30 HG30; obtain ⟨hx30_0, hf30_0⟩ := Kd.R_celln false HO_7.out (((rd_T44 l0_2 x8_2).f2) : Int) p30 q30; replace p30 := eq_true p30; replace q30 := eq_true q30; have HP33 := Kd.R_putg HO_7.out (((rd_T44 l0_2 x8_2).f2) : Int) true
     go_wp2_with (first | ((with_reducible refine gate_store (t := 4) (p := 59) rfl ?_); (try (rw [drewN_self wr]; generalize hq_ : World.drewN wr _ = wr; replace HO_5 := Aside0.mk (Kd.R_at hq_ HO_5.out); replace HO_7 := Aside0.mk (Kd.R_at hq_ HO_7.out); replace BK434 := Aside0.mk (blk_at hq_ BK434.out); replace HB := Aside0.mk (below_at hq_ HB.out); clear hq_; (try (have HP33 := Kd.R_putg HO_7.out (((rd_T44 l0_2 x8_2).f2) : Int) true); (try (obtain ⟨hx30_0, hf30_0⟩ := Kd.R_celln false HO_7.out (((rd_T44 l0_2 x8_2).f2) : Int) (of_eq_true p30) (of_eq_true q30)))))); refine store_event (t := 4) (p := 59) (v := ?vo_w34) (w1 := (wr.setCell ⟨go30, (((rd_T44 l0_2 x8_2).f2) : Int).toNat, none⟩ (.bool true))) ?hg ?ho ?hn ?hr ?_; (case ho => rfl); (case hg => rfl); (case hn => rfl); (case hr => first | (go_simp; done) | (go_simp; rfl)); intro w34 hw; have hg : wr.grownBy w34 (some go30) := (by rw [hw]; exact HP33.2); have hp_ : Kd.R Kd.bool 4 w34 w.heap.size (fun k_ => some k_ ≠ (.slice (some ad445) x5_1.length co32 : Value).ownBlock) (.slice (some ⟨go30, 0, none⟩) x7_2.length co30) y447 := (by rw [hw, Ny447.out]; exact HP33.1); clear HP33; replace HO_5 := Aside0.mk (Kd.R_after (v := (.slice (some ⟨go30, 0, none⟩) x7_2.length co30)) (v1 := (.slice (some ⟨go30, 0, none⟩) x7_2.length co30)) (ok := (fun _ => True)) (by (with_reducible repeat (first | apply Kd.R_alloc | apply Kd.R_drewN | apply Kd.R_drew)); exact Kd.R_mono HO_5.out (fun _ hk => ⟨trivial, hk⟩)) hg (.inl rfl)); replace BK434 := tq_gr BK434 hg (Kd.R_ne HO_7.out BK434.out (by decide)); replace HO_7 := Aside0.mk hp_; replace HB := Aside0.mk (by rw [hw]; exact below_set (HB.out) GB30.out : Below w.heap.size w w34); clear hg hw hp_))
     repeat (go_quiet (first | ((with_reducible refine gate_store (t := 4) (p := 59) rfl ?_); (try (rw [drewN_self wr]; generalize hq_ : World.drewN wr _ = wr; replace HO_5 := Aside0.mk (Kd.R_at hq_ HO_5.out); replace HO_7 := Aside0.mk (Kd.R_at hq_ HO_7.out); replace BK434 := Aside0.mk (blk_at hq_ BK434.out); replace HB := Aside0.mk (below_at hq_ HB.out); clear hq_; (try (have HP33 := Kd.R_putg HO_7.out (((rd_T44 l0_2 x8_2).f2) : Int) true); (try (obtain ⟨hx30_0, hf30_0⟩ := Kd.R_celln false HO_7.out (((rd_T44 l0_2 x8_2).f2) : Int) (of_eq_true p30) (of_eq_true q30)))))); refine store_event (t := 4) (p := 59) (v := ?vo_w34) (w1 := (wr.setCell ⟨go30, (((rd_T44 l0_2 x8_2).f2) : Int).toNat, none⟩ (.bool true))) ?hg ?ho ?hn ?hr ?_; (case ho => rfl); (case hg => rfl); (case hn => rfl); (case hr => first | (go_simp; done) | (go_simp; rfl)); intro w34 hw; have hg : wr.grownBy w34 (some go30) := (by rw [hw]; exact HP33.2); have hp_ : Kd.R Kd.bool 4 w34 w.heap.size (fun k_ => some k_ ≠ (.slice (some ad445) x5_1.length co32 : Value).ownBlock) (.slice (some ⟨go30, 0, none⟩) x7_2.length co30) y447 := (by rw [hw, Ny447.out]; exact HP33.1); clear HP33; replace HO_5 := Aside0.mk (Kd.R_after (v := (.slice (some ⟨go30, 0, none⟩) x7_2.length co30)) (v1 := (.slice (some ⟨go30, 0, none⟩) x7_2.length co30)) (ok := (fun _ => True)) (by (with_reducible repeat (first | apply Kd.R_alloc | apply Kd.R_drewN | apply Kd.R_drew)); exact Kd.R_mono HO_5.out (fun _ hk => ⟨trivial, hk⟩)) hg (.inl rfl)); replace BK434 := tq_gr BK434 hg (Kd.R_ne HO_7.out BK434.out (by decide)); replace HO_7 := Aside0.mk hp_; replace HB := Aside0.mk (by rw [hw]; exact below_set (HB.out) GB30.out : Below w.heap.size w w34); clear hg hw hp_)); try go_wp2_with (first | ((with_reducible refine gate_store (t := 4) (p := 59) rfl ?_); (try (rw [drewN_self wr]; generalize hq_ : World.drewN wr _ = wr; replace HO_5 := Aside0.mk (Kd.R_at hq_ HO_5.out); replace HO_7 := Aside0.mk (Kd.R_at hq_ HO_7.out); replace BK434 := Aside0.mk (blk_at hq_ BK434.out); replace HB := Aside0.mk (below_at hq_ HB.out); clear hq_; (try (have HP33 := Kd.R_putg HO_7.out (((rd_T44 l0_2 x8_2).f2) : Int) true); (try (obtain ⟨hx30_0, hf30_0⟩ := Kd.R_celln false HO_7.out (((rd_T44 l0_2 x8_2).f2) : Int) (of_eq_true p30) (of_eq_true q30)))))); refine store_event (t := 4) (p := 59) (v := ?vo_w34) (w1 := (wr.setCell ⟨go30, (((rd_T44 l0_2 x8_2).f2) : Int).toNat, none⟩ (.bool true))) ?hg ?ho ?hn ?hr ?_; (case ho => rfl); (case hg => rfl); (case hn => rfl); (case hr => first | (go_simp; done) | (go_simp; rfl)); intro w34 hw; have hg : wr.grownBy w34 (some go30) := (by rw [hw]; exact HP33.2); have hp_ : Kd.R Kd.bool 4 w34 w.heap.size (fun k_ => some k_ ≠ (.slice (some ad445) x5_1.length co32 : Value).ownBlock) (.slice (some ⟨go30, 0, none⟩) x7_2.length co30) y447 := (by rw [hw, Ny447.out]; exact HP33.1); clear HP33; replace HO_5 := Aside0.mk (Kd.R_after (v := (.slice (some ⟨go30, 0, none⟩) x7_2.length co30)) (v1 := (.slice (some ⟨go30, 0, none⟩) x7_2.length co30)) (ok := (fun _ => True)) (by (with_reducible repeat (first | apply Kd.R_alloc | apply Kd.R_drewN | apply Kd.R_drew)); exact Kd.R_mono HO_5.out (fun _ hk => ⟨trivial, hk⟩)) hg (.inl rfl)); replace BK434 := tq_gr BK434 hg (Kd.R_ne HO_7.out BK434.out (by decide)); replace HO_7 := Aside0.mk hp_; replace HB := Aside0.mk (by rw [hw]; exact below_set (HB.out) GB30.out : Below w.heap.size w w34); clear hg hw hp_)))
     go_roundg k2
     case measure => have := HK1.out; have := HK2.out; omega
     case rel => exact ⟨(y447), (wrap64 (x8_2 + 1)), tq_z, H', ⟨by have := HK1.out; have := HK2.out; omega⟩, ⟨tq_m HO_5 (fun _ hk => hk.2)⟩, ⟨sq_kr HO_7.out⟩, ⟨sq_bk BK434.out⟩, ⟨sq_bs HB.out⟩⟩
/-! ### petrinetref45_can: function 41 -/
def petrinetref45_can.l0 : Nat → List Bool → Int → Option (Bool)
 | 0, _, _ => none
 | k + 1, x5, x6 => if x6 < (x5.length : Int) then (if 0 ≤ x6 then (if rdOf false x5 x6 = true then (some true) else (petrinetref45_can.l0 k x5 (wrap64 (x6 + 1)))) else (none)) else (some false)
def petrinetref45_can.f (k : Nat) (a0_0 : Int) (l0_1 : List ByteArray) (l0_2 : List (S44)) (l1 : List Int) : Option (Bool) := (petrinetref45_Follow.f k a0_0 l0_1 l0_2 l1).bind fun t449 => (petrinetref45_can.l0 k t449 0)
theorem petrinetref45_can.mono_l : ∀ k, (∀ y0 y1, LeO (petrinetref45_can.l0 k y0 y1) (petrinetref45_can.l0 (k + 1) y0 y1))
 | 0 => fun _ _ r h => by simp [petrinetref45_can.l0] at h
 | k + 1 => by
  have ih0 := petrinetref45_can.mono_l k
  ·intro y0 y1
   unfold petrinetref45_can.l0
   repeat' (with_reducible first | exact ih0 _ _ | exact petrinetref45_Follow.mono _ _ _ _ _ | exact LeO.refl _ | exact LeO.none _ | refine LeO.ite ?_ ?_ | refine LeO.bind ?_ (fun _ => ?_))
theorem petrinetref45_can.mono : ∀ a0 a1 a2 a3 k, LeO (petrinetref45_can.f k a0 a1 a2 a3) (petrinetref45_can.f (k + 1) a0 a1 a2 a3) := by
 intro a0 a1 a2 a3 k
 have ih0 := petrinetref45_can.mono_l k
 unfold petrinetref45_can.f
 repeat' (with_reducible first | exact ih0 _ _ | exact petrinetref45_Follow.mono _ _ _ _ _ | exact LeO.refl _ | exact LeO.none _ | refine LeO.ite ?_ ?_ | refine LeO.bind ?_ (fun _ => ?_))
set_option maxHeartbeats 8000000 in
set_option maxRecDepth 100000 in
theorem petrinetref45_can.calls (k : Nat) (a0_0 : Int) (A0_1 : Option Addr) (c0_1 : Nat) (l0_1 : List ByteArray) (A0_2 : Option Addr) (c0_2 : Nat) (l0_2 : List (S44)) (A1 : Option Addr) (c1 : Nat) (l1 : List Int) (r : Bool) (w : World) (hr0_1 : Kd.C Kd.string w A0_1 l0_1.length l0_1) (hc0_1 : l0_1.length ≤ c0_1) (hr0_2 : Kd.C k44 w A0_2 l0_2.length l0_2) (hc0_2 : l0_2.length ≤ c0_2) (hr1 : Kd.C (Kd.int .i64) w A1 l1.length l1) (hc1 : l1.length ≤ c1) (h : petrinetref45_can.f k a0_0 l0_1 l0_2 l1 = some r) :
  Calls Try.prog 41 #[.agg #[.int .i64 a0_0, .slice A0_1 l0_1.length c0_1, .slice A0_2 l0_2.length c0_2], .slice A1 l1.length c1] w fun e w' => e = .returned (.bool r) ∧ Below w.heap.size w w' := by
 have hv30 := Try.underlying30; have hu25 := Try.underlying25; have HR0_1 := Aside0.mk hr0_1; have HC0_1 := Aside0.mk hc0_1; clear hr0_1 hc0_1; have HR0_2 := Aside0.mk hr0_2; have HC0_2 := Aside0.mk hc0_2; clear hr0_2 hc0_2; have HR1 := Aside0.mk hr1; have HC1 := Aside0.mk hc1; clear hr1 hc1; have HB := Aside0.mk (Below.refl w.heap.size w); have H : ((petrinetref45_Follow.f k a0_0 l0_1 l0_2 l1).bind fun t449 => (petrinetref45_can.l0 k t449 0)) = some r := h; clear h; revert H; refine tq_o fun t449 A3 H => ?_; have H' := Aside0.mk H; clear H
 go_enter Try.func41, Try.ntmps41
 go_wp2_with (first | ((with_reducible refine gate_dst (N := 2) rfl ?_); refine sq_box 2 #[.int .i64 a0_0, .slice A0_1 l0_1.length c0_1, .slice A0_2 l0_2.length c0_2] 25 ?_; intro gb448 hg w4 hbox hb; have BK448 := Aside0.mk hbox; have GW448 := tq_w HB hg; have GE448 := tq_w HB hg; replace HB := tq_s HB hb; clear hb hbox hg; obtain ⟨hcz5_0, hcz5_1, hcz5_2, hfz5_0, hfz5_1, hfz5_2⟩ := tq_3 (w := w4) BK448) | ((with_reducible refine gate_callee (f := 46) rfl ?_); refine sq_goes (some 9) Try.func46 #[.agg #[.int .i64 a0_0, .slice A0_1 l0_1.length c0_1, .slice A0_2 l0_2.length c0_2], .slice A1 l1.length c1] ?_; (with_reducible refine (petrinetref45_Follow.calls k a0_0 _ _ l0_1 _ _ l0_2 _ _ l1 t449 _ ?s1 ?s2 ?s3 ?s4 ?s5 ?s6 A3.out).mono ?_); (case s1 => exact tq_c HR0_1 HB); (case s2 => exact HC0_1.out); (case s3 => exact tq_c HR0_2 HB); (case s4 => exact HC0_2.out); (case s5 => exact tq_c HR1 HB); (case s6 => exact HC1.out); rintro e w6 ⟨v450, rfl, ho0, hb⟩; refine ⟨_, rfl, ?_⟩; have HO451 := Aside0.mk (Kd.R_lower ho0 (below_size (sq_bs HB.out))); replace BK448 := tq_k BK448 hb; replace HB := tq_s HB hb; (try clear hb); (try clear ho0)))
 go_loopg [6] k (fun kq v6 w' => ∃ (x6_1 : Int), v6 = .int .i64 x6_1 ∧ Aside0 (petrinetref45_can.l0 kq t449 x6_1 = some r) ∧ Aside0 (kq ≤ k) ∧ Aside0 (Kd.R Kd.bool 4 w' w.heap.size (fun _ => True) v450 t449) ∧ Aside0 (w'.heap[gb448]? = some (.cells #[.int .i64 a0_0, (.slice A0_1 l0_1.length c0_1), (.slice A0_2 l0_2.length c0_2)] 25 (0, 0))) ∧ Aside0 (Below w.heap.size w w'))
 case atStart => exact ⟨(0), tq_z, H', ⟨Nat.le_refl _⟩, ⟨sq_kr HO451.out⟩, ⟨sq_bk BK448.out⟩, ⟨sq_bs HB.out⟩⟩
 case round =>
  clear H'
  try clear c1
  try clear hcz5_0
  try clear hcz5_1
  try clear hcz5_2
  try clear hfz5_0
  try clear hfz5_1
  try clear hfz5_2
  obtain ⟨x6_1, rfl, HA, HK1, HO_5, BK448, HB⟩ := hrel
  cases gk with
  | zero => exact absurd HA.out (by simp [petrinetref45_can.l0])
  | succ k1 =>
   have H := HA.out; clear HA
   simp only [petrinetref45_can.l0] at H
   revert H; refine tq_dd (fun c7b0 H => ?_) (fun c7b0 H => ?_); rotate_left
   ·obtain rfl := Option.some.inj H; obtain ⟨Ao13, co13, eo13⟩ := Kd.R_slice HO_5.out; subst eo13
    go_wp2
    go_ret
    exact tq_v (sq_bs HB.out)
   revert H; refine tq_i1 fun c8b0 H => ?_; obtain ⟨bq9, hbq9⟩ : ∃ b_ : Bool, b_ = (rdOf false t449 x6_1) := ⟨_, rfl⟩; replace H : (if bq9 = true then (some true) else (petrinetref45_can.l0 k1 t449 (wrap64 (x6_1 + 1)))) = some r := by rw [← hbq9] at H; exact H
   have Nbq9 := Aside0.mk hbq9; clear hbq9; cases bq9; rotate_left
   ·replace H := tq_t H; obtain rfl := Option.some.inj H; obtain ⟨Ao11, co11, eo11⟩ := Kd.R_slice HO_5.out; subst eo11; have p452 : 0 ≤ (x6_1 : Int) := sq_d; have q452 : x6_1 < (t449.length : Int) := sq_d; have LQ452 := Aside0.mk q452; obtain ⟨ad452, e452, hx452_0⟩ := Kd.at_bool (Kd.R_reads' HO_5.out).2.2 x6_1 p452 q452
    (try rw [← Nbq9.out] at hx452_0)
    cases e452; replace p452 := eq_true p452
    replace q452 := eq_true q452
    go_wp2
    go_ret
    exact tq_v (sq_bs HB.out)
   replace H := tq_f H; have H' := Aside0.mk H; clear H; obtain ⟨Ao12, co12, eo12⟩ := Kd.R_slice HO_5.out; subst eo12; have p452 : 0 ≤ (x6_1 : Int) := sq_d; have q452 : x6_1 < (t449.length : Int) := sq_d; have LQ452 := Aside0.mk q452; obtain ⟨ad452, e452, hx452_0⟩ := Kd.at_bool (Kd.R_reads' HO_5.out).2.2 x6_1 p452 q452
   (try rw [← Nbq9.out] at hx452_0)
   cases e452; replace p452 := eq_true p452
   replace q452 := eq_true q452
   go_wp2
   go_roundg k1
   case measure => have := HK1.out; omega
   case rel => exact ⟨(wrap64 (x6_1 + 1)), tq_z, H', ⟨by have := HK1.out; omega⟩, ⟨sq_kr HO_5.out⟩, ⟨sq_bk BK448.out⟩, ⟨sq_bs HB.out⟩⟩
end Go.Proofs.Ytcnliampiibpbaa.PAll
