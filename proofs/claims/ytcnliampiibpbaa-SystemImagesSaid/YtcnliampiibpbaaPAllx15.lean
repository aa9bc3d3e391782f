/- Lean functions for Go functions, each with the proof that the call returns what it says; printed by wip/tools/myprint.py. -/
-- squeezed
-- tight
import Derived.Test.YtcnliampiibpbaaTq
import Derived.Test.YtcnliampiibpbaaPAllx0
import Derived.Test.YtcnliampiibpbaaPAllx14
namespace Go.Proofs.Ytcnliampiibpbaa.PAll
open Go.RowKit Go.Proofs.YtcnliampiibpbaaW.PrintWords Go.Proofs.YtcnliampiibpbaaW.PrintLast Go.Proofs.YtcnliampiibpbaaW.PrintMore
attribute [local go_sem] Instr.field asAgg max2_int min2_int max_two min_two max_three min_three max_four min_four   -- for this text's walks alone
set_option linter.unusedVariables false
set_option linter.unusedSimpArgs false

/-! ### petrinetref07_Reach: function 34 -/
mutual
def petrinetref07_Reach.l0 : Nat → List (List Int) → List Int → List (List Bool) → List Bool → Int → Option (List Bool)
 | 0, _, _, _, _, _ => none
 | k + 1, x0, x1, x5, x6, x7 => if x7 < (x1.length : Int) then (if 0 ≤ x7 then (if (rd x1 x7) < 0 then (petrinetref07_Reach.j1 k x0 x1 x5 x6 x7 true) else (petrinetref07_Reach.j1 k x0 x1 x5 x6 x7 (decide ((rd x1 x7) ≥ (x0.length : Int))))) else (none)) else (some x6)
def petrinetref07_Reach.j1 : Nat → List (List Int) → List Int → List (List Bool) → List Bool → Int → Bool → Option (List Bool)
 | 0, _, _, _, _, _, _ => none
 | k + 1, x0, x1, x5, x6, x7, x33 => if x33 = true then (petrinetref07_Reach.l0 k x0 x1 x5 x6 (wrap64 (x7 + 1))) else (if 0 ≤ x7 then (if x7 < (x1.length : Int) then (if 0 ≤ (rd x1 x7) then (if (rd x1 x7) < (x6.length : Int) then (petrinetref07_Reach.l1 k x0 x1 x5 (x6.set ((rd x1 x7) : Int).toNat true) x7 0) else (none)) else (none)) else (none)) else (none))
def petrinetref07_Reach.l1 : Nat → List (List Int) → List Int → List (List Bool) → List Bool → Int → Int → Option (List Bool)
 | 0, _, _, _, _, _, _ => none
 | k + 1, x0, x1, x5, x6, x7, x8 => if x8 < (x0.length : Int) then (if 0 ≤ x8 then (if x8 < (x6.length : Int) then (if rdOf false x6 x8 = true then (petrinetref07_Reach.l1 k x0 x1 x5 (x6.set (x8 : Int).toNat true) x7 (wrap64 (x8 + 1))) else (if 0 ≤ x7 then (if x7 < (x1.length : Int) then (if 0 ≤ (rd x1 x7) then (if (rd x1 x7) < (x5.length : Int) then (if x8 < ((rd_L6 x5 (rd x1 x7)).length : Int) then (petrinetref07_Reach.l1 k x0 x1 x5 (x6.set (x8 : Int).toNat (rdOf false (rd_L6 x5 (rd x1 x7)) x8)) x7 (wrap64 (x8 + 1))) else (none)) else (none)) else (none)) else (none)) else (none))) else (none)) else (none)) else (petrinetref07_Reach.l0 k x0 x1 x5 x6 (wrap64 (x7 + 1)))
end
def petrinetref07_Reach.f (k : Nat) (l0 : List (List Int)) (l1 : List Int) : Option (List Bool) := (petrinetref07_Paths.f k l0).bind fun t280 => (if 0 ≤ (l0.length : Int) then (if ((l0.length : Int) : Int).toNat ≤ 281474976710656 then (petrinetref07_Reach.l0 k l0 l1 t280 (List.replicate ((l0.length : Int) : Int).toNat false) 0) else (none)) else (none))
theorem petrinetref07_Reach.mono_l : ∀ k, (∀ y0 y1 y2 y3 y4, LeO (petrinetref07_Reach.l0 k y0 y1 y2 y3 y4) (petrinetref07_Reach.l0 (k + 1) y0 y1 y2 y3 y4)) ∧ (∀ y0 y1 y2 y3 y4 y5, LeO (petrinetref07_Reach.j1 k y0 y1 y2 y3 y4 y5) (petrinetref07_Reach.j1 (k + 1) y0 y1 y2 y3 y4 y5)) ∧ (∀ y0 y1 y2 y3 y4 y5, LeO (petrinetref07_Reach.l1 k y0 y1 y2 y3 y4 y5) (petrinetref07_Reach.l1 (k + 1) y0 y1 y2 y3 y4 y5))
 | 0 => ⟨fun _ _ _ _ _ r h => by simp [petrinetref07_Reach.l0] at h, fun _ _ _ _ _ _ r h => by simp [petrinetref07_Reach.j1] at h, fun _ _ _ _ _ _ r h => by simp [petrinetref07_Reach.l1] at h⟩
 | k + 1 => by
  obtain ⟨ih0, ih1, ih2⟩ := petrinetref07_Reach.mono_l k
  refine ⟨?_, ?_, ?_⟩
  all_goals intros
  all_goals first | unfold petrinetref07_Reach.l0 | unfold petrinetref07_Reach.j1 | unfold petrinetref07_Reach.l1
  all_goals repeat' (with_reducible first | exact ih0 _ _ _ _ _ | exact ih1 _ _ _ _ _ _ | exact ih2 _ _ _ _ _ _ | exact petrinetref07_Paths.mono _ _ | exact LeO.refl _ | exact LeO.none _ | refine LeO.ite ?_ ?_ | refine LeO.bind ?_ (fun _ => ?_))
theorem petrinetref07_Reach.mono : ∀ a0 a1 k, LeO (petrinetref07_Reach.f k a0 a1) (petrinetref07_Reach.f (k + 1) a0 a1) := by
 intro a0 a1 k
 obtain ⟨ih0, ih1, ih2⟩ := petrinetref07_Reach.mono_l k
 unfold petrinetref07_Reach.f
 repeat' (with_reducible first | exact ih0 _ _ _ _ _ | exact ih1 _ _ _ _ _ _ | exact ih2 _ _ _ _ _ _ | exact petrinetref07_Paths.mono _ _ | exact LeO.refl _ | exact LeO.none _ | refine LeO.ite ?_ ?_ | refine LeO.bind ?_ (fun _ => ?_))
set_option maxHeartbeats 8000000 in
set_option maxRecDepth 100000 in
theorem petrinetref07_Reach.calls (k : Nat) (A0 : Option Addr) (c0 : Nat) (l0 : List (List Int)) (A1 : Option Addr) (c1 : Nat) (l1 : List Int) (r : List Bool) (w : World) (hr0 : Kd.C (Kd.slice 3 (Kd.int .i64)) w A0 l0.length l0) (hc0 : l0.length ≤ c0) (hr1 : Kd.C (Kd.int .i64) w A1 l1.length l1) (hc1 : l1.length ≤ c1) (h : petrinetref07_Reach.f k l0 l1 = some r) :
  Calls Try.prog 34 #[.slice A0 l0.length c0, .slice A1 l1.length c1] w fun e w' => ∃ v0_ : Value, e = .returned (v0_) ∧ Kd.R Kd.bool 4 w' w.heap.size (fun _ => True) v0_ r ∧ Below w.heap.size w w' := by
 have hv30 := Try.underlying30; have HR0 := Aside0.mk hr0; have HC0 := Aside0.mk hc0; clear hr0 hc0; have HR1 := Aside0.mk hr1; have HC1 := Aside0.mk hc1; clear hr1 hc1; have HB := Aside0.mk (Below.refl w.heap.size w); have H : ((petrinetref07_Paths.f k l0).bind fun t280 => (if 0 ≤ (l0.length : Int) then (if ((l0.length : Int) : Int).toNat ≤ 281474976710656 then (petrinetref07_Reach.l0 k l0 l1 t280 (List.replicate ((l0.length : Int) : Int).toNat false) 0) else (none)) else (none))) = some r := h; clear h; revert H; refine tq_o fun t280 A3 H => ?_; revert H; refine tq_ie fun c4b0 c4b1 H => ?_; revert H; refine tq_ie fun c5b0 c5b1 H => ?_; obtain ⟨y283, hy283⟩ : ∃ y_ : List Bool, y_ = (List.replicate ((l0.length : Int) : Int).toNat false) := ⟨_, rfl⟩; replace H : (petrinetref07_Reach.l0 k l0 l1 t280 y283 0) = some r := by first | (rw [hy283]; exact H) | exact H
 have Ny283 := Aside0.mk hy283; clear hy283; have H' := Aside0.mk H; clear H
 go_enter Try.func34, Try.ntmps34
 go_wp2_with (first | ((with_reducible refine gate_callee (f := 45) rfl ?_); refine sq_goes (some 10) Try.func45 #[.slice A0 l0.length c0] ?_; (with_reducible refine (petrinetref07_Paths.calls k _ _ l0 t280 _ ?s1 ?s2 A3.out).mono ?_); (case s1 => exact sq_kc (HR0.out)); (case s2 => exact HC0.out); rintro e w6 ⟨v281, rfl, ho0, hb⟩; refine ⟨_, rfl, ?_⟩; have HO282 := Aside0.mk (Kd.S_lower ho0 (below_size (sq_bl HB.out))); replace HB := tq_s HB hb; (try clear hb); (try clear ho0)) | ((with_reducible refine gate_dst (N := 13) rfl ?_); (try (refine gate_guard (by rfl) ?_; dsimp only)); refine Kd.R_make Kd.bool _ 4 rfl (N := 13) rfl 50 _ _ rfl (l0.length : Int) rfl rfl Try.underlying50 (.bool false) 1 info4 rfl (by decide) (by omega) false (ok := fun _ => True) (okp := fun _ => True) rfl (fun _ hk => hk) trivial sq_d (Nat.le_trans (Nat.mul_le_mul_right _ (sq_d : (l0.length : Int).toNat ≤ 281474976710656)) (by omega)) (Below.refl _ _) (Nat.le_refl _) ?_; intro v284 w7 ho8 hb hg_ hnew_; clear hg_ hnew_; (first | rw [← Ny283.out] at ho8 | (simp only [Int.reduceToNat] at ho8; rw [← Ny283.out] at ho8)); replace HO282 := Aside0.mk (Kd.S_elder' (by (with_reducible repeat (first | apply Kd.S_alloc | apply Kd.S_drewN | apply Kd.S_drew)); exact HO282.out) (Kd.R_base ho8) hb); have HO285 := Aside0.mk (Kd.R_lower ho8 (below_size (sq_bl HB.out))); replace HB := tq_s HB hb; clear hb ho8))
 go_loopg [7] k (fun kq v7 w' => ∃ (x6_1 : List Bool) (x7_1 : Int), v7 = .int .i64 x7_1 ∧ Aside0 (petrinetref07_Reach.l0 kq l0 l1 t280 x6_1 x7_1 = some r) ∧ Aside0 (kq ≤ k) ∧ Aside0 (Kd.S (Kd.slice 4 Kd.bool) 50 w' w.heap.size (fun k_ => some k_ ≠ (v284 : Value).ownBlock) v281 t280) ∧ Aside0 (Kd.R Kd.bool 4 w' w.heap.size (fun _ => True) v284 x6_1) ∧ Aside0 (Below w.heap.size w w'))
 case atStart => exact ⟨(y283), (0), tq_z, H', ⟨Nat.le_refl _⟩, ⟨by (with_reducible repeat (first | apply Kd.S_alloc | apply Kd.S_drewN | apply Kd.S_drew)); exact Kd.S_mono HO282.out (fun _ hk => hk.2)⟩, ⟨sq_kr HO285.out⟩, ⟨sq_bl HB.out⟩⟩
 case round =>
  clear H'
  try clear c4b0
  try clear c4b1
  try clear c5b0
  try clear c5b1
  obtain ⟨x6_1, x7_1, rfl, HA, HK1, HO_5, HO_6, HB⟩ := hrel
  cases gk with
  | zero => exact absurd HA.out (by simp [petrinetref07_Reach.l0])
  | succ k1 =>
   have H := HA.out; clear HA
   simp only [petrinetref07_Reach.l0] at H
   revert H; refine tq_dd (fun c9b0 H => ?_) (fun c9b0 H => ?_); rotate_left
   ·obtain rfl := Option.some.inj H
    go_wp2
    go_ret
    exact ⟨_, tq_v ⟨sq_kr HO_6.out, sq_bl HB.out⟩⟩
   have HC10 := Aside0.mk H; clear H
   go_upto_region 6 with (fail)
   go_cut [33] (fun v33 wc => ∃ (kq : Nat) (x33_9 : Bool), v33 = .bool x33_9 ∧ Aside0 (petrinetref07_Reach.j1 kq l0 l1 t280 x6_1 x7_1 x33_9 = some r) ∧ Aside0 (kq ≤ k1) ∧ Aside0 (Kd.S (Kd.slice 4 Kd.bool) 50 wc w.heap.size (fun k_ => some k_ ≠ (v284 : Value).ownBlock) v281 t280) ∧ Aside0 (Kd.R Kd.bool 4 wc w.heap.size (fun _ => True) v284 x6_1) ∧ Aside0 (Below w.heap.size w wc))
   case first =>
    have H := HC10.out; clear HC10; revert H; refine tq_i1 fun c11b0 H => ?_
    (first | rw [c11b0] | (simp only [i64_w, i32_w]; rw [c11b0]) | skip)
    have HH_ := Aside0.mk H; clear H; have p286 : 0 ≤ (x7_1 : Int) := sq_d; have q286 : x7_1 < (l1.length : Int) := sq_d; have LQ286 := Aside0.mk q286; obtain ⟨ad286, e286, hx286_0⟩ := Kd.at_int HR1.out x7_1 p286 q286; cases e286; replace hx286_0 := tq_hx HB hx286_0; replace p286 := eq_true p286; replace q286 := eq_true q286; have H := HH_.out; clear HH_; revert H; refine tq_dd (fun c12b0 H => ?_) (fun c12b0 H => ?_)
    ·have H' := Aside0.mk H; clear H
     go_wp2
     go_meet
     case rel => exact ⟨_, (true), tq_z, H', ⟨by have := HK1.out; first | omega | exact Nat.le_refl _⟩, ⟨by (with_reducible repeat (first | apply Kd.S_alloc | apply Kd.S_drewN | apply Kd.S_drew)); exact HO_5.out⟩, ⟨sq_kr HO_6.out⟩, ⟨sq_bl HB.out⟩⟩
    have H' := Aside0.mk H; clear H; have p287 : 0 ≤ (x7_1 : Int) := sq_d; have q287 : x7_1 < (l1.length : Int) := sq_d; have LQ287 := Aside0.mk q287; obtain ⟨ad287, e287, hx287_0⟩ := Kd.at_int HR1.out x7_1 p287 q287; obtain rfl : ad286 = ad287 := (by injection e287); replace hx287_0 := tq_hx HB hx287_0; replace p287 := eq_true p287; replace q287 := eq_true q287
    go_wp2
    go_meet
    case rel => exact ⟨_, (decide ((rd l1 x7_1) ≥ (l0.length : Int))), tq_z, H', ⟨by have := HK1.out; first | omega | exact Nat.le_refl _⟩, ⟨by (with_reducible repeat (first | apply Kd.S_alloc | apply Kd.S_drewN | apply Kd.S_drew)); exact HO_5.out⟩, ⟨sq_kr HO_6.out⟩, ⟨sq_bl HB.out⟩⟩
   case rest =>
    clear HC10
    try clear c9b0
    obtain ⟨kq, x33_9, rfl, HA, HJ9, HO_5, HO_6, HB⟩ := hcut
    cases kq with
    | zero => exact absurd HA.out (by simp [petrinetref07_Reach.j1])
    | succ kj9 =>
     have H := HA.out; clear HA
     simp only [petrinetref07_Reach.j1] at H
     cases x33_9; rotate_left
     ·replace H := tq_t H; have H' := Aside0.mk H; clear H
      go_wp2
      go_roundg kj9
      case measure => have := HK1.out; have := HJ9.out; omega
      case rel => exact ⟨(x6_1), (wrap64 (x7_1 + 1)), tq_z, H', ⟨by have := HK1.out; have := HJ9.out; omega⟩, ⟨by (with_reducible repeat (first | apply Kd.S_alloc | apply Kd.S_drewN | apply Kd.S_drew)); exact HO_5.out⟩, ⟨sq_kr HO_6.out⟩, ⟨sq_bl HB.out⟩⟩
     replace H := tq_f H; revert H; refine tq_i1 fun c14b0 H => ?_; revert H; refine tq_i1 fun c15b0 H => ?_; revert H; refine tq_i1 fun c16b0 H => ?_; revert H; refine tq_i1 fun c17b0 H => ?_; obtain ⟨y289, hy289⟩ : ∃ y_ : List Bool, y_ = (x6_1.set ((rd l1 x7_1) : Int).toNat true) := ⟨_, rfl⟩; replace H : (petrinetref07_Reach.l1 kj9 l0 l1 t280 y289 x7_1 0) = some r := by first | (rw [hy289]; exact H) | exact H
     have Ny289 := Aside0.mk hy289; clear hy289; have H' := Aside0.mk H; clear H; have p288 : 0 ≤ (x7_1 : Int) := sq_d; have q288 : x7_1 < (l1.length : Int) := sq_d; have LQ288 := Aside0.mk q288; obtain ⟨ad288, e288, hx288_0⟩ := Kd.at_int HR1.out x7_1 p288 q288; cases e288; replace hx288_0 := tq_hx HB hx288_0; replace p288 := eq_true p288; replace q288 := eq_true q288; have p18 : 0 ≤ ((rd l1 x7_1) : Int) := sq_d; have q18 : ((rd l1 x7_1) : Int) < ((x6_1.length : Int) : Int) := sq_d; obtain ⟨go18, co18, eo18, gb18, gl18, cl18, HG18⟩ := Kd.R_form HO_6.out (by omega)
     (first | cases eo18 | (injection eo18 with ea_ en_ ec_; (first | subst ea_ | (injection ea_ with ea_; subst ea_)); subst ec_; clear en_))
     have GB18 := Aside0.mk gb18; have GG18 := Aside0.mk HG18; clear gb18 gl18 HG18; obtain ⟨hx18_0, hf18_0⟩ := Kd.R_celln false HO_6.out ((rd l1 x7_1) : Int) p18 q18; replace p18 := eq_true p18; replace q18 := eq_true q18; have HP19 := Kd.R_putg HO_6.out ((rd l1 x7_1) : Int) true
     go_wp2_with (first | ((with_reducible refine gate_store (t := 4) (p := 39) rfl ?_); refine store_event (t := 4) (p := 39) (v := ?vo_w20) (w1 := (wc.setCell ⟨go18, ((rd l1 x7_1) : Int).toNat, none⟩ (.bool true))) ?hg ?ho ?hn ?hr ?_; (case ho => rfl); (case hg => rfl); (case hn => rfl); (case hr => first | (go_simp; done) | (go_simp; rfl)); intro w20 hw; have hg : wc.grownBy w20 (some go18) := (by rw [hw]; exact HP19.2); have hp_ : Kd.R Kd.bool 4 w20 w.heap.size (fun _ => True) (.slice (some ⟨go18, 0, none⟩) x6_1.length co18) y289 := (by rw [hw, Ny289.out]; exact HP19.1); clear HP19; replace HO_5 := Aside0.mk (Kd.S_after (v := (.slice (some ⟨go18, 0, none⟩) x6_1.length co18)) (v1 := (.slice (some ⟨go18, 0, none⟩) x6_1.length co18)) (ok := (fun _ => True)) (by (with_reducible repeat (first | apply Kd.S_alloc | apply Kd.S_drewN | apply Kd.S_drew)); exact Kd.S_mono HO_5.out (fun _ hk => ⟨trivial, hk⟩)) hg (.inl rfl)); replace HO_6 := Aside0.mk hp_; replace HB := Aside0.mk (by rw [hw]; exact below_set (HB.out) GB18.out : Below w.heap.size w w20); clear hg hw hp_))
     go_loopg [8] kj9 (fun kq v8 w' => ∃ (x6_3 : List Bool) (x8_3 : Int), v8 = .int .i64 x8_3 ∧ Aside0 (petrinetref07_Reach.l1 kq l0 l1 t280 x6_3 x7_1 x8_3 = some r) ∧ Aside0 (kq ≤ kj9) ∧ Aside0 (Kd.S (Kd.slice 4 Kd.bool) 50 w' w.heap.size (fun k_ => some k_ ≠ ((.slice (some ⟨go18, 0, none⟩) x6_1.length co18) : Value).ownBlock) v281 t280) ∧ Aside0 (Kd.R Kd.bool 4 w' w.heap.size (fun _ => True) (.slice (some ⟨go18, 0, none⟩) x6_1.length co18) x6_3) ∧ Aside0 (Below w.heap.size w w'))
     case atStart => exact ⟨(y289), (0), tq_z, H', ⟨Nat.le_refl _⟩, ⟨by (with_reducible repeat (first | apply Kd.S_alloc | apply Kd.S_drewN | apply Kd.S_drew)); exact Kd.S_mono HO_5.out (fun _ hk => hk.2)⟩, ⟨sq_kr HO_6.out⟩, ⟨sq_bl HB.out⟩⟩
     case round =>
      clear H'
      try clear c13
      try clear c14b0
      try clear c15b0
      try clear c16b0
      try clear c17b0
      try clear p18
      try clear q18
      try clear hx18_0
      try clear hx288_0
      try clear p288
      try clear q288
      obtain ⟨x6_3, x8_3, rfl, HA, HK3, HO_5, HO_6, HB⟩ := hrel; have hl6_3 := (Kd.R_reads' HO_6.out).1; rw [hl6_3] at HO_6
      (try simp only [hl6_3])
      (try simp only [hl6_3] at HO_5)
      cases gk with
      | zero => exact absurd HA.out (by simp [petrinetref07_Reach.l1])
      | succ k3 =>
       have H := HA.out; clear HA
       simp only [petrinetref07_Reach.l1] at H
       revert H; refine tq_rr (fun c21 H => ?_) (fun c21 H => ?_); rotate_left
       ·have c21b0 : decide (x8_3 < (l0.length : Int)) = false := decide_eq_false c21; have c21z0 := c21b0
        (try rw [hl6_3] at c21z0)
        clear c21; have H' := Aside0.mk H; clear H
        go_wp2
        (try simp only [← hl6_3])
        go_roundg k3
        case measure => have := HK1.out; have := HJ9.out; have := HK3.out; omega
        case rel => exact ⟨(x6_3), (wrap64 (x7_1 + 1)), tq_z, H', ⟨by have := HK1.out; have := HJ9.out; have := HK3.out; omega⟩, ⟨by (try simp only [hl6_3]); (with_reducible repeat (first | apply Kd.S_alloc | apply Kd.S_drewN | apply Kd.S_drew)); exact HO_5.out⟩, ⟨by (try simp only [hl6_3]); (with_reducible repeat (first | apply Kd.R_alloc | apply Kd.R_drewN | apply Kd.R_drew)); exact HO_6.out⟩, ⟨sq_bl HB.out⟩⟩
       have c21b0 : decide (x8_3 < (l0.length : Int)) = true := decide_eq_true c21; have c21z0 := c21b0
       (try rw [hl6_3] at c21z0)
       clear c21; revert H; refine tq_i1 fun c22b0 H => ?_; revert H; refine tq_i fun c23 H => ?_; have c23b0 : decide (x8_3 < (x6_3.length : Int)) = true := decide_eq_true c23; have c23z0 := c23b0
       (try rw [hl6_3] at c23z0)
       clear c23; obtain ⟨bq24, hbq24⟩ : ∃ b_ : Bool, b_ = (rdOf false x6_3 x8_3) := ⟨_, rfl⟩; replace H : (if bq24 = true then (petrinetref07_Reach.l1 k3 l0 l1 t280 (x6_3.set (x8_3 : Int).toNat true) x7_1 (wrap64 (x8_3 + 1))) else (if 0 ≤ x7_1 then (if x7_1 < (l1.length : Int) then (if 0 ≤ (rd l1 x7_1) then (if (rd l1 x7_1) < (t280.length : Int) then (if x8_3 < ((rd_L6 t280 (rd l1 x7_1)).length : Int) then (petrinetref07_Reach.l1 k3 l0 l1 t280 (x6_3.set (x8_3 : Int).toNat (rdOf false (rd_L6 t280 (rd l1 x7_1)) x8_3)) x7_1 (wrap64 (x8_3 + 1))) else (none)) else (none)) else (none)) else (none)) else (none))) = some r := by rw [← hbq24] at H; exact H
       have Nbq24 := Aside0.mk hbq24; clear hbq24; cases bq24; rotate_left
       ·replace H := tq_t H; obtain ⟨y291, hy291⟩ : ∃ y_ : List Bool, y_ = (x6_3.set (x8_3 : Int).toNat true) := ⟨_, rfl⟩; replace H : (petrinetref07_Reach.l1 k3 l0 l1 t280 y291 x7_1 (wrap64 (x8_3 + 1))) = some r := by first | (rw [hy291]; exact H) | exact H
        have Ny291 := Aside0.mk hy291; clear hy291; have H' := Aside0.mk H; clear H; have p290 : 0 ≤ (x8_3 : Int) := sq_d; have q290 : x8_3 < (x6_3.length : Int) := sq_d; have LQ290 := Aside0.mk q290; obtain ⟨ad290, e290, hx290_0⟩ := Kd.at_bool (Kd.R_reads' HO_6.out).2.2 x8_3 p290 q290
        (try rw [← Nbq24.out] at hx290_0)
        obtain rfl : (⟨go18, 0, none⟩ : Addr) = ad290 := (by injection e290)
        (first | simp only [add_plain] at hx290_0 | simp only [add_at] at hx290_0 | simp only [Addr.add, Nat.zero_add] at hx290_0 | skip)
        replace p290 := eq_true p290; replace q290 := eq_true q290; have p26 : 0 ≤ (x8_3 : Int) := sq_d; have q26 : (x8_3 : Int) < ((x6_3.length : Int) : Int) := sq_d; obtain ⟨hx26_0, hf26_0⟩ := Kd.R_celln false HO_6.out (x8_3 : Int) p26 q26; replace p26 := eq_true p26; replace q26 := eq_true q26; have HP27 := Kd.R_putg HO_6.out (x8_3 : Int) true
        go_wp2_with (first | ((with_reducible refine gate_store (t := 4) (p := 64) rfl ?_); refine store_event (t := 4) (p := 64) (v := ?vo_w28) (w1 := (wr.setCell ⟨go18, (x8_3 : Int).toNat, none⟩ (.bool true))) ?hg ?ho ?hn ?hr ?_; (case ho => rfl); (case hg => rfl); (case hn => rfl); (case hr => first | (go_simp; done) | (go_simp; rfl)); intro w28 hw; have hg : wr.grownBy w28 (some go18) := (by rw [hw]; exact HP27.2); have hp_ : Kd.R Kd.bool 4 w28 w.heap.size (fun _ => True) (.slice (some ⟨go18, 0, none⟩) x6_3.length co18) y291 := (by rw [hw, Ny291.out]; exact HP27.1); clear HP27; replace HO_5 := Aside0.mk (Kd.S_after (v := (.slice (some ⟨go18, 0, none⟩) x6_3.length co18)) (v1 := (.slice (some ⟨go18, 0, none⟩) x6_3.length co18)) (ok := (fun _ => True)) (by (with_reducible repeat (first | apply Kd.S_alloc | apply Kd.S_drewN | apply Kd.S_drew)); exact Kd.S_mono HO_5.out (fun _ hk => ⟨trivial, hk⟩)) hg (.inl rfl)); replace HO_6 := Aside0.mk hp_; replace HB := Aside0.mk (by rw [hw]; exact below_set (HB.out) GB18.out : Below w.heap.size w w28); clear hg hw hp_))
        (try simp only [← hl6_3])
        go_roundg k3
        case measure => have := HK1.out; have := HJ9.out; have := HK3.out; omega
        case rel => exact ⟨(y291), (wrap64 (x8_3 + 1)), tq_z, H', ⟨by have := HK1.out; have := HJ9.out; have := HK3.out; omega⟩, ⟨by (try simp only [hl6_3]); (with_reducible repeat (first | apply Kd.S_alloc | apply Kd.S_drewN | apply Kd.S_drew)); exact Kd.S_mono HO_5.out (fun _ hk => hk.2)⟩, ⟨by (try simp only [hl6_3]); (with_reducible repeat (first | apply Kd.R_alloc | apply Kd.R_drewN | apply Kd.R_drew)); exact HO_6.out⟩, ⟨sq_bl HB.out⟩⟩
       replace H := tq_f H; revert H; refine tq_i1 fun c29b0 H => ?_; revert H; refine tq_i fun c30 H => ?_; have c30b0 : decide (x7_1 < (l1.length : Int)) = true := decide_eq_true c30; have c30z0 := c30b0
       (try rw [hl6_3] at c30z0)
       clear c30; revert H; refine tq_i1 fun c31b0 H => ?_; revert H; refine tq_i fun c32 H => ?_; have c32b0 : decide ((rd l1 x7_1) < (t280.length : Int)) = true := decide_eq_true c32; have c32z0 := c32b0
       (try rw [hl6_3] at c32z0)
       clear c32; revert H; refine tq_i fun c33 H => ?_; have c33b0 : decide (x8_3 < ((rd_L6 t280 (rd l1 x7_1)).length : Int)) = true := decide_eq_true c33; have c33z0 := c33b0
       (try rw [hl6_3] at c33z0)
       clear c33; obtain ⟨y295, hy295⟩ : ∃ y_ : List Bool, y_ = (x6_3.set (x8_3 : Int).toNat (rdOf false (rd_L6 t280 (rd l1 x7_1)) x8_3)) := ⟨_, rfl⟩; replace H : (petrinetref07_Reach.l1 k3 l0 l1 t280 y295 x7_1 (wrap64 (x8_3 + 1))) = some r := by first | (rw [hy295]; exact H) | exact H
       have Ny295 := Aside0.mk hy295; clear hy295; have H' := Aside0.mk H; clear H; have p290 : 0 ≤ (x8_3 : Int) := sq_d; have q290 : x8_3 < (x6_3.length : Int) := sq_d; have LQ290 := Aside0.mk q290; obtain ⟨ad290, e290, hx290_0⟩ := Kd.at_bool (Kd.R_reads' HO_6.out).2.2 x8_3 p290 q290
       (try rw [← Nbq24.out] at hx290_0)
       obtain rfl : (⟨go18, 0, none⟩ : Addr) = ad290 := (by injection e290)
       (first | simp only [add_plain] at hx290_0 | simp only [add_at] at hx290_0 | simp only [Addr.add, Nat.zero_add] at hx290_0 | skip)
       replace p290 := eq_true p290; replace q290 := eq_true q290; have p292 : 0 ≤ (x7_1 : Int) := sq_d; have q292 : x7_1 < (l1.length : Int) := sq_d; have LQ292 := Aside0.mk q292; obtain ⟨ad292, e292, hx292_0⟩ := Kd.at_int HR1.out x7_1 p292 q292; obtain rfl : ad288 = ad292 := (by injection e292); replace hx292_0 := tq_hx HB hx292_0; replace p292 := eq_true p292; replace q292 := eq_true q292; obtain ⟨Ao35, co35, eo35⟩ := Kd.S_slice HO_5.out; subst eo35; have p293 : 0 ≤ ((rd l1 x7_1) : Int) := sq_d; have q293 : (rd l1 x7_1) < (t280.length : Int) := sq_d; obtain ⟨ad293, A293_0, c293_0, e293, hx293_0, hl293_0, hi293_0⟩ := at_L6 (Kd.S_reads' HO_5.out).2.2 (rd l1 x7_1) p293 q293; cases e293; obtain ⟨ce293, hce293, hMe293, hcc293⟩ := Kd.S_get HO_5.out [] (rd l1 x7_1) p293 (by first | exact q293 | exact sq_d | (have e_ := (Kd.S_reads' HO_5.out).1; omega)); obtain ⟨ve293_0, rfl, ge293_0⟩ := hMe293; have hv293_0 := hcc293 0 _ rfl; rw [Nat.add_zero, show ((Kd.slice 4 Kd.bool)).sz = 1 from rfl, Nat.mul_one] at hv293_0; replace hv293_0 := Option.some.inj (hv293_0.symm.trans hx293_0); rw [hv293_0] at ge293_0; have HL293_0 := Aside0.mk (show Kd.R Kd.bool 4 _ _ _ _ (rd_L6 t280 (rd l1 x7_1)) from ge293_0); clear hv293_0 ge293_0; clear hcc293 hce293; have HR293_0 := Aside0.mk hi293_0; have HC293_0 := Aside0.mk hl293_0; clear hi293_0 hl293_0; replace p293 := eq_true p293; replace q293 := eq_true q293; have p294 : 0 ≤ (x8_3 : Int) := sq_d; have q294 : x8_3 < ((rd_L6 t280 (rd l1 x7_1)).length : Int) := sq_d; obtain ⟨ad294, e294, hx294_0⟩ := Kd.at_bool (by repeat (first | (with_reducible exact HR293_0.out) | (with_reducible refine Kd.C_alloc ?_ _) | (with_reducible refine Kd.C_drewN ?_ _) | (with_reducible refine Kd.C_drew ?_) | exact HR293_0.out)) x8_3 p294 q294
       (try rw [← Nbq24.out] at hx294_0)
       cases e294; replace p294 := eq_true p294
       replace q294 := eq_true q294; have p34 : 0 ≤ (x8_3 : Int) := sq_d; have q34 : (x8_3 : Int) < ((x6_3.length : Int) : Int) := sq_d; obtain ⟨hx34_0, hf34_0⟩ := Kd.R_celln false HO_6.out (x8_3 : Int) p34 q34; replace p34 := eq_true p34; replace q34 := eq_true q34; have HP36 := Kd.R_putg HO_6.out (x8_3 : Int) (rdOf false (rd_L6 t280 (rd l1 x7_1)) x8_3)
       go_wp2_with (first | ((with_reducible refine gate_store (t := 4) (p := 64) rfl ?_); refine store_event (t := 4) (p := 64) (v := ?vo_w37) (w1 := (wr.setCell ⟨go18, (x8_3 : Int).toNat, none⟩ (.bool (rdOf false (rd_L6 t280 (rd l1 x7_1)) x8_3)))) ?hg ?ho ?hn ?hr ?_; (case ho => rfl); (case hg => rfl); (case hn => rfl); (case hr => first | (go_simp; done) | (go_simp; rfl)); intro w37 hw; have hg : wr.grownBy w37 (some go18) := (by rw [hw]; exact HP36.2); have hp_ : Kd.R Kd.bool 4 w37 w.heap.size (fun _ => True) (.slice (some ⟨go18, 0, none⟩) x6_3.length co18) y295 := (by rw [hw, Ny295.out]; exact HP36.1); clear HP36; replace HO_5 := Aside0.mk (Kd.S_after (v := (.slice (some ⟨go18, 0, none⟩) x6_3.length co18)) (v1 := (.slice (some ⟨go18, 0, none⟩) x6_3.length co18)) (ok := (fun _ => True)) (by (with_reducible repeat (first | apply Kd.S_alloc | apply Kd.S_drewN | apply Kd.S_drew)); exact Kd.S_mono HO_5.out (fun _ hk => ⟨trivial, hk⟩)) hg (.inl rfl)); replace HO_6 := Aside0.mk hp_; replace HL293_0 := Aside0.mk (Kd.R_after (v := (.slice (some ⟨go18, 0, none⟩) x6_3.length co18)) (v1 := (.slice (some ⟨go18, 0, none⟩) x6_3.length co18)) (ok := (fun k_ => some k_ ≠ (.slice (some ad293) t280.length co35 : Value).ownBlock)) (by (with_reducible repeat (first | apply Kd.R_alloc | apply Kd.R_drewN | apply Kd.R_drew)); exact Kd.R_mono HL293_0.out (fun _ hk => ⟨hk.2, hk.1⟩)) hg (.inl rfl)); replace HB := Aside0.mk (by rw [hw]; exact below_set (HB.out) GB18.out : Below w.heap.size w w37); clear hg hw hp_))
       (try simp only [← hl6_3])
       go_roundg k3
       case measure => have := HK1.out; have := HJ9.out; have := HK3.out; omega
       case rel => exact ⟨(y295), (wrap64 (x8_3 + 1)), tq_z, H', ⟨by have := HK1.out; have := HJ9.out; have := HK3.out; omega⟩, ⟨by (try simp only [hl6_3]); (with_reducible repeat (first | apply Kd.S_alloc | apply Kd.S_drewN | apply Kd.S_drew)); exact Kd.S_mono HO_5.out (fun _ hk => hk.2)⟩, ⟨by (try simp only [hl6_3]); (with_reducible repeat (first | apply Kd.R_alloc | apply Kd.R_drewN | apply Kd.R_drew)); exact HO_6.out⟩, ⟨sq_bl HB.out⟩⟩
/-! ### petrinetref45_Graph: function 35 -/
def petrinetref45_Graph.l0 : Nat → List (List Int) → Int → Int → List ByteArray → List (S44) → Option ((List (List Int)))
 | 0, _, _, _, _, _ => none
 | k + 1, x3, x4, x297000, x297001, x297002 => if x4 < (x297002.length : Int) then (if 0 ≤ x4 then (if 0 ≤ ((rd_T44 x297002 x4).f0) then (if ((rd_T44 x297002 x4).f0) < (x3.length : Int) then (if (rd_L4 x3 ((rd_T44 x297002 x4).f0)).length < 17592186044416 then (petrinetref45_Graph.l0 k (x3.set (((rd_T44 x297002 x4).f0) : Int).toNat ((rd_L4 x3 ((rd_T44 x297002 x4).f0)) ++ [(rd_T44 x297002 x4).f2])) (wrap64 (x4 + 1)) x297000 x297001 x297002) else (none)) else (none)) else (none)) else (none)) else (some x3)
def petrinetref45_Graph.f (k : Nat) (a0_0 : Int) (l0_1 : List ByteArray) (l0_2 : List (S44)) : Option ((List (List Int))) := if 0 ≤ a0_0 then (if (a0_0 : Int).toNat ≤ 11728124029610 then (petrinetref45_Graph.l0 k (List.replicate (a0_0 : Int).toNat []) 0 a0_0 l0_1 l0_2) else (none)) else (none)
theorem petrinetref45_Graph.mono_l : ∀ k, (∀ y0 y1 y2 y3 y4, LeO (petrinetref45_Graph.l0 k y0 y1 y2 y3 y4) (petrinetref45_Graph.l0 (k + 1) y0 y1 y2 y3 y4))
 | 0 => fun _ _ _ _ _ r h => by simp [petrinetref45_Graph.l0] at h
 | k + 1 => by
  have ih0 := petrinetref45_Graph.mono_l k
  ·intro y0 y1 y2 y3 y4
   unfold petrinetref45_Graph.l0
   repeat' (with_reducible first | exact ih0 _ _ _ _ _ | exact LeO.refl _ | exact LeO.none _ | refine LeO.ite ?_ ?_ | refine LeO.bind ?_ (fun _ => ?_))
theorem petrinetref45_Graph.mono : ∀ a0 a1 a2 k, LeO (petrinetref45_Graph.f k a0 a1 a2) (petrinetref45_Graph.f (k + 1) a0 a1 a2) := by
 intro a0 a1 a2 k
 have ih0 := petrinetref45_Graph.mono_l k
 unfold petrinetref45_Graph.f
 repeat' (with_reducible first | exact ih0 _ _ _ _ _ | exact LeO.refl _ | exact LeO.none _ | refine LeO.ite ?_ ?_ | refine LeO.bind ?_ (fun _ => ?_))
set_option maxHeartbeats 8000000 in
set_option maxRecDepth 100000 in
theorem petrinetref45_Graph.calls (k : Nat) (a0_0 : Int) (A0_1 : Option Addr) (c0_1 : Nat) (l0_1 : List ByteArray) (A0_2 : Option Addr) (c0_2 : Nat) (l0_2 : List (S44)) (r : List (List Int)) (w : World) (hr0_1 : Kd.C Kd.string w A0_1 l0_1.length l0_1) (hc0_1 : l0_1.length ≤ c0_1) (hr0_2 : Kd.C k44 w A0_2 l0_2.length l0_2) (hc0_2 : l0_2.length ≤ c0_2) (h : petrinetref45_Graph.f k a0_0 l0_1 l0_2 = some r) :
  Calls Try.prog 35 #[.agg #[.int .i64 a0_0, .slice A0_1 l0_1.length c0_1, .slice A0_2 l0_2.length c0_2]] w fun e w' => ∃ v0_ : Value, e = .returned (v0_) ∧ Kd.S (Kd.slice 3 (Kd.int .i64)) 34 w' w.heap.size (fun _ => True) v0_ r ∧ Below w.heap.size w w' := by
 have hv30 := Try.underlying30; have hu25 := Try.underlying25; have HR0_1 := Aside0.mk hr0_1; have HC0_1 := Aside0.mk hc0_1; clear hr0_1 hc0_1; have HR0_2 := Aside0.mk hr0_2; have HC0_2 := Aside0.mk hc0_2; clear hr0_2 hc0_2; have HB := Aside0.mk (Below.refl w.heap.size w); have H : (if 0 ≤ a0_0 then (if (a0_0 : Int).toNat ≤ 11728124029610 then (petrinetref45_Graph.l0 k (List.replicate (a0_0 : Int).toNat []) 0 a0_0 l0_1 l0_2) else (none)) else (none)) = some r := h; clear h; revert H; refine tq_ie fun c2b0 c2b1 H => ?_; revert H; refine tq_ie fun c3b0 c3b1 H => ?_; obtain ⟨y297, hy297⟩ : ∃ y_ : List (List Int), y_ = (List.replicate (a0_0 : Int).toNat []) := ⟨_, rfl⟩; replace H : (petrinetref45_Graph.l0 k y297 0 a0_0 l0_1 l0_2) = some r := by first | (rw [hy297]; exact H) | exact H
 have Ny297 := Aside0.mk hy297; clear hy297; have H' := Aside0.mk H; clear H
 go_enter Try.func35, Try.ntmps35
 go_wp2_with (first | ((with_reducible refine gate_dst (N := 1) rfl ?_); refine sq_box 1 #[.int .i64 a0_0, .slice A0_1 l0_1.length c0_1, .slice A0_2 l0_2.length c0_2] 25 ?_; intro gb296 hg w4 hbox hb; have BK296 := Aside0.mk hbox; have GW296 := tq_w HB hg; have GE296 := tq_w HB hg; replace HB := tq_s HB hb; clear hb hbox hg; obtain ⟨hcz5_0, hcz5_1, hcz5_2, hfz5_0, hfz5_1, hfz5_2⟩ := tq_3 (w := w4) BK296) | ((with_reducible refine gate_dst (N := 8) rfl ?_); refine Kd.S_make (Kd.slice 3 (Kd.int .i64)) _ 34 rfl (N := 8) rfl 40 _ _ rfl a0_0 rfl rfl Try.underlying40 (.slice none 0 0) 24 info34 rfl (by decide) (by omega) [] (ok := fun _ => True) (okp := fun _ => True) ⟨_, rfl, Kd.R_nil _ _ _ _ _⟩ (fun _ hk => hk) trivial sq_d (Nat.le_trans (Nat.mul_le_mul_right _ (sq_d : a0_0.toNat ≤ 11728124029610)) (by omega)) (Below.refl _ _) (Nat.le_refl _) ?_; intro v298 w6 ho7 hb hg_ hnew_; clear hg_ hnew_; (first | rw [← Ny297.out] at ho7 | (simp only [Int.reduceToNat] at ho7; rw [← Ny297.out] at ho7)); have HO299 := Aside0.mk (Kd.S_lower ho7 (below_size (sq_bs HB.out))); replace BK296 := tq_k BK296 hb; replace HB := tq_s HB hb; clear hb ho7))
 go_loopg [4] k (fun kq v4 w' => ∃ (x3_1 : List (List Int)) (x4_1 : Int), v4 = .int .i64 x4_1 ∧ Aside0 (petrinetref45_Graph.l0 kq x3_1 x4_1 a0_0 l0_1 l0_2 = some r) ∧ Aside0 (kq ≤ k) ∧ Aside0 (Kd.S (Kd.slice 3 (Kd.int .i64)) 34 w' w.heap.size (fun _ => True) v298 x3_1) ∧ Aside0 (w'.heap[gb296]? = some (.cells #[.int .i64 a0_0, (.slice A0_1 l0_1.length c0_1), (.slice A0_2 l0_2.length c0_2)] 25 (0, 0))) ∧ Aside0 (Below w.heap.size w w'))
 case atStart => exact ⟨(y297), (0), tq_z, H', ⟨Nat.le_refl _⟩, ⟨by (with_reducible repeat (first | apply Kd.S_alloc | apply Kd.S_drewN | apply Kd.S_drew)); exact HO299.out⟩, ⟨sq_bk BK296.out⟩, ⟨sq_bs HB.out⟩⟩
 case round =>
  clear H'
  try clear c2b0
  try clear c2b1
  try clear c3b0
  try clear c3b1
  try clear hcz5_0
  try clear hcz5_1
  try clear hcz5_2
  try clear hfz5_0
  try clear hfz5_1
  try clear hfz5_2
  obtain ⟨x3_1, x4_1, rfl, HA, HK1, HO_3, BK296, HB⟩ := hrel
  cases gk with
  | zero => exact absurd HA.out (by simp [petrinetref45_Graph.l0])
  | succ k1 =>
   have H := HA.out; clear HA
   simp only [petrinetref45_Graph.l0] at H
   revert H; refine tq_dd (fun c8b0 H => ?_) (fun c8b0 H => ?_); rotate_left
   ·obtain rfl := Option.some.inj H; obtain ⟨hcz22_0, hcz22_1, hcz22_2, hfz22_0, hfz22_1, hfz22_2⟩ := tq_3 (w := wr) BK296
    go_wp2
    go_ret
    exact ⟨_, by first | rfl | (simp [errW_none, errW_some] <;> rfl) | (simp [*, errW_none, errW_some] <;> rfl), by (with_reducible repeat (first | apply Kd.S_alloc | apply Kd.S_drewN | apply Kd.S_drew)); exact HO_3.out, sq_bs HB.out⟩
   revert H; refine tq_i1 fun c9b0 H => ?_; revert H; refine tq_i1 fun c10b0 H => ?_; revert H; refine tq_i1 fun c11b0 H => ?_; revert H; refine tq_i fun c12 H => ?_; have LMc12 := Aside0.mk c12; clear c12; obtain ⟨y303, hy303⟩ : ∃ y_ : List Int, y_ = ((rd_L4 x3_1 ((rd_T44 l0_2 x4_1).f0)) ++ [(rd_T44 l0_2 x4_1).f2]) := ⟨_, rfl⟩; replace H : (petrinetref45_Graph.l0 k1 (x3_1.set (((rd_T44 l0_2 x4_1).f0) : Int).toNat y303) (wrap64 (x4_1 + 1)) a0_0 l0_1 l0_2) = some r := by first | (rw [hy303]; exact H) | exact H
   have Ny303 := Aside0.mk hy303; clear hy303; obtain ⟨y307, hy307⟩ : ∃ y_ : List (List Int), y_ = (x3_1.set (((rd_T44 l0_2 x4_1).f0) : Int).toNat y303) := ⟨_, rfl⟩; replace H : (petrinetref45_Graph.l0 k1 y307 (wrap64 (x4_1 + 1)) a0_0 l0_1 l0_2) = some r := by first | (rw [hy307]; exact H) | exact H
   have Ny307 := Aside0.mk hy307; clear hy307; have H' := Aside0.mk H; clear H; obtain ⟨hcz14_0, hcz14_1, hcz14_2, hfz14_0, hfz14_1, hfz14_2⟩ := tq_3 (w := wr) BK296; have p300 : 0 ≤ (x4_1 : Int) := sq_d; have q300 : x4_1 < (l0_2.length : Int) := sq_d; have LQ300 := Aside0.mk q300; obtain ⟨ad300, e300, hx300_0, hx300_1, hx300_2⟩ := at_T44 HR0_2.out x4_1 p300 q300; cases e300; replace hx300_0 := tq_hx HB hx300_0; replace hx300_1 := tq_hx HB hx300_1; replace hx300_2 := tq_hx HB hx300_2; replace p300 := eq_true p300; replace q300 := eq_true q300; obtain ⟨Ao15, co15, eo15⟩ := Kd.S_slice HO_3.out; subst eo15; have p301 : 0 ≤ (((rd_T44 l0_2 x4_1).f0) : Int) := sq_d; have q301 : ((rd_T44 l0_2 x4_1).f0) < (x3_1.length : Int) := sq_d; obtain ⟨ad301, A301_0, c301_0, e301, hx301_0, hl301_0, hi301_0⟩ := at_L4 (Kd.S_reads' HO_3.out).2.2 ((rd_T44 l0_2 x4_1).f0) p301 q301; cases e301; obtain ⟨ce301, hce301, hMe301, hcc301⟩ := Kd.S_get HO_3.out [] ((rd_T44 l0_2 x4_1).f0) p301 (by first | exact q301 | exact sq_d | (have e_ := (Kd.S_reads' HO_3.out).1; omega)); obtain ⟨ve301_0, rfl, ge301_0⟩ := hMe301; have hv301_0 := hcc301 0 _ rfl; rw [Nat.add_zero, show ((Kd.slice 3 (Kd.int .i64))).sz = 1 from rfl, Nat.mul_one] at hv301_0; replace hv301_0 := Option.some.inj (hv301_0.symm.trans hx301_0); rw [hv301_0] at ge301_0; have HL301_0 := Aside0.mk (show Kd.R (Kd.int .i64) 3 _ _ _ _ (rd_L4 x3_1 ((rd_T44 l0_2 x4_1).f0)) from ge301_0); clear hv301_0 ge301_0; have HX301_0 := Aside0.mk hx301_0; clear hcc301 hce301; have HR301_0 := Aside0.mk hi301_0; have HC301_0 := Aside0.mk hl301_0; clear hi301_0 hl301_0; replace p301 := eq_true p301; replace q301 := eq_true q301; have p302 : 0 ≤ (x4_1 : Int) := sq_d; have q302 : x4_1 < (l0_2.length : Int) := sq_d; have LQ302 := Aside0.mk q302; obtain ⟨ad302, e302, hx302_0, hx302_1, hx302_2⟩ := at_T44 HR0_2.out x4_1 p302 q302; obtain rfl : ad300 = ad302 := (by injection e302); replace hx302_0 := tq_hx HB hx302_0; replace hx302_1 := tq_hx HB hx302_1; replace hx302_2 := tq_hx HB hx302_2; replace p302 := eq_true p302; replace q302 := eq_true q302; obtain ⟨go16, co16, eo16, gb16, gl16, cl16, HG16⟩ := Kd.S_form HO_3.out (by have h_ : (((rd_T44 l0_2 x4_1).f0) : Int) < ((x3_1.length : Int) : Int) := sq_d; have h2_ : 0 ≤ (((rd_T44 l0_2 x4_1).f0) : Int) := sq_d; omega)
   (first | cases eo16 | (injection eo16 with ea_ en_ ec_; (first | subst ea_ | (injection ea_ with ea_; subst ea_)); subst ec_; clear en_))
   have GB16 := Aside0.mk gb16; have GG16 := Aside0.mk HG16; clear gb16 gl16 HG16
   (first | simp only [add_plain] at hx301_0 | skip)
   obtain ⟨oki16, ce16, hcl16, hM16, hcc16, _, _, hH16⟩ := Kd.S_elem HO_3.out [] (((rd_T44 l0_2 x4_1).f0) : Int) sq_d (by have h_ : (((rd_T44 l0_2 x4_1).f0) : Int) < ((x3_1.length : Int) : Int) := sq_d; first | exact h_ | (have e_ := (Kd.S_reads' HO_3.out).1; omega) | simpa using h_); obtain ⟨ve16_0, rfl, ge16_0⟩ := hM16; have hv16 := hcc16 0 _ rfl; have hX16 := HX301_0.out
   (try simp only [add_plain] at hX16)
   (try simp only [Nat.add_zero] at hv16)
   (try rw [show ((Kd.slice 3 (Kd.int .i64))).sz = 1 from rfl, Nat.mul_one] at hv16)
   replace hv16 := Option.some.inj (hv16.symm.trans hX16); subst hv16; clear hX16 hcc16 hcl16; have UU16 := Aside0.mk (show Kd.R (Kd.int .i64) 3 _ w.heap.size oki16 (.slice A301_0 (rd_L4 x3_1 ((rd_T44 l0_2 x4_1).f0)).length c301_0) (rd_L4 x3_1 ((rd_T44 l0_2 x4_1).f0)) from ge16_0); have HH16 := Aside0.mk hH16; have HN16 := Aside0.mk (Kd.S_reads' HO_3.out).1; clear hH16 ge16_0
   go_wp2_with (first | ((with_reducible refine gate_builtin (b := .append) (xs := #[.tmp 25, .tmp 32]) rfl ?_); at_builtin; refine Kd.R_append (Kd.int .i64) (w0 := w) w.heap.size rfl (.tmp 25) (.tmp 32) 34 3 (.int .i64 0) 8 rfl Try.underlying34 info3 rfl (by decide) (by omega) (.slice A301_0 (rd_L4 x3_1 ((rd_T44 l0_2 x4_1).f0)).length c301_0) (rd_L4 x3_1 ((rd_T44 l0_2 x4_1).f0)) ((rd_T44 l0_2 x4_1).f2) [.int .i64 ((rd_T44 l0_2 x4_1).f2)] (fun k_ => oki16 k_ ∨ ((fun _ => True)) k_ ∧ wr.heap.size ≤ k_) (fun _ => False) rfl rfl ?aP (fun _ hk => hk.elim) ?aF ?aO ?aB ?aS ?aL ?_; (case aP => exact rfl); (case aB => exact (sq_bs HB.out)); (case aF => exact (fun k_ hk => .inr ⟨trivial, hk⟩)); (case aO => exact (by (with_reducible repeat (first | apply Kd.R_alloc | apply Kd.R_drewN | apply Kd.R_drew)); exact Kd.R_mono UU16.out (fun _ hk => .inl hk))); (case aS => exact (below_size (sq_bs HB.out))); (case aL => have := LMc12.out; omega); intro v304 w17 ho hb hg hat; rw [← Ny303.out] at ho; replace BK296 := tq_gr BK296 hg (Kd.R_ne HL301_0.out BK296.out (by decide)); replace HB := Aside0.mk hb; replace HH16 := Aside0.mk (Kd.H_grown (Kd.H_widen (by repeat (first | exact HH16.out | refine Kd.H_alloc ?_ _ | refine Kd.H_drewN ?_ _ | refine Kd.H_drew ?_))) hg (fun k_ e_ => .inl (UU16.out.1 k_ e_))); have HO305 := Aside0.mk ho; clear HO_3 UU16 HL301_0; clear ho hb hg hat; obtain ⟨hcz18_0, hcz18_1, hcz18_2, hfz18_0, hfz18_1, hfz18_2⟩ := tq_3 (w := w17) BK296; have p306 : 0 ≤ (x4_1 : Int) := sq_d; have q306 : x4_1 < (l0_2.length : Int) := sq_d; obtain ⟨ad306, e306, hx306_0, hx306_1, hx306_2⟩ := at_T44 HR0_2.out x4_1 p306 q306; obtain rfl : ad300 = ad306 := (by injection e306); replace hx306_0 := tq_hx HB hx306_0; replace hx306_1 := tq_hx HB hx306_1; replace hx306_2 := tq_hx HB hx306_2; replace p306 := eq_true p306; replace q306 := eq_true q306; have p13 : 0 ≤ (((rd_T44 l0_2 x4_1).f0) : Int) := sq_d; have q13 : (((rd_T44 l0_2 x4_1).f0) : Int) < ((x3_1.length : Int) : Int) := sq_d; replace p13 := eq_true p13; replace q13 := eq_true q13; obtain ⟨Ao21, co21, eo21⟩ := Kd.R_slice HO305.out; subst eo21; obtain ⟨_, _, hraw19, _, _, hcc19, _⟩ := Kd.H_raw HH16.out sq_d (by have h_ : (((rd_T44 l0_2 x4_1).f0) : Int) < ((x3_1.length : Int) : Int) := sq_d; first | exact h_ | (have e_ := (HN16.out); omega) | simpa using h_); obtain ⟨_, hfr19⟩ := Kd.H_at HH16.out sq_d (by have h_ : (((rd_T44 l0_2 x4_1).f0) : Int) < ((x3_1.length : Int) : Int) := sq_d; first | exact h_ | (have e_ := (HN16.out); omega) | simpa using h_); have hx19_0 := hcc19 0 _ rfl; have hf19_0 := hfr19 0; (try simp only [Nat.add_zero] at hx19_0 hf19_0); (try rw [show ((Kd.slice 3 (Kd.int .i64))).sz = 1 from rfl, Nat.mul_one] at hx19_0); (try rw [show ((Kd.slice 3 (Kd.int .i64))).sz = 1 from rfl, Nat.mul_one] at hf19_0); have HP19 := Kd.S_seg0 HH16.out sq_d (by have h_ : (((rd_T44 l0_2 x4_1).f0) : Int) < ((x3_1.length : Int) : Int) := sq_d; first | exact h_ | (have e_ := (HN16.out); omega) | simpa using h_) (seg := [.slice Ao21 y303.length co21]) (j := 0) (show 1 ≤ 1 from by decide) (x' := y303) (Kd.M_row HO305.out) (fun _ hk => hk); (try simp only [show ((Kd.slice 3 (Kd.int .i64))).sz = 1 from rfl, Nat.mul_one, Nat.add_zero] at HP19); clear hcc19 hfr19) | ((with_reducible refine gate_store (t := 34) (p := 42) rfl ?_); refine store_event (t := 34) (p := 42) (v := ?vo_w20) (w1 := (w17.setCell ⟨go16, (((rd_T44 l0_2 x4_1).f0) : Int).toNat, none⟩ (.slice Ao21 y303.length co21))) ?hg ?ho ?hn ?hr ?_; (case ho => rfl); (case hg => rfl); (case hn => rfl); (case hr => first | (go_simp; done) | (go_simp; rfl)); intro w20 hw; have hg : w17.grownBy w20 (some go16) := (by rw [hw]; exact HP19.2); have hp_ : Kd.S (Kd.slice 3 (Kd.int .i64)) 34 w20 w.heap.size (fun _ => True) (.slice (some ⟨go16, 0, none⟩) x3_1.length co15) y307 := (by rw [hw, Ny307.out]; exact HP19.1); clear HP19; replace BK296 := tq_gr BK296 hg (Kd.R_ne hraw19 BK296.out (by decide)); replace HB := Aside0.mk (by rw [hw]; exact below_set HB.out GB16.out : Below w.heap.size w w20); have HO_3 := Aside0.mk hp_; clear HO305 HH16; clear hg hw hp_ hraw19))
   go_roundg k1
   case measure => have := HK1.out; omega
   case rel => exact ⟨(y307), (wrap64 (x4_1 + 1)), tq_z, H', ⟨by have := HK1.out; omega⟩, ⟨by (with_reducible repeat (first | apply Kd.S_alloc | apply Kd.S_drewN | apply Kd.S_drew)); exact HO_3.out⟩, ⟨sq_bk BK296.out⟩, ⟨sq_bs HB.out⟩⟩
end Go.Proofs.Ytcnliampiibpbaa.PAll
