/- Lean functions for Go functions, each with the proof that the call returns what it says; printed by wip/tools/myprint.py. -/
-- squeezed
-- tight
import Derived.Test.YtcnliampiibpbaaDoorTq
import Derived.Test.YtcnliampiibpbaaDoorPAllx0
import Derived.Test.YtcnliampiibpbaaDoorPAllx2
namespace Go.Proofs.YtcnliampiibpbaaDoor.PAll
open Go.RowKit Go.Proofs.YtcnliampiibpbaaDoorW.PrintWords Go.Proofs.YtcnliampiibpbaaDoorW.PrintLast Go.Proofs.YtcnliampiibpbaaDoorW.PrintMore
attribute [local go_sem] Instr.field asAgg max2_int min2_int max_two min_two max_three min_three max_four min_four   -- for this text's walks alone
set_option linter.unusedVariables false
set_option linter.unusedSimpArgs false

attribute [local go_sem high] eqA46
/-! ### petrinetref45_Same: function 11 -/
mutual
def petrinetref45_Same.j0 : Nat → Bool → Int → List ByteArray → List (S46) → Int → List ByteArray → List (S46) → Option (Bool)
 | 0, _, _, _, _, _, _, _ => none
 | k + 1, x29, x321000, x321001, x321002, x322000, x322001, x322002 => if x29 = true then (some false) else (petrinetref45_Same.l0 k 0 x321000 x321001 x321002 x322000 x322001 x322002)
def petrinetref45_Same.l0 : Nat → Int → Int → List ByteArray → List (S46) → Int → List ByteArray → List (S46) → Option (Bool)
 | 0, _, _, _, _, _, _, _ => none
 | k + 1, x5, x321000, x321001, x321002, x322000, x322001, x322002 => if x5 < (x321001.length : Int) then (if 0 ≤ x5 then (if x5 < (x322001.length : Int) then (if (rdOf ByteArray.empty x321001 x5).toList = (rdOf ByteArray.empty x322001 x5).toList then (petrinetref45_Same.l0 k (wrap64 (x5 + 1)) x321000 x321001 x321002 x322000 x322001 x322002) else (some false)) else (none)) else (none)) else (petrinetref45_Same.l1 k 0 x321000 x321001 x321002 x322000 x322001 x322002)
def petrinetref45_Same.l1 : Nat → Int → Int → List ByteArray → List (S46) → Int → List ByteArray → List (S46) → Option (Bool)
 | 0, _, _, _, _, _, _, _ => none
 | k + 1, x6, x321000, x321001, x321002, x322000, x322001, x322002 => if x6 < (x321002.length : Int) then (if 0 ≤ x6 then (if x6 < (x322002.length : Int) then (if (!(((rd_T46 x321002 x6).f0) == ((rd_T46 x322002 x6).f0)) || (!(((rd_T46 x321002 x6).f1) == ((rd_T46 x322002 x6).f1)) || (!(((rd_T46 x321002 x6).f2) == ((rd_T46 x322002 x6).f2))))) = true then (some false) else (petrinetref45_Same.l1 k (wrap64 (x6 + 1)) x321000 x321001 x321002 x322000 x322001 x322002)) else (none)) else (none)) else (some true)
end
def petrinetref45_Same.f (k : Nat) (a0_0 : Int) (l0_1 : List ByteArray) (l0_2 : List (S46)) (a1_0 : Int) (l1_1 : List ByteArray) (l1_2 : List (S46)) : Option (Bool) := if a0_0 = a1_0 then (if (l0_1.length : Int) = (l1_1.length : Int) then (petrinetref45_Same.j0 k ((l0_2.length : Int) != (l1_2.length : Int)) a0_0 l0_1 l0_2 a1_0 l1_1 l1_2) else (petrinetref45_Same.j0 k true a0_0 l0_1 l0_2 a1_0 l1_1 l1_2)) else (petrinetref45_Same.j0 k true a0_0 l0_1 l0_2 a1_0 l1_1 l1_2)
theorem petrinetref45_Same.mono_l : ∀ k, (∀ y0 y1 y2 y3 y4 y5 y6, LeO (petrinetref45_Same.j0 k y0 y1 y2 y3 y4 y5 y6) (petrinetref45_Same.j0 (k + 1) y0 y1 y2 y3 y4 y5 y6)) ∧ (∀ y0 y1 y2 y3 y4 y5 y6, LeO (petrinetref45_Same.l0 k y0 y1 y2 y3 y4 y5 y6) (petrinetref45_Same.l0 (k + 1) y0 y1 y2 y3 y4 y5 y6)) ∧ (∀ y0 y1 y2 y3 y4 y5 y6, LeO (petrinetref45_Same.l1 k y0 y1 y2 y3 y4 y5 y6) (petrinetref45_Same.l1 (k + 1) y0 y1 y2 y3 y4 y5 y6))
 | 0 => ⟨fun _ _ _ _ _ _ _ r h => by simp [petrinetref45_Same.j0] at h, fun _ _ _ _ _ _ _ r h => by simp [petrinetref45_Same.l0] at h, fun _ _ _ _ _ _ _ r h => by simp [petrinetref45_Same.l1] at h⟩
 | k + 1 => by
  obtain ⟨ih0, ih1, ih2⟩ := petrinetref45_Same.mono_l k
  refine ⟨?_, ?_, ?_⟩
  all_goals intros
  all_goals first | unfold petrinetref45_Same.j0 | unfold petrinetref45_Same.l0 | unfold petrinetref45_Same.l1
  all_goals repeat' (with_reducible first | exact ih0 _ _ _ _ _ _ _ | exact ih1 _ _ _ _ _ _ _ | exact ih2 _ _ _ _ _ _ _ | exact LeO.refl _ | exact LeO.none _ | refine LeO.ite ?_ ?_ | refine LeO.bind ?_ (fun _ => ?_))
theorem petrinetref45_Same.mono : ∀ a0 a1 a2 a3 a4 a5 k, LeO (petrinetref45_Same.f k a0 a1 a2 a3 a4 a5) (petrinetref45_Same.f (k + 1) a0 a1 a2 a3 a4 a5) := by
 intro a0 a1 a2 a3 a4 a5 k
 obtain ⟨ih0, ih1, ih2⟩ := petrinetref45_Same.mono_l k
 unfold petrinetref45_Same.f
 repeat' (with_reducible first | exact ih0 _ _ _ _ _ _ _ | exact ih1 _ _ _ _ _ _ _ | exact ih2 _ _ _ _ _ _ _ | exact LeO.refl _ | exact LeO.none _ | refine LeO.ite ?_ ?_ | refine LeO.bind ?_ (fun _ => ?_))
set_option maxHeartbeats 8000000 in
set_option maxRecDepth 100000 in
theorem petrinetref45_Same.calls (k : Nat) (a0_0 : Int) (A0_1 : Option Addr) (c0_1 : Nat) (l0_1 : List ByteArray) (A0_2 : Option Addr) (c0_2 : Nat) (l0_2 : List (S46)) (a1_0 : Int) (A1_1 : Option Addr) (c1_1 : Nat) (l1_1 : List ByteArray) (A1_2 : Option Addr) (c1_2 : Nat) (l1_2 : List (S46)) (r : Bool) (w : World) (hr0_1 : Kd.C Kd.string w A0_1 l0_1.length l0_1) (hc0_1 : l0_1.length ≤ c0_1) (hr0_2 : Kd.C k46 w A0_2 l0_2.length l0_2) (hc0_2 : l0_2.length ≤ c0_2) (hr1_1 : Kd.C Kd.string w A1_1 l1_1.length l1_1) (hc1_1 : l1_1.length ≤ c1_1) (hr1_2 : Kd.C k46 w A1_2 l1_2.length l1_2) (hc1_2 : l1_2.length ≤ c1_2) (h : petrinetref45_Same.f k a0_0 l0_1 l0_2 a1_0 l1_1 l1_2 = some r) :
  Calls Tryd.prog 11 #[.agg #[.int .i64 a0_0, .slice A0_1 l0_1.length c0_1, .slice A0_2 l0_2.length c0_2], .agg #[.int .i64 a1_0, .slice A1_1 l1_1.length c1_1, .slice A1_2 l1_2.length c1_2]] w fun e w' => e = .returned (.bool r) ∧ Below w.heap.size w w' := by
 have hv30 := Tryd.underlying30; have hu25 := Tryd.underlying25; have hu46 := Tryd.underlying46; have HR0_1 := Aside0.mk hr0_1; have HC0_1 := Aside0.mk hc0_1; clear hr0_1 hc0_1; have HR0_2 := Aside0.mk hr0_2; have HC0_2 := Aside0.mk hc0_2; clear hr0_2 hc0_2; have HR1_1 := Aside0.mk hr1_1; have HC1_1 := Aside0.mk hc1_1; clear hr1_1 hc1_1; have HR1_2 := Aside0.mk hr1_2; have HC1_2 := Aside0.mk hc1_2; clear hr1_2 hc1_2; have HB := Aside0.mk (Below.refl w.heap.size w); have H : (if a0_0 = a1_0 then (if (l0_1.length : Int) = (l1_1.length : Int) then (petrinetref45_Same.j0 k ((l0_2.length : Int) != (l1_2.length : Int)) a0_0 l0_1 l0_2 a1_0 l1_1 l1_2) else (petrinetref45_Same.j0 k true a0_0 l0_1 l0_2 a1_0 l1_1 l1_2)) else (petrinetref45_Same.j0 k true a0_0 l0_1 l0_2 a1_0 l1_1 l1_2)) = some r := h; clear h; have HC3 := Aside0.mk H; clear H
 go_enter Tryd.func11, Tryd.ntmps11
 go_upto_region 1 with (first | ((with_reducible refine gate_dst (N := 2) rfl ?_); (try (refine gate_guard (by rfl) ?_; dsimp only)); refine sq_box 2 #[.int .i64 a0_0, .slice A0_1 l0_1.length c0_1, .slice A0_2 l0_2.length c0_2] 25 ?_; intro gb320 hg w4 hbox hb; have BK320 := Aside0.mk hbox; have GW320 := tq_w HB hg; have GE320 := tq_w HB hg; replace HB := tq_s HB hb; clear hb hbox hg) | ((with_reducible refine gate_dst (N := 3) rfl ?_); (try (refine gate_guard (by rfl) ?_; dsimp only)); refine sq_box 3 #[.int .i64 a1_0, .slice A1_1 l1_1.length c1_1, .slice A1_2 l1_2.length c1_2] 25 ?_; intro gb321 hg w5 hbox hb; have BK321 := Aside0.mk hbox; have GW321 := tq_w HB hg; have GE321 := tq_w HB hg; replace HB := tq_s HB hb; have NB320_321 := tq_nl BK320 hg; have NB321_320 := tq_ng BK320 hg; replace BK320 := tq_k BK320 hb; clear hb hbox hg))
 repeat (go_quiet (first | ((with_reducible refine gate_dst (N := 2) rfl ?_); (try (refine gate_guard (by rfl) ?_; dsimp only)); refine sq_box 2 #[.int .i64 a0_0, .slice A0_1 l0_1.length c0_1, .slice A0_2 l0_2.length c0_2] 25 ?_; intro gb320 hg w4 hbox hb; have BK320 := Aside0.mk hbox; have GW320 := tq_w HB hg; have GE320 := tq_w HB hg; replace HB := tq_s HB hb; clear hb hbox hg) | ((with_reducible refine gate_dst (N := 3) rfl ?_); (try (refine gate_guard (by rfl) ?_; dsimp only)); refine sq_box 3 #[.int .i64 a1_0, .slice A1_1 l1_1.length c1_1, .slice A1_2 l1_2.length c1_2] 25 ?_; intro gb321 hg w5 hbox hb; have BK321 := Aside0.mk hbox; have GW321 := tq_w HB hg; have GE321 := tq_w HB hg; replace HB := tq_s HB hb; have NB320_321 := tq_nl BK320 hg; have NB321_320 := tq_ng BK320 hg; replace BK320 := tq_k BK320 hb; clear hb hbox hg)); go_upto_region 1 with (first | ((with_reducible refine gate_dst (N := 2) rfl ?_); (try (refine gate_guard (by rfl) ?_; dsimp only)); refine sq_box 2 #[.int .i64 a0_0, .slice A0_1 l0_1.length c0_1, .slice A0_2 l0_2.length c0_2] 25 ?_; intro gb320 hg w4 hbox hb; have BK320 := Aside0.mk hbox; have GW320 := tq_w HB hg; have GE320 := tq_w HB hg; replace HB := tq_s HB hb; clear hb hbox hg) | ((with_reducible refine gate_dst (N := 3) rfl ?_); (try (refine gate_guard (by rfl) ?_; dsimp only)); refine sq_box 3 #[.int .i64 a1_0, .slice A1_1 l1_1.length c1_1, .slice A1_2 l1_2.length c1_2] 25 ?_; intro gb321 hg w5 hbox hb; have BK321 := Aside0.mk hbox; have GW321 := tq_w HB hg; have GE321 := tq_w HB hg; replace HB := tq_s HB hb; have NB320_321 := tq_nl BK320 hg; have NB321_320 := tq_ng BK320 hg; replace BK320 := tq_k BK320 hb; clear hb hbox hg)))
 (try simp only [Act.put, List.setIfInBounds_toArray, List.set_cons_zero, List.set_cons_succ])
 go_cut [29] (fun v29 wc => ∃ (kq : Nat) (x29_2 : Bool), v29 = .bool x29_2 ∧ Aside0 (petrinetref45_Same.j0 kq x29_2 a0_0 l0_1 l0_2 a1_0 l1_1 l1_2 = some r) ∧ Aside0 (kq ≤ k) ∧ Aside0 (wc.heap[gb320]? = some (.cells #[.int .i64 a0_0, (.slice A0_1 l0_1.length c0_1), (.slice A0_2 l0_2.length c0_2)] 25 (0, 0))) ∧ Aside0 (wc.heap[gb321]? = some (.cells #[.int .i64 a1_0, (.slice A1_1 l1_1.length c1_1), (.slice A1_2 l1_2.length c1_2)] 25 (0, 0))) ∧ Aside0 (Below w.heap.size w wc))
 case first =>
  have H := HC3.out; clear HC3; have HH_ := Aside0.mk H; clear H; have hnb8 := NB320_321.out; have hnc8 := NB321_320.out; obtain ⟨hcz9_0, hcz9_1, hcz9_2, hfz9_0, hfz9_1, hfz9_2⟩ := tq_3 (w := w5) BK320; obtain ⟨hcz10_0, hcz10_1, hcz10_2, hfz10_0, hfz10_1, hfz10_2⟩ := tq_3 (w := w5) BK321; have H := HH_.out; clear HH_; revert H; refine tq_rr (fun c6 H => ?_) (fun c6 H => ?_); rotate_left
  ·obtain ⟨c6b0, c6b1⟩ := tq_n c6
   (first | rw [c6b0] | (simp only [i64_w, i32_w]; rw [c6b0]) | skip)
   have H' := Aside0.mk H; clear H
   go_wp2
   repeat (go_quiet (fail); try go_wp2)
   go_meet
   case rel => exact ⟨_, (true), tq_z, H', ⟨by first | omega | exact Nat.le_refl _⟩, ⟨sq_bk BK320.out⟩, ⟨sq_bk BK321.out⟩, ⟨sq_bs HB.out⟩⟩
  obtain ⟨c6b0, c6b1⟩ := tq_e c6; clear c6
  (first | rw [c6b0] | (simp only [i64_w, i32_w]; rw [c6b0]) | skip)
  revert H; refine tq_rr (fun c7 H => ?_) (fun c7 H => ?_); rotate_left
  ·obtain ⟨c7b0, c7b1⟩ := tq_n c7; have c7b2 : (l0_1.length == l1_1.length) = false := by first | simpa using c7 | (simp at c7 ⊢; omega)
   have H' := Aside0.mk H; clear H
   go_wp2
   repeat (go_quiet (fail); try go_wp2)
   go_meet
   case rel => exact ⟨_, (true), tq_z, H', ⟨by first | omega | exact Nat.le_refl _⟩, ⟨sq_bk BK320.out⟩, ⟨sq_bk BK321.out⟩, ⟨sq_bs HB.out⟩⟩
  obtain ⟨c7b0, c7b1⟩ := tq_e c7; have c7b2 : (l0_1.length == l1_1.length) = true := by first | simpa using c7 | (simp at c7 ⊢; omega)
  clear c7; have H' := Aside0.mk H; clear H
  go_wp2
  repeat (go_quiet (fail); try go_wp2)
  go_meet
  case rel => exact ⟨_, (((l0_2.length : Int) != (l1_2.length : Int))), tq_z, H', ⟨by first | omega | exact Nat.le_refl _⟩, ⟨sq_bk BK320.out⟩, ⟨sq_bk BK321.out⟩, ⟨sq_bs HB.out⟩⟩
 case rest =>
  clear HC3; obtain ⟨kq, x29_2, rfl, HA, HJ2, BK320, BK321, HB⟩ := hcut
  cases kq with
  | zero => exact absurd HA.out (by simp [petrinetref45_Same.j0])
  | succ kj2 =>
   have H := HA.out; clear HA
   simp only [petrinetref45_Same.j0] at H
   cases x29_2; rotate_left
   ·replace H := tq_t H; obtain rfl := Option.some.inj H
    go_wp2
    repeat (go_quiet (fail); try go_wp2)
    go_ret
    exact tq_v (sq_bs HB.out)
   replace H := tq_f H; have H' := Aside0.mk H; clear H
   go_wp2
   repeat (go_quiet (fail); try go_wp2)
   go_loopg [5] kj2 (fun kq v5 w' => ∃ (x5_2 : Int), v5 = .int .i64 x5_2 ∧ Aside0 (petrinetref45_Same.l0 kq x5_2 a0_0 l0_1 l0_2 a1_0 l1_1 l1_2 = some r) ∧ Aside0 (kq ≤ kj2) ∧ Aside0 (w'.heap[gb320]? = some (.cells #[.int .i64 a0_0, (.slice A0_1 l0_1.length c0_1), (.slice A0_2 l0_2.length c0_2)] 25 (0, 0))) ∧ Aside0 (w'.heap[gb321]? = some (.cells #[.int .i64 a1_0, (.slice A1_1 l1_1.length c1_1), (.slice A1_2 l1_2.length c1_2)] 25 (0, 0))) ∧ Aside0 (Below w.heap.size w w'))
   case atStart => exact ⟨(0), tq_z, H', ⟨Nat.le_refl _⟩, ⟨sq_bk BK320.out⟩, ⟨sq_bk BK321.out⟩, ⟨sq_bs HB.out⟩⟩
   case round =>
    clear H'
    try clear c17
    obtain ⟨x5_2, rfl, HA, HK2, BK320, BK321, HB⟩ := hrel
    cases gk with
    | zero => exact absurd HA.out (by simp [petrinetref45_Same.l0])
    | succ k2 =>
     have H := HA.out; clear HA
     simp only [petrinetref45_Same.l0] at H
     revert H; refine tq_dd (fun c18b0 H => ?_) (fun c18b0 H => ?_)
     ·revert H; refine tq_i1 fun c19b0 H => ?_; revert H; refine tq_i1 fun c20b0 H => ?_; have HH_ := Aside0.mk H; clear H; have hnb22 := NB320_321.out; have hnc22 := NB321_320.out; obtain ⟨hcz23_0, hcz23_1, hcz23_2, hfz23_0, hfz23_1, hfz23_2⟩ := tq_3 (w := wr) BK320; have p322 : 0 ≤ (x5_2 : Int) := sq_d; have q322 : x5_2 < (l0_1.length : Int) := sq_d; have LQ322 := Aside0.mk q322; obtain ⟨ad322, e322, hx322_0⟩ := Kd.at_string HR0_1.out x5_2 p322 q322; cases e322; replace hx322_0 := tq_hx HB hx322_0; replace p322 := eq_true p322; replace q322 := eq_true q322; obtain ⟨hcz24_0, hcz24_1, hcz24_2, hfz24_0, hfz24_1, hfz24_2⟩ := tq_3 (w := wr) BK321; have p323 : 0 ≤ (x5_2 : Int) := sq_d; have q323 : x5_2 < (l1_1.length : Int) := sq_d; have LQ323 := Aside0.mk q323; obtain ⟨ad323, e323, hx323_0⟩ := Kd.at_string HR1_1.out x5_2 p323 q323; cases e323; replace hx323_0 := tq_hx HB hx323_0; replace p323 := eq_true p323; replace q323 := eq_true q323; have H := HH_.out; clear HH_; revert H; refine tq_rr (fun c21 H => ?_) (fun c21 H => ?_); rotate_left
      ·obtain ⟨c21b0, c21b1⟩ := tq_n c21; obtain rfl := Option.some.inj H
       go_wp2
       repeat (go_quiet (fail); try go_wp2)
       go_ret
       exact tq_v (sq_bs HB.out)
      obtain ⟨c21b0, c21b1⟩ := tq_e c21; clear c21; have H' := Aside0.mk H; clear H
      go_wp2
      repeat (go_quiet (fail); try go_wp2)
      go_roundg k2
      case measure => have := HJ2.out; have := HK2.out; omega
      case rel => exact ⟨(wrap64 (x5_2 + 1)), tq_z, H', ⟨by have := HJ2.out; have := HK2.out; omega⟩, ⟨sq_bk BK320.out⟩, ⟨sq_bk BK321.out⟩, ⟨sq_bs HB.out⟩⟩
     have H' := Aside0.mk H; clear H; have hnb28 := NB320_321.out; have hnc28 := NB321_320.out; obtain ⟨hcz29_0, hcz29_1, hcz29_2, hfz29_0, hfz29_1, hfz29_2⟩ := tq_3 (w := wr) BK320
     go_wp2
     repeat (go_quiet (fail); try go_wp2)
     go_loopg [6] k2 (fun kq v6 w' => ∃ (x6_3 : Int), v6 = .int .i64 x6_3 ∧ Aside0 (petrinetref45_Same.l1 kq x6_3 a0_0 l0_1 l0_2 a1_0 l1_1 l1_2 = some r) ∧ Aside0 (kq ≤ k2) ∧ Aside0 (w'.heap[gb320]? = some (.cells #[.int .i64 a0_0, (.slice A0_1 l0_1.length c0_1), (.slice A0_2 l0_2.length c0_2)] 25 (0, 0))) ∧ Aside0 (w'.heap[gb321]? = some (.cells #[.int .i64 a1_0, (.slice A1_1 l1_1.length c1_1), (.slice A1_2 l1_2.length c1_2)] 25 (0, 0))) ∧ Aside0 (Below w.heap.size w w'))
     case atStart => exact ⟨(0), tq_z, H', ⟨Nat.le_refl _⟩, ⟨sq_bk BK320.out⟩, ⟨sq_bk BK321.out⟩, ⟨sq_bs HB.out⟩⟩
     case round =>
      clear H'
      try clear c18b0
      try clear hcz29_0
      try clear hcz29_1
      try clear hcz29_2
      try clear hfz29_0
      try clear hfz29_1
      try clear hfz29_2
      obtain ⟨x6_3, rfl, HA, HK3, BK320, BK321, HB⟩ := hrel
      cases gk with
      | zero => exact absurd HA.out (by simp [petrinetref45_Same.l1])
      | succ k3 =>
       have H := HA.out; clear HA
       simp only [petrinetref45_Same.l1] at H
       revert H; refine tq_dd (fun c30b0 H => ?_) (fun c30b0 H => ?_); rotate_left
       ·obtain rfl := Option.some.inj H; have hnb40 := NB320_321.out; have hnc40 := NB321_320.out; obtain ⟨hcz41_0, hcz41_1, hcz41_2, hfz41_0, hfz41_1, hfz41_2⟩ := tq_3 (w := wr) BK320
        go_wp2
        repeat (go_quiet (fail); try go_wp2)
        go_ret
        exact tq_v (sq_bs HB.out)
       revert H; refine tq_i1 fun c31b0 H => ?_; revert H; refine tq_i1 fun c32b0 H => ?_; have HH_ := Aside0.mk H; clear H; have hnb34 := NB320_321.out; have hnc34 := NB321_320.out; obtain ⟨hcz35_0, hcz35_1, hcz35_2, hfz35_0, hfz35_1, hfz35_2⟩ := tq_3 (w := wr) BK320; have p324 : 0 ≤ (x6_3 : Int) := sq_d; have q324 : x6_3 < (l0_2.length : Int) := sq_d; have LQ324 := Aside0.mk q324; obtain ⟨ad324, e324, hx324_0, hx324_1, hx324_2⟩ := at_T46 HR0_2.out x6_3 p324 q324; cases e324; replace hx324_0 := tq_hx HB hx324_0; replace hx324_1 := tq_hx HB hx324_1; replace hx324_2 := tq_hx HB hx324_2; replace p324 := eq_true p324; replace q324 := eq_true q324; obtain ⟨hcz36_0, hcz36_1, hcz36_2, hfz36_0, hfz36_1, hfz36_2⟩ := tq_3 (w := wr) BK321; have p325 : 0 ≤ (x6_3 : Int) := sq_d; have q325 : x6_3 < (l1_2.length : Int) := sq_d; have LQ325 := Aside0.mk q325; obtain ⟨ad325, e325, hx325_0, hx325_1, hx325_2⟩ := at_T46 HR1_2.out x6_3 p325 q325; cases e325; replace hx325_0 := tq_hx HB hx325_0; replace hx325_1 := tq_hx HB hx325_1; replace hx325_2 := tq_hx HB hx325_2; replace p325 := eq_true p325; replace q325 := eq_true q325; have H := HH_.out; clear HH_; revert H; refine tq_rr (fun c33 H => ?_) (fun c33 H => ?_)
       ·have c33b0 : (!(((rd_T46 l0_2 x6_3).f0) == ((rd_T46 l1_2 x6_3).f0)) || (!(((rd_T46 l0_2 x6_3).f1) == ((rd_T46 l1_2 x6_3).f1)) || (!(((rd_T46 l0_2 x6_3).f2) == ((rd_T46 l1_2 x6_3).f2))))) = true := c33; clear c33; obtain rfl := Option.some.inj H
        go_wp2
        repeat (go_quiet (fail); try go_wp2)
        go_ret
        exact tq_v (sq_bs HB.out)
       have c33b0 : (!(((rd_T46 l0_2 x6_3).f0) == ((rd_T46 l1_2 x6_3).f0)) || (!(((rd_T46 l0_2 x6_3).f1) == ((rd_T46 l1_2 x6_3).f1)) || (!(((rd_T46 l0_2 x6_3).f2) == ((rd_T46 l1_2 x6_3).f2))))) = false := by simpa using c33
       clear c33; have H' := Aside0.mk H; clear H
       go_wp2
       repeat (go_quiet (fail); try go_wp2)
       go_roundg k3
       case measure => have := HJ2.out; have := HK2.out; have := HK3.out; omega
       case rel => exact ⟨(wrap64 (x6_3 + 1)), tq_z, H', ⟨by have := HJ2.out; have := HK2.out; have := HK3.out; omega⟩, ⟨sq_bk BK320.out⟩, ⟨sq_bk BK321.out⟩, ⟨sq_bs HB.out⟩⟩
end Go.Proofs.YtcnliampiibpbaaDoor.PAll
