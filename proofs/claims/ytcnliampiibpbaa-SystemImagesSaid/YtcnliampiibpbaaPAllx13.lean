/- Lean functions for Go functions, each with the proof that the call returns what it says; printed by wip/tools/myprint.py. -/
-- squeezed
-- tight
import Derived.Test.YtcnliampiibpbaaTq
import Derived.Test.YtcnliampiibpbaaPAllx0
import Derived.Test.YtcnliampiibpbaaPAllx12
namespace Go.Proofs.Ytcnliampiibpbaa.PAll
open Go.RowKit Go.Proofs.YtcnliampiibpbaaW.PrintWords Go.Proofs.YtcnliampiibpbaaW.PrintLast Go.Proofs.YtcnliampiibpbaaW.PrintMore
attribute [local go_sem] Instr.field asAgg max2_int min2_int max_two min_two max_three min_three max_four min_four   -- for this text's walks alone
set_option linter.unusedVariables false
set_option linter.unusedSimpArgs false

/-! ### petrinetref45_Valid: function 32 -/
def petrinetref45_Valid.f (k : Nat) (a0_0 : Int) (l0_1 : List ByteArray) (l0_2 : List (S44)) : Option (Bool) := (petrinetref45_Check.f k a0_0 l0_1 l0_2).bind fun bt239 => (some (bt239.1 == 0))
theorem petrinetref45_Valid.mono : ∀ a0 a1 a2 k, LeO (petrinetref45_Valid.f k a0 a1 a2) (petrinetref45_Valid.f (k + 1) a0 a1 a2) := by
 intro a0 a1 a2 k
 unfold petrinetref45_Valid.f
 repeat' (with_reducible first | exact petrinetref45_Check.mono _ _ _ _ | exact LeO.refl _ | exact LeO.none _ | refine LeO.ite ?_ ?_ | refine LeO.bind ?_ (fun _ => ?_))
set_option maxHeartbeats 8000000 in
set_option maxRecDepth 100000 in
theorem petrinetref45_Valid.calls (k : Nat) (a0_0 : Int) (A0_1 : Option Addr) (c0_1 : Nat) (l0_1 : List ByteArray) (A0_2 : Option Addr) (c0_2 : Nat) (l0_2 : List (S44)) (r : Bool) (w : World) (hr0_1 : Kd.C Kd.string w A0_1 l0_1.length l0_1) (hc0_1 : l0_1.length ≤ c0_1) (hr0_2 : Kd.C k44 w A0_2 l0_2.length l0_2) (hc0_2 : l0_2.length ≤ c0_2) (h : petrinetref45_Valid.f k a0_0 l0_1 l0_2 = some r) :
  Calls Try.prog 32 #[.agg #[.int .i64 a0_0, .slice A0_1 l0_1.length c0_1, .slice A0_2 l0_2.length c0_2]] w fun e w' => e = .returned (.bool r) ∧ Below w.heap.size w w' := by
 have hv30 := Try.underlying30; have hu25 := Try.underlying25; have HR0_1 := Aside0.mk hr0_1; have HC0_1 := Aside0.mk hc0_1; clear hr0_1 hc0_1; have HR0_2 := Aside0.mk hr0_2; have HC0_2 := Aside0.mk hc0_2; clear hr0_2 hc0_2; have HB := Aside0.mk (Below.refl w.heap.size w); have H : ((petrinetref45_Check.f k a0_0 l0_1 l0_2).bind fun bt239 => (some (bt239.1 == 0))) = some r := h; clear h; replace H := Option.bind_eq_some_iff.mp H; obtain ⟨⟨t239, t240⟩, A20, H⟩ := H; replace H : (some (t239 == 0)) = some r := H; have A2 := Aside0.mk A20; clear A20; obtain rfl := Option.some.inj H
 go_enter Try.func32, Try.ntmps32
 go_wp2_with (first | ((with_reducible refine gate_dst (N := 1) rfl ?_); refine sq_box 1 #[.int .i64 a0_0, .slice A0_1 l0_1.length c0_1, .slice A0_2 l0_2.length c0_2] 25 ?_; intro gb238 hg w3 hbox hb; have BK238 := Aside0.mk hbox; have GW238 := tq_w HB hg; have GE238 := tq_w HB hg; replace HB := tq_s HB hb; clear hb hbox hg; obtain ⟨hcz4_0, hcz4_1, hcz4_2, hfz4_0, hfz4_1, hfz4_2⟩ := tq_3 (w := w3) BK238) | ((with_reducible refine gate_callee (f := 11) rfl ?_); refine sq_goes (some 4) Try.func11 #[.agg #[.int .i64 a0_0, .slice A0_1 l0_1.length c0_1, .slice A0_2 l0_2.length c0_2]] ?_; (with_reducible refine (petrinetref45_Check.calls k a0_0 _ _ l0_1 _ _ l0_2 t239 t240 _ ?s1 ?s2 ?s3 ?s4 A2.out).mono ?_); (case s1 => exact tq_c HR0_1 HB); (case s2 => exact HC0_1.out); (case s3 => exact tq_c HR0_2 HB); (case s4 => exact HC0_2.out); rintro e w5 ⟨rfl, hb⟩; refine ⟨_, rfl, ?_⟩; replace BK238 := tq_k BK238 hb; replace HB := tq_s HB hb; (try clear hb)))
 go_ret
 exact tq_v (sq_bs HB.out)
/-! ### petrinetref45_Deterministic: function 13 -/
def petrinetref45_Deterministic.l0 : Nat → Int → Int → List ByteArray → List (S44) → Option (Bool)
 | 0, _, _, _, _ => none
 | k + 1, x3, x242000, x242001, x242002 => if x3 < (x242002.length : Int) then (if 0 ≤ x3 then (if 0 ≤ (wrap64 (x3 - 1)) then (if (wrap64 (x3 - 1)) < (x242002.length : Int) then (if ((rd_T44 x242002 x3).f0) = ((rd_T44 x242002 (wrap64 (x3 - 1))).f0) then (if ((rd_T44 x242002 x3).f1) = ((rd_T44 x242002 (wrap64 (x3 - 1))).f1) then (some false) else (petrinetref45_Deterministic.l0 k (wrap64 (x3 + 1)) x242000 x242001 x242002)) else (petrinetref45_Deterministic.l0 k (wrap64 (x3 + 1)) x242000 x242001 x242002)) else (none)) else (none)) else (none)) else ((petrinetref45_Valid.f k x242000 x242001 x242002).bind fun t246 => (some t246))
def petrinetref45_Deterministic.f (k : Nat) (a0_0 : Int) (l0_1 : List ByteArray) (l0_2 : List (S44)) : Option (Bool) := petrinetref45_Deterministic.l0 k 1 a0_0 l0_1 l0_2
theorem petrinetref45_Deterministic.mono_l : ∀ k, (∀ y0 y1 y2 y3, LeO (petrinetref45_Deterministic.l0 k y0 y1 y2 y3) (petrinetref45_Deterministic.l0 (k + 1) y0 y1 y2 y3))
 | 0 => fun _ _ _ _ r h => by simp [petrinetref45_Deterministic.l0] at h
 | k + 1 => by
  have ih0 := petrinetref45_Deterministic.mono_l k
  ·intro y0 y1 y2 y3
   unfold petrinetref45_Deterministic.l0
   repeat' (with_reducible first | exact ih0 _ _ _ _ | exact petrinetref45_Valid.mono _ _ _ _ | exact LeO.refl _ | exact LeO.none _ | refine LeO.ite ?_ ?_ | refine LeO.bind ?_ (fun _ => ?_))
theorem petrinetref45_Deterministic.mono : ∀ a0 a1 a2 k, LeO (petrinetref45_Deterministic.f k a0 a1 a2) (petrinetref45_Deterministic.f (k + 1) a0 a1 a2) := by
 intro a0 a1 a2 k
 have ih0 := petrinetref45_Deterministic.mono_l k
 unfold petrinetref45_Deterministic.f
 repeat' (with_reducible first | exact ih0 _ _ _ _ | exact petrinetref45_Valid.mono _ _ _ _ | exact LeO.refl _ | exact LeO.none _ | refine LeO.ite ?_ ?_ | refine LeO.bind ?_ (fun _ => ?_))
set_option maxHeartbeats 8000000 in
set_option maxRecDepth 100000 in
theorem petrinetref45_Deterministic.calls (k : Nat) (a0_0 : Int) (A0_1 : Option Addr) (c0_1 : Nat) (l0_1 : List ByteArray) (A0_2 : Option Addr) (c0_2 : Nat) (l0_2 : List (S44)) (r : Bool) (w : World) (hr0_1 : Kd.C Kd.string w A0_1 l0_1.length l0_1) (hc0_1 : l0_1.length ≤ c0_1) (hr0_2 : Kd.C k44 w A0_2 l0_2.length l0_2) (hc0_2 : l0_2.length ≤ c0_2) (h : petrinetref45_Deterministic.f k a0_0 l0_1 l0_2 = some r) :
  Calls Try.prog 13 #[.agg #[.int .i64 a0_0, .slice A0_1 l0_1.length c0_1, .slice A0_2 l0_2.length c0_2]] w fun e w' => e = .returned (.bool r) ∧ Below w.heap.size w w' := by
 have hv30 := Try.underlying30; have hu25 := Try.underlying25; have HR0_1 := Aside0.mk hr0_1; have HC0_1 := Aside0.mk hc0_1; clear hr0_1 hc0_1; have HR0_2 := Aside0.mk hr0_2; have HC0_2 := Aside0.mk hc0_2; clear hr0_2 hc0_2; have HB := Aside0.mk (Below.refl w.heap.size w); have H : (petrinetref45_Deterministic.l0 k 1 a0_0 l0_1 l0_2) = some r := h; clear h; have H' := Aside0.mk H; clear H
 go_enter Try.func13, Try.ntmps13
 go_wp2_with (first | ((with_reducible refine gate_dst (N := 1) rfl ?_); refine sq_box 1 #[.int .i64 a0_0, .slice A0_1 l0_1.length c0_1, .slice A0_2 l0_2.length c0_2] 25 ?_; intro gb241 hg w2 hbox hb; have BK241 := Aside0.mk hbox; have GW241 := tq_w HB hg; have GE241 := tq_w HB hg; replace HB := tq_s HB hb; clear hb hbox hg))
 repeat (go_quiet (first | ((with_reducible refine gate_dst (N := 1) rfl ?_); refine sq_box 1 #[.int .i64 a0_0, .slice A0_1 l0_1.length c0_1, .slice A0_2 l0_2.length c0_2] 25 ?_; intro gb241 hg w2 hbox hb; have BK241 := Aside0.mk hbox; have GW241 := tq_w HB hg; have GE241 := tq_w HB hg; replace HB := tq_s HB hb; clear hb hbox hg)); try go_wp2_with (first | ((with_reducible refine gate_dst (N := 1) rfl ?_); refine sq_box 1 #[.int .i64 a0_0, .slice A0_1 l0_1.length c0_1, .slice A0_2 l0_2.length c0_2] 25 ?_; intro gb241 hg w2 hbox hb; have BK241 := Aside0.mk hbox; have GW241 := tq_w HB hg; have GE241 := tq_w HB hg; replace HB := tq_s HB hb; clear hb hbox hg)))
 go_loopg [3] k (fun kq v3 w' => ∃ (x3_1 : Int), v3 = .int .i64 x3_1 ∧ Aside0 (petrinetref45_Deterministic.l0 kq x3_1 a0_0 l0_1 l0_2 = some r) ∧ Aside0 (kq ≤ k) ∧ Aside0 (w'.heap[gb241]? = some (.cells #[.int .i64 a0_0, (.slice A0_1 l0_1.length c0_1), (.slice A0_2 l0_2.length c0_2)] 25 (0, 0))) ∧ Aside0 (Below w.heap.size w w'))
 case atStart => exact ⟨(1), tq_z, H', ⟨Nat.le_refl _⟩, ⟨sq_bk BK241.out⟩, ⟨sq_bs HB.out⟩⟩
 case round =>
  clear H'; obtain ⟨x3_1, rfl, HA, HK1, BK241, HB⟩ := hrel
  cases gk with
  | zero => exact absurd HA.out (by simp [petrinetref45_Deterministic.l0])
  | succ k1 =>
   have H := HA.out; clear HA
   simp only [petrinetref45_Deterministic.l0] at H
   revert H; refine tq_dd (fun c3b0 H => ?_) (fun c3b0 H => ?_); rotate_left
   ·revert H; refine tq_o fun t246 A13 H => ?_; obtain rfl := Option.some.inj H; obtain ⟨hcz14_0, hcz14_1, hcz14_2, hfz14_0, hfz14_1, hfz14_2⟩ := tq_3 (w := wr) BK241
    go_wp2_with (first | (go_at_call 32; (with_reducible refine (petrinetref45_Valid.calls k1 a0_0 _ _ l0_1 _ _ l0_2 t246 _ ?s1 ?s2 ?s3 ?s4 A13.out).mono ?_); (case s1 => exact tq_c HR0_1 HB); (case s2 => exact HC0_1.out); (case s3 => exact tq_c HR0_2 HB); (case s4 => exact HC0_2.out); rintro e w15 ⟨rfl, hb⟩; replace BK241 := tq_k BK241 hb; replace HB := tq_s HB hb; (try clear hb); (try clear hb2); (try clear hk); (try clear hi)))
    repeat (go_quiet (first | (go_at_call 32; (with_reducible refine (petrinetref45_Valid.calls k1 a0_0 _ _ l0_1 _ _ l0_2 t246 _ ?s1 ?s2 ?s3 ?s4 A13.out).mono ?_); (case s1 => exact tq_c HR0_1 HB); (case s2 => exact HC0_1.out); (case s3 => exact tq_c HR0_2 HB); (case s4 => exact HC0_2.out); rintro e w15 ⟨rfl, hb⟩; replace BK241 := tq_k BK241 hb; replace HB := tq_s HB hb; (try clear hb); (try clear hb2); (try clear hk); (try clear hi))); try go_wp2_with (first | (go_at_call 32; (with_reducible refine (petrinetref45_Valid.calls k1 a0_0 _ _ l0_1 _ _ l0_2 t246 _ ?s1 ?s2 ?s3 ?s4 A13.out).mono ?_); (case s1 => exact tq_c HR0_1 HB); (case s2 => exact HC0_1.out); (case s3 => exact tq_c HR0_2 HB); (case s4 => exact HC0_2.out); rintro e w15 ⟨rfl, hb⟩; replace BK241 := tq_k BK241 hb; replace HB := tq_s HB hb; (try clear hb); (try clear hb2); (try clear hk); (try clear hi))))
    go_ret
    exact tq_v (sq_bs HB.out)
   revert H; refine tq_i1 fun c4b0 H => ?_; obtain ⟨ji5, hji5⟩ : ∃ j_ : Int, (wrap64 (x3_1 - 1)) = j_ := ⟨_, rfl⟩; replace H : (if 0 ≤ (ji5) then (if (ji5) < (l0_2.length : Int) then (if ((rd_T44 l0_2 x3_1).f0) = ((rd_T44 l0_2 (ji5)).f0) then (if ((rd_T44 l0_2 x3_1).f1) = ((rd_T44 l0_2 (ji5)).f1) then (some false) else (petrinetref45_Deterministic.l0 k1 (wrap64 (x3_1 + 1)) a0_0 l0_1 l0_2)) else (petrinetref45_Deterministic.l0 k1 (wrap64 (x3_1 + 1)) a0_0 l0_1 l0_2)) else (none)) else (none)) = some r := by first | (rw [hji5] at H; exact H) | (simp only [hji5] at H ⊢; exact H)
   have hji5w : (IntKind.i64.wrap (x3_1 - 1)) = ji5 := (i64_w _).trans hji5; revert H; refine tq_i1 fun c6b0 H => ?_; revert H; refine tq_i1 fun c7b0 H => ?_; have HH_ := Aside0.mk H; clear H; obtain ⟨hcz10_0, hcz10_1, hcz10_2, hfz10_0, hfz10_1, hfz10_2⟩ := tq_3 (w := wr) BK241; have p242 : 0 ≤ (x3_1 : Int) := sq_d; have q242 : x3_1 < (l0_2.length : Int) := sq_d; have LQ242 := Aside0.mk q242; obtain ⟨ad242, e242, hx242_0, hx242_1, hx242_2⟩ := at_T44 HR0_2.out x3_1 p242 q242; cases e242; replace hx242_0 := tq_hx HB hx242_0; replace hx242_1 := tq_hx HB hx242_1; replace hx242_2 := tq_hx HB hx242_2; replace p242 := eq_true p242; replace q242 := eq_true q242; have p243 : 0 ≤ ((ji5) : Int) := sq_d; have q243 : (ji5) < (l0_2.length : Int) := sq_d; obtain ⟨ad243, e243, hx243_0, hx243_1, hx243_2⟩ := at_T44 HR0_2.out (ji5) p243 q243; obtain rfl : ad242 = ad243 := (by injection e243); replace hx243_0 := tq_hx HB hx243_0; replace hx243_1 := tq_hx HB hx243_1; replace hx243_2 := tq_hx HB hx243_2; replace p243 := eq_true p243; replace q243 := eq_true q243; have H := HH_.out; clear HH_; revert H; refine tq_rr (fun c8 H => ?_) (fun c8 H => ?_); rotate_left
   ·obtain ⟨c8b0, c8b1⟩ := tq_n c8; have H' := Aside0.mk H; clear H
    go_wp2
    repeat (go_quiet (fail); try go_wp2)
    go_roundg k1
    case measure => have := HK1.out; omega
    case rel => exact ⟨(wrap64 (x3_1 + 1)), tq_z, H', ⟨by have := HK1.out; omega⟩, ⟨sq_bk BK241.out⟩, ⟨sq_bs HB.out⟩⟩
   obtain ⟨c8b0, c8b1⟩ := tq_e c8; clear c8; have HH_ := Aside0.mk H; clear H; have p244 : 0 ≤ (x3_1 : Int) := sq_d; have q244 : x3_1 < (l0_2.length : Int) := sq_d; have LQ244 := Aside0.mk q244; obtain ⟨ad244, e244, hx244_0, hx244_1, hx244_2⟩ := at_T44 HR0_2.out x3_1 p244 q244; obtain rfl : ad242 = ad244 := (by injection e244); replace hx244_0 := tq_hx HB hx244_0; replace hx244_1 := tq_hx HB hx244_1; replace hx244_2 := tq_hx HB hx244_2; replace p244 := eq_true p244; replace q244 := eq_true q244; have p245 : 0 ≤ ((ji5) : Int) := sq_d; have q245 : (ji5) < (l0_2.length : Int) := sq_d; obtain ⟨ad245, e245, hx245_0, hx245_1, hx245_2⟩ := at_T44 HR0_2.out (ji5) p245 q245; obtain rfl : ad242 = ad245 := (by injection e245); replace hx245_0 := tq_hx HB hx245_0; replace hx245_1 := tq_hx HB hx245_1; replace hx245_2 := tq_hx HB hx245_2; replace p245 := eq_true p245; replace q245 := eq_true q245; have H := HH_.out; clear HH_; revert H; refine tq_rr (fun c9 H => ?_) (fun c9 H => ?_)
   ·obtain ⟨c9b0, c9b1⟩ := tq_e c9; clear c9; obtain rfl := Option.some.inj H
    go_wp2
    repeat (go_quiet (fail); try go_wp2)
    go_ret
    exact ⟨by first | rfl | (simp [errW_none, errW_some] <;> rfl) | (simp only [← hji5]; first | rfl | (simp [errW_none, errW_some] <;> rfl)) | (simp [*, errW_none, errW_some] <;> rfl), sq_bs HB.out⟩
   obtain ⟨c9b0, c9b1⟩ := tq_n c9; have H' := Aside0.mk H; clear H
   go_wp2
   repeat (go_quiet (fail); try go_wp2)
   go_roundg k1
   case measure => have := HK1.out; omega
   case rel => exact ⟨(wrap64 (x3_1 + 1)), tq_z, H', ⟨by have := HK1.out; omega⟩, ⟨sq_bk BK241.out⟩, ⟨sq_bs HB.out⟩⟩
/-! ### petrinetref07_Table: function 47 -/
mutual
def petrinetref07_Table.l0 : Nat → List (List Int) → List (List Bool) → Int → Option ((List (List Bool)))
 | 0, _, _, _ => none
 | k + 1, x0, x3, x4 => if x4 < (x0.length : Int) then (if 0 ≤ (x0.length : Int) then (if ((x0.length : Int) : Int).toNat ≤ 281474976710656 then (petrinetref07_Table.l1 k x0 x3 x4 (List.replicate ((x0.length : Int) : Int).toNat false) 0) else (none)) else (none)) else (some x3)
def petrinetref07_Table.l1 : Nat → List (List Int) → List (List Bool) → Int → List Bool → Int → Option ((List (List Bool)))
 | 0, _, _, _, _, _ => none
 | k + 1, x0, x3, x4, x5, x6 => if 0 ≤ x4 then (if x4 < (x0.length : Int) then (if x6 < ((rd_L4 x0 x4).length : Int) then (if 0 ≤ x6 then (if (rd (rd_L4 x0 x4) x6) ≥ 0 then (if (rd (rd_L4 x0 x4) x6) < (x0.length : Int) then (if 0 ≤ (rd (rd_L4 x0 x4) x6) then (if (rd (rd_L4 x0 x4) x6) < (x5.length : Int) then (petrinetref07_Table.l1 k x0 x3 x4 (x5.set ((rd (rd_L4 x0 x4) x6) : Int).toNat true) (wrap64 (x6 + 1))) else (none)) else (none)) else (petrinetref07_Table.l1 k x0 x3 x4 x5 (wrap64 (x6 + 1)))) else (petrinetref07_Table.l1 k x0 x3 x4 x5 (wrap64 (x6 + 1)))) else (none)) else (if x3.length < 5864062014805 then (petrinetref07_Table.l0 k x0 (x3 ++ [x5]) (wrap64 (x4 + 1))) else (none))) else (none)) else (none)
end
def petrinetref07_Table.f (k : Nat) (l0 : List (List Int)) : Option ((List (List Bool))) := petrinetref07_Table.l0 k l0 ([] : List (List Bool)) 0
theorem petrinetref07_Table.mono_l : ∀ k, (∀ y0 y1 y2, LeO (petrinetref07_Table.l0 k y0 y1 y2) (petrinetref07_Table.l0 (k + 1) y0 y1 y2)) ∧ (∀ y0 y1 y2 y3 y4, LeO (petrinetref07_Table.l1 k y0 y1 y2 y3 y4) (petrinetref07_Table.l1 (k + 1) y0 y1 y2 y3 y4))
 | 0 => ⟨fun _ _ _ r h => by simp [petrinetref07_Table.l0] at h, fun _ _ _ _ _ r h => by simp [petrinetref07_Table.l1] at h⟩
 | k + 1 => by
  obtain ⟨ih0, ih1⟩ := petrinetref07_Table.mono_l k
  refine ⟨?_, ?_⟩
  all_goals intros
  all_goals first | unfold petrinetref07_Table.l0 | unfold petrinetref07_Table.l1
  all_goals repeat' (with_reducible first | exact ih0 _ _ _ | exact ih1 _ _ _ _ _ | exact LeO.refl _ | exact LeO.none _ | refine LeO.ite ?_ ?_ | refine LeO.bind ?_ (fun _ => ?_))
theorem petrinetref07_Table.mono : ∀ a0 k, LeO (petrinetref07_Table.f k a0) (petrinetref07_Table.f (k + 1) a0) := by
 intro a0 k
 obtain ⟨ih0, ih1⟩ := petrinetref07_Table.mono_l k
 unfold petrinetref07_Table.f
 repeat' (with_reducible first | exact ih0 _ _ _ | exact ih1 _ _ _ _ _ | exact LeO.refl _ | exact LeO.none _ | refine LeO.ite ?_ ?_ | refine LeO.bind ?_ (fun _ => ?_))
set_option maxHeartbeats 8000000 in
set_option maxRecDepth 100000 in
theorem petrinetref07_Table.calls (k : Nat) (A0 : Option Addr) (c0 : Nat) (l0 : List (List Int)) (r : List (List Bool)) (w : World) (hr0 : Kd.C (Kd.slice 3 (Kd.int .i64)) w A0 l0.length l0) (hc0 : l0.length ≤ c0) (h : petrinetref07_Table.f k l0 = some r) :
  Calls Try.prog 47 #[.slice A0 l0.length c0] w fun e w' => ∃ v0_ : Value, e = .returned (v0_) ∧ Kd.S (Kd.slice 4 Kd.bool) 50 w' w.heap.size (fun _ => True) v0_ r ∧ Below w.heap.size w w' := by
 have hv30 := Try.underlying30; have HR0 := Aside0.mk hr0; have HC0 := Aside0.mk hc0; clear hr0 hc0; have HB := Aside0.mk (Below.refl w.heap.size w); have H : (petrinetref07_Table.l0 k l0 ([] : List (List Bool)) 0) = some r := h; clear h; have H' := Aside0.mk H; clear H
 go_enter Try.func47, Try.ntmps47
 go_wp2
 go_loopg [3, 4] k (fun kq v3 v4 w' => ∃ (x3_1 : List (List Bool)) (x4_1 : Int), v4 = .int .i64 x4_1 ∧ Aside0 (petrinetref07_Table.l0 kq l0 x3_1 x4_1 = some r) ∧ Aside0 (kq ≤ k) ∧ Aside0 (Kd.S (Kd.slice 4 Kd.bool) 50 w' w.heap.size (fun _ => True) v3 x3_1) ∧ Aside0 (Below w.heap.size w w'))
 case atStart => exact ⟨(([] : List (List Bool))), (0), tq_z, H', ⟨Nat.le_refl _⟩, ⟨by first | exact Kd.S_nil _ _ _ _ _ | exact Kd.N_nil _ _ _ _ _ | exact Kd.V_nil _ _ _ _ _ | exact Kd.Q_nil _ _ _ _ _ | exact Kd.R_nil _ _ _ _ _⟩, ⟨sq_bl HB.out⟩⟩
 case round =>
  clear H'; obtain ⟨x3_1, x4_1, rfl, HA, HK1, HO_3, HB⟩ := hrel
  cases gk with
  | zero => exact absurd HA.out (by simp [petrinetref07_Table.l0])
  | succ k1 =>
   have H := HA.out; clear HA
   simp only [petrinetref07_Table.l0] at H
   revert H; refine tq_dd (fun c2b0 H => ?_) (fun c2b0 H => ?_); rotate_left
   ·obtain rfl := Option.some.inj H
    go_wp2
    go_ret
    exact ⟨_, by first | rfl | (simp [errW_none, errW_some] <;> rfl) | (simp [*, errW_none, errW_some] <;> rfl), by (with_reducible repeat (first | apply Kd.S_alloc | apply Kd.S_drewN | apply Kd.S_drew)); exact HO_3.out, sq_bl HB.out⟩
   revert H; refine tq_ie fun c3b0 c3b1 H => ?_; revert H; refine tq_ie fun c4b0 c4b1 H => ?_; obtain ⟨y247, hy247⟩ : ∃ y_ : List Bool, y_ = (List.replicate ((l0.length : Int) : Int).toNat false) := ⟨_, rfl⟩; replace H : (petrinetref07_Table.l1 k1 l0 x3_1 x4_1 y247 0) = some r := by first | (rw [hy247]; exact H) | exact H
   have Ny247 := Aside0.mk hy247; clear hy247; have H' := Aside0.mk H; clear H
   go_wp2_with (first | ((with_reducible refine gate_dst (N := 15) rfl ?_); (try (refine gate_guard (by rfl) ?_; dsimp only)); refine Kd.R_make Kd.bool _ 4 rfl (N := 15) rfl 50 _ _ rfl (l0.length : Int) rfl rfl Try.underlying50 (.bool false) 1 info4 rfl (by decide) (by omega) false (ok := fun _ => True) (okp := fun _ => True) rfl (fun _ hk => hk) trivial sq_d (Nat.le_trans (Nat.mul_le_mul_right _ (sq_d : (l0.length : Int).toNat ≤ 281474976710656)) (by omega)) (Below.refl _ _) (Nat.le_refl _) ?_; intro v248 w5 ho6 hb hg_ hnew_; clear hg_ hnew_; (first | rw [← Ny247.out] at ho6 | (simp only [Int.reduceToNat] at ho6; rw [← Ny247.out] at ho6)); replace HO_3 := Aside0.mk (Kd.S_elder' (by (with_reducible repeat (first | apply Kd.S_alloc | apply Kd.S_drewN | apply Kd.S_drew)); exact HO_3.out) (Kd.R_base ho6) hb); have HO249 := Aside0.mk (Kd.R_lower ho6 (below_size (sq_bl HB.out))); replace HB := tq_s HB hb; clear hb ho6))
   go_loopg [6] k1 (fun kq v6 w' => ∃ (x5_2 : List Bool) (x6_2 : Int), v6 = .int .i64 x6_2 ∧ Aside0 (petrinetref07_Table.l1 kq l0 x3_1 x4_1 x5_2 x6_2 = some r) ∧ Aside0 (kq ≤ k1) ∧ Aside0 (Kd.S (Kd.slice 4 Kd.bool) 50 w' w.heap.size (fun k_ => some k_ ≠ (v248 : Value).ownBlock) u3 x3_1) ∧ Aside0 (Kd.R Kd.bool 4 w' w.heap.size (fun _ => True) v248 x5_2) ∧ Aside0 (Below w.heap.size w w'))
   case atStart => exact ⟨(y247), (0), tq_z, H', ⟨Nat.le_refl _⟩, ⟨by (with_reducible repeat (first | apply Kd.S_alloc | apply Kd.S_drewN | apply Kd.S_drew)); exact Kd.S_mono HO_3.out (fun _ hk => hk.2)⟩, ⟨sq_kr HO249.out⟩, ⟨sq_bl HB.out⟩⟩
   case round =>
    clear H'
    try clear c2b0
    try clear c3b0
    try clear c3b1
    try clear c4b0
    try clear c4b1
    obtain ⟨x5_2, x6_2, rfl, HA, HK2, HO_3, HO_5, HB⟩ := hrel
    cases gk with
    | zero => exact absurd HA.out (by simp [petrinetref07_Table.l1])
    | succ k2 =>
     have H := HA.out; clear HA
     simp only [petrinetref07_Table.l1] at H
     revert H; refine tq_i1 fun c7b0 H => ?_; revert H; refine tq_i1 fun c8b0 H => ?_; revert H; refine tq_dd (fun c9b0 H => ?_) (fun c9b0 H => ?_); rotate_left
     ·revert H; refine tq_i fun c18 H => ?_; have LMc18 := Aside0.mk c18; clear c18; obtain ⟨y258, hy258⟩ : ∃ y_ : List (List Bool), y_ = (x3_1 ++ [x5_2]) := ⟨_, rfl⟩; replace H : (petrinetref07_Table.l0 k2 l0 y258 (wrap64 (x4_1 + 1))) = some r := by first | (rw [hy258]; exact H) | exact H
      have Ny258 := Aside0.mk hy258; clear hy258; have H' := Aside0.mk H; clear H; have p250 : 0 ≤ (x4_1 : Int) := sq_d; have q250 : x4_1 < (l0.length : Int) := sq_d; have LQ250 := Aside0.mk q250; obtain ⟨ad250, A250_0, c250_0, e250, hx250_0, hl250_0, hi250_0⟩ := at_L4 HR0.out x4_1 p250 q250; cases e250; replace hx250_0 := tq_hx HB hx250_0; have HR250_0 := Aside0.mk hi250_0; have HC250_0 := Aside0.mk hl250_0; clear hi250_0 hl250_0; replace p250 := eq_true p250; replace q250 := eq_true q250; obtain ⟨Ao20, co20, eo20⟩ := Kd.R_slice HO_5.out; subst eo20
      go_wp2_with (first | ((with_reducible refine gate_builtin (b := .append) (xs := #[.tmp 54, .tmp 56]) rfl ?_); (try (refine gate_guard (by rfl) ?_; dsimp only)); at_builtin; refine Kd.S_append (Kd.slice 4 Kd.bool) (w0 := w) w.heap.size rfl (.tmp 54) (.tmp 56) 64 50 (.slice none 0 0) 24 rfl Try.underlying64 info50 rfl (by decide) (by omega) u3 x3_1 x5_2 [.slice Ao20 x5_2.length co20] (fun _ => True) (fun k_ => some k_ = (.slice Ao20 x5_2.length co20 : Value).ownBlock) rfl rfl ?aP (fun k_ hk_ => ((Kd.R_mono (ok' := fun k_ => ((fun _ => True)) k_ ∧ some k_ ≠ (u3 : Value).ownBlock) (Kd.R_apart' (HO_5.out) (Kd.S_typed HO_3.out) (by decide)) (fun k_ hk => ⟨trivial, hk.2⟩))).1 k_ hk_.symm) ?aF ?aO ?aB ?aS ?aL ?_; (case aP => exact Kd.M_row (Kd.R_mono (Kd.R_tight rfl (Kd.R_mono (ok' := fun k_ => ((fun _ => True)) k_ ∧ some k_ ≠ (u3 : Value).ownBlock) (Kd.R_apart' (HO_5.out) (Kd.S_typed HO_3.out) (by decide)) (fun k_ hk => ⟨trivial, hk.2⟩))) (fun _ h_ => h_))); (case aB => exact (sq_bl HB.out)); (case aF => exact (fun _ _ => trivial)); (case aO => exact (by (with_reducible repeat (first | apply Kd.S_alloc | apply Kd.S_drewN | apply Kd.S_drew)); exact Kd.S_mono HO_3.out (fun k_ hk => ⟨trivial, fun e_ => hk e_⟩))); (case aS => exact (below_size (sq_bl HB.out))); (case aL => have := LMc18.out; omega); intro v259 w19 ho hb hg hat; rw [← Ny258.out] at ho; replace HB := Aside0.mk hb; have HO260 := Aside0.mk ho; clear HO_3 HO_5; clear ho hb hg hat))
      go_roundg k2
      case measure => have := HK1.out; have := HK2.out; omega
      case rel => exact ⟨(y258), (wrap64 (x4_1 + 1)), tq_z, H', ⟨by have := HK1.out; have := HK2.out; omega⟩, ⟨by (with_reducible repeat (first | apply Kd.S_alloc | apply Kd.S_drewN | apply Kd.S_drew)); exact HO260.out⟩, ⟨sq_bl HB.out⟩⟩
     revert H; refine tq_i1 fun c10b0 H => ?_; revert H; refine tq_rr (fun c11 H => ?_) (fun c11 H => ?_); rotate_left
     ·have c11b0 : decide (0 ≤ (rd (rd_L4 l0 x4_1) x6_2)) = false := decide_eq_false c11; clear c11; have H' := Aside0.mk H; clear H; have p250 : 0 ≤ (x4_1 : Int) := sq_d; have q250 : x4_1 < (l0.length : Int) := sq_d; have LQ250 := Aside0.mk q250; obtain ⟨ad250, A250_0, c250_0, e250, hx250_0, hl250_0, hi250_0⟩ := at_L4 HR0.out x4_1 p250 q250; cases e250; replace hx250_0 := tq_hx HB hx250_0; have HR250_0 := Aside0.mk hi250_0; have HC250_0 := Aside0.mk hl250_0; clear hi250_0 hl250_0; replace p250 := eq_true p250; replace q250 := eq_true q250; have p251 : 0 ≤ (x4_1 : Int) := sq_d; have q251 : x4_1 < (l0.length : Int) := sq_d; have LQ251 := Aside0.mk q251; obtain ⟨ad251, A251_0, c251_0, e251, hx251_0, hl251_0, hi251_0⟩ := at_L4 HR0.out x4_1 p251 q251; obtain rfl : ad250 = ad251 := (by injection e251); replace hx251_0 := tq_hx HB hx251_0; have HR251_0 := Aside0.mk hi251_0; have HC251_0 := Aside0.mk hl251_0; clear hi251_0 hl251_0; replace p251 := eq_true p251; replace q251 := eq_true q251; have ea_ := Option.some.inj (hx250_0.symm.trans hx251_0)
      injection ea_ with ea_ en_ ec_
      subst ea_; subst ec_; clear en_; have p252 : 0 ≤ (x6_2 : Int) := sq_d; have q252 : x6_2 < ((rd_L4 l0 x4_1).length : Int) := sq_d; obtain ⟨ad252, e252, hx252_0⟩ := Kd.at_int HR251_0.out x6_2 p252 q252; cases e252; replace hx252_0 := tq_hx HB hx252_0; replace p252 := eq_true p252; replace q252 := eq_true q252
      go_wp2
      go_roundg k2
      case measure => have := HK1.out; have := HK2.out; omega
      case rel => exact ⟨(x5_2), (wrap64 (x6_2 + 1)), tq_z, H', ⟨by have := HK1.out; have := HK2.out; omega⟩, ⟨by (with_reducible repeat (first | apply Kd.S_alloc | apply Kd.S_drewN | apply Kd.S_drew)); exact HO_3.out⟩, ⟨sq_kr HO_5.out⟩, ⟨sq_bl HB.out⟩⟩
     have c11b0 : decide (0 ≤ (rd (rd_L4 l0 x4_1) x6_2)) = true := decide_eq_true c11; clear c11; revert H; refine tq_dd (fun c12b0 H => ?_) (fun c12b0 H => ?_); rotate_left
     ·have H' := Aside0.mk H; clear H; have p250 : 0 ≤ (x4_1 : Int) := sq_d; have q250 : x4_1 < (l0.length : Int) := sq_d; have LQ250 := Aside0.mk q250; obtain ⟨ad250, A250_0, c250_0, e250, hx250_0, hl250_0, hi250_0⟩ := at_L4 HR0.out x4_1 p250 q250; cases e250; replace hx250_0 := tq_hx HB hx250_0; have HR250_0 := Aside0.mk hi250_0; have HC250_0 := Aside0.mk hl250_0; clear hi250_0 hl250_0; replace p250 := eq_true p250; replace q250 := eq_true q250; have p251 : 0 ≤ (x4_1 : Int) := sq_d; have q251 : x4_1 < (l0.length : Int) := sq_d; have LQ251 := Aside0.mk q251; obtain ⟨ad251, A251_0, c251_0, e251, hx251_0, hl251_0, hi251_0⟩ := at_L4 HR0.out x4_1 p251 q251; obtain rfl : ad250 = ad251 := (by injection e251); replace hx251_0 := tq_hx HB hx251_0; have HR251_0 := Aside0.mk hi251_0; have HC251_0 := Aside0.mk hl251_0; clear hi251_0 hl251_0; replace p251 := eq_true p251; replace q251 := eq_true q251; have ea_ := Option.some.inj (hx250_0.symm.trans hx251_0)
      injection ea_ with ea_ en_ ec_
      subst ea_; subst ec_; clear en_; have p252 : 0 ≤ (x6_2 : Int) := sq_d; have q252 : x6_2 < ((rd_L4 l0 x4_1).length : Int) := sq_d; obtain ⟨ad252, e252, hx252_0⟩ := Kd.at_int HR251_0.out x6_2 p252 q252; cases e252; replace hx252_0 := tq_hx HB hx252_0; replace p252 := eq_true p252; replace q252 := eq_true q252; have p253 : 0 ≤ (x4_1 : Int) := sq_d; have q253 : x4_1 < (l0.length : Int) := sq_d; have LQ253 := Aside0.mk q253; obtain ⟨ad253, A253_0, c253_0, e253, hx253_0, hl253_0, hi253_0⟩ := at_L4 HR0.out x4_1 p253 q253; obtain rfl : ad250 = ad253 := (by injection e253); replace hx253_0 := tq_hx HB hx253_0; have HR253_0 := Aside0.mk hi253_0; have HC253_0 := Aside0.mk hl253_0; clear hi253_0 hl253_0; replace p253 := eq_true p253; replace q253 := eq_true q253; have ea_ := Option.some.inj (hx250_0.symm.trans hx253_0)
      injection ea_ with ea_ en_ ec_
      subst ea_; subst ec_; clear en_; have p254 : 0 ≤ (x6_2 : Int) := sq_d; have q254 : x6_2 < ((rd_L4 l0 x4_1).length : Int) := sq_d; obtain ⟨ad254, e254, hx254_0⟩ := Kd.at_int HR253_0.out x6_2 p254 q254; cases e254; replace hx254_0 := tq_hx HB hx254_0; replace p254 := eq_true p254; replace q254 := eq_true q254
      go_wp2
      go_roundg k2
      case measure => have := HK1.out; have := HK2.out; omega
      case rel => exact ⟨(x5_2), (wrap64 (x6_2 + 1)), tq_z, H', ⟨by have := HK1.out; have := HK2.out; omega⟩, ⟨by (with_reducible repeat (first | apply Kd.S_alloc | apply Kd.S_drewN | apply Kd.S_drew)); exact HO_3.out⟩, ⟨sq_kr HO_5.out⟩, ⟨sq_bl HB.out⟩⟩
     revert H; refine tq_i1 fun c13b0 H => ?_; revert H; refine tq_i1 fun c14b0 H => ?_; obtain ⟨y257, hy257⟩ : ∃ y_ : List Bool, y_ = (x5_2.set ((rd (rd_L4 l0 x4_1) x6_2) : Int).toNat true) := ⟨_, rfl⟩; replace H : (petrinetref07_Table.l1 k2 l0 x3_1 x4_1 y257 (wrap64 (x6_2 + 1))) = some r := by first | (rw [hy257]; exact H) | exact H
     have Ny257 := Aside0.mk hy257; clear hy257; have H' := Aside0.mk H; clear H; have p250 : 0 ≤ (x4_1 : Int) := sq_d; have q250 : x4_1 < (l0.length : Int) := sq_d; have LQ250 := Aside0.mk q250; obtain ⟨ad250, A250_0, c250_0, e250, hx250_0, hl250_0, hi250_0⟩ := at_L4 HR0.out x4_1 p250 q250; cases e250; replace hx250_0 := tq_hx HB hx250_0; have HR250_0 := Aside0.mk hi250_0; have HC250_0 := Aside0.mk hl250_0; clear hi250_0 hl250_0; replace p250 := eq_true p250; replace q250 := eq_true q250; have p251 : 0 ≤ (x4_1 : Int) := sq_d; have q251 : x4_1 < (l0.length : Int) := sq_d; have LQ251 := Aside0.mk q251; obtain ⟨ad251, A251_0, c251_0, e251, hx251_0, hl251_0, hi251_0⟩ := at_L4 HR0.out x4_1 p251 q251; obtain rfl : ad250 = ad251 := (by injection e251); replace hx251_0 := tq_hx HB hx251_0; have HR251_0 := Aside0.mk hi251_0; have HC251_0 := Aside0.mk hl251_0; clear hi251_0 hl251_0; replace p251 := eq_true p251; replace q251 := eq_true q251; have ea_ := Option.some.inj (hx250_0.symm.trans hx251_0)
     injection ea_ with ea_ en_ ec_
     subst ea_; subst ec_; clear en_; have p252 : 0 ≤ (x6_2 : Int) := sq_d; have q252 : x6_2 < ((rd_L4 l0 x4_1).length : Int) := sq_d; obtain ⟨ad252, e252, hx252_0⟩ := Kd.at_int HR251_0.out x6_2 p252 q252; cases e252; replace hx252_0 := tq_hx HB hx252_0; replace p252 := eq_true p252; replace q252 := eq_true q252; have p253 : 0 ≤ (x4_1 : Int) := sq_d; have q253 : x4_1 < (l0.length : Int) := sq_d; have LQ253 := Aside0.mk q253; obtain ⟨ad253, A253_0, c253_0, e253, hx253_0, hl253_0, hi253_0⟩ := at_L4 HR0.out x4_1 p253 q253; obtain rfl : ad250 = ad253 := (by injection e253); replace hx253_0 := tq_hx HB hx253_0; have HR253_0 := Aside0.mk hi253_0; have HC253_0 := Aside0.mk hl253_0; clear hi253_0 hl253_0; replace p253 := eq_true p253; replace q253 := eq_true q253; have ea_ := Option.some.inj (hx250_0.symm.trans hx253_0)
     injection ea_ with ea_ en_ ec_
     subst ea_; subst ec_; clear en_; have p254 : 0 ≤ (x6_2 : Int) := sq_d; have q254 : x6_2 < ((rd_L4 l0 x4_1).length : Int) := sq_d; obtain ⟨ad254, e254, hx254_0⟩ := Kd.at_int HR253_0.out x6_2 p254 q254; cases e254; replace hx254_0 := tq_hx HB hx254_0; replace p254 := eq_true p254; replace q254 := eq_true q254; have p255 : 0 ≤ (x4_1 : Int) := sq_d; have q255 : x4_1 < (l0.length : Int) := sq_d; have LQ255 := Aside0.mk q255; obtain ⟨ad255, A255_0, c255_0, e255, hx255_0, hl255_0, hi255_0⟩ := at_L4 HR0.out x4_1 p255 q255; obtain rfl : ad250 = ad255 := (by injection e255); replace hx255_0 := tq_hx HB hx255_0; have HR255_0 := Aside0.mk hi255_0; have HC255_0 := Aside0.mk hl255_0; clear hi255_0 hl255_0; replace p255 := eq_true p255; replace q255 := eq_true q255; have ea_ := Option.some.inj (hx250_0.symm.trans hx255_0)
     injection ea_ with ea_ en_ ec_
     subst ea_; subst ec_; clear en_; have p256 : 0 ≤ (x6_2 : Int) := sq_d; have q256 : x6_2 < ((rd_L4 l0 x4_1).length : Int) := sq_d; obtain ⟨ad256, e256, hx256_0⟩ := Kd.at_int HR255_0.out x6_2 p256 q256; cases e256; replace hx256_0 := tq_hx HB hx256_0; replace p256 := eq_true p256; replace q256 := eq_true q256; have p15 : 0 ≤ ((rd (rd_L4 l0 x4_1) x6_2) : Int) := sq_d; have q15 : ((rd (rd_L4 l0 x4_1) x6_2) : Int) < ((x5_2.length : Int) : Int) := sq_d; obtain ⟨go15, co15, eo15, gb15, gl15, cl15, HG15⟩ := Kd.R_form HO_5.out (by omega)
     (first | cases eo15 | (injection eo15 with ea_ en_ ec_; (first | subst ea_ | (injection ea_ with ea_; subst ea_)); subst ec_; clear en_))
     have GB15 := Aside0.mk gb15; have GG15 := Aside0.mk HG15; clear gb15 gl15 HG15; obtain ⟨hx15_0, hf15_0⟩ := Kd.R_celln false HO_5.out ((rd (rd_L4 l0 x4_1) x6_2) : Int) p15 q15; replace p15 := eq_true p15; replace q15 := eq_true q15; have HP16 := Kd.R_putg HO_5.out ((rd (rd_L4 l0 x4_1) x6_2) : Int) true
     go_wp2_with (first | ((with_reducible refine gate_store (t := 4) (p := 53) rfl ?_); refine store_event (t := 4) (p := 53) (v := ?vo_w17) (w1 := (wr.setCell ⟨go15, ((rd (rd_L4 l0 x4_1) x6_2) : Int).toNat, none⟩ (.bool true))) ?hg ?ho ?hn ?hr ?_; (case ho => rfl); (case hg => rfl); (case hn => rfl); (case hr => first | (go_simp; done) | (go_simp; rfl)); intro w17 hw; have hg : wr.grownBy w17 (some go15) := (by rw [hw]; exact HP16.2); have hp_ : Kd.R Kd.bool 4 w17 w.heap.size (fun _ => True) (.slice (some ⟨go15, 0, none⟩) x5_2.length co15) y257 := (by rw [hw, Ny257.out]; exact HP16.1); clear HP16; replace HO_3 := Aside0.mk (Kd.S_after (v := (.slice (some ⟨go15, 0, none⟩) x5_2.length co15)) (v1 := (.slice (some ⟨go15, 0, none⟩) x5_2.length co15)) (ok := (fun _ => True)) (by (with_reducible repeat (first | apply Kd.S_alloc | apply Kd.S_drewN | apply Kd.S_drew)); exact Kd.S_mono HO_3.out (fun _ hk => ⟨trivial, hk⟩)) hg (.inl rfl)); replace HO_5 := Aside0.mk hp_; replace HB := Aside0.mk (by rw [hw]; exact below_set (HB.out) GB15.out : Below w.heap.size w w17); clear hg hw hp_))
     go_roundg k2
     case measure => have := HK1.out; have := HK2.out; omega
     case rel => exact ⟨(y257), (wrap64 (x6_2 + 1)), tq_z, H', ⟨by have := HK1.out; have := HK2.out; omega⟩, ⟨by (with_reducible repeat (first | apply Kd.S_alloc | apply Kd.S_drewN | apply Kd.S_drew)); exact Kd.S_mono HO_3.out (fun _ hk => hk.2)⟩, ⟨sq_kr HO_5.out⟩, ⟨sq_bl HB.out⟩⟩
end Go.Proofs.Ytcnliampiibpbaa.PAll
