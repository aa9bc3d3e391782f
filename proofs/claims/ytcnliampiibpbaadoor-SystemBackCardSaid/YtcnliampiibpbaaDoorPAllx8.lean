/- Lean functions for Go functions, each with the proof that the call returns what it says; printed by wip/tools/myprint.py. -/
-- squeezed
-- tight
import Derived.Test.YtcnliampiibpbaaDoorTq
import Derived.Test.YtcnliampiibpbaaDoorPAllx0
import Derived.Test.YtcnliampiibpbaaDoorPAllx5
import Derived.Test.YtcnliampiibpbaaDoorPAllx7
namespace Go.Proofs.YtcnliampiibpbaaDoor.PAll
open Go.RowKit Go.Proofs.YtcnliampiibpbaaDoorW.PrintWords Go.Proofs.YtcnliampiibpbaaDoorW.PrintLast Go.Proofs.YtcnliampiibpbaaDoorW.PrintMore
attribute [local go_sem] Instr.field asAgg max2_int min2_int max_two min_two max_three min_three max_four min_four   -- for this text's walks alone
set_option linter.unusedVariables false
set_option linter.unusedSimpArgs false

/-! ### system_Reachable: function 17 -/
mutual
def system_Reachable.l0 : Nat → List (List Int) → List (S46) → Int → Int → Option (Bool)
 | 0, _, _, _, _ => none
 | k + 1, x3, x15, x16, x17 => if x17 < x16 then (if 0 ≤ x17 then (if x17 < (x15.length : Int) then (if 0 ≤ ((rd_T46 x15 x17).f0) then (if ((rd_T46 x15 x17).f0) < (x3.length : Int) then (if (rd_L4 x3 ((rd_T46 x15 x17).f0)).length < 17592186044416 then (system_Reachable.l0 k (x3.set (((rd_T46 x15 x17).f0) : Int).toNat ((rd_L4 x3 ((rd_T46 x15 x17).f0)) ++ [(rd_T46 x15 x17).f2])) x15 x16 (wrap64 (x17 + 1))) else (none)) else (none)) else (none)) else (none)) else (none)) else ((digraph_Reach.f k x3 (([0] : List Int))).bind fun t142 => (system_Reachable.l1 k t142 (t142.length : Int) 0))
def system_Reachable.l1 : Nat → List Bool → Int → Int → Option (Bool)
 | 0, _, _, _ => none
 | k + 1, x37, x38, x39 => if x39 < x38 then (if 0 ≤ x39 then (if x39 < (x37.length : Int) then (if rdOf false x37 x39 = true then (system_Reachable.l1 k x37 x38 (wrap64 (x39 + 1))) else (some false)) else (none)) else (none)) else (some true)
end
def system_Reachable.f (k : Nat) (a0_0 : Int) (l0_1 : List ByteArray) (l0_2 : List (S46)) : Option (Bool) := (system_valid.f k a0_0 l0_1 l0_2).bind fun t128 => (if t128 = true then (if 0 ≤ a0_0 then (if (a0_0 : Int).toNat ≤ 11728124029610 then (system_Reachable.l0 k (List.replicate (a0_0 : Int).toNat []) l0_2 (l0_2.length : Int) 0) else (none)) else (none)) else (some false))
theorem system_Reachable.mono_l : ∀ k, (∀ y0 y1 y2 y3, LeO (system_Reachable.l0 k y0 y1 y2 y3) (system_Reachable.l0 (k + 1) y0 y1 y2 y3)) ∧ (∀ y0 y1 y2, LeO (system_Reachable.l1 k y0 y1 y2) (system_Reachable.l1 (k + 1) y0 y1 y2))
 | 0 => ⟨fun _ _ _ _ r h => by simp [system_Reachable.l0] at h, fun _ _ _ r h => by simp [system_Reachable.l1] at h⟩
 | k + 1 => by
  obtain ⟨ih0, ih1⟩ := system_Reachable.mono_l k
  refine ⟨?_, ?_⟩
  all_goals intros
  all_goals first | unfold system_Reachable.l0 | unfold system_Reachable.l1
  all_goals repeat' (with_reducible first | exact ih0 _ _ _ _ | exact ih1 _ _ _ | exact digraph_Reach.mono _ _ _ | exact system_valid.mono _ _ _ _ | exact LeO.refl _ | exact LeO.none _ | refine LeO.ite ?_ ?_ | refine LeO.bind ?_ (fun _ => ?_))
theorem system_Reachable.mono : ∀ a0 a1 a2 k, LeO (system_Reachable.f k a0 a1 a2) (system_Reachable.f (k + 1) a0 a1 a2) := by
 intro a0 a1 a2 k
 obtain ⟨ih0, ih1⟩ := system_Reachable.mono_l k
 unfold system_Reachable.f
 repeat' (with_reducible first | exact ih0 _ _ _ _ | exact ih1 _ _ _ | exact digraph_Reach.mono _ _ _ | exact system_valid.mono _ _ _ _ | exact LeO.refl _ | exact LeO.none _ | refine LeO.ite ?_ ?_ | refine LeO.bind ?_ (fun _ => ?_))
def system_Reachable.T7 : Bool × List (List Nat × List Nat) := (true, [([], []), ([], []), ([1], [1]), ([], []), ([], []), ([4], [4]), ([3, 5], [3, 5]), ([6], [6]), ([], []), ([8], [8]), ([9], [9]), ([7, 10], [7, 10]), ([0, 2, 0, 1, 2, 3, 4, 5, 6, 7, 8, 9, 10, 11], [0, 2]), ([12, 11, 11, 0, 1, 2, 3, 4, 5, 6, 7, 8, 9, 10, 11], [11, 12])])
def system_Reachable.B7 : List Nat := [0, 0, 2, 0, 0, 16, 56, 120, 0, 256, 768, 2040, 4095, 8191]
theorem system_Reachable.tab7 : rtab .any (opsOf Tryd.f17 7) = system_Reachable.T7 := by kernel_rfl
theorem system_Reachable.bits7 : waitsOk system_Reachable.T7.2 system_Reachable.B7 = true := by kernel_rfl
set_option maxHeartbeats 8000000 in
set_option maxRecDepth 100000 in
theorem system_Reachable.calls (k : Nat) (a0_0 : Int) (A0_1 : Option Addr) (c0_1 : Nat) (l0_1 : List ByteArray) (A0_2 : Option Addr) (c0_2 : Nat) (l0_2 : List (S46)) (r : Bool) (w : World) (hr0_1 : Kd.C Kd.string w A0_1 l0_1.length l0_1) (hc0_1 : l0_1.length ≤ c0_1) (hr0_2 : Kd.C k46 w A0_2 l0_2.length l0_2) (hc0_2 : l0_2.length ≤ c0_2) (h : system_Reachable.f k a0_0 l0_1 l0_2 = some r) :
  Calls Tryd.prog 17 #[.agg #[.int .i64 a0_0, .slice A0_1 l0_1.length c0_1, .slice A0_2 l0_2.length c0_2]] w fun e w' => e = .returned (.bool r) ∧ Below w.heap.size w w' := by
 have hv30 := Tryd.underlying30; have hu25 := Tryd.underlying25; have hu46 := Tryd.underlying46; have HR0_1 := Aside0.mk hr0_1; have HC0_1 := Aside0.mk hc0_1; clear hr0_1 hc0_1; have HR0_2 := Aside0.mk hr0_2; have HC0_2 := Aside0.mk hc0_2; clear hr0_2 hc0_2; have HB := Aside0.mk (Below.refl w.heap.size w); have H : ((system_valid.f k a0_0 l0_1 l0_2).bind fun t128 => (if t128 = true then (if 0 ≤ a0_0 then (if (a0_0 : Int).toNat ≤ 11728124029610 then (system_Reachable.l0 k (List.replicate (a0_0 : Int).toNat []) l0_2 (l0_2.length : Int) 0) else (none)) else (none)) else (some false))) = some r := h; clear h; revert H; refine tq_o fun t128 A2 H => ?_; cases t128
 ·replace H := tq_f H; obtain rfl := Option.some.inj H
  go_enter Tryd.func17, Tryd.ntmps17
  go_wp2_with (first | ((with_reducible refine gate_dst (N := 1) rfl ?_); refine sq_box 1 #[.int .i64 a0_0, .slice A0_1 l0_1.length c0_1, .slice A0_2 l0_2.length c0_2] 25 ?_; intro gb127 hg w43 hbox hb; have BK127 := Aside0.mk hbox; have GW127 := tq_w HB hg; have GE127 := tq_w HB hg; replace HB := tq_s HB hb; clear hb hbox hg; obtain ⟨hcz44_0, hcz44_1, hcz44_2, hfz44_0, hfz44_1, hfz44_2⟩ := tq_3 (w := w43) BK127) | ((with_reducible refine gate_callee (f := 30) rfl ?_); refine sq_goes (some 9) Tryd.func30 #[.agg #[.int .i64 a0_0, .slice A0_1 l0_1.length c0_1, .slice A0_2 l0_2.length c0_2]] ?_; (with_reducible refine (system_valid.calls k a0_0 _ _ l0_1 _ _ l0_2 false _ ?s1 ?s2 ?s3 ?s4 A2.out).mono ?_); (case s1 => exact tq_c HR0_1 HB); (case s2 => exact HC0_1.out); (case s3 => exact tq_c HR0_2 HB); (case s4 => exact HC0_2.out); rintro e w45 ⟨rfl, hb⟩; refine ⟨_, rfl, ?_⟩; replace BK127 := tq_k BK127 hb; replace HB := tq_s HB hb; (try clear hb)))
  go_ret
  exact tq_v (sq_bs HB.out)
 replace H := tq_t H; revert H; refine tq_ie fun c4b0 c4b1 H => ?_; revert H; refine tq_ie fun c5b0 c5b1 H => ?_; obtain ⟨y129, hy129⟩ : ∃ y_ : List (List Int), y_ = (List.replicate (a0_0 : Int).toNat []) := ⟨_, rfl⟩; replace H : (system_Reachable.l0 k y129 l0_2 (l0_2.length : Int) 0) = some r := by first | (rw [hy129]; exact H) | exact H
 have Ny129 := Aside0.mk hy129; clear hy129; have H' := Aside0.mk H; clear H
 go_enter Tryd.func17, Tryd.ntmps17
 go_wp2_with (first | ((with_reducible refine gate_dst (N := 1) rfl ?_); refine sq_box 1 #[.int .i64 a0_0, .slice A0_1 l0_1.length c0_1, .slice A0_2 l0_2.length c0_2] 25 ?_; intro gb127 hg w6 hbox hb; have BK127 := Aside0.mk hbox; have GW127 := tq_w HB hg; have GE127 := tq_w HB hg; replace HB := tq_s HB hb; clear hb hbox hg; obtain ⟨hcz7_0, hcz7_1, hcz7_2, hfz7_0, hfz7_1, hfz7_2⟩ := tq_3 (w := w6) BK127) | ((with_reducible refine gate_callee (f := 30) rfl ?_); refine sq_goes (some 9) Tryd.func30 #[.agg #[.int .i64 a0_0, .slice A0_1 l0_1.length c0_1, .slice A0_2 l0_2.length c0_2]] ?_; (with_reducible refine (system_valid.calls k a0_0 _ _ l0_1 _ _ l0_2 true _ ?s1 ?s2 ?s3 ?s4 A2.out).mono ?_); (case s1 => exact tq_c HR0_1 HB); (case s2 => exact HC0_1.out); (case s3 => exact tq_c HR0_2 HB); (case s4 => exact HC0_2.out); rintro e w8 ⟨rfl, hb⟩; refine ⟨_, rfl, ?_⟩; replace BK127 := tq_k BK127 hb; replace HB := tq_s HB hb; (try clear hb); obtain ⟨hcz9_0, hcz9_1, hcz9_2, hfz9_0, hfz9_1, hfz9_2⟩ := tq_3 (w := w8) BK127) | ((with_reducible refine gate_dst (N := 13) rfl ?_); refine Kd.S_make (Kd.slice 3 (Kd.int .i64)) _ 37 rfl (N := 13) rfl 55 _ _ rfl a0_0 rfl rfl Tryd.underlying55 (.slice none 0 0) 24 info37 rfl (by decide) (by omega) [] (ok := fun _ => True) (okp := fun _ => True) ⟨_, rfl, Kd.R_nil _ _ _ _ _⟩ (fun _ hk => hk) trivial sq_d (Nat.le_trans (Nat.mul_le_mul_right _ (sq_d : a0_0.toNat ≤ 11728124029610)) (by omega)) (Below.refl _ _) (Nat.le_refl _) ?_; intro v130 w10 ho11 hb hg_ hnew_; clear hg_ hnew_; (first | rw [← Ny129.out] at ho11 | (simp only [Int.reduceToNat] at ho11; rw [← Ny129.out] at ho11)); have HO131 := Aside0.mk (Kd.S_lower ho11 (below_size (sq_bs HB.out))); replace BK127 := tq_k BK127 hb; replace HB := tq_s HB hb; clear hb ho11; obtain ⟨hcz12_0, hcz12_1, hcz12_2, hfz12_0, hfz12_1, hfz12_2⟩ := tq_3 (w := w10) BK127))
 go_loopg [17] k (fun kq v17 w' => ∃ (x3_1 : List (List Int)) (x17_1 : Int), v17 = .int .i64 x17_1 ∧ Aside0 (system_Reachable.l0 kq x3_1 l0_2 (l0_2.length : Int) x17_1 = some r) ∧ Aside0 (kq ≤ k) ∧ Aside0 (Kd.S (Kd.slice 3 (Kd.int .i64)) 37 w' w.heap.size (fun _ => True) v130 x3_1) ∧ Aside0 (w'.heap[gb127]? = some (.cells #[.int .i64 a0_0, (.slice A0_1 l0_1.length c0_1), (.slice A0_2 l0_2.length c0_2)] 25 (0, 0))) ∧ Aside0 (Below w.heap.size w w'))
 case atStart => exact ⟨(y129), (0), tq_z, H', ⟨Nat.le_refl _⟩, ⟨by (with_reducible repeat (first | apply Kd.S_alloc | apply Kd.S_drewN | apply Kd.S_drew)); exact HO131.out⟩, ⟨sq_bk BK127.out⟩, ⟨sq_bs HB.out⟩⟩
 case round =>
  clear H'
  try clear c3
  try clear c4b0
  try clear c4b1
  try clear c5b0
  try clear c5b1
  try clear hcz12_0
  try clear hcz12_1
  try clear hcz12_2
  try clear hcz7_0
  try clear hcz7_1
  try clear hcz7_2
  try clear hcz9_0
  try clear hcz9_1
  try clear hcz9_2
  try clear hfz12_0
  try clear hfz12_1
  try clear hfz12_2
  try clear hfz7_0
  try clear hfz7_1
  try clear hfz7_2
  try clear hfz9_0
  try clear hfz9_1
  try clear hfz9_2
  obtain ⟨x3_1, x17_1, rfl, HA, HK1, HO_3, BK127, HB⟩ := hrel
  cases gk with
  | zero => exact absurd HA.out (by simp [system_Reachable.l0])
  | succ k1 =>
   have H := HA.out; clear HA
   simp only [system_Reachable.l0] at H
   revert H; refine tq_dd (fun c13b0 H => ?_) (fun c13b0 H => ?_); rotate_left
   ·obtain ⟨y139, hy139⟩ : ∃ y_ : List Int, y_ = (([0] : List Int)) := ⟨_, rfl⟩; replace H : ((digraph_Reach.f k1 x3_1 y139).bind fun t142 => (system_Reachable.l1 k1 t142 (t142.length : Int) 0)) = some r := by first | (rw [hy139]; exact H) | exact H
    have Ny139 := Aside0.mk hy139; clear hy139; revert H; refine tq_o fun t142 A31 H => ?_; have H' := Aside0.mk H; clear H
    go_wp2_with (first | ((with_reducible refine gate_dst (N := 36) rfl ?_); refine Kd.R_lit (Kd.int .i64) _ 3 ?hg (N := 36) ?hd (xs := ([0] : List Int)) (inner := [.int .i64 0]) (ok := fun _ => True) (okp := fun _ => True) ?hr ?hp (fun _ hk => hk) trivial (Below.refl _ _) (Nat.le_refl _) (by simp) ?_; (case hd => rfl); (case hg => rfl); (case hr => first | (go_simp; done) | (go_simp; rfl)); (case hp => exact (Reps.one (show Kd.M (Kd.int .i64) _ _ _ 0 [.int .i64 0] from rfl) (Reps.none _ _))); intro v140 w32 ho33 hb hg_ hnew_; clear hg_ hnew_; (first | rw [← Ny139.out] at ho33 | (simp only [Int.reduceToNat] at ho33; rw [← Ny139.out] at ho33)); replace HO_3 := Aside0.mk (Kd.S_elder' (by (with_reducible repeat (first | apply Kd.S_alloc | apply Kd.S_drewN | apply Kd.S_drew)); exact HO_3.out) (Kd.R_base ho33) hb); have HO141 := Aside0.mk (Kd.R_lower ho33 (below_size (sq_bs HB.out))); replace BK127 := tq_k BK127 hb; replace HB := tq_s HB hb; clear hb ho33; obtain ⟨Ao34, co34, eo34⟩ := Kd.S_slice HO_3.out; subst eo34; obtain ⟨Ao35, co35, eo35⟩ := Kd.R_slice HO141.out; subst eo35) | ((with_reducible refine gate_callee (f := 31) rfl ?_); refine sq_goes (some 37) Tryd.func31 #[.slice Ao34 x3_1.length co34, .slice Ao35 y139.length co35] ?_; (with_reducible refine (digraph_Reach.calls k1 _ _ x3_1 _ _ y139 t142 _ ?s1 ?s2 ?s3 ?s4 A31.out).mono ?_); (case s1 => exact sq_kc ((Kd.S_reads' HO_3.out).2.2)); (case s2 => exact (Kd.S_reads' HO_3.out).2.1); (case s3 => exact sq_kc ((Kd.R_reads' HO141.out).2.2)); (case s4 => exact (Kd.R_reads' HO141.out).2.1); rintro e w36 ⟨v143, rfl, ho0, hb⟩; refine ⟨_, rfl, ?_⟩; replace HO_3 := Aside0.mk (Kd.S_below (by (with_reducible repeat (first | apply Kd.S_alloc | apply Kd.S_drewN | apply Kd.S_drew)); exact HO_3.out) hb); replace HO141 := tq_r HO141 hb; have HO144 := Aside0.mk (Kd.R_lower ho0 (below_size (sq_bs HB.out))); replace BK127 := tq_k BK127 hb; replace HB := tq_s HB hb; (try clear hb); (try clear ho0); obtain ⟨Ao37, co37, eo37⟩ := Kd.R_slice HO144.out; subst eo37))
    go_loopg [39] k1 (fun kq v39 w' => ∃ (x39_2 : Int), v39 = .int .i64 x39_2 ∧ Aside0 (system_Reachable.l1 kq t142 (t142.length : Int) x39_2 = some r) ∧ Aside0 (kq ≤ k1) ∧ Aside0 (Kd.R Kd.bool 4 w' w.heap.size (fun _ => True) (.slice Ao37 t142.length co37) t142) ∧ Aside0 (w'.heap[gb127]? = some (.cells #[.int .i64 a0_0, (.slice A0_1 l0_1.length c0_1), (.slice A0_2 l0_2.length c0_2)] 25 (0, 0))) ∧ Aside0 (Below w.heap.size w w'))
    case atStart => exact ⟨(0), tq_z, H', ⟨Nat.le_refl _⟩, ⟨sq_kr HO144.out⟩, ⟨sq_bk BK127.out⟩, ⟨sq_bs HB.out⟩⟩
    case round =>
     clear H'
     try clear c13b0
     obtain ⟨x39_2, rfl, HA, HK2, HO_37, BK127, HB⟩ := hrel
     cases gk with
     | zero => exact absurd HA.out (by simp [system_Reachable.l1])
     | succ k2 =>
      have H := HA.out; clear HA
      simp only [system_Reachable.l1] at H
      revert H; refine tq_dd (fun c38b0 H => ?_) (fun c38b0 H => ?_); rotate_left
      ·obtain rfl := Option.some.inj H
       go_wp2
       go_ret
       exact tq_v (sq_bs HB.out)
      revert H; refine tq_i1 fun c39b0 H => ?_; revert H; refine tq_i1 fun c40b0 H => ?_; obtain ⟨bq41, hbq41⟩ : ∃ b_ : Bool, b_ = (rdOf false t142 x39_2) := ⟨_, rfl⟩; replace H : (if bq41 = true then (system_Reachable.l1 k2 t142 (t142.length : Int) (wrap64 (x39_2 + 1))) else (some false)) = some r := by rw [← hbq41] at H; exact H
      have Nbq41 := Aside0.mk hbq41; clear hbq41; cases bq41
      ·replace H := tq_f H; obtain rfl := Option.some.inj H; have p145 : 0 ≤ (x39_2 : Int) := sq_d; have q145 : x39_2 < (t142.length : Int) := sq_d; have LQ145 := Aside0.mk q145; obtain ⟨ad145, e145, hx145_0⟩ := Kd.at_bool (Kd.R_reads' HO_37.out).2.2 x39_2 p145 q145
       (try rw [← Nbq41.out] at hx145_0)
       cases e145; replace p145 := eq_true p145
       replace q145 := eq_true q145
       go_wp2
       go_ret
       exact tq_v (sq_bs HB.out)
      replace H := tq_t H; have H' := Aside0.mk H; clear H; have p145 : 0 ≤ (x39_2 : Int) := sq_d; have q145 : x39_2 < (t142.length : Int) := sq_d; have LQ145 := Aside0.mk q145; obtain ⟨ad145, e145, hx145_0⟩ := Kd.at_bool (Kd.R_reads' HO_37.out).2.2 x39_2 p145 q145
      (try rw [← Nbq41.out] at hx145_0)
      cases e145; replace p145 := eq_true p145
      replace q145 := eq_true q145
      go_wp2
      go_roundg k2
      case measure => have := HK1.out; have := HK2.out; omega
      case rel => exact ⟨(wrap64 (x39_2 + 1)), tq_z, H', ⟨by have := HK1.out; have := HK2.out; omega⟩, ⟨sq_kr HO_37.out⟩, ⟨sq_bk BK127.out⟩, ⟨sq_bs HB.out⟩⟩
   revert H; refine tq_i1 fun c14b0 H => ?_; revert H; refine tq_i1 fun c15b0 H => ?_; revert H; refine tq_i1 fun c16b0 H => ?_; revert H; refine tq_i1 fun c17b0 H => ?_; revert H; refine tq_i fun c18 H => ?_; have LMc18 := Aside0.mk c18; clear c18; obtain ⟨y135, hy135⟩ : ∃ y_ : List Int, y_ = ((rd_L4 x3_1 ((rd_T46 l0_2 x17_1).f0)) ++ [(rd_T46 l0_2 x17_1).f2]) := ⟨_, rfl⟩; replace H : (system_Reachable.l0 k1 (x3_1.set (((rd_T46 l0_2 x17_1).f0) : Int).toNat y135) l0_2 (l0_2.length : Int) (wrap64 (x17_1 + 1))) = some r := by first | (rw [hy135]; exact H) | exact H
   have Ny135 := Aside0.mk hy135; clear hy135; obtain ⟨y138, hy138⟩ : ∃ y_ : List (List Int), y_ = (x3_1.set (((rd_T46 l0_2 x17_1).f0) : Int).toNat y135) := ⟨_, rfl⟩; replace H : (system_Reachable.l0 k1 y138 l0_2 (l0_2.length : Int) (wrap64 (x17_1 + 1))) = some r := by first | (rw [hy138]; exact H) | exact H
   have Ny138 := Aside0.mk hy138; clear hy138; have H' := Aside0.mk H; clear H; have p132 : 0 ≤ (x17_1 : Int) := sq_d; have q132 : x17_1 < (l0_2.length : Int) := sq_d; have LQ132 := Aside0.mk q132; obtain ⟨ad132, e132, hx132_0, hx132_1, hx132_2⟩ := at_T46 HR0_2.out x17_1 p132 q132; cases e132; replace hx132_0 := tq_hx HB hx132_0; replace hx132_1 := tq_hx HB hx132_1; replace hx132_2 := tq_hx HB hx132_2; replace p132 := eq_true p132; replace q132 := eq_true q132
   try go_wp2_with (first | ((with_reducible refine gate_dst (N := 5) rfl ?_); refine sq_box 5 #[.int .i64 0, .int .i64 0, .int .i64 0] 46 ?_; intro gb133 hg w20 hbox hb; replace HO_3 := Aside0.mk (Kd.S_below (by (with_reducible repeat (first | apply Kd.S_alloc | apply Kd.S_drewN | apply Kd.S_drew)); exact HO_3.out) hb); have BK133 := Aside0.mk hbox; have GW133 := tq_w HB hg; have GE133 := tq_w HB hg; replace HB := tq_s HB hb; have NB127_133 := tq_nl BK127 hg; have NB133_127 := tq_ng BK127 hg; replace BK127 := tq_k BK127 hb; clear hb hbox hg; have hnb21 := NB133_127.out; have hnc21 := NB127_133.out; obtain ⟨hcz22_0, hcz22_1, hcz22_2, hfz22_0, hfz22_1, hfz22_2⟩ := tq_3 (w := w20) BK133))
   have n0_ : Aside0 (Kd.S (Kd.slice 3 (Kd.int .i64)) 37 (((w20.setCell ⟨gb133, 0, none⟩ (.int .i64 ((rd_T46 l0_2 x17_1).f0))).setCell ⟨gb133, 1, none⟩ (.int .i64 ((rd_T46 l0_2 x17_1).f1))).setCell ⟨gb133, 2, none⟩ (.int .i64 ((rd_T46 l0_2 x17_1).f2))) w.heap.size (fun _ => True) v130 x3_1) := ⟨by (with_reducible repeat (first | apply Kd.S_alloc | apply Kd.S_drewN | apply Kd.S_drew)); exact Kd.S_mono (Kd.S_far (p := ⟨gb133, 2, none⟩) (Kd.S_far (p := ⟨gb133, 1, none⟩) (Kd.S_far (p := ⟨gb133, 0, none⟩) (Kd.S_types HO_3.out BK133.out (by decide)) (fun _ hk => hk.2) (.int .i64 ((rd_T46 l0_2 x17_1).f0))) (fun _ hk => hk.2) (.int .i64 ((rd_T46 l0_2 x17_1).f1))) (fun _ hk => hk.2) (.int .i64 ((rd_T46 l0_2 x17_1).f2))) (fun _ hk => trivial)⟩; have n1_ : Aside0 ((((w20.setCell ⟨gb133, 0, none⟩ (.int .i64 ((rd_T46 l0_2 x17_1).f0))).setCell ⟨gb133, 1, none⟩ (.int .i64 ((rd_T46 l0_2 x17_1).f1))).setCell ⟨gb133, 2, none⟩ (.int .i64 ((rd_T46 l0_2 x17_1).f2))).heap[gb127]? = some (.cells #[.int .i64 a0_0, .slice A0_1 l0_1.length c0_1, .slice (some ad132) l0_2.length c0_2] 25 (0, 0))) := ⟨by refine tq_b ?_; refine blk_far ?_ NB127_133.out _; refine tq_b ?_; refine blk_far ?_ NB127_133.out _; refine tq_b ?_; refine blk_far ?_ NB127_133.out _; refine tq_b ?_; exact BK127.out⟩; have n2_ : Aside0 ((((w20.setCell ⟨gb133, 0, none⟩ (.int .i64 ((rd_T46 l0_2 x17_1).f0))).setCell ⟨gb133, 1, none⟩ (.int .i64 ((rd_T46 l0_2 x17_1).f1))).setCell ⟨gb133, 2, none⟩ (.int .i64 ((rd_T46 l0_2 x17_1).f2))).heap[gb133]? = some (.cells #[.int .i64 ((rd_T46 l0_2 x17_1).f0), .int .i64 ((rd_T46 l0_2 x17_1).f1), .int .i64 ((rd_T46 l0_2 x17_1).f2)] 46 (0, 0))) := ⟨by refine tq_b ?_; refine blk_put (cs := #[.int .i64 ((rd_T46 l0_2 x17_1).f0), .int .i64 ((rd_T46 l0_2 x17_1).f1), .int .i64 0]) ?_ 2 _ rfl; refine tq_b ?_; refine blk_put (cs := #[.int .i64 ((rd_T46 l0_2 x17_1).f0), .int .i64 0, .int .i64 0]) ?_ 1 _ rfl; refine tq_b ?_; refine blk_put (cs := #[.int .i64 0, .int .i64 0, .int .i64 0]) ?_ 0 _ rfl; refine tq_b ?_; exact BK133.out⟩; have n3_ : Aside0 (Below w.heap.size w (((w20.setCell ⟨gb133, 0, none⟩ (.int .i64 ((rd_T46 l0_2 x17_1).f0))).setCell ⟨gb133, 1, none⟩ (.int .i64 ((rd_T46 l0_2 x17_1).f1))).setCell ⟨gb133, 2, none⟩ (.int .i64 ((rd_T46 l0_2 x17_1).f2)))) := ⟨sq_bs HB.out⟩
   (try clear HO_3)
   (try clear BK127)
   (try clear BK133)
   (try clear HB)
   generalize (((w20.setCell ⟨gb133, 0, none⟩ (.int .i64 ((rd_T46 l0_2 x17_1).f0))).setCell ⟨gb133, 1, none⟩ (.int .i64 ((rd_T46 l0_2 x17_1).f1))).setCell ⟨gb133, 2, none⟩ (.int .i64 ((rd_T46 l0_2 x17_1).f2))) = w23 at n0_ n1_ n2_ n3_ ⊢
   have HO_3 := n0_; have BK127 := n1_; have BK133 := n2_; have HB := n3_; clear n0_ n1_ n2_ n3_; replace HO_3 := Aside0.mk (Kd.S_drew HO_3.out); replace BK127 := Aside0.mk (blk_drew BK127.out); replace BK133 := Aside0.mk (blk_drew BK133.out); replace HB := Aside0.mk (below_drew1 HB.out); obtain ⟨Ao25, co25, eo25⟩ := Kd.S_slice HO_3.out
   (first | subst eo25 | (injection eo25 with f1_ f2_ f3_; have f4_ := f1_.symm; have f5_ := f3_.symm; clear f1_ f2_ f3_; subst f4_; subst f5_))
   have p134 : 0 ≤ (((rd_T46 l0_2 x17_1).f0) : Int) := sq_d; have q134 : ((rd_T46 l0_2 x17_1).f0) < (x3_1.length : Int) := sq_d; obtain ⟨ad134, A134_0, c134_0, e134, hx134_0, hl134_0, hi134_0⟩ := at_L4 (Kd.S_reads' HO_3.out).2.2 ((rd_T46 l0_2 x17_1).f0) p134 q134; cases e134; obtain ⟨ce134, hce134, hMe134, hcc134⟩ := Kd.S_get HO_3.out [] ((rd_T46 l0_2 x17_1).f0) p134 (by first | exact q134 | exact sq_d | (have e_ := (Kd.S_reads' HO_3.out).1; omega)); obtain ⟨ve134_0, rfl, ge134_0⟩ := hMe134; have hv134_0 := hcc134 0 _ rfl; rw [Nat.add_zero, show ((Kd.slice 3 (Kd.int .i64))).sz = 1 from rfl, Nat.mul_one] at hv134_0; replace hv134_0 := Option.some.inj (hv134_0.symm.trans hx134_0); rw [hv134_0] at ge134_0; have HL134_0 := Aside0.mk (show Kd.R (Kd.int .i64) 3 _ _ _ _ (rd_L4 x3_1 ((rd_T46 l0_2 x17_1).f0)) from ge134_0); clear hv134_0 ge134_0; have HX134_0 := Aside0.mk hx134_0; clear hcc134 hce134; have HR134_0 := Aside0.mk hi134_0; have HC134_0 := Aside0.mk hl134_0; clear hi134_0 hl134_0; replace p134 := eq_true p134; replace q134 := eq_true q134; obtain ⟨go26, co26, eo26, gb26, gl26, cl26, HG26⟩ := Kd.S_form HO_3.out (by have h_ : (((rd_T46 l0_2 x17_1).f0) : Int) < ((x3_1.length : Int) : Int) := sq_d; have h2_ : 0 ≤ (((rd_T46 l0_2 x17_1).f0) : Int) := sq_d; omega)
   (first | cases eo26 | (injection eo26 with ea_ en_ ec_; (first | subst ea_ | (injection ea_ with ea_; subst ea_)); subst ec_; clear en_))
   have GB26 := Aside0.mk gb26; have GG26 := Aside0.mk HG26; clear gb26 gl26 HG26
   (first | simp only [add_plain] at hx134_0 | skip)
   obtain ⟨oki26, ce26, hcl26, hM26, hcc26, _, _, hH26⟩ := Kd.S_elem HO_3.out [] (((rd_T46 l0_2 x17_1).f0) : Int) sq_d (by have h_ : (((rd_T46 l0_2 x17_1).f0) : Int) < ((x3_1.length : Int) : Int) := sq_d; first | exact h_ | (have e_ := (Kd.S_reads' HO_3.out).1; omega) | simpa using h_); obtain ⟨ve26_0, rfl, ge26_0⟩ := hM26; have hv26 := hcc26 0 _ rfl; have hX26 := HX134_0.out
   (try simp only [add_plain] at hX26)
   (try simp only [Nat.add_zero] at hv26)
   (try rw [show ((Kd.slice 3 (Kd.int .i64))).sz = 1 from rfl, Nat.mul_one] at hv26)
   replace hv26 := Option.some.inj (hv26.symm.trans hX26); subst hv26; clear hX26 hcc26 hcl26; have UU26 := Aside0.mk (show Kd.R (Kd.int .i64) 3 _ w.heap.size oki26 (.slice A134_0 (rd_L4 x3_1 ((rd_T46 l0_2 x17_1).f0)).length c134_0) (rd_L4 x3_1 ((rd_T46 l0_2 x17_1).f0)) from ge26_0); have HH26 := Aside0.mk hH26; have HN26 := Aside0.mk (Kd.S_reads' HO_3.out).1; clear hH26 ge26_0; refine start_ (n := 14) (S := fun w' => w'.cell? ⟨gb133, 0, none⟩ = some (.int .i64 ((rd_T46 l0_2 x17_1).f0)) ∧ w'.cell? ⟨gb133, 1, none⟩ = some (.int .i64 ((rd_T46 l0_2 x17_1).f1)) ∧ w'.cell? ⟨gb133, 2, none⟩ = some (.int .i64 ((rd_T46 l0_2 x17_1).f2)) ∧ w'.cell? ⟨go26, (((rd_T46 l0_2 x17_1).f0)).toNat, none⟩ = some (.slice A134_0 (rd_L4 x3_1 ((rd_T46 l0_2 x17_1).f0)).length c134_0)) (ds := [13]) #[false, false, false, false, false, false, false, false, false, false, false, false, false, false] (by kernel_rfl) rfl rfl ⟨tq_q BK133 0, tq_q BK133 1, tq_q BK133 2, hx134_0⟩ (fun hHeld => ?_); refine with_tabW system_Reachable.tab7 system_Reachable.bits7 (fun HT_ HW_ => ?_)
   generalize w23.drew = w24 at HO_3 BK127 BK133 HB GG26 HH26 HL134_0 HR134_0 HX134_0 UU26 hx134_0 hHeld ⊢
   refine sq_p 0 21 (sqm 14 1) HT_.out ?_; refine sq_p 1 22 (sqm 14 3) HT_.out ?_; refine sq_p 3 24 (sqm 14 11) HT_.out ?_; refine sq_p 4 25 (sqm 14 27) HT_.out ?_; refine sq_p 8 29 (sqm 14 283) HT_.out ?_; refine sq_t 2 23 (sqm 14 287) HT_.out HW_.out hHeld ?_; refine sq_t 5 26 (sqm 14 319) HT_.out HW_.out hHeld ?_; refine sq_p 6 27 (sqm 14 383) HT_.out ?_; refine sq_t 7 28 (sqm 14 511) HT_.out HW_.out hHeld ?_; refine sq_t 9 30 (sqm 14 1023) HT_.out HW_.out hHeld ?_; refine one_ (i := 10) (N := some 31) (sqm 14 2047) rfl rfl (one_of HT_.out (by kernel_rfl)) (by decide) (fun K hK => ?_); refine value_ (w1 := ?_) (v := ?_) (by rfl) rfl ?_ ?_; rotate_left 2
   ·go_simp
    constructor
    ·rfl
    ·rfl
   refine hK.out _ _ ⟨(blk_cell (blk_alloc BK133.out _) 0).trans rfl, (blk_cell (blk_alloc BK133.out _) 1).trans rfl, (blk_cell (blk_alloc BK133.out _) 2).trans rfl, (World.cell?_alloc_lt _ _ _ (World.block_lt_of_cell? _ _ (hHeld.2.2.2))).trans (hHeld.2.2.2)⟩ (fun hHeld => ?_); clear hK K; refine norm_ (a' := ?_) ?_ ?_; rotate_left
   ·show Act.put _ (some 31) _ = _
    simp only [Act.put, List.setIfInBounds_toArray, List.set_cons_zero, List.set_cons_succ, i64_w, i32_w]
    rfl
   refine one_ (i := 11) (N := some 32) (sqm 14 4095) rfl rfl (one_of HT_.out (by kernel_rfl)) (by decide) (fun K hK => ?_); refine Kd.R_append_step (Kd.int .i64) (w0 := w) w.heap.size (by rfl) (.tmp 28) (.tmp 31) 37 3 (.int .i64 0) 8 rfl Tryd.underlying37 info3 rfl (by decide) (by omega) (.slice A134_0 (rd_L4 x3_1 ((rd_T46 l0_2 x17_1).f0)).length c134_0) (rd_L4 x3_1 ((rd_T46 l0_2 x17_1).f0)) ((rd_T46 l0_2 x17_1).f2) [.int .i64 ((rd_T46 l0_2 x17_1).f2)] (fun k_ => oki26 k_ ∨ ((fun _ => True)) k_ ∧ w24.heap.size ≤ k_) (fun _ => False) rfl rfl ?aP (fun _ hk => hk.elim) ?aF ?aO ?aB ?aS ?aL ?_
   (case aP => exact rfl)
   (case aB => exact (sq_bs HB.out))
   (case aF => exact (fun k_ hk => .inr ⟨trivial, hk⟩))
   (case aO => exact (by (with_reducible repeat (first | apply Kd.R_alloc | apply Kd.R_drewN | apply Kd.R_drew)); exact Kd.R_mono UU26.out (fun _ hk => .inl hk)))
   (case aS => exact (below_size (sq_bs HB.out)))
   (case aL => have := LMc18.out; omega)
   intro v136 w27 ho hb hg hat
   (first | have HS3_ := cell_grown hg (hHeld.2.2.2) (by first | (rw [add_block]; exact (fun e_ => ((HL134_0.out.1 _ e_.symm).2) rfl)) | (show some (Addr.add _ _).block ≠ _; rw [add_block]; exact (fun e_ => ((HL134_0.out.1 _ e_.symm).2) rfl)) | exact (fun e_ => ((HL134_0.out.1 _ e_.symm).2) rfl)) | have HS3_ := cell_grown hg (cell_unalloc (hHeld.2.2.2) (by first | (rw [add_block]; exact Kd.S_lt HO_3.out _ rfl) | (show (Addr.add _ _).block < _; rw [add_block]; exact Kd.S_lt HO_3.out _ rfl) | exact Kd.S_lt HO_3.out _ rfl)) (by first | (rw [add_block]; exact (fun e_ => ((HL134_0.out.1 _ e_.symm).2) rfl)) | (show some (Addr.add _ _).block ≠ _; rw [add_block]; exact (fun e_ => ((HL134_0.out.1 _ e_.symm).2) rfl)) | exact (fun e_ => ((HL134_0.out.1 _ e_.symm).2) rfl)))
   rw [← Ny135.out] at ho; replace BK127 := tq_gr BK127 hg (Kd.R_ne HL134_0.out BK127.out (by decide)); replace BK133 := tq_gr BK133 hg (Kd.R_ne HL134_0.out BK133.out (by decide)); replace HB := Aside0.mk hb; replace HH26 := Aside0.mk (Kd.H_grown (Kd.H_widen (by repeat (first | exact HH26.out | refine Kd.H_alloc ?_ _ | refine Kd.H_drewN ?_ _ | refine Kd.H_drew ?_))) hg (fun k_ e_ => .inl (UU26.out.1 k_ e_))); have HO137 := Aside0.mk ho; clear HO_3 UU26 HL134_0; clear ho hb hg hat; have p19 : 0 ≤ (((rd_T46 l0_2 x17_1).f0) : Int) := sq_d; have q19 : (((rd_T46 l0_2 x17_1).f0) : Int) < ((x3_1.length : Int) : Int) := sq_d; replace p19 := eq_true p19; replace q19 := eq_true q19; obtain ⟨Ao30, co30, eo30⟩ := Kd.R_slice HO137.out
   (first | subst eo30 | (injection eo30 with f1_ f2_ f3_; have f4_ := f1_.symm; have f5_ := f3_.symm; clear f1_ f2_ f3_; subst f4_; subst f5_))
   obtain ⟨_, _, hraw28, _, _, hcc28, _⟩ := Kd.H_raw HH26.out sq_d (by have h_ : (((rd_T46 l0_2 x17_1).f0) : Int) < ((x3_1.length : Int) : Int) := sq_d; first | exact h_ | (have e_ := (HN26.out); omega) | simpa using h_); obtain ⟨_, hfr28⟩ := Kd.H_at HH26.out sq_d (by have h_ : (((rd_T46 l0_2 x17_1).f0) : Int) < ((x3_1.length : Int) : Int) := sq_d; first | exact h_ | (have e_ := (HN26.out); omega) | simpa using h_); have hx28_0 := hcc28 0 _ rfl; have hf28_0 := hfr28 0
   (try simp only [Nat.add_zero] at hx28_0 hf28_0)
   (try rw [show ((Kd.slice 3 (Kd.int .i64))).sz = 1 from rfl, Nat.mul_one] at hx28_0)
   (try rw [show ((Kd.slice 3 (Kd.int .i64))).sz = 1 from rfl, Nat.mul_one] at hf28_0)
   have HP28 := Kd.S_seg0 HH26.out sq_d (by have h_ : (((rd_T46 l0_2 x17_1).f0) : Int) < ((x3_1.length : Int) : Int) := sq_d; first | exact h_ | (have e_ := (HN26.out); omega) | simpa using h_) (seg := [.slice Ao30 y135.length co30]) (j := 0) (show 1 ≤ 1 from by decide) (x' := y135) (Kd.M_row HO137.out) (fun _ hk => hk)
   (try simp only [show ((Kd.slice 3 (Kd.int .i64))).sz = 1 from rfl, Nat.mul_one, Nat.add_zero] at HP28)
   clear hcc28 hfr28; have HNB127_go26 := Aside0.mk (show gb127 ≠ go26 from by have h_ := Kd.R_ne hraw28 BK127.out (by decide); intro e_; exact h_ (by rw [e_]; rfl)); have HNB133_go26 := Aside0.mk (show gb133 ≠ go26 from by have h_ := Kd.R_ne hraw28 BK133.out (by decide); intro e_; exact h_ (by rw [e_]; rfl)); have HS28 := HP28.1; rw [← Ny138.out] at HS28; have HQ28 := Aside0.mk HS28; obtain ⟨_, hgg28⟩ := Kd.R_typed hraw28 go26 rfl; have GG28_ := Aside0.mk hgg28; clear HP28 HS28 hgg28; refine hK.out _ _ ⟨tq_q BK133 0, tq_q BK133 1, tq_q BK133 2, HS3_⟩ (fun hHeld => ?_); clear hK K; refine norm_ (a' := ?_) ?_ ?_; rotate_left
   ·show Act.put _ (some 32) _ = _
    simp only [Act.put, List.setIfInBounds_toArray, List.set_cons_zero, List.set_cons_succ, i64_w, i32_w]
    rfl
   refine sq_p 12 33 (sqm 14 8191) HT_.out ?_; refine last_ (i := 13) (N := none) (sqm 14 16383) rfl rfl (one_of HT_.out (by kernel_rfl)) (by decide) (fun K hK => ?_); refine skip_ (w1 := ?_) (by rfl) rfl ?_ ?_; rotate_left
   ·go_simp
    rfl
   refine hK.out _ _ ?_; clear hK K; refine done_ (done_of HT_.out (by kernel_rfl)) ?_
   try go_wp2
   go_roundg k1
   case measure => have := HK1.out; omega
   case rel => exact ⟨(y138), (wrap64 (x17_1 + 1)), tq_z, H', ⟨by have := HK1.out; omega⟩, ⟨by (with_reducible repeat (first | apply Kd.S_alloc | apply Kd.S_drewN | apply Kd.S_drew)); exact HQ28.out⟩, ⟨by refine tq_b ?_; refine blk_far ?_ HNB127_go26.out _; refine tq_b ?_; exact BK127.out⟩, ⟨sq_bs HB.out⟩⟩
end Go.Proofs.YtcnliampiibpbaaDoor.PAll
