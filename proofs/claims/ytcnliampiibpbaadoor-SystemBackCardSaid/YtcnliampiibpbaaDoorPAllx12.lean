/- Lean functions for Go functions, each with the proof that the call returns what it says; printed by wip/tools/myprint.py. -/
-- squeezed
-- tight
import Derived.Test.YtcnliampiibpbaaDoorTq
import Derived.Test.YtcnliampiibpbaaDoorPAllx0
import Derived.Test.YtcnliampiibpbaaDoorPAllx3
import Derived.Test.YtcnliampiibpbaaDoorPAllx4
import Derived.Test.YtcnliampiibpbaaDoorPAllx11
namespace Go.Proofs.YtcnliampiibpbaaDoor.PAll
open Go.RowKit Go.Proofs.YtcnliampiibpbaaDoorW.PrintWords Go.Proofs.YtcnliampiibpbaaDoorW.PrintLast Go.Proofs.YtcnliampiibpbaaDoorW.PrintMore
attribute [local go_sem] Instr.field asAgg max2_int min2_int max_two min_two max_three min_three max_four min_four   -- for this text's walks alone
set_option linter.unusedVariables false
set_option linter.unusedSimpArgs false

/-! ### system_Text: function 7 -/
mutual
def system_Text.l0 : Nat → ByteArray → List ByteArray → Int → Int → Int → List ByteArray → List (S46) → Option (ByteArray × Int × Int)
 | 0, _, _, _, _, _, _, _ => none
 | k + 1, x5, x22, x23, x24, x215000, x215001, x215002 => if x24 < x23 then (if 0 ≤ x24 then (if x24 < (x22.length : Int) then (if 6 + (rdOf ByteArray.empty x22 x24).size ≤ 9223372036854775807 then (if ((⟨#[101, 118, 101, 110, 116, 32]⟩ : ByteArray) ++ (rdOf ByteArray.empty x22 x24)).size + 1 ≤ 9223372036854775807 then (if x5.size + (((⟨#[101, 118, 101, 110, 116, 32]⟩ : ByteArray) ++ (rdOf ByteArray.empty x22 x24)) ++ (⟨#[10]⟩ : ByteArray)).size ≤ 9223372036854775807 then (system_Text.l0 k (x5 ++ (((⟨#[101, 118, 101, 110, 116, 32]⟩ : ByteArray) ++ (rdOf ByteArray.empty x22 x24)) ++ (⟨#[10]⟩ : ByteArray))) x22 x23 (wrap64 (x24 + 1)) x215000 x215001 x215002) else (none)) else (none)) else (none)) else (none)) else (none)) else (system_Text.l1 k x5 x215002 (x215002.length : Int) 0 x215000 x215001 x215002)
def system_Text.l1 : Nat → ByteArray → List (S46) → Int → Int → Int → List ByteArray → List (S46) → Option (ByteArray × Int × Int)
 | 0, _, _, _, _, _, _, _ => none
 | k + 1, x5, x35, x36, x37, x215000, x215001, x215002 => if x37 < x36 then (if 0 ≤ x37 then (if x37 < (x35.length : Int) then ((strconv_Itoa.f ((rd_T46 x35 x37).f0)).bind fun t223 => (if t223.size + 1 ≤ 9223372036854775807 then (if 0 ≤ ((rd_T46 x35 x37).f1) then (if ((rd_T46 x35 x37).f1) < (x215001.length : Int) then (if (t223 ++ (⟨#[32]⟩ : ByteArray)).size + (rdOf ByteArray.empty x215001 ((rd_T46 x35 x37).f1)).size ≤ 9223372036854775807 then (if ((t223 ++ (⟨#[32]⟩ : ByteArray)) ++ (rdOf ByteArray.empty x215001 ((rd_T46 x35 x37).f1))).size + 1 ≤ 9223372036854775807 then ((strconv_Itoa.f ((rd_T46 x35 x37).f2)).bind fun t225 => (if (((t223 ++ (⟨#[32]⟩ : ByteArray)) ++ (rdOf ByteArray.empty x215001 ((rd_T46 x35 x37).f1))) ++ (⟨#[32]⟩ : ByteArray)).size + t225.size ≤ 9223372036854775807 then (if ((((t223 ++ (⟨#[32]⟩ : ByteArray)) ++ (rdOf ByteArray.empty x215001 ((rd_T46 x35 x37).f1))) ++ (⟨#[32]⟩ : ByteArray)) ++ t225).size + 1 ≤ 9223372036854775807 then (if x5.size + (((((t223 ++ (⟨#[32]⟩ : ByteArray)) ++ (rdOf ByteArray.empty x215001 ((rd_T46 x35 x37).f1))) ++ (⟨#[32]⟩ : ByteArray)) ++ t225) ++ (⟨#[10]⟩ : ByteArray)).size ≤ 9223372036854775807 then (system_Text.l1 k (x5 ++ (((((t223 ++ (⟨#[32]⟩ : ByteArray)) ++ (rdOf ByteArray.empty x215001 ((rd_T46 x35 x37).f1))) ++ (⟨#[32]⟩ : ByteArray)) ++ t225) ++ (⟨#[10]⟩ : ByteArray))) x35 x36 (wrap64 (x37 + 1)) x215000 x215001 x215002) else (none)) else (none)) else (none))) else (none)) else (none)) else (none)) else (none)) else (none))) else (none)) else (none)) else (some (x5, 0, 0))
end
def system_Text.f (k : Nat) (a0_0 : Int) (l0_1 : List ByteArray) (l0_2 : List (S46)) : Option (ByteArray × Int × Int) := (system_Check.f k a0_0 l0_1 l0_2).bind fun bt216 => (if bt216.1 = 0 then ((strconv_Itoa.f a0_0).bind fun t219 => (if 7 + t219.size ≤ 9223372036854775807 then (if ((⟨#[115, 116, 97, 116, 101, 115, 32]⟩ : ByteArray) ++ t219).size + 1 ≤ 9223372036854775807 then (system_Text.l0 k (((⟨#[115, 116, 97, 116, 101, 115, 32]⟩ : ByteArray) ++ t219) ++ (⟨#[10]⟩ : ByteArray)) l0_1 (l0_1.length : Int) 0 a0_0 l0_1 l0_2) else (none)) else (none))) else (some ((⟨#[]⟩ : ByteArray), bt216.1, bt216.2)))
theorem system_Text.mono_l : ∀ k, (∀ y0 y1 y2 y3 y4 y5 y6, LeO (system_Text.l0 k y0 y1 y2 y3 y4 y5 y6) (system_Text.l0 (k + 1) y0 y1 y2 y3 y4 y5 y6)) ∧ (∀ y0 y1 y2 y3 y4 y5 y6, LeO (system_Text.l1 k y0 y1 y2 y3 y4 y5 y6) (system_Text.l1 (k + 1) y0 y1 y2 y3 y4 y5 y6))
 | 0 => ⟨fun _ _ _ _ _ _ _ r h => by simp [system_Text.l0] at h, fun _ _ _ _ _ _ _ r h => by simp [system_Text.l1] at h⟩
 | k + 1 => by
  obtain ⟨ih0, ih1⟩ := system_Text.mono_l k
  refine ⟨?_, ?_⟩
  all_goals intros
  all_goals first | unfold system_Text.l0 | unfold system_Text.l1
  all_goals repeat' (with_reducible first | exact ih0 _ _ _ _ _ _ _ | exact ih1 _ _ _ _ _ _ _ | exact system_Check.mono _ _ _ _ | exact LeO.refl _ | exact LeO.none _ | refine LeO.ite ?_ ?_ | refine LeO.bind ?_ (fun _ => ?_))
theorem system_Text.mono : ∀ a0 a1 a2 k, LeO (system_Text.f k a0 a1 a2) (system_Text.f (k + 1) a0 a1 a2) := by
 intro a0 a1 a2 k
 obtain ⟨ih0, ih1⟩ := system_Text.mono_l k
 unfold system_Text.f
 repeat' (with_reducible first | exact ih0 _ _ _ _ _ _ _ | exact ih1 _ _ _ _ _ _ _ | exact system_Check.mono _ _ _ _ | exact LeO.refl _ | exact LeO.none _ | refine LeO.ite ?_ ?_ | refine LeO.bind ?_ (fun _ => ?_))
def system_Text.T13 : Bool × List (List Nat × List Nat) := (true, [([], []), ([], []), ([1], [1]), ([2], [2]), ([3], [3]), ([], []), ([5], [5]), ([], []), ([7], [7]), ([6, 8], [6, 8]), ([9], [9]), ([4, 10], [4, 10]), ([11], [11]), ([], []), ([13], [13]), ([14, 3], [14]), ([12, 15], [12, 15]), ([16], [16]), ([0, 17], [0, 17]), ([18, 15, 0, 1, 2, 3, 4, 5, 6, 7, 8, 9, 10, 11, 12, 13, 14, 15, 16, 17, 18], [0, 18])])
def system_Text.B13 : List Nat := [0, 0, 2, 6, 14, 0, 32, 0, 128, 480, 992, 2046, 4094, 0, 8192, 24590, 65534, 131070, 262143, 524287]
theorem system_Text.tab13 : rtab .any (opsOf Tryd.f7 13) = system_Text.T13 := by kernel_rfl
theorem system_Text.bits13 : waitsOk system_Text.T13.2 system_Text.B13 = true := by kernel_rfl
set_option maxHeartbeats 8000000 in
set_option maxRecDepth 100000 in
theorem system_Text.calls (k : Nat) (a0_0 : Int) (A0_1 : Option Addr) (c0_1 : Nat) (l0_1 : List ByteArray) (A0_2 : Option Addr) (c0_2 : Nat) (l0_2 : List (S46)) (r1 : ByteArray) (r2 : Int) (r3 : Int) (w : World) (hL : LaidW w) (hr0_1 : Kd.C Kd.string w A0_1 l0_1.length l0_1) (hc0_1 : l0_1.length ≤ c0_1) (hr0_2 : Kd.C k46 w A0_2 l0_2.length l0_2) (hc0_2 : l0_2.length ≤ c0_2) (h : system_Text.f k a0_0 l0_1 l0_2 = some (r1, r2, r3)) :
  Calls Tryd.prog 7 #[.agg #[.int .i64 a0_0, .slice A0_1 l0_1.length c0_1, .slice A0_2 l0_2.length c0_2]] w fun e w' => e = .returned (.tuple #[.string r1, .agg #[.int .i64 r2, .int .i64 r3]]) ∧ Below w.heap.size w w' := by
 have hv30 := Tryd.underlying30; have hu25 := Tryd.underlying25; have hu30 := Tryd.underlying30; have hu46 := Tryd.underlying46; have HLW := Aside0.mk hL; clear hL; have HR0_1 := Aside0.mk hr0_1; have HC0_1 := Aside0.mk hc0_1; clear hr0_1 hc0_1; have HR0_2 := Aside0.mk hr0_2; have HC0_2 := Aside0.mk hc0_2; clear hr0_2 hc0_2; have HB := Aside0.mk (Below.refl w.heap.size w); have H : ((system_Check.f k a0_0 l0_1 l0_2).bind fun bt216 => (if bt216.1 = 0 then ((strconv_Itoa.f a0_0).bind fun t219 => (if 7 + t219.size ≤ 9223372036854775807 then (if ((⟨#[115, 116, 97, 116, 101, 115, 32]⟩ : ByteArray) ++ t219).size + 1 ≤ 9223372036854775807 then (system_Text.l0 k (((⟨#[115, 116, 97, 116, 101, 115, 32]⟩ : ByteArray) ++ t219) ++ (⟨#[10]⟩ : ByteArray)) l0_1 (l0_1.length : Int) 0 a0_0 l0_1 l0_2) else (none)) else (none))) else (some ((⟨#[]⟩ : ByteArray), bt216.1, bt216.2)))) = some (r1, r2, r3) := h; clear h; replace H := Option.bind_eq_some_iff.mp H; obtain ⟨⟨t216, t217⟩, A20, H⟩ := H; replace H : (if t216 = 0 then ((strconv_Itoa.f a0_0).bind fun t219 => (if 7 + t219.size ≤ 9223372036854775807 then (if ((⟨#[115, 116, 97, 116, 101, 115, 32]⟩ : ByteArray) ++ t219).size + 1 ≤ 9223372036854775807 then (system_Text.l0 k (((⟨#[115, 116, 97, 116, 101, 115, 32]⟩ : ByteArray) ++ t219) ++ (⟨#[10]⟩ : ByteArray)) l0_1 (l0_1.length : Int) 0 a0_0 l0_1 l0_2) else (none)) else (none))) else (some ((⟨#[]⟩ : ByteArray), t216, t217))) = some (r1, r2, r3) := H; have A2 := Aside0.mk A20; clear A20; revert H; refine tq_rr (fun c3 H => ?_) (fun c3 H => ?_); rotate_left
 ·obtain ⟨c3b0, c3b1⟩ := tq_n c3
  simp only [Option.some.injEq, Prod.mk.injEq] at H
  obtain ⟨rfl, rfl, rfl⟩ := H
  go_enter Tryd.func7, Tryd.ntmps7
  try go_wp2_with (first | ((with_reducible refine gate_dst (N := 1) rfl ?_); refine sq_box 1 #[.int .i64 a0_0, .slice A0_1 l0_1.length c0_1, .slice A0_2 l0_2.length c0_2] 25 ?_; intro gb214 hg w53 hbox hb; have BK214 := Aside0.mk hbox; have GW214 := tq_w HB hg; have GE214 := tq_w HB hg; replace HB := tq_s HB hb; clear hb hbox hg) | ((with_reducible refine gate_dst (N := 3) rfl ?_); refine sq_box 3 #[.int .i64 0, .int .i64 0] 30 ?_; intro gb215 hg w54 hbox hb; have BK215 := Aside0.mk hbox; have GW215 := tq_w HB hg; have GE215 := tq_w HB hg; replace HB := tq_s HB hb; have NB214_215 := tq_nl BK214 hg; have NB215_214 := tq_ng BK214 hg; replace BK214 := tq_k BK214 hb; clear hb hbox hg; have hnb55 := NB214_215.out; have hnc55 := NB215_214.out; obtain ⟨hcz56_0, hcz56_1, hcz56_2, hfz56_0, hfz56_1, hfz56_2⟩ := tq_3 (w := w54) BK214) | ((with_reducible refine gate_callee (f := 18) rfl ?_); refine sq_goes (some 11) Tryd.func18 #[.agg #[.int .i64 a0_0, .slice A0_1 l0_1.length c0_1, .slice A0_2 l0_2.length c0_2]] ?_; (with_reducible refine (system_Check.calls k a0_0 _ _ l0_1 _ _ l0_2 t216 t217 _ ?s1 ?s2 ?s3 ?s4 A2.out).mono ?_); (case s1 => exact tq_c HR0_1 HB); (case s2 => exact HC0_1.out); (case s3 => exact tq_c HR0_2 HB); (case s4 => exact HC0_2.out); rintro e w57 ⟨rfl, hb⟩; refine ⟨_, rfl, ?_⟩; replace BK214 := tq_k BK214 hb; replace BK215 := tq_k BK215 hb; replace HB := tq_s HB hb; (try clear hb)) | ((with_reducible refine gate_dst (N := 4) rfl ?_); refine sq_box 4 #[.int .i64 0, .int .i64 0] 30 ?_; intro gb218 hg w58 hbox hb; have BK218 := Aside0.mk hbox; have GW218 := tq_w HB hg; have GE218 := tq_w HB hg; replace HB := tq_s HB hb; have NB214_218 := tq_nl BK214 hg; have NB218_214 := tq_ng BK214 hg; replace BK214 := tq_k BK214 hb; have NB215_218 := tq_nl BK215 hg; have NB218_215 := tq_ng BK215 hg; replace BK215 := tq_k BK215 hb; clear hb hbox hg; have hnb59 := NB218_214.out; have hnc59 := NB214_218.out; have hnb60 := NB218_215.out; have hnc60 := NB215_218.out; obtain ⟨hcz61_0, hcz61_1, hfz61_0, hfz61_1⟩ := tq_2 (w := w58) BK218))
  have n0_ : Aside0 (((w58.setCell ⟨gb218, 0, none⟩ (.int .i64 t216)).setCell ⟨gb218, 1, none⟩ (.int .i64 t217)).heap[gb214]? = some (.cells #[.int .i64 a0_0, .slice A0_1 l0_1.length c0_1, .slice A0_2 l0_2.length c0_2] 25 (0, 0))) := ⟨by refine tq_b ?_; refine blk_far ?_ NB214_218.out _; refine tq_b ?_; refine blk_far ?_ NB214_218.out _; refine tq_b ?_; exact BK214.out⟩; have n1_ : Aside0 (((w58.setCell ⟨gb218, 0, none⟩ (.int .i64 t216)).setCell ⟨gb218, 1, none⟩ (.int .i64 t217)).heap[gb215]? = some (.cells #[.int .i64 0, .int .i64 0] 30 (0, 0))) := ⟨by refine tq_b ?_; refine blk_far ?_ NB215_218.out _; refine tq_b ?_; refine blk_far ?_ NB215_218.out _; refine tq_b ?_; exact BK215.out⟩; have n2_ : Aside0 (((w58.setCell ⟨gb218, 0, none⟩ (.int .i64 t216)).setCell ⟨gb218, 1, none⟩ (.int .i64 t217)).heap[gb218]? = some (.cells #[.int .i64 t216, .int .i64 t217] 30 (0, 0))) := ⟨by refine tq_b ?_; refine blk_put (cs := #[.int .i64 t216, .int .i64 0]) ?_ 1 _ rfl; refine tq_b ?_; refine blk_put (cs := #[.int .i64 0, .int .i64 0]) ?_ 0 _ rfl; refine tq_b ?_; exact BK218.out⟩; have n3_ : Aside0 (Below w.heap.size w ((w58.setCell ⟨gb218, 0, none⟩ (.int .i64 t216)).setCell ⟨gb218, 1, none⟩ (.int .i64 t217))) := ⟨sq_bs HB.out⟩
  (try clear BK214)
  (try clear BK215)
  (try clear BK218)
  (try clear HB)
  generalize ((w58.setCell ⟨gb218, 0, none⟩ (.int .i64 t216)).setCell ⟨gb218, 1, none⟩ (.int .i64 t217)) = w62 at n0_ n1_ n2_ n3_ ⊢
  have BK214 := n0_; have BK215 := n1_; have BK218 := n2_; have HB := n3_; clear n0_ n1_ n2_ n3_; replace BK214 := Aside0.mk (blk_drew BK214.out); replace BK215 := Aside0.mk (blk_drew BK215.out); replace BK218 := Aside0.mk (blk_drew BK218.out); replace HB := Aside0.mk (below_drew1 HB.out); refine start_ (n := 3) (S := fun w' => w'.cell? ⟨gb218, 0, none⟩ = some (.int .i64 t216) ∧ w'.cell? ⟨gb218, 1, none⟩ = some (.int .i64 t217)) (ds := []) #[false, false, false] (by kernel_rfl) rfl rfl ⟨tq_q BK218 0, tq_q BK218 1⟩ (fun hHeld => ?_)
  generalize w62.drew = w63 at BK214 BK215 BK218 HB hHeld ⊢
  refine pure_ (i := 1) (N := some 2) (v := ?_) (a' := ?_) #[false, true, false] rfl rfl (by kernel_rfl) (fun _ _ _ h => h) (Or.inl ⟨by rfl, ?_⟩) ?_ ?_; rotate_left
  ·intro w'
   go_simp
   with_reducible rfl
  rotate_left
  ·simp only [Act.put, List.setIfInBounds_toArray, List.set_cons_zero, List.set_cons_succ, i64_w, i32_w]
   rfl
  refine take_ (i := 0) (N := some 15) (v := ?_) (a' := ?_) #[true, true, false] rfl rfl (by kernel_rfl) (fun _ _ _ h => h) (Or.inl ⟨by rfl, ?_⟩) hHeld ?_ ?_; rotate_left
  ·rintro w' ⟨s0, s1⟩
   go_simp
   with_reducible rfl
  rotate_left
  ·simp only [Act.put, List.setIfInBounds_toArray, List.set_cons_zero, List.set_cons_succ, i64_w, i32_w]
   rfl
  refine one_ (i := 2) (N := none) #[true, true, true] rfl rfl (by kernel_rfl) (by decide) (fun K hK => ?_); have hs64 : w63.cell? ⟨gb215, 0, none⟩ = some (.int .i64 0) := tq_q BK215 0; have hfs64 := blk_frozen BK215.out 0; have hns64_0 := NB214_215.out; have hns64_2 := NB218_215.out; have hms64_0 := NB215_214.out; have hms64_2 := NB215_218.out; have hs65 : w63.cell? ⟨gb215, 1, none⟩ = some (.int .i64 0) := tq_q BK215 1; have hfs65 := blk_frozen BK215.out 1; have hns65_0 := NB214_215.out; have hns65_2 := NB218_215.out; have hms65_0 := NB215_214.out; have hms65_2 := NB215_218.out; refine skip_ (w1 := ?_) (by rfl) rfl ?_ ?_; rotate_left
  ·go_simp
   rfl
  refine hK.out _ _ ⟨((cell_far (p := ⟨gb215, _, none⟩) NB218_215.out _).trans (((cell_far (p := ⟨gb215, _, none⟩) NB218_215.out _).trans (hHeld.1)))), ((cell_far (p := ⟨gb215, _, none⟩) NB218_215.out _).trans (((cell_far (p := ⟨gb215, _, none⟩) NB218_215.out _).trans (hHeld.2))))⟩ (fun hHeld => ?_); clear hK K; refine done_ (by kernel_rfl) ?_
  try go_wp2
  refine bodyPost_ret (results_tc rfl _ _ gb215 30 #[.int .i64 t216, .int .i64 t217] (0, 0) _ rfl (by refine tq_b ?_; refine blk_put (cs := #[.int .i64 t216, .int .i64 0]) ?_ 1 _ rfl; refine tq_b ?_; refine blk_put (cs := #[.int .i64 0, .int .i64 0]) ?_ 0 _ rfl; refine tq_b ?_; exact BK215.out) Tryd.underlying30 rfl (by kernel_rfl)) rfl ?_
  exact tq_v (sq_bs HB.out)
 obtain ⟨c3b0, c3b1⟩ := tq_e c3; clear c3; revert H; refine tq_o fun t219 A4 H => ?_; revert H; refine tq_i fun c5 H => ?_; have c5b0 := eq_true c5; have c5b1 : decide (7 + t219.size ≤ 9223372036854775807) = true := decide_eq_true c5
 try have c5b2 : (9223372036854775807 < 7 + t219.size) = False := eq_false (Nat.not_lt.2 c5)
 try (have c5b4 := c5; simp only [ByteArray.size_append, lit_size_, List.length_cons, List.length_nil, Nat.zero_add, Nat.reduceAdd] at c5b4)
 try (have c5b5 := eq_false (Nat.not_lt.2 c5b4))
 revert H; refine tq_i fun c6 H => ?_; have c6b0 := eq_true c6; have c6b1 : decide (((⟨#[115, 116, 97, 116, 101, 115, 32]⟩ : ByteArray) ++ t219).size + 1 ≤ 9223372036854775807) = true := decide_eq_true c6
 try have c6b2 : (9223372036854775807 < ((⟨#[115, 116, 97, 116, 101, 115, 32]⟩ : ByteArray) ++ t219).size + 1) = False := eq_false (Nat.not_lt.2 c6)
 try (have c6b4 := c6; simp only [ByteArray.size_append, lit_size_, List.length_cons, List.length_nil, Nat.zero_add, Nat.reduceAdd] at c6b4)
 try (have c6b5 := eq_false (Nat.not_lt.2 c6b4))
 have H' := Aside0.mk H; clear H
 go_enter Tryd.func7, Tryd.ntmps7
 go_wp2_with (first | ((with_reducible refine gate_dst (N := 1) rfl ?_); refine sq_box 1 #[.int .i64 a0_0, .slice A0_1 l0_1.length c0_1, .slice A0_2 l0_2.length c0_2] 25 ?_; intro gb214 hg w7 hbox hb; have BK214 := Aside0.mk hbox; have GW214 := tq_w HB hg; have GE214 := tq_w HB hg; replace HB := tq_s HB hb; clear hb hbox hg) | ((with_reducible refine gate_dst (N := 3) rfl ?_); refine sq_box 3 #[.int .i64 0, .int .i64 0] 30 ?_; intro gb215 hg w8 hbox hb; have BK215 := Aside0.mk hbox; have GW215 := tq_w HB hg; have GE215 := tq_w HB hg; replace HB := tq_s HB hb; have NB214_215 := tq_nl BK214 hg; have NB215_214 := tq_ng BK214 hg; replace BK214 := tq_k BK214 hb; clear hb hbox hg; have hnb9 := NB214_215.out; have hnc9 := NB215_214.out; obtain ⟨hcz10_0, hcz10_1, hcz10_2, hfz10_0, hfz10_1, hfz10_2⟩ := tq_3 (w := w8) BK214) | ((with_reducible refine gate_callee (f := 18) rfl ?_); refine sq_goes (some 11) Tryd.func18 #[.agg #[.int .i64 a0_0, .slice A0_1 l0_1.length c0_1, .slice A0_2 l0_2.length c0_2]] ?_; (with_reducible refine (system_Check.calls k a0_0 _ _ l0_1 _ _ l0_2 t216 t217 _ ?s1 ?s2 ?s3 ?s4 A2.out).mono ?_); (case s1 => exact tq_c HR0_1 HB); (case s2 => exact HC0_1.out); (case s3 => exact tq_c HR0_2 HB); (case s4 => exact HC0_2.out); rintro e w11 ⟨rfl, hb⟩; refine ⟨_, rfl, ?_⟩; replace BK214 := tq_k BK214 hb; replace BK215 := tq_k BK215 hb; replace HB := tq_s HB hb; (try clear hb)) | ((with_reducible refine gate_dst (N := 4) rfl ?_); refine sq_box 4 #[.int .i64 0, .int .i64 0] 30 ?_; intro gb218 hg w12 hbox hb; have BK218 := Aside0.mk hbox; have GW218 := tq_w HB hg; have GE218 := tq_w HB hg; replace HB := tq_s HB hb; have NB214_218 := tq_nl BK214 hg; have NB218_214 := tq_ng BK214 hg; replace BK214 := tq_k BK214 hb; have NB215_218 := tq_nl BK215 hg; have NB218_215 := tq_ng BK215 hg; replace BK215 := tq_k BK215 hb; clear hb hbox hg; have hnb13 := NB218_214.out; have hnc13 := NB214_218.out; have hnb14 := NB218_215.out; have hnc14 := NB215_218.out; obtain ⟨hcz15_0, hcz15_1, hfz15_0, hfz15_1⟩ := tq_2 (w := w12) BK218; obtain ⟨hcz16_0, hcz16_1, hcz16_2, hfz16_0, hfz16_1, hfz16_2⟩ := tq_3 (w := w12) BK214) | ((with_reducible refine gate_callee (f := 19) rfl ?_); refine sq_goes (some 18) Tryd.func19 #[.int .i64 a0_0] ?_; (with_reducible refine (strconv_Itoa.calls a0_0 t219 _ ?s1 A4.out).mono ?_); (case s1 => exact LaidW.below HLW.out (sq_bs HB.out)); rintro e w17 ⟨rfl, hb⟩; refine ⟨_, rfl, ?_⟩; replace BK214 := Aside0.mk (blk_below (g := gb214) (o := .cells #[.int .i64 a0_0, .slice A0_1 l0_1.length c0_1, .slice A0_2 l0_2.length c0_2] 25 (0, 0)) (by refine tq_b ?_; refine blk_far ?_ NB214_218.out _; refine tq_b ?_; refine blk_far ?_ NB214_218.out _; refine tq_b ?_; exact BK214.out) hb); replace BK215 := Aside0.mk (blk_below (g := gb215) (o := .cells #[.int .i64 0, .int .i64 0] 30 (0, 0)) (by refine tq_b ?_; refine blk_far ?_ NB215_218.out _; refine tq_b ?_; refine blk_far ?_ NB215_218.out _; refine tq_b ?_; exact BK215.out) hb); replace BK218 := Aside0.mk (blk_below (g := gb218) (o := .cells #[.int .i64 t216, .int .i64 t217] 30 (0, 0)) (by refine tq_b ?_; refine blk_put (cs := #[.int .i64 t216, .int .i64 0]) ?_ 1 _ rfl; refine tq_b ?_; refine blk_put (cs := #[.int .i64 0, .int .i64 0]) ?_ 0 _ rfl; refine tq_b ?_; exact BK218.out) hb); replace HB := tq_s HB hb; (try clear hb); obtain ⟨hcz18_0, hcz18_1, hcz18_2, hfz18_0, hfz18_1, hfz18_2⟩ := tq_3 (w := w17) BK214))
 go_loopg [5, 24] k (fun kq v5 v24 w' => ∃ (x5_1 : ByteArray) (x24_1 : Int), v5 = .string x5_1 ∧ v24 = .int .i64 x24_1 ∧ Aside0 (system_Text.l0 kq x5_1 l0_1 (l0_1.length : Int) x24_1 a0_0 l0_1 l0_2 = some (r1, r2, r3)) ∧ Aside0 (kq ≤ k) ∧ Aside0 (w'.heap[gb214]? = some (.cells #[.int .i64 a0_0, (.slice A0_1 l0_1.length c0_1), (.slice A0_2 l0_2.length c0_2)] 25 (0, 0))) ∧ Aside0 (w'.heap[gb215]? = some (.cells #[.int .i64 0, .int .i64 0] 30 (0, 0))) ∧ Aside0 (w'.heap[gb218]? = some (.cells #[.int .i64 t216, .int .i64 t217] 30 (0, 0))) ∧ Aside0 (Below w.heap.size w w'))
 case atStart => exact ⟨(((⟨#[115, 116, 97, 116, 101, 115, 32]⟩ : ByteArray) ++ t219) ++ (⟨#[10]⟩ : ByteArray)), (0), tq_z, tq_z, H', ⟨Nat.le_refl _⟩, ⟨sq_bk BK214.out⟩, ⟨sq_bk BK215.out⟩, ⟨sq_bk BK218.out⟩, ⟨sq_bs HB.out⟩⟩
 case round =>
  clear H'
  try clear c3b0
  try clear c3b1
  try clear c5
  try clear c5b0
  try clear c5b1
  try clear c5b2
  try clear c6
  try clear c6b0
  try clear c6b1
  try clear c6b2
  try clear hcz10_0
  try clear hcz10_1
  try clear hcz10_2
  try clear hcz15_0
  try clear hcz15_1
  try clear hcz16_0
  try clear hcz16_1
  try clear hcz16_2
  try clear hcz18_0
  try clear hcz18_1
  try clear hcz18_2
  try clear hfz10_0
  try clear hfz10_1
  try clear hfz10_2
  try clear hfz15_0
  try clear hfz15_1
  try clear hfz16_0
  try clear hfz16_1
  try clear hfz16_2
  try clear hfz18_0
  try clear hfz18_1
  try clear hfz18_2
  obtain ⟨x5_1, x24_1, rfl, rfl, HA, HK1, BK214, BK215, BK218, HB⟩ := hrel
  cases gk with
  | zero => exact absurd HA.out (by simp [system_Text.l0])
  | succ k1 =>
   have H := HA.out; clear HA
   simp only [system_Text.l0] at H
   revert H; refine tq_dd (fun c19b0 H => ?_) (fun c19b0 H => ?_)
   ·revert H; refine tq_i1 fun c20b0 H => ?_; revert H; refine tq_i1 fun c21b0 H => ?_; revert H; refine tq_i fun c22 H => ?_; have c22b0 := eq_true c22; have c22b1 : decide (6 + (rdOf ByteArray.empty l0_1 x24_1).size ≤ 9223372036854775807) = true := decide_eq_true c22
    try have c22b2 : (9223372036854775807 < 6 + (rdOf ByteArray.empty l0_1 x24_1).size) = False := eq_false (Nat.not_lt.2 c22)
    try (have c22b4 := c22; simp only [ByteArray.size_append, lit_size_, List.length_cons, List.length_nil, Nat.zero_add, Nat.reduceAdd] at c22b4)
    try (have c22b5 := eq_false (Nat.not_lt.2 c22b4))
    revert H; refine tq_i fun c23 H => ?_; have c23b0 := eq_true c23; have c23b1 : decide (((⟨#[101, 118, 101, 110, 116, 32]⟩ : ByteArray) ++ (rdOf ByteArray.empty l0_1 x24_1)).size + 1 ≤ 9223372036854775807) = true := decide_eq_true c23
    try have c23b2 : (9223372036854775807 < ((⟨#[101, 118, 101, 110, 116, 32]⟩ : ByteArray) ++ (rdOf ByteArray.empty l0_1 x24_1)).size + 1) = False := eq_false (Nat.not_lt.2 c23)
    try (have c23b4 := c23; simp only [ByteArray.size_append, lit_size_, List.length_cons, List.length_nil, Nat.zero_add, Nat.reduceAdd] at c23b4)
    try (have c23b5 := eq_false (Nat.not_lt.2 c23b4))
    revert H; refine tq_i fun c24 H => ?_; have c24b0 := eq_true c24; have c24b1 : decide (x5_1.size + (((⟨#[101, 118, 101, 110, 116, 32]⟩ : ByteArray) ++ (rdOf ByteArray.empty l0_1 x24_1)) ++ (⟨#[10]⟩ : ByteArray)).size ≤ 9223372036854775807) = true := decide_eq_true c24
    try have c24b2 : (9223372036854775807 < x5_1.size + (((⟨#[101, 118, 101, 110, 116, 32]⟩ : ByteArray) ++ (rdOf ByteArray.empty l0_1 x24_1)) ++ (⟨#[10]⟩ : ByteArray)).size) = False := eq_false (Nat.not_lt.2 c24)
    try (have c24b4 := c24; simp only [ByteArray.size_append, lit_size_, List.length_cons, List.length_nil, Nat.zero_add, Nat.reduceAdd] at c24b4)
    try (have c24b5 := eq_false (Nat.not_lt.2 c24b4))
    have H' := Aside0.mk H; clear H; have p220 : 0 ≤ (x24_1 : Int) := sq_d; have q220 : x24_1 < (l0_1.length : Int) := sq_d; have LQ220 := Aside0.mk q220; obtain ⟨ad220, e220, hx220_0⟩ := Kd.at_string HR0_1.out x24_1 p220 q220; cases e220; replace hx220_0 := tq_hx HB hx220_0; replace p220 := eq_true p220; replace q220 := eq_true q220
    go_wp2
    go_roundg k1
    case measure => have := HK1.out; omega
    case rel => exact ⟨(x5_1 ++ (((⟨#[101, 118, 101, 110, 116, 32]⟩ : ByteArray) ++ (rdOf ByteArray.empty l0_1 x24_1)) ++ (⟨#[10]⟩ : ByteArray))), (wrap64 (x24_1 + 1)), tq_z, tq_z, H', ⟨by have := HK1.out; omega⟩, ⟨sq_bk BK214.out⟩, ⟨sq_bk BK215.out⟩, ⟨sq_bk BK218.out⟩, ⟨sq_bs HB.out⟩⟩
   have H' := Aside0.mk H; clear H; have hnb25 := NB214_215.out; have hnc25 := NB215_214.out; have hnb26 := NB214_218.out; have hnc26 := NB218_214.out; obtain ⟨hcz27_0, hcz27_1, hcz27_2, hfz27_0, hfz27_1, hfz27_2⟩ := tq_3 (w := wr) BK214
   go_wp2
   go_loopg [5, 37] k1 (fun kq v5 v37 w' => ∃ (x5_2 : ByteArray) (x37_2 : Int), v5 = .string x5_2 ∧ v37 = .int .i64 x37_2 ∧ Aside0 (system_Text.l1 kq x5_2 l0_2 (l0_2.length : Int) x37_2 a0_0 l0_1 l0_2 = some (r1, r2, r3)) ∧ Aside0 (kq ≤ k1) ∧ Aside0 (w'.heap[gb214]? = some (.cells #[.int .i64 a0_0, (.slice A0_1 l0_1.length c0_1), (.slice A0_2 l0_2.length c0_2)] 25 (0, 0))) ∧ Aside0 (w'.heap[gb215]? = some (.cells #[.int .i64 0, .int .i64 0] 30 (0, 0))) ∧ Aside0 (w'.heap[gb218]? = some (.cells #[.int .i64 t216, .int .i64 t217] 30 (0, 0))) ∧ Aside0 (Below w.heap.size w w'))
   case atStart => exact ⟨(x5_1), (0), tq_z, tq_z, H', ⟨Nat.le_refl _⟩, ⟨sq_bk BK214.out⟩, ⟨sq_bk BK215.out⟩, ⟨sq_bk BK218.out⟩, ⟨sq_bs HB.out⟩⟩
   case round =>
    clear H'
    try clear c19b0
    try clear hcz27_0
    try clear hcz27_1
    try clear hcz27_2
    try clear hfz27_0
    try clear hfz27_1
    try clear hfz27_2
    obtain ⟨x5_2, x37_2, rfl, rfl, HA, HK2, BK214, BK215, BK218, HB⟩ := hrel
    cases gk with
    | zero => exact absurd HA.out (by simp [system_Text.l1])
    | succ k2 =>
     have H := HA.out; clear HA
     simp only [system_Text.l1] at H
     revert H; refine tq_dd (fun c28b0 H => ?_) (fun c28b0 H => ?_); rotate_left
     ·simp only [Option.some.injEq, Prod.mk.injEq] at H
      obtain ⟨rfl, rfl, rfl⟩ := H; have hnb50 := NB215_214.out; have hnc50 := NB214_215.out; have hnb51 := NB215_218.out; have hnc51 := NB218_215.out; obtain ⟨hcz52_0, hcz52_1, hfz52_0, hfz52_1⟩ := tq_2 (w := wr) BK215
      go_wp2
      refine bodyPost_ret (results_tc rfl _ _ gb215 30 #[.int .i64 0, .int .i64 0] (0, 0) _ rfl (by refine tq_b ?_; refine blk_put (cs := #[.int .i64 0, .int .i64 0]) ?_ 1 _ rfl; refine tq_b ?_; refine blk_put (cs := #[.int .i64 0, .int .i64 0]) ?_ 0 _ rfl; refine tq_b ?_; exact BK215.out) Tryd.underlying30 rfl (by kernel_rfl)) rfl ?_
      exact tq_v (sq_bs HB.out)
     revert H; refine tq_i1 fun c29b0 H => ?_; revert H; refine tq_i1 fun c30b0 H => ?_; revert H; refine tq_o fun t223 A31 H => ?_; revert H; refine tq_i fun c32 H => ?_; have c32b0 := eq_true c32; have c32b1 : decide (t223.size + 1 ≤ 9223372036854775807) = true := decide_eq_true c32
     try have c32b2 : (9223372036854775807 < t223.size + 1) = False := eq_false (Nat.not_lt.2 c32)
     try (have c32b4 := c32; simp only [ByteArray.size_append, lit_size_, List.length_cons, List.length_nil, Nat.zero_add, Nat.reduceAdd] at c32b4)
     try (have c32b5 := eq_false (Nat.not_lt.2 c32b4))
     revert H; refine tq_i1 fun c33b0 H => ?_; revert H; refine tq_i1 fun c34b0 H => ?_; revert H; refine tq_i fun c35 H => ?_; have c35b0 := eq_true c35; have c35b1 : decide ((t223 ++ (⟨#[32]⟩ : ByteArray)).size + (rdOf ByteArray.empty l0_1 ((rd_T46 l0_2 x37_2).f1)).size ≤ 9223372036854775807) = true := decide_eq_true c35
     try have c35b2 : (9223372036854775807 < (t223 ++ (⟨#[32]⟩ : ByteArray)).size + (rdOf ByteArray.empty l0_1 ((rd_T46 l0_2 x37_2).f1)).size) = False := eq_false (Nat.not_lt.2 c35)
     try (have c35b4 := c35; simp only [ByteArray.size_append, lit_size_, List.length_cons, List.length_nil, Nat.zero_add, Nat.reduceAdd] at c35b4)
     try (have c35b5 := eq_false (Nat.not_lt.2 c35b4))
     revert H; refine tq_i fun c36 H => ?_; have c36b0 := eq_true c36; have c36b1 : decide (((t223 ++ (⟨#[32]⟩ : ByteArray)) ++ (rdOf ByteArray.empty l0_1 ((rd_T46 l0_2 x37_2).f1))).size + 1 ≤ 9223372036854775807) = true := decide_eq_true c36
     try have c36b2 : (9223372036854775807 < ((t223 ++ (⟨#[32]⟩ : ByteArray)) ++ (rdOf ByteArray.empty l0_1 ((rd_T46 l0_2 x37_2).f1))).size + 1) = False := eq_false (Nat.not_lt.2 c36)
     try (have c36b4 := c36; simp only [ByteArray.size_append, lit_size_, List.length_cons, List.length_nil, Nat.zero_add, Nat.reduceAdd] at c36b4)
     try (have c36b5 := eq_false (Nat.not_lt.2 c36b4))
     revert H; refine tq_o fun t225 A37 H => ?_; revert H; refine tq_i fun c38 H => ?_; have c38b0 := eq_true c38; have c38b1 : decide ((((t223 ++ (⟨#[32]⟩ : ByteArray)) ++ (rdOf ByteArray.empty l0_1 ((rd_T46 l0_2 x37_2).f1))) ++ (⟨#[32]⟩ : ByteArray)).size + t225.size ≤ 9223372036854775807) = true := decide_eq_true c38
     try have c38b2 : (9223372036854775807 < (((t223 ++ (⟨#[32]⟩ : ByteArray)) ++ (rdOf ByteArray.empty l0_1 ((rd_T46 l0_2 x37_2).f1))) ++ (⟨#[32]⟩ : ByteArray)).size + t225.size) = False := eq_false (Nat.not_lt.2 c38)
     try (have c38b4 := c38; simp only [ByteArray.size_append, lit_size_, List.length_cons, List.length_nil, Nat.zero_add, Nat.reduceAdd] at c38b4)
     try (have c38b5 := eq_false (Nat.not_lt.2 c38b4))
     revert H; refine tq_i fun c39 H => ?_; have c39b0 := eq_true c39; have c39b1 : decide (((((t223 ++ (⟨#[32]⟩ : ByteArray)) ++ (rdOf ByteArray.empty l0_1 ((rd_T46 l0_2 x37_2).f1))) ++ (⟨#[32]⟩ : ByteArray)) ++ t225).size + 1 ≤ 9223372036854775807) = true := decide_eq_true c39
     try have c39b2 : (9223372036854775807 < ((((t223 ++ (⟨#[32]⟩ : ByteArray)) ++ (rdOf ByteArray.empty l0_1 ((rd_T46 l0_2 x37_2).f1))) ++ (⟨#[32]⟩ : ByteArray)) ++ t225).size + 1) = False := eq_false (Nat.not_lt.2 c39)
     try (have c39b4 := c39; simp only [ByteArray.size_append, lit_size_, List.length_cons, List.length_nil, Nat.zero_add, Nat.reduceAdd] at c39b4)
     try (have c39b5 := eq_false (Nat.not_lt.2 c39b4))
     revert H; refine tq_i fun c40 H => ?_; have c40b0 := eq_true c40; have c40b1 : decide (x5_2.size + (((((t223 ++ (⟨#[32]⟩ : ByteArray)) ++ (rdOf ByteArray.empty l0_1 ((rd_T46 l0_2 x37_2).f1))) ++ (⟨#[32]⟩ : ByteArray)) ++ t225) ++ (⟨#[10]⟩ : ByteArray)).size ≤ 9223372036854775807) = true := decide_eq_true c40
     try have c40b2 : (9223372036854775807 < x5_2.size + (((((t223 ++ (⟨#[32]⟩ : ByteArray)) ++ (rdOf ByteArray.empty l0_1 ((rd_T46 l0_2 x37_2).f1))) ++ (⟨#[32]⟩ : ByteArray)) ++ t225) ++ (⟨#[10]⟩ : ByteArray)).size) = False := eq_false (Nat.not_lt.2 c40)
     try (have c40b4 := c40; simp only [ByteArray.size_append, lit_size_, List.length_cons, List.length_nil, Nat.zero_add, Nat.reduceAdd] at c40b4)
     try (have c40b5 := eq_false (Nat.not_lt.2 c40b4))
     have H' := Aside0.mk H; clear H; have p221 : 0 ≤ (x37_2 : Int) := sq_d; have q221 : x37_2 < (l0_2.length : Int) := sq_d; have LQ221 := Aside0.mk q221; obtain ⟨ad221, e221, hx221_0, hx221_1, hx221_2⟩ := at_T46 HR0_2.out x37_2 p221 q221; cases e221; replace hx221_0 := tq_hx HB hx221_0; replace hx221_1 := tq_hx HB hx221_1; replace hx221_2 := tq_hx HB hx221_2; replace p221 := eq_true p221; replace q221 := eq_true q221
     try go_wp2_with (first | ((with_reducible refine gate_dst (N := 9) rfl ?_); refine sq_box 9 #[.int .i64 0, .int .i64 0, .int .i64 0] 46 ?_; intro gb222 hg w41 hbox hb; have BK222 := Aside0.mk hbox; have GW222 := tq_w HB hg; have GE222 := tq_w HB hg; replace HB := tq_s HB hb; have NB214_222 := tq_nl BK214 hg; have NB222_214 := tq_ng BK214 hg; replace BK214 := tq_k BK214 hb; have NB215_222 := tq_nl BK215 hg; have NB222_215 := tq_ng BK215 hg; replace BK215 := tq_k BK215 hb; have NB218_222 := tq_nl BK218 hg; have NB222_218 := tq_ng BK218 hg; replace BK218 := tq_k BK218 hb; clear hb hbox hg; have hnb42 := NB222_214.out; have hnc42 := NB214_222.out; have hnb43 := NB222_215.out; have hnc43 := NB215_222.out; have hnb44 := NB222_218.out; have hnc44 := NB218_222.out; obtain ⟨hcz45_0, hcz45_1, hcz45_2, hfz45_0, hfz45_1, hfz45_2⟩ := tq_3 (w := w41) BK222))
     have n0_ : Aside0 ((((w41.setCell ⟨gb222, 0, none⟩ (.int .i64 ((rd_T46 l0_2 x37_2).f0))).setCell ⟨gb222, 1, none⟩ (.int .i64 ((rd_T46 l0_2 x37_2).f1))).setCell ⟨gb222, 2, none⟩ (.int .i64 ((rd_T46 l0_2 x37_2).f2))).heap[gb214]? = some (.cells #[.int .i64 a0_0, .slice A0_1 l0_1.length c0_1, .slice (some ad221) l0_2.length c0_2] 25 (0, 0))) := ⟨by refine tq_b ?_; refine blk_far ?_ NB214_222.out _; refine tq_b ?_; refine blk_far ?_ NB214_222.out _; refine tq_b ?_; refine blk_far ?_ NB214_222.out _; refine tq_b ?_; exact BK214.out⟩; have n1_ : Aside0 ((((w41.setCell ⟨gb222, 0, none⟩ (.int .i64 ((rd_T46 l0_2 x37_2).f0))).setCell ⟨gb222, 1, none⟩ (.int .i64 ((rd_T46 l0_2 x37_2).f1))).setCell ⟨gb222, 2, none⟩ (.int .i64 ((rd_T46 l0_2 x37_2).f2))).heap[gb215]? = some (.cells #[.int .i64 0, .int .i64 0] 30 (0, 0))) := ⟨by refine tq_b ?_; refine blk_far ?_ NB215_222.out _; refine tq_b ?_; refine blk_far ?_ NB215_222.out _; refine tq_b ?_; refine blk_far ?_ NB215_222.out _; refine tq_b ?_; exact BK215.out⟩; have n2_ : Aside0 ((((w41.setCell ⟨gb222, 0, none⟩ (.int .i64 ((rd_T46 l0_2 x37_2).f0))).setCell ⟨gb222, 1, none⟩ (.int .i64 ((rd_T46 l0_2 x37_2).f1))).setCell ⟨gb222, 2, none⟩ (.int .i64 ((rd_T46 l0_2 x37_2).f2))).heap[gb218]? = some (.cells #[.int .i64 t216, .int .i64 t217] 30 (0, 0))) := ⟨by refine tq_b ?_; refine blk_far ?_ NB218_222.out _; refine tq_b ?_; refine blk_far ?_ NB218_222.out _; refine tq_b ?_; refine blk_far ?_ NB218_222.out _; refine tq_b ?_; exact BK218.out⟩; have n3_ : Aside0 ((((w41.setCell ⟨gb222, 0, none⟩ (.int .i64 ((rd_T46 l0_2 x37_2).f0))).setCell ⟨gb222, 1, none⟩ (.int .i64 ((rd_T46 l0_2 x37_2).f1))).setCell ⟨gb222, 2, none⟩ (.int .i64 ((rd_T46 l0_2 x37_2).f2))).heap[gb222]? = some (.cells #[.int .i64 ((rd_T46 l0_2 x37_2).f0), .int .i64 ((rd_T46 l0_2 x37_2).f1), .int .i64 ((rd_T46 l0_2 x37_2).f2)] 46 (0, 0))) := ⟨by refine tq_b ?_; refine blk_put (cs := #[.int .i64 ((rd_T46 l0_2 x37_2).f0), .int .i64 ((rd_T46 l0_2 x37_2).f1), .int .i64 0]) ?_ 2 _ rfl; refine tq_b ?_; refine blk_put (cs := #[.int .i64 ((rd_T46 l0_2 x37_2).f0), .int .i64 0, .int .i64 0]) ?_ 1 _ rfl; refine tq_b ?_; refine blk_put (cs := #[.int .i64 0, .int .i64 0, .int .i64 0]) ?_ 0 _ rfl; refine tq_b ?_; exact BK222.out⟩
     have n4_ : Aside0 (Below w.heap.size w (((w41.setCell ⟨gb222, 0, none⟩ (.int .i64 ((rd_T46 l0_2 x37_2).f0))).setCell ⟨gb222, 1, none⟩ (.int .i64 ((rd_T46 l0_2 x37_2).f1))).setCell ⟨gb222, 2, none⟩ (.int .i64 ((rd_T46 l0_2 x37_2).f2)))) := ⟨sq_bs HB.out⟩
     (try clear BK214)
     (try clear BK215)
     (try clear BK218)
     (try clear BK222)
     (try clear HB)
     generalize (((w41.setCell ⟨gb222, 0, none⟩ (.int .i64 ((rd_T46 l0_2 x37_2).f0))).setCell ⟨gb222, 1, none⟩ (.int .i64 ((rd_T46 l0_2 x37_2).f1))).setCell ⟨gb222, 2, none⟩ (.int .i64 ((rd_T46 l0_2 x37_2).f2))) = w46 at n0_ n1_ n2_ n3_ n4_ ⊢
     have BK214 := n0_; have BK215 := n1_; have BK218 := n2_; have BK222 := n3_; have HB := n4_; clear n0_ n1_ n2_ n3_ n4_; replace BK214 := Aside0.mk (blk_drew BK214.out); replace BK215 := Aside0.mk (blk_drew BK215.out); replace BK218 := Aside0.mk (blk_drew BK218.out); replace BK222 := Aside0.mk (blk_drew BK222.out); replace HB := Aside0.mk (below_drew1 HB.out); have p224 : 0 ≤ (((rd_T46 l0_2 x37_2).f1) : Int) := sq_d; have q224 : ((rd_T46 l0_2 x37_2).f1) < (l0_1.length : Int) := sq_d; obtain ⟨ad224, e224, hx224_0⟩ := Kd.at_string HR0_1.out ((rd_T46 l0_2 x37_2).f1) p224 q224; have hw224_0 := hx224_0; cases e224; replace hx224_0 := tq_hx HB hx224_0; replace p224 := eq_true p224; replace q224 := eq_true q224; refine start_ (n := 20) (S := fun w' => w'.cell? ⟨gb222, 0, none⟩ = some (.int .i64 ((rd_T46 l0_2 x37_2).f0)) ∧ w'.cell? ⟨gb222, 1, none⟩ = some (.int .i64 ((rd_T46 l0_2 x37_2).f1)) ∧ w'.cell? ⟨gb222, 2, none⟩ = some (.int .i64 ((rd_T46 l0_2 x37_2).f2)) ∧ w'.cell? ⟨gb214, 0, none⟩ = some (.int .i64 a0_0) ∧ w'.cell? ⟨gb214, 1, none⟩ = some (.slice (some ad224) l0_1.length c0_1) ∧ w'.cell? ⟨gb214, 2, none⟩ = some (.slice (some ad221) l0_2.length c0_2) ∧ w'.cell? (ad224.add (((rd_T46 l0_2 x37_2).f1)).toNat) = some (.string (rdOf ByteArray.empty l0_1 ((rd_T46 l0_2 x37_2).f1)))) (ds := []) #[false, false, false, false, false, false, false, false, false, false, false, false, false, false, false, false, false, false, false, false] (by kernel_rfl) rfl rfl ⟨tq_q BK222 0, tq_q BK222 1, tq_q BK222 2, tq_q BK214 0, tq_q BK214 1, tq_q BK214 2, ((HB.out.cell (World.block_lt_of_cell? w _ hw224_0)).trans hw224_0)⟩ (fun hHeld => ?_); refine with_tabW system_Text.tab13 system_Text.bits13 (fun HT_ HW_ => ?_)
     generalize w46.drew = w47 at BK214 BK215 BK218 BK222 HB hx224_0 hHeld ⊢
     refine sq_p 0 41 (sqm 20 1) HT_.out ?_; refine sq_p 1 42 (sqm 20 3) HT_.out ?_; refine sq_p 5 46 (sqm 20 35) HT_.out ?_; refine sq_p 7 48 (sqm 20 163) HT_.out ?_; refine sq_p 13 54 (sqm 20 8355) HT_.out ?_; refine sq_t 2 43 (sqm 20 8359) HT_.out HW_.out hHeld ?_; refine sq_t 6 47 (sqm 20 8423) HT_.out HW_.out hHeld ?_; refine sq_t 8 49 (sqm 20 8679) HT_.out HW_.out hHeld ?_; refine sq_p 9 50 (sqm 20 9191) HT_.out ?_; refine sq_t 10 51 (sqm 20 10215) HT_.out HW_.out hHeld ?_; refine sq_t 14 55 (sqm 20 26599) HT_.out HW_.out hHeld ?_; refine one_ (i := 3) (N := some 44) (sqm 20 26607) rfl rfl (one_of HT_.out (by kernel_rfl)) (by decide) (fun K hK => ?_); refine goes_ Tryd.func19 (by kernel_rfl) rfl #[.int .i64 ((rd_T46 l0_2 x37_2).f0)] (by rfl) rfl rfl (by (try simp only [List.map_toArray, List.map_cons, List.map_nil]); first | done | rfl | (simp only [List.length_drop, List.length_take]; rfl)) ?_
     with_reducible refine (strconv_Itoa.calls ((rd_T46 l0_2 x37_2).f0) t223 _ ?s1 A31.out).mono ?_
     (case s1 => exact LaidW.below HLW.out (sq_bs HB.out))
     rintro e w48 ⟨rfl, hb⟩
     refine ⟨_, rfl, ?_⟩; replace BK214 := tq_k BK214 hb; replace BK215 := tq_k BK215 hb; replace BK218 := tq_k BK218 hb; replace BK222 := tq_k BK222 hb; replace HB := tq_s HB hb
     (try clear hb)
     (try clear hb2)
     (try clear hk)
     (try clear hi)
     refine hK.out _ _ ⟨tq_q BK222 0, tq_q BK222 1, tq_q BK222 2, tq_q BK214 0, tq_q BK214 1, tq_q BK214 2, ((HB.out.cell (World.block_lt_of_cell? w _ hw224_0)).trans hw224_0)⟩ (fun hHeld => ?_); clear hK K; refine norm_ (a' := ?_) ?_ ?_; rotate_left
     ·show Act.put _ (some 44) _ = _
      simp only [Act.put, List.setIfInBounds_toArray, List.set_cons_zero, List.set_cons_succ, i64_w, i32_w]
      rfl
     refine sq_p 4 45 (sqm 20 26623) HT_.out ?_; refine sq_p 11 52 (sqm 20 28671) HT_.out ?_; refine sq_p 12 53 (sqm 20 32767) HT_.out ?_; refine one_ (i := 15) (N := some 56) (sqm 20 65535) rfl rfl (one_of HT_.out (by kernel_rfl)) (by decide) (fun K hK => ?_); refine goes_ Tryd.func19 (by kernel_rfl) rfl #[.int .i64 ((rd_T46 l0_2 x37_2).f2)] (by rfl) rfl rfl (by (try simp only [List.map_toArray, List.map_cons, List.map_nil]); first | done | rfl | (simp only [List.length_drop, List.length_take]; rfl)) ?_
     with_reducible refine (strconv_Itoa.calls ((rd_T46 l0_2 x37_2).f2) t225 _ ?s1 A37.out).mono ?_
     (case s1 => exact LaidW.below HLW.out (sq_bs HB.out))
     rintro e w49 ⟨rfl, hb⟩
     refine ⟨_, rfl, ?_⟩; replace BK214 := tq_k BK214 hb; replace BK215 := tq_k BK215 hb; replace BK218 := tq_k BK218 hb; replace BK222 := tq_k BK222 hb; replace HB := tq_s HB hb
     (try clear hb)
     (try clear hb2)
     (try clear hk)
     (try clear hi)
     refine hK.out _ _ ⟨tq_q BK222 0, tq_q BK222 1, tq_q BK222 2, tq_q BK214 0, tq_q BK214 1, tq_q BK214 2, ((HB.out.cell (World.block_lt_of_cell? w _ hw224_0)).trans hw224_0)⟩ (fun hHeld => ?_); clear hK K; refine norm_ (a' := ?_) ?_ ?_; rotate_left
     ·show Act.put _ (some 56) _ = _
      simp only [Act.put, List.setIfInBounds_toArray, List.set_cons_zero, List.set_cons_succ, i64_w, i32_w]
      rfl
     refine sq_p 16 57 (sqm 20 131071) HT_.out ?_; refine sq_p 17 58 (sqm 20 262143) HT_.out ?_; refine sq_p 18 59 (sqm 20 524287) HT_.out ?_; refine sq_p 19 5 (sqm 20 1048575) HT_.out ?_; refine done_ (done_of HT_.out (by kernel_rfl)) ?_
     try go_wp2
     go_roundg k2
     case measure => have := HK1.out; have := HK2.out; omega
     case rel => exact ⟨(x5_2 ++ (((((t223 ++ (⟨#[32]⟩ : ByteArray)) ++ (rdOf ByteArray.empty l0_1 ((rd_T46 l0_2 x37_2).f1))) ++ (⟨#[32]⟩ : ByteArray)) ++ t225) ++ (⟨#[10]⟩ : ByteArray))), (wrap64 (x37_2 + 1)), tq_z, tq_z, H', ⟨by have := HK1.out; have := HK2.out; omega⟩, ⟨sq_bk BK214.out⟩, ⟨sq_bk BK215.out⟩, ⟨sq_bk BK218.out⟩, ⟨sq_bs HB.out⟩⟩
end Go.Proofs.YtcnliampiibpbaaDoor.PAll
