/- Lean functions for Go functions, each with the proof that the call returns what it says; printed by wip/tools/myprint.py. -/
-- squeezed
import Derived.Test.YtcnliampiibpbaaPAllx0
import Derived.Test.YtcnliampiibpbaaPAllx5
import Derived.Test.YtcnliampiibpbaaPAllx7
import Derived.Test.YtcnliampiibpbaaPAllx9
namespace Go.Proofs.Ytcnliampiibpbaa.PAll
open Go.RowKit Go.Proofs.YtcnliampiibpbaaW.PrintWords Go.Proofs.YtcnliampiibpbaaW.PrintLast Go.Proofs.YtcnliampiibpbaaW.PrintMore
attribute [local go_sem] Instr.field asAgg max2_int min2_int max_two min_two max_three min_three max_four min_four   -- for this text's walks alone
set_option linter.unusedVariables false
set_option linter.unusedSimpArgs false

/-! ### petrinetlaw45_alive: function 9 -/
def petrinetlaw45_alive.f (k : Nat)  : Option (Bool) := (petrinetlaw45_cycle.f).bind fun bt168 => ((petrinetlaw45_cycle.f).bind fun bt175 => ((system_Iso.f k bt168.1 bt168.2.1 bt168.2.2 bt175.1 bt175.2.1 bt175.2.2).bind fun bt182 => (if bt182.2 = true then ((petrinetref04_Same.f k bt182.1 (([0, 1] : List Int))).bind fun t189 => (if t189 = true then ((petrinetlaw45_cycle.f).bind fun bt190 => ((system_Next.f k bt190.1 bt190.2.1 bt190.2.2 1 1).bind fun t197 => (if t197 = 0 then ((petrinetlaw45_cycle.f).bind fun bt198 => ((system_Deterministic.f k bt198.1 bt198.2.1 bt198.2.2).bind fun t205 => (if t205 = true then ((petrinetlaw45_cycle.f).bind fun bt206 => ((system_Reachable.f k bt206.1 bt206.2.1 bt206.2.2).bind fun t213 => (some t213))) else (some false)))) else (some false)))) else (some false))) else (some false))))
theorem petrinetlaw45_alive.mono : ∀ k, LeO (petrinetlaw45_alive.f k ) (petrinetlaw45_alive.f (k + 1) ) := by
 intro  k
 unfold petrinetlaw45_alive.f
 repeat' first
   | (with_reducible exact petrinetref04_Same.mono _ _ _)
   | (with_reducible exact system_Deterministic.mono _ _ _ _)
   | (with_reducible exact system_Iso.mono _ _ _ _ _ _ _)
   | (with_reducible exact system_Next.mono _ _ _ _ _ _)
   | (with_reducible exact system_Reachable.mono _ _ _ _)
   | (with_reducible exact LeO.refl _)
   | (with_reducible exact LeO.none _)
   | (with_reducible refine LeO.ite ?_ ?_)
   | (with_reducible refine LeO.bind ?_ (fun _ => ?_))
set_option maxHeartbeats 8000000 in
set_option maxRecDepth 100000 in
theorem petrinetlaw45_alive.calls (k : Nat)  (r : Bool) (w : World) (h : petrinetlaw45_alive.f k  = some r) :
  Calls Try.prog 9 #[] w fun e w' => e = .returned (.bool r) ∧ Below w.heap.size w w' := by
 have hv30 := Try.underlying30
 have HB := Aside0.mk (Below.refl w.heap.size w)
 have H : ((petrinetlaw45_cycle.f).bind fun bt168 => ((petrinetlaw45_cycle.f).bind fun bt175 => ((system_Iso.f k bt168.1 bt168.2.1 bt168.2.2 bt175.1 bt175.2.1 bt175.2.2).bind fun bt182 => (if bt182.2 = true then ((petrinetref04_Same.f k bt182.1 (([0, 1] : List Int))).bind fun t189 => (if t189 = true then ((petrinetlaw45_cycle.f).bind fun bt190 => ((system_Next.f k bt190.1 bt190.2.1 bt190.2.2 1 1).bind fun t197 => (if t197 = 0 then ((petrinetlaw45_cycle.f).bind fun bt198 => ((system_Deterministic.f k bt198.1 bt198.2.1 bt198.2.2).bind fun t205 => (if t205 = true then ((petrinetlaw45_cycle.f).bind fun bt206 => ((system_Reachable.f k bt206.1 bt206.2.1 bt206.2.2).bind fun t213 => (some t213))) else (some false)))) else (some false)))) else (some false))) else (some false))))) = some r := h
 clear h
 replace H := Option.bind_eq_some_iff.mp H
 obtain ⟨⟨t168, t169, t172⟩, A10, H⟩ := H
 replace H : ((petrinetlaw45_cycle.f).bind fun bt175 => ((system_Iso.f k t168 t169 t172 bt175.1 bt175.2.1 bt175.2.2).bind fun bt182 => (if bt182.2 = true then ((petrinetref04_Same.f k bt182.1 (([0, 1] : List Int))).bind fun t189 => (if t189 = true then ((petrinetlaw45_cycle.f).bind fun bt190 => ((system_Next.f k bt190.1 bt190.2.1 bt190.2.2 1 1).bind fun t197 => (if t197 = 0 then ((petrinetlaw45_cycle.f).bind fun bt198 => ((system_Deterministic.f k bt198.1 bt198.2.1 bt198.2.2).bind fun t205 => (if t205 = true then ((petrinetlaw45_cycle.f).bind fun bt206 => ((system_Reachable.f k bt206.1 bt206.2.1 bt206.2.2).bind fun t213 => (some t213))) else (some false)))) else (some false)))) else (some false))) else (some false)))) = some r := H
 have A1 := Aside0.mk A10
 clear A10
 replace H := Option.bind_eq_some_iff.mp H
 obtain ⟨⟨t175, t176, t179⟩, A20, H⟩ := H
 replace H : ((system_Iso.f k t168 t169 t172 t175 t176 t179).bind fun bt182 => (if bt182.2 = true then ((petrinetref04_Same.f k bt182.1 (([0, 1] : List Int))).bind fun t189 => (if t189 = true then ((petrinetlaw45_cycle.f).bind fun bt190 => ((system_Next.f k bt190.1 bt190.2.1 bt190.2.2 1 1).bind fun t197 => (if t197 = 0 then ((petrinetlaw45_cycle.f).bind fun bt198 => ((system_Deterministic.f k bt198.1 bt198.2.1 bt198.2.2).bind fun t205 => (if t205 = true then ((petrinetlaw45_cycle.f).bind fun bt206 => ((system_Reachable.f k bt206.1 bt206.2.1 bt206.2.2).bind fun t213 => (some t213))) else (some false)))) else (some false)))) else (some false))) else (some false))) = some r := H
 have A2 := Aside0.mk A20
 clear A20
 replace H := Option.bind_eq_some_iff.mp H
 obtain ⟨⟨t182, t185⟩, A30, H⟩ := H
 replace H : (if t185 = true then ((petrinetref04_Same.f k t182 (([0, 1] : List Int))).bind fun t189 => (if t189 = true then ((petrinetlaw45_cycle.f).bind fun bt190 => ((system_Next.f k bt190.1 bt190.2.1 bt190.2.2 1 1).bind fun t197 => (if t197 = 0 then ((petrinetlaw45_cycle.f).bind fun bt198 => ((system_Deterministic.f k bt198.1 bt198.2.1 bt198.2.2).bind fun t205 => (if t205 = true then ((petrinetlaw45_cycle.f).bind fun bt206 => ((system_Reachable.f k bt206.1 bt206.2.1 bt206.2.2).bind fun t213 => (some t213))) else (some false)))) else (some false)))) else (some false))) else (some false)) = some r := H
 have A3 := Aside0.mk A30
 clear A30
 by_cases c4 : t185 = true
 rotate_left
 ·replace c4 := Bool.eq_false_iff.mpr c4
  subst c4
  have H1 : (some false) = some r := by rw [if_neg (show ¬ (false = true) by decide)] at H; exact H
  clear H
  have H := H1
  clear H1
  obtain rfl := Option.some.inj H
  go_enter Try.func9, Try.ntmps9
  go_wp2_with (first | ((with_reducible refine gate_callee (f := 24) rfl ?_); refine sq_goes (some 4) Try.func24 #[] ?_; (with_reducible refine (petrinetlaw45_cycle.calls  t168 t169 t172 _ A1.out).mono ?_); rintro e w83 ⟨v170, v173, rfl, ho0, ho1, hb⟩; refine ⟨_, rfl, ?_⟩; have n0_ := Aside0.mk (Kd.R_lower ho0 (below_size (sq_bl HB.out))); have n1_ := Aside0.mk (Kd.R_lower ho1 (below_size (sq_bl HB.out))); have n2_ := Aside0.mk (below_step (sq_bl HB.out) hb); clear HB; have HO171 := n0_; have HO174 := n1_; have HB := n2_; clear n0_ n1_ n2_; (try clear hb); (try clear ho0); (try clear ho1)) | ((with_reducible refine gate_callee (f := 24) rfl ?_); refine sq_goes (some 5) Try.func24 #[] ?_; (with_reducible refine (petrinetlaw45_cycle.calls  t175 t176 t179 _ A2.out).mono ?_); rintro e w84 ⟨v177, v180, rfl, ho0, ho1, hb⟩; refine ⟨_, rfl, ?_⟩; have n0_ := Aside0.mk (Kd.R_elder' (sq_kr HO171.out) (Kd.R_base ho0) hb); have n1_ := Aside0.mk (Kd.R_elder' (sq_kr HO174.out) (Kd.R_base ho1) hb); have n2_ := Aside0.mk (Kd.R_lower (Kd.R_new' ho0 (Kd.R_lt (sq_kr HO171.out))) (below_size (sq_bl HB.out))); have n3_ := Aside0.mk (Kd.R_lower (Kd.R_new' ho1 (Kd.R_lt (sq_kr HO174.out))) (below_size (sq_bl HB.out))); have n4_ := Aside0.mk (below_step (sq_bl HB.out) hb); clear HO171; clear HO174; clear HB; have HO171 := n0_; have HO174 := n1_; have HO178 := n2_; have HO181 := n3_; have HB := n4_; clear n0_ n1_ n2_ n3_ n4_; (try clear hb); (try clear ho0); (try clear ho1); obtain ⟨Ao85, co85, eo85⟩ := Kd.R_slice HO171.out; subst eo85; obtain ⟨Ao86, co86, eo86⟩ := Kd.R_slice HO174.out; subst eo86; obtain ⟨Ao87, co87, eo87⟩ := Kd.R_slice HO178.out; subst eo87; obtain ⟨Ao88, co88, eo88⟩ := Kd.R_slice HO181.out; subst eo88) | ((with_reducible refine gate_callee (f := 18) rfl ?_); refine sq_goes (some 6) Try.func18 #[.agg #[.int .i64 t168, .slice Ao85 t169.length co85, .slice Ao86 t172.length co86], .agg #[.int .i64 t175, .slice Ao87 t176.length co87, .slice Ao88 t179.length co88]] ?_; (with_reducible refine (system_Iso.calls k t168 _ _ t169 _ _ t172 t175 _ _ t176 _ _ t179 t182 false _ ?side1 ?side2 ?side3 ?side4 ?side5 ?side6 ?side7 ?side8 A3.out).mono ?_); (case side1 => exact sq_kc ((Kd.R_reads' HO171.out).2.2)); (case side2 => exact (Kd.R_reads' HO171.out).2.1); (case side3 => exact sq_kc ((Kd.R_reads' HO174.out).2.2)); (case side4 => exact (Kd.R_reads' HO174.out).2.1); (case side5 => exact sq_kc ((Kd.R_reads' HO178.out).2.2)); (case side6 => exact (Kd.R_reads' HO178.out).2.1); (case side7 => exact sq_kc ((Kd.R_reads' HO181.out).2.2)); (case side8 => exact (Kd.R_reads' HO181.out).2.1); rintro e w89 ⟨v183, rfl, ho0, hb⟩; refine ⟨_, rfl, ?_⟩; have n0_ := Aside0.mk (Kd.R_below (sq_kr HO171.out) hb); have n1_ := Aside0.mk (Kd.R_below (sq_kr HO174.out) hb); have n2_ := Aside0.mk (Kd.R_below (sq_kr HO178.out) hb); have n3_ := Aside0.mk (Kd.R_below (sq_kr HO181.out) hb); have n4_ := Aside0.mk (Kd.R_lower ho0 (below_size (sq_bl HB.out))); have n5_ := Aside0.mk (below_step (sq_bl HB.out) hb); clear HO171; clear HO174; clear HO178; clear HO181; clear HB; have HO171 := n0_; have HO174 := n1_; have HO178 := n2_; have HO181 := n3_; have HO184 := n4_; have HB := n5_; clear n0_ n1_ n2_ n3_ n4_ n5_; (try clear hb); (try clear ho0)))
  go_ret
  exact ⟨by first | rfl | (simp [errW_none, errW_some] <;> rfl) | (simp [*, errW_none, errW_some] <;> rfl), sq_bl HB.out⟩
 subst c4
 have H1 : ((petrinetref04_Same.f k t182 (([0, 1] : List Int))).bind fun t189 => (if t189 = true then ((petrinetlaw45_cycle.f).bind fun bt190 => ((system_Next.f k bt190.1 bt190.2.1 bt190.2.2 1 1).bind fun t197 => (if t197 = 0 then ((petrinetlaw45_cycle.f).bind fun bt198 => ((system_Deterministic.f k bt198.1 bt198.2.1 bt198.2.2).bind fun t205 => (if t205 = true then ((petrinetlaw45_cycle.f).bind fun bt206 => ((system_Reachable.f k bt206.1 bt206.2.1 bt206.2.2).bind fun t213 => (some t213))) else (some false)))) else (some false)))) else (some false))) = some r := by rw [if_pos rfl] at H; exact H
 clear H
 have H := H1
 clear H1
 obtain ⟨y186, hy186⟩ : ∃ y_ : List Int, y_ = (([0, 1] : List Int)) := ⟨_, rfl⟩
 replace H : ((petrinetref04_Same.f k t182 y186).bind fun t189 => (if t189 = true then ((petrinetlaw45_cycle.f).bind fun bt190 => ((system_Next.f k bt190.1 bt190.2.1 bt190.2.2 1 1).bind fun t197 => (if t197 = 0 then ((petrinetlaw45_cycle.f).bind fun bt198 => ((system_Deterministic.f k bt198.1 bt198.2.1 bt198.2.2).bind fun t205 => (if t205 = true then ((petrinetlaw45_cycle.f).bind fun bt206 => ((system_Reachable.f k bt206.1 bt206.2.1 bt206.2.2).bind fun t213 => (some t213))) else (some false)))) else (some false)))) else (some false))) = some r := by first | (rw [hy186]; with_reducible exact H) | (have H2_ := (Option.bind_some _ _).symm.trans H; rw [hy186]; with_reducible exact H2_) | (have H2_ := (Option.bind_some _ _).symm.trans H; with_reducible exact H2_) | with_reducible exact H | (rw [hy186]; exact H) | exact H
 have Ny186 := Aside0.mk hy186
 clear hy186
 replace H := Option.bind_eq_some_iff.mp H
 obtain ⟨t189, A50, H⟩ := H
 replace H : (if t189 = true then ((petrinetlaw45_cycle.f).bind fun bt190 => ((system_Next.f k bt190.1 bt190.2.1 bt190.2.2 1 1).bind fun t197 => (if t197 = 0 then ((petrinetlaw45_cycle.f).bind fun bt198 => ((system_Deterministic.f k bt198.1 bt198.2.1 bt198.2.2).bind fun t205 => (if t205 = true then ((petrinetlaw45_cycle.f).bind fun bt206 => ((system_Reachable.f k bt206.1 bt206.2.1 bt206.2.2).bind fun t213 => (some t213))) else (some false)))) else (some false)))) else (some false)) = some r := H
 have A5 := Aside0.mk A50
 clear A50
 by_cases c6 : t189 = true
 rotate_left
 ·replace c6 := Bool.eq_false_iff.mpr c6
  subst c6
  have H1 : (some false) = some r := by rw [if_neg (show ¬ (false = true) by decide)] at H; exact H
  clear H
  have H := H1
  clear H1
  obtain rfl := Option.some.inj H
  go_enter Try.func9, Try.ntmps9
  go_wp2_with (first | ((with_reducible refine gate_callee (f := 24) rfl ?_); refine sq_goes (some 4) Try.func24 #[] ?_; (with_reducible refine (petrinetlaw45_cycle.calls  t168 t169 t172 _ A1.out).mono ?_); rintro e w72 ⟨v170, v173, rfl, ho0, ho1, hb⟩; refine ⟨_, rfl, ?_⟩; have n0_ := Aside0.mk (Kd.R_lower ho0 (below_size (sq_bl HB.out))); have n1_ := Aside0.mk (Kd.R_lower ho1 (below_size (sq_bl HB.out))); have n2_ := Aside0.mk (below_step (sq_bl HB.out) hb); clear HB; have HO171 := n0_; have HO174 := n1_; have HB := n2_; clear n0_ n1_ n2_; (try clear hb); (try clear ho0); (try clear ho1)) | ((with_reducible refine gate_callee (f := 24) rfl ?_); refine sq_goes (some 5) Try.func24 #[] ?_; (with_reducible refine (petrinetlaw45_cycle.calls  t175 t176 t179 _ A2.out).mono ?_); rintro e w73 ⟨v177, v180, rfl, ho0, ho1, hb⟩; refine ⟨_, rfl, ?_⟩; have n0_ := Aside0.mk (Kd.R_elder' (sq_kr HO171.out) (Kd.R_base ho0) hb); have n1_ := Aside0.mk (Kd.R_elder' (sq_kr HO174.out) (Kd.R_base ho1) hb); have n2_ := Aside0.mk (Kd.R_lower (Kd.R_new' ho0 (Kd.R_lt (sq_kr HO171.out))) (below_size (sq_bl HB.out))); have n3_ := Aside0.mk (Kd.R_lower (Kd.R_new' ho1 (Kd.R_lt (sq_kr HO174.out))) (below_size (sq_bl HB.out))); have n4_ := Aside0.mk (below_step (sq_bl HB.out) hb); clear HO171; clear HO174; clear HB; have HO171 := n0_; have HO174 := n1_; have HO178 := n2_; have HO181 := n3_; have HB := n4_; clear n0_ n1_ n2_ n3_ n4_; (try clear hb); (try clear ho0); (try clear ho1); obtain ⟨Ao74, co74, eo74⟩ := Kd.R_slice HO171.out; subst eo74; obtain ⟨Ao75, co75, eo75⟩ := Kd.R_slice HO174.out; subst eo75; obtain ⟨Ao76, co76, eo76⟩ := Kd.R_slice HO178.out; subst eo76; obtain ⟨Ao77, co77, eo77⟩ := Kd.R_slice HO181.out; subst eo77) | ((with_reducible refine gate_callee (f := 18) rfl ?_); refine sq_goes (some 6) Try.func18 #[.agg #[.int .i64 t168, .slice Ao74 t169.length co74, .slice Ao75 t172.length co75], .agg #[.int .i64 t175, .slice Ao76 t176.length co76, .slice Ao77 t179.length co77]] ?_; (with_reducible refine (system_Iso.calls k t168 _ _ t169 _ _ t172 t175 _ _ t176 _ _ t179 t182 true _ ?side1 ?side2 ?side3 ?side4 ?side5 ?side6 ?side7 ?side8 A3.out).mono ?_); (case side1 => exact sq_kc ((Kd.R_reads' HO171.out).2.2)); (case side2 => exact (Kd.R_reads' HO171.out).2.1); (case side3 => exact sq_kc ((Kd.R_reads' HO174.out).2.2)); (case side4 => exact (Kd.R_reads' HO174.out).2.1); (case side5 => exact sq_kc ((Kd.R_reads' HO178.out).2.2)); (case side6 => exact (Kd.R_reads' HO178.out).2.1); (case side7 => exact sq_kc ((Kd.R_reads' HO181.out).2.2)); (case side8 => exact (Kd.R_reads' HO181.out).2.1); rintro e w78 ⟨v183, rfl, ho0, hb⟩; refine ⟨_, rfl, ?_⟩; have n0_ := Aside0.mk (Kd.R_below (sq_kr HO171.out) hb); have n1_ := Aside0.mk (Kd.R_below (sq_kr HO174.out) hb); have n2_ := Aside0.mk (Kd.R_below (sq_kr HO178.out) hb); have n3_ := Aside0.mk (Kd.R_below (sq_kr HO181.out) hb); have n4_ := Aside0.mk (Kd.R_lower ho0 (below_size (sq_bl HB.out))); have n5_ := Aside0.mk (below_step (sq_bl HB.out) hb); clear HO171; clear HO174; clear HO178; clear HO181; clear HB; have HO171 := n0_; have HO174 := n1_; have HO178 := n2_; have HO181 := n3_; have HO184 := n4_; have HB := n5_; clear n0_ n1_ n2_ n3_ n4_ n5_; (try clear hb); (try clear ho0)) | ((with_reducible refine gate_dst (N := 12) rfl ?_); (try (refine gate_guard (by rfl) ?_; dsimp only)); refine Kd.R_lit (Kd.int .i64) _ 3 ?hg (N := 12) ?hd (xs := ([0, 1] : List Int)) (inner := [.int .i64 0, .int .i64 1]) (ok := fun _ => True) (okp := fun _ => True) ?hr ?hp (fun _ hk => hk) trivial (Below.refl _ _) (Nat.le_refl _) (by simp) ?_; (case hd => rfl); (case hg => rfl); (case hr => first | (go_simp; done) | (go_simp; rfl)); (case hp => exact (Reps.one (show Kd.M (Kd.int .i64) _ _ _ 0 [.int .i64 0] from rfl) (Reps.one (show Kd.M (Kd.int .i64) _ _ _ 1 [.int .i64 1] from rfl) (Reps.none _ _)))); intro v187 w79 ho80 hb hg_ hnew_; clear hg_ hnew_; (first | rw [← Ny186.out] at ho80 | (simp only [Int.reduceToNat] at ho80; rw [← Ny186.out] at ho80)); have n0_ := Aside0.mk (Kd.R_below (sq_kr HO171.out) hb); have n1_ := Aside0.mk (Kd.R_below (sq_kr HO174.out) hb); have n2_ := Aside0.mk (Kd.R_below (sq_kr HO178.out) hb); have n3_ := Aside0.mk (Kd.R_below (sq_kr HO181.out) hb); have n4_ := Aside0.mk (Kd.R_elder' (sq_kr HO184.out) (Kd.R_base ho80) hb); have n5_ := Aside0.mk (Kd.R_lower (Kd.R_new' ho80 (Kd.R_lt (sq_kr HO184.out))) (below_size (sq_bl HB.out))); have n6_ := Aside0.mk (below_step (sq_bl HB.out) hb); clear HO171; clear HO174; clear HO178; clear HO181; clear HO184; clear HB; have HO171 := n0_; have HO174 := n1_; have HO178 := n2_; have HO181 := n3_; have HO184 := n4_; have HO188 := n5_; have HB := n6_; clear n0_ n1_ n2_ n3_ n4_ n5_ n6_; clear hb ho80; obtain ⟨Ao81, co81, eo81⟩ := Kd.R_slice HO184.out; subst eo81; obtain ⟨Ao82, co82, eo82⟩ := Kd.R_slice HO188.out; subst eo82) | (go_at_call 20; (with_reducible refine (petrinetref04_Same.calls k _ _ t182 _ _ y186 false _ ?side1 ?side2 ?side3 ?side4 A5.out).mono ?_); (case side1 => exact sq_kc ((Kd.R_reads' HO184.out).2.2)); (case side2 => exact (Kd.R_reads' HO184.out).2.1); (case side3 => exact sq_kc ((Kd.R_reads' HO188.out).2.2)); (case side4 => exact (Kd.R_reads' HO188.out).2.1); rintro e w' ⟨rfl, ⟨nd, rfl⟩⟩))
  go_ret
  exact ⟨by first | rfl | (simp [errW_none, errW_some] <;> rfl) | (simp [*, errW_none, errW_some] <;> rfl), sq_bl HB.out⟩
 subst c6
 have H1 : ((petrinetlaw45_cycle.f).bind fun bt190 => ((system_Next.f k bt190.1 bt190.2.1 bt190.2.2 1 1).bind fun t197 => (if t197 = 0 then ((petrinetlaw45_cycle.f).bind fun bt198 => ((system_Deterministic.f k bt198.1 bt198.2.1 bt198.2.2).bind fun t205 => (if t205 = true then ((petrinetlaw45_cycle.f).bind fun bt206 => ((system_Reachable.f k bt206.1 bt206.2.1 bt206.2.2).bind fun t213 => (some t213))) else (some false)))) else (some false)))) = some r := by rw [if_pos rfl] at H; exact H
 clear H
 have H := H1
 clear H1
 replace H := Option.bind_eq_some_iff.mp H
 obtain ⟨⟨t190, t191, t194⟩, A70, H⟩ := H
 replace H : ((system_Next.f k t190 t191 t194 1 1).bind fun t197 => (if t197 = 0 then ((petrinetlaw45_cycle.f).bind fun bt198 => ((system_Deterministic.f k bt198.1 bt198.2.1 bt198.2.2).bind fun t205 => (if t205 = true then ((petrinetlaw45_cycle.f).bind fun bt206 => ((system_Reachable.f k bt206.1 bt206.2.1 bt206.2.2).bind fun t213 => (some t213))) else (some false)))) else (some false))) = some r := H
 have A7 := Aside0.mk A70
 clear A70
 replace H := Option.bind_eq_some_iff.mp H
 obtain ⟨t197, A80, H⟩ := H
 replace H : (if t197 = 0 then ((petrinetlaw45_cycle.f).bind fun bt198 => ((system_Deterministic.f k bt198.1 bt198.2.1 bt198.2.2).bind fun t205 => (if t205 = true then ((petrinetlaw45_cycle.f).bind fun bt206 => ((system_Reachable.f k bt206.1 bt206.2.1 bt206.2.2).bind fun t213 => (some t213))) else (some false)))) else (some false)) = some r := H
 have A8 := Aside0.mk A80
 clear A80
 by_cases c9 : t197 = 0
 rotate_left
 ·rw [if_neg c9] at H
  have c9b0 : (t197 == 0) = false := beq_eq_false_iff_ne.mpr c9
  have c9b1 : (t197 != 0) = true := bne_iff_ne.mpr c9
  obtain rfl := Option.some.inj H
  go_enter Try.func9, Try.ntmps9
  go_wp2_with (first | ((with_reducible refine gate_callee (f := 24) rfl ?_); refine sq_goes (some 4) Try.func24 #[] ?_; (with_reducible refine (petrinetlaw45_cycle.calls  t168 t169 t172 _ A1.out).mono ?_); rintro e w57 ⟨v170, v173, rfl, ho0, ho1, hb⟩; clear A1; refine ⟨_, rfl, ?_⟩; have n0_ := Aside0.mk (Kd.R_lower ho0 (below_size (sq_bl HB.out))); have n1_ := Aside0.mk (Kd.R_lower ho1 (below_size (sq_bl HB.out))); have n2_ := Aside0.mk (below_step (sq_bl HB.out) hb); clear HB; have HO171 := n0_; have HO174 := n1_; have HB := n2_; clear n0_ n1_ n2_; (try clear hb); (try clear ho0); (try clear ho1)) | ((with_reducible refine gate_callee (f := 24) rfl ?_); refine sq_goes (some 5) Try.func24 #[] ?_; (with_reducible refine (petrinetlaw45_cycle.calls  t175 t176 t179 _ A2.out).mono ?_); rintro e w58 ⟨v177, v180, rfl, ho0, ho1, hb⟩; clear A2; refine ⟨_, rfl, ?_⟩; have n0_ := Aside0.mk (Kd.R_elder' (sq_kr HO171.out) (Kd.R_base ho0) hb); have n1_ := Aside0.mk (Kd.R_elder' (sq_kr HO174.out) (Kd.R_base ho1) hb); have n2_ := Aside0.mk (Kd.R_lower (Kd.R_new' ho0 (Kd.R_lt (sq_kr HO171.out))) (below_size (sq_bl HB.out))); have n3_ := Aside0.mk (Kd.R_lower (Kd.R_new' ho1 (Kd.R_lt (sq_kr HO174.out))) (below_size (sq_bl HB.out))); have n4_ := Aside0.mk (below_step (sq_bl HB.out) hb); clear HO171; clear HO174; clear HB; have HO171 := n0_; have HO174 := n1_; have HO178 := n2_; have HO181 := n3_; have HB := n4_; clear n0_ n1_ n2_ n3_ n4_; (try clear hb); (try clear ho0); (try clear ho1); obtain ⟨Ao59, co59, eo59⟩ := Kd.R_slice HO171.out; subst eo59; obtain ⟨Ao60, co60, eo60⟩ := Kd.R_slice HO174.out; subst eo60; obtain ⟨Ao61, co61, eo61⟩ := Kd.R_slice HO178.out; subst eo61; obtain ⟨Ao62, co62, eo62⟩ := Kd.R_slice HO181.out; subst eo62) | ((with_reducible refine gate_callee (f := 18) rfl ?_); refine sq_goes (some 6) Try.func18 #[.agg #[.int .i64 t168, .slice Ao59 t169.length co59, .slice Ao60 t172.length co60], .agg #[.int .i64 t175, .slice Ao61 t176.length co61, .slice Ao62 t179.length co62]] ?_; (with_reducible refine (system_Iso.calls k t168 _ _ t169 _ _ t172 t175 _ _ t176 _ _ t179 t182 true _ ?side1 ?side2 ?side3 ?side4 ?side5 ?side6 ?side7 ?side8 A3.out).mono ?_); (case side1 => exact sq_kc ((Kd.R_reads' HO171.out).2.2)); (case side2 => exact (Kd.R_reads' HO171.out).2.1); (case side3 => exact sq_kc ((Kd.R_reads' HO174.out).2.2)); (case side4 => exact (Kd.R_reads' HO174.out).2.1); (case side5 => exact sq_kc ((Kd.R_reads' HO178.out).2.2)); (case side6 => exact (Kd.R_reads' HO178.out).2.1); (case side7 => exact sq_kc ((Kd.R_reads' HO181.out).2.2)); (case side8 => exact (Kd.R_reads' HO181.out).2.1); rintro e w63 ⟨v183, rfl, ho0, hb⟩; refine ⟨_, rfl, ?_⟩; have n0_ := Aside0.mk (Kd.R_below (sq_kr HO171.out) hb); have n1_ := Aside0.mk (Kd.R_below (sq_kr HO174.out) hb); have n2_ := Aside0.mk (Kd.R_below (sq_kr HO178.out) hb); have n3_ := Aside0.mk (Kd.R_below (sq_kr HO181.out) hb); have n4_ := Aside0.mk (Kd.R_lower ho0 (below_size (sq_bl HB.out))); have n5_ := Aside0.mk (below_step (sq_bl HB.out) hb); clear HO171; clear HO174; clear HO178; clear HO181; clear HB; have HO171 := n0_; have HO174 := n1_; have HO178 := n2_; have HO181 := n3_; have HO184 := n4_; have HB := n5_; clear n0_ n1_ n2_ n3_ n4_ n5_; (try clear hb); (try clear ho0)) | ((with_reducible refine gate_dst (N := 12) rfl ?_); (try (refine gate_guard (by rfl) ?_; dsimp only)); refine Kd.R_lit (Kd.int .i64) _ 3 ?hg (N := 12) ?hd (xs := ([0, 1] : List Int)) (inner := [.int .i64 0, .int .i64 1]) (ok := fun _ => True) (okp := fun _ => True) ?hr ?hp (fun _ hk => hk) trivial (Below.refl _ _) (Nat.le_refl _) (by simp) ?_; (case hd => rfl); (case hg => rfl); (case hr => first | (go_simp; done) | (go_simp; rfl)); (case hp => exact (Reps.one (show Kd.M (Kd.int .i64) _ _ _ 0 [.int .i64 0] from rfl) (Reps.one (show Kd.M (Kd.int .i64) _ _ _ 1 [.int .i64 1] from rfl) (Reps.none _ _)))); intro v187 w64 ho65 hb hg_ hnew_; clear hg_ hnew_; (first | rw [← Ny186.out] at ho65 | (simp only [Int.reduceToNat] at ho65; rw [← Ny186.out] at ho65)); have n0_ := Aside0.mk (Kd.R_below (sq_kr HO171.out) hb); have n1_ := Aside0.mk (Kd.R_below (sq_kr HO174.out) hb); have n2_ := Aside0.mk (Kd.R_below (sq_kr HO178.out) hb); have n3_ := Aside0.mk (Kd.R_below (sq_kr HO181.out) hb); have n4_ := Aside0.mk (Kd.R_elder' (sq_kr HO184.out) (Kd.R_base ho65) hb); have n5_ := Aside0.mk (Kd.R_lower (Kd.R_new' ho65 (Kd.R_lt (sq_kr HO184.out))) (below_size (sq_bl HB.out))); have n6_ := Aside0.mk (below_step (sq_bl HB.out) hb); clear HO171; clear HO174; clear HO178; clear HO181; clear HO184; clear HB; have HO171 := n0_; have HO174 := n1_; have HO178 := n2_; have HO181 := n3_; have HO184 := n4_; have HO188 := n5_; have HB := n6_; clear n0_ n1_ n2_ n3_ n4_ n5_ n6_; clear hb ho65; obtain ⟨Ao66, co66, eo66⟩ := Kd.R_slice HO184.out; subst eo66; obtain ⟨Ao67, co67, eo67⟩ := Kd.R_slice HO188.out; subst eo67) | (go_at_call 20; (with_reducible refine (petrinetref04_Same.calls k _ _ t182 _ _ y186 true _ ?side1 ?side2 ?side3 ?side4 A5.out).mono ?_); (case side1 => exact sq_kc ((Kd.R_reads' HO184.out).2.2)); (case side2 => exact (Kd.R_reads' HO184.out).2.1); (case side3 => exact sq_kc ((Kd.R_reads' HO188.out).2.2)); (case side4 => exact (Kd.R_reads' HO188.out).2.1); rintro e w' ⟨rfl, ⟨nd, rfl⟩⟩) | (go_at_call 24; (with_reducible refine (petrinetlaw45_cycle.calls  t190 t191 t194 _ A7.out).mono ?_); rintro e w68 ⟨v192, v195, rfl, ho0, ho1, hb⟩; clear A7; have n0_ := Aside0.mk (Kd.R_elder' (sq_kr HO171.out) (Kd.R_base ho0) hb); have n1_ := Aside0.mk (Kd.R_elder' (sq_kr HO174.out) (Kd.R_base ho1) hb); have n2_ := Aside0.mk (Kd.R_elder' (sq_kr HO178.out) (Kd.R_base ho0) hb); have n3_ := Aside0.mk (Kd.R_elder' (sq_kr HO181.out) (Kd.R_base ho1) hb); have n4_ := Aside0.mk (Kd.R_below (sq_kr HO184.out) hb); have n5_ := Aside0.mk (Kd.R_below (sq_kr HO188.out) hb); have n6_ := Aside0.mk (Kd.R_lower (Kd.R_new' (Kd.R_new' ho0 (Kd.R_lt (sq_kr HO171.out))) (Kd.R_lt (sq_kr HO178.out))) (below_size (sq_bl HB.out))); have n7_ := Aside0.mk (Kd.R_lower (Kd.R_new' (Kd.R_new' ho1 (Kd.R_lt (sq_kr HO174.out))) (Kd.R_lt (sq_kr HO181.out))) (below_size (sq_bl HB.out))); have n8_ := Aside0.mk (below_step (sq_bl HB.out) hb); clear HO171; clear HO174; clear HO178; clear HO181; clear HO184; clear HO188; clear HB; have HO171 := n0_; have HO174 := n1_; have HO178 := n2_; have HO181 := n3_; have HO184 := n4_; have HO188 := n5_; have HO193 := n6_; have HO196 := n7_; have HB := n8_; clear n0_ n1_ n2_ n3_ n4_ n5_ n6_ n7_ n8_; (try clear hb); (try clear hk); (try clear ho0); (try clear ho1); obtain ⟨Ao69, co69, eo69⟩ := Kd.R_slice HO193.out; subst eo69; obtain ⟨Ao70, co70, eo70⟩ := Kd.R_slice HO196.out; subst eo70) | (go_at_call 16; (with_reducible refine (system_Next.calls k t190 _ _ t191 _ _ t194 1 1 t197 _ ?side1 ?side2 ?side3 ?side4 A8.out).mono ?_); (case side1 => exact sq_kc ((Kd.R_reads' HO193.out).2.2)); (case side2 => exact (Kd.R_reads' HO193.out).2.1); (case side3 => exact sq_kc ((Kd.R_reads' HO196.out).2.2)); (case side4 => exact (Kd.R_reads' HO196.out).2.1); rintro e w71 ⟨rfl, hb⟩; have n0_ := Aside0.mk (Kd.R_below (sq_kr HO171.out) hb); have n1_ := Aside0.mk (Kd.R_below (sq_kr HO174.out) hb); have n2_ := Aside0.mk (Kd.R_below (sq_kr HO178.out) hb); have n3_ := Aside0.mk (Kd.R_below (sq_kr HO181.out) hb); have n4_ := Aside0.mk (Kd.R_below (sq_kr HO184.out) hb); have n5_ := Aside0.mk (Kd.R_below (sq_kr HO188.out) hb); have n6_ := Aside0.mk (Kd.R_below (sq_kr HO193.out) hb); have n7_ := Aside0.mk (Kd.R_below (sq_kr HO196.out) hb); have n8_ := Aside0.mk (below_step (sq_bl HB.out) hb); clear HO171; clear HO174; clear HO178; clear HO181; clear HO184; clear HO188; clear HO193; clear HO196; clear HB; have HO171 := n0_; have HO174 := n1_; have HO178 := n2_; have HO181 := n3_; have HO184 := n4_; have HO188 := n5_; have HO193 := n6_; have HO196 := n7_; have HB := n8_; clear n0_ n1_ n2_ n3_ n4_ n5_ n6_ n7_ n8_; (try clear hb); (try clear hk)))
  go_ret
  exact ⟨by first | rfl | (simp [errW_none, errW_some] <;> rfl) | (simp [*, errW_none, errW_some] <;> rfl), sq_bl HB.out⟩
 rw [if_pos c9] at H
 have c9b0 : (t197 == 0) = true := beq_iff_eq.mpr c9
 have c9b1 : (t197 != 0) = false := bne_eq_false_iff_eq.mpr c9
 clear c9
 replace H := Option.bind_eq_some_iff.mp H
 obtain ⟨⟨t198, t199, t202⟩, A100, H⟩ := H
 replace H : ((system_Deterministic.f k t198 t199 t202).bind fun t205 => (if t205 = true then ((petrinetlaw45_cycle.f).bind fun bt206 => ((system_Reachable.f k bt206.1 bt206.2.1 bt206.2.2).bind fun t213 => (some t213))) else (some false))) = some r := H
 have A10 := Aside0.mk A100
 clear A100
 replace H := Option.bind_eq_some_iff.mp H
 obtain ⟨t205, A110, H⟩ := H
 replace H : (if t205 = true then ((petrinetlaw45_cycle.f).bind fun bt206 => ((system_Reachable.f k bt206.1 bt206.2.1 bt206.2.2).bind fun t213 => (some t213))) else (some false)) = some r := H
 have A11 := Aside0.mk A110
 clear A110
 by_cases c12 : t205 = true
 rotate_left
 ·replace c12 := Bool.eq_false_iff.mpr c12
  subst c12
  have H1 : (some false) = some r := by rw [if_neg (show ¬ (false = true) by decide)] at H; exact H
  clear H
  have H := H1
  clear H1
  obtain rfl := Option.some.inj H
  go_enter Try.func9, Try.ntmps9
  go_wp2_with (first | ((with_reducible refine gate_callee (f := 24) rfl ?_); refine sq_goes (some 4) Try.func24 #[] ?_; (with_reducible refine (petrinetlaw45_cycle.calls  t168 t169 t172 _ A1.out).mono ?_); rintro e w38 ⟨v170, v173, rfl, ho0, ho1, hb⟩; clear A1; refine ⟨_, rfl, ?_⟩; have n0_ := Aside0.mk (Kd.R_lower ho0 (below_size (sq_bl HB.out))); have n1_ := Aside0.mk (Kd.R_lower ho1 (below_size (sq_bl HB.out))); have n2_ := Aside0.mk (below_step (sq_bl HB.out) hb); clear HB; have HO171 := n0_; have HO174 := n1_; have HB := n2_; clear n0_ n1_ n2_; (try clear hb); (try clear ho0); (try clear ho1)) | ((with_reducible refine gate_callee (f := 24) rfl ?_); refine sq_goes (some 5) Try.func24 #[] ?_; (with_reducible refine (petrinetlaw45_cycle.calls  t175 t176 t179 _ A2.out).mono ?_); rintro e w39 ⟨v177, v180, rfl, ho0, ho1, hb⟩; clear A2; refine ⟨_, rfl, ?_⟩; have n0_ := Aside0.mk (Kd.R_elder' (sq_kr HO171.out) (Kd.R_base ho0) hb); have n1_ := Aside0.mk (Kd.R_elder' (sq_kr HO174.out) (Kd.R_base ho1) hb); have n2_ := Aside0.mk (Kd.R_lower (Kd.R_new' ho0 (Kd.R_lt (sq_kr HO171.out))) (below_size (sq_bl HB.out))); have n3_ := Aside0.mk (Kd.R_lower (Kd.R_new' ho1 (Kd.R_lt (sq_kr HO174.out))) (below_size (sq_bl HB.out))); have n4_ := Aside0.mk (below_step (sq_bl HB.out) hb); clear HO171; clear HO174; clear HB; have HO171 := n0_; have HO174 := n1_; have HO178 := n2_; have HO181 := n3_; have HB := n4_; clear n0_ n1_ n2_ n3_ n4_; (try clear hb); (try clear ho0); (try clear ho1); obtain ⟨Ao40, co40, eo40⟩ := Kd.R_slice HO171.out; subst eo40; obtain ⟨Ao41, co41, eo41⟩ := Kd.R_slice HO174.out; subst eo41; obtain ⟨Ao42, co42, eo42⟩ := Kd.R_slice HO178.out; subst eo42; obtain ⟨Ao43, co43, eo43⟩ := Kd.R_slice HO181.out; subst eo43) | ((with_reducible refine gate_callee (f := 18) rfl ?_); refine sq_goes (some 6) Try.func18 #[.agg #[.int .i64 t168, .slice Ao40 t169.length co40, .slice Ao41 t172.length co41], .agg #[.int .i64 t175, .slice Ao42 t176.length co42, .slice Ao43 t179.length co43]] ?_; (with_reducible refine (system_Iso.calls k t168 _ _ t169 _ _ t172 t175 _ _ t176 _ _ t179 t182 true _ ?side1 ?side2 ?side3 ?side4 ?side5 ?side6 ?side7 ?side8 A3.out).mono ?_); (case side1 => exact sq_kc ((Kd.R_reads' HO171.out).2.2)); (case side2 => exact (Kd.R_reads' HO171.out).2.1); (case side3 => exact sq_kc ((Kd.R_reads' HO174.out).2.2)); (case side4 => exact (Kd.R_reads' HO174.out).2.1); (case side5 => exact sq_kc ((Kd.R_reads' HO178.out).2.2)); (case side6 => exact (Kd.R_reads' HO178.out).2.1); (case side7 => exact sq_kc ((Kd.R_reads' HO181.out).2.2)); (case side8 => exact (Kd.R_reads' HO181.out).2.1); rintro e w44 ⟨v183, rfl, ho0, hb⟩; refine ⟨_, rfl, ?_⟩; have n0_ := Aside0.mk (Kd.R_below (sq_kr HO171.out) hb); have n1_ := Aside0.mk (Kd.R_below (sq_kr HO174.out) hb); have n2_ := Aside0.mk (Kd.R_below (sq_kr HO178.out) hb); have n3_ := Aside0.mk (Kd.R_below (sq_kr HO181.out) hb); have n4_ := Aside0.mk (Kd.R_lower ho0 (below_size (sq_bl HB.out))); have n5_ := Aside0.mk (below_step (sq_bl HB.out) hb); clear HO171; clear HO174; clear HO178; clear HO181; clear HB; have HO171 := n0_; have HO174 := n1_; have HO178 := n2_; have HO181 := n3_; have HO184 := n4_; have HB := n5_; clear n0_ n1_ n2_ n3_ n4_ n5_; (try clear hb); (try clear ho0)) | ((with_reducible refine gate_dst (N := 12) rfl ?_); (try (refine gate_guard (by rfl) ?_; dsimp only)); refine Kd.R_lit (Kd.int .i64) _ 3 ?hg (N := 12) ?hd (xs := ([0, 1] : List Int)) (inner := [.int .i64 0, .int .i64 1]) (ok := fun _ => True) (okp := fun _ => True) ?hr ?hp (fun _ hk => hk) trivial (Below.refl _ _) (Nat.le_refl _) (by simp) ?_; (case hd => rfl); (case hg => rfl); (case hr => first | (go_simp; done) | (go_simp; rfl)); (case hp => exact (Reps.one (show Kd.M (Kd.int .i64) _ _ _ 0 [.int .i64 0] from rfl) (Reps.one (show Kd.M (Kd.int .i64) _ _ _ 1 [.int .i64 1] from rfl) (Reps.none _ _)))); intro v187 w45 ho46 hb hg_ hnew_; clear hg_ hnew_; (first | rw [← Ny186.out] at ho46 | (simp only [Int.reduceToNat] at ho46; rw [← Ny186.out] at ho46)); have n0_ := Aside0.mk (Kd.R_below (sq_kr HO171.out) hb); have n1_ := Aside0.mk (Kd.R_below (sq_kr HO174.out) hb); have n2_ := Aside0.mk (Kd.R_below (sq_kr HO178.out) hb); have n3_ := Aside0.mk (Kd.R_below (sq_kr HO181.out) hb); have n4_ := Aside0.mk (Kd.R_elder' (sq_kr HO184.out) (Kd.R_base ho46) hb); have n5_ := Aside0.mk (Kd.R_lower (Kd.R_new' ho46 (Kd.R_lt (sq_kr HO184.out))) (below_size (sq_bl HB.out))); have n6_ := Aside0.mk (below_step (sq_bl HB.out) hb); clear HO171; clear HO174; clear HO178; clear HO181; clear HO184; clear HB; have HO171 := n0_; have HO174 := n1_; have HO178 := n2_; have HO181 := n3_; have HO184 := n4_; have HO188 := n5_; have HB := n6_; clear n0_ n1_ n2_ n3_ n4_ n5_ n6_; clear hb ho46; obtain ⟨Ao47, co47, eo47⟩ := Kd.R_slice HO184.out; subst eo47; obtain ⟨Ao48, co48, eo48⟩ := Kd.R_slice HO188.out; subst eo48) | (go_at_call 20; (with_reducible refine (petrinetref04_Same.calls k _ _ t182 _ _ y186 true _ ?side1 ?side2 ?side3 ?side4 A5.out).mono ?_); (case side1 => exact sq_kc ((Kd.R_reads' HO184.out).2.2)); (case side2 => exact (Kd.R_reads' HO184.out).2.1); (case side3 => exact sq_kc ((Kd.R_reads' HO188.out).2.2)); (case side4 => exact (Kd.R_reads' HO188.out).2.1); rintro e w' ⟨rfl, ⟨nd, rfl⟩⟩) | (go_at_call 24; (with_reducible refine (petrinetlaw45_cycle.calls  t190 t191 t194 _ A7.out).mono ?_); rintro e w49 ⟨v192, v195, rfl, ho0, ho1, hb⟩; clear A7; have n0_ := Aside0.mk (Kd.R_elder' (sq_kr HO171.out) (Kd.R_base ho0) hb); have n1_ := Aside0.mk (Kd.R_elder' (sq_kr HO174.out) (Kd.R_base ho1) hb); have n2_ := Aside0.mk (Kd.R_elder' (sq_kr HO178.out) (Kd.R_base ho0) hb); have n3_ := Aside0.mk (Kd.R_elder' (sq_kr HO181.out) (Kd.R_base ho1) hb); have n4_ := Aside0.mk (Kd.R_below (sq_kr HO184.out) hb); have n5_ := Aside0.mk (Kd.R_below (sq_kr HO188.out) hb); have n6_ := Aside0.mk (Kd.R_lower (Kd.R_new' (Kd.R_new' ho0 (Kd.R_lt (sq_kr HO171.out))) (Kd.R_lt (sq_kr HO178.out))) (below_size (sq_bl HB.out))); have n7_ := Aside0.mk (Kd.R_lower (Kd.R_new' (Kd.R_new' ho1 (Kd.R_lt (sq_kr HO174.out))) (Kd.R_lt (sq_kr HO181.out))) (below_size (sq_bl HB.out))); have n8_ := Aside0.mk (below_step (sq_bl HB.out) hb); clear HO171; clear HO174; clear HO178; clear HO181; clear HO184; clear HO188; clear HB; have HO171 := n0_; have HO174 := n1_; have HO178 := n2_; have HO181 := n3_; have HO184 := n4_; have HO188 := n5_; have HO193 := n6_; have HO196 := n7_; have HB := n8_; clear n0_ n1_ n2_ n3_ n4_ n5_ n6_ n7_ n8_; (try clear hb); (try clear hk); (try clear ho0); (try clear ho1); obtain ⟨Ao50, co50, eo50⟩ := Kd.R_slice HO193.out; subst eo50; obtain ⟨Ao51, co51, eo51⟩ := Kd.R_slice HO196.out; subst eo51) | (go_at_call 16; (with_reducible refine (system_Next.calls k t190 _ _ t191 _ _ t194 1 1 t197 _ ?side1 ?side2 ?side3 ?side4 A8.out).mono ?_); (case side1 => exact sq_kc ((Kd.R_reads' HO193.out).2.2)); (case side2 => exact (Kd.R_reads' HO193.out).2.1); (case side3 => exact sq_kc ((Kd.R_reads' HO196.out).2.2)); (case side4 => exact (Kd.R_reads' HO196.out).2.1); rintro e w52 ⟨rfl, hb⟩; have n0_ := Aside0.mk (Kd.R_below (sq_kr HO171.out) hb); have n1_ := Aside0.mk (Kd.R_below (sq_kr HO174.out) hb); have n2_ := Aside0.mk (Kd.R_below (sq_kr HO178.out) hb); have n3_ := Aside0.mk (Kd.R_below (sq_kr HO181.out) hb); have n4_ := Aside0.mk (Kd.R_below (sq_kr HO184.out) hb); have n5_ := Aside0.mk (Kd.R_below (sq_kr HO188.out) hb); have n6_ := Aside0.mk (Kd.R_below (sq_kr HO193.out) hb); have n7_ := Aside0.mk (Kd.R_below (sq_kr HO196.out) hb); have n8_ := Aside0.mk (below_step (sq_bl HB.out) hb); clear HO171; clear HO174; clear HO178; clear HO181; clear HO184; clear HO188; clear HO193; clear HO196; clear HB; have HO171 := n0_; have HO174 := n1_; have HO178 := n2_; have HO181 := n3_; have HO184 := n4_; have HO188 := n5_; have HO193 := n6_; have HO196 := n7_; have HB := n8_; clear n0_ n1_ n2_ n3_ n4_ n5_ n6_ n7_ n8_; (try clear hb); (try clear hk)) | (go_at_call 24; (with_reducible refine (petrinetlaw45_cycle.calls  t198 t199 t202 _ A10.out).mono ?_); rintro e w53 ⟨v200, v203, rfl, ho0, ho1, hb⟩; clear A10; have n0_ := Aside0.mk (Kd.R_elder' (sq_kr HO171.out) (Kd.R_base ho0) hb); have n1_ := Aside0.mk (Kd.R_elder' (sq_kr HO174.out) (Kd.R_base ho1) hb); have n2_ := Aside0.mk (Kd.R_elder' (sq_kr HO178.out) (Kd.R_base ho0) hb); have n3_ := Aside0.mk (Kd.R_elder' (sq_kr HO181.out) (Kd.R_base ho1) hb); have n4_ := Aside0.mk (Kd.R_below (sq_kr HO184.out) hb); have n5_ := Aside0.mk (Kd.R_below (sq_kr HO188.out) hb); have n6_ := Aside0.mk (Kd.R_elder' (sq_kr HO193.out) (Kd.R_base ho0) hb); have n7_ := Aside0.mk (Kd.R_elder' (sq_kr HO196.out) (Kd.R_base ho1) hb); have n8_ := Aside0.mk (Kd.R_lower (Kd.R_new' (Kd.R_new' (Kd.R_new' ho0 (Kd.R_lt (sq_kr HO171.out))) (Kd.R_lt (sq_kr HO178.out))) (Kd.R_lt (sq_kr HO193.out))) (below_size (sq_bl HB.out))); have n9_ := Aside0.mk (Kd.R_lower (Kd.R_new' (Kd.R_new' (Kd.R_new' ho1 (Kd.R_lt (sq_kr HO174.out))) (Kd.R_lt (sq_kr HO181.out))) (Kd.R_lt (sq_kr HO196.out))) (below_size (sq_bl HB.out))); have n10_ := Aside0.mk (below_step (sq_bl HB.out) hb); clear HO171; clear HO174; clear HO178; clear HO181; clear HO184; clear HO188; clear HO193; clear HO196; clear HB; have HO171 := n0_; have HO174 := n1_; have HO178 := n2_; have HO181 := n3_; have HO184 := n4_; have HO188 := n5_; have HO193 := n6_; have HO196 := n7_; have HO201 := n8_; have HO204 := n9_; have HB := n10_; clear n0_ n1_ n2_ n3_ n4_ n5_ n6_ n7_ n8_ n9_ n10_; (try clear hb); (try clear hk); (try clear ho0); (try clear ho1); obtain ⟨Ao54, co54, eo54⟩ := Kd.R_slice HO201.out; subst eo54; obtain ⟨Ao55, co55, eo55⟩ := Kd.R_slice HO204.out; subst eo55) | (go_at_call 12; (with_reducible refine (system_Deterministic.calls k t198 _ _ t199 _ _ t202 false _ ?side1 ?side2 ?side3 ?side4 A11.out).mono ?_); (case side1 => exact sq_kc ((Kd.R_reads' HO201.out).2.2)); (case side2 => exact (Kd.R_reads' HO201.out).2.1); (case side3 => exact sq_kc ((Kd.R_reads' HO204.out).2.2)); (case side4 => exact (Kd.R_reads' HO204.out).2.1); rintro e w56 ⟨rfl, hb⟩; have n0_ := Aside0.mk (Kd.R_below (sq_kr HO171.out) hb); have n1_ := Aside0.mk (Kd.R_below (sq_kr HO174.out) hb); have n2_ := Aside0.mk (Kd.R_below (sq_kr HO178.out) hb); have n3_ := Aside0.mk (Kd.R_below (sq_kr HO181.out) hb); have n4_ := Aside0.mk (Kd.R_below (sq_kr HO184.out) hb); have n5_ := Aside0.mk (Kd.R_below (sq_kr HO188.out) hb); have n6_ := Aside0.mk (Kd.R_below (sq_kr HO193.out) hb); have n7_ := Aside0.mk (Kd.R_below (sq_kr HO196.out) hb); have n8_ := Aside0.mk (Kd.R_below (sq_kr HO201.out) hb); have n9_ := Aside0.mk (Kd.R_below (sq_kr HO204.out) hb); have n10_ := Aside0.mk (below_step (sq_bl HB.out) hb); clear HO171; clear HO174; clear HO178; clear HO181; clear HO184; clear HO188; clear HO193; clear HO196; clear HO201; clear HO204; clear HB; have HO171 := n0_; have HO174 := n1_; have HO178 := n2_; have HO181 := n3_; have HO184 := n4_; have HO188 := n5_; have HO193 := n6_; have HO196 := n7_; have HO201 := n8_; have HO204 := n9_; have HB := n10_; clear n0_ n1_ n2_ n3_ n4_ n5_ n6_ n7_ n8_ n9_ n10_; (try clear hb); (try clear hk)))
  go_ret
  exact ⟨by first | rfl | (simp [errW_none, errW_some] <;> rfl) | (simp [*, errW_none, errW_some] <;> rfl), sq_bl HB.out⟩
 subst c12
 have H1 : ((petrinetlaw45_cycle.f).bind fun bt206 => ((system_Reachable.f k bt206.1 bt206.2.1 bt206.2.2).bind fun t213 => (some t213))) = some r := by rw [if_pos rfl] at H; exact H
 clear H
 have H := H1
 clear H1
 replace H := Option.bind_eq_some_iff.mp H
 obtain ⟨⟨t206, t207, t210⟩, A130, H⟩ := H
 replace H : ((system_Reachable.f k t206 t207 t210).bind fun t213 => (some t213)) = some r := H
 have A13 := Aside0.mk A130
 clear A130
 replace H := Option.bind_eq_some_iff.mp H
 obtain ⟨t213, A140, H⟩ := H
 replace H : (some t213) = some r := H
 have A14 := Aside0.mk A140
 clear A140
 obtain rfl := Option.some.inj H
 go_enter Try.func9, Try.ntmps9
 go_wp2_with (first | ((with_reducible refine gate_callee (f := 24) rfl ?_); refine sq_goes (some 4) Try.func24 #[] ?_; (with_reducible refine (petrinetlaw45_cycle.calls  t168 t169 t172 _ A1.out).mono ?_); rintro e w15 ⟨v170, v173, rfl, ho0, ho1, hb⟩; clear A1; refine ⟨_, rfl, ?_⟩; have n0_ := Aside0.mk (Kd.R_lower ho0 (below_size (sq_bl HB.out))); have n1_ := Aside0.mk (Kd.R_lower ho1 (below_size (sq_bl HB.out))); have n2_ := Aside0.mk (below_step (sq_bl HB.out) hb); clear HB; have HO171 := n0_; have HO174 := n1_; have HB := n2_; clear n0_ n1_ n2_; (try clear hb); (try clear ho0); (try clear ho1)) | ((with_reducible refine gate_callee (f := 24) rfl ?_); refine sq_goes (some 5) Try.func24 #[] ?_; (with_reducible refine (petrinetlaw45_cycle.calls  t175 t176 t179 _ A2.out).mono ?_); rintro e w16 ⟨v177, v180, rfl, ho0, ho1, hb⟩; clear A2; refine ⟨_, rfl, ?_⟩; have n0_ := Aside0.mk (Kd.R_elder' (sq_kr HO171.out) (Kd.R_base ho0) hb); have n1_ := Aside0.mk (Kd.R_elder' (sq_kr HO174.out) (Kd.R_base ho1) hb); have n2_ := Aside0.mk (Kd.R_lower (Kd.R_new' ho0 (Kd.R_lt (sq_kr HO171.out))) (below_size (sq_bl HB.out))); have n3_ := Aside0.mk (Kd.R_lower (Kd.R_new' ho1 (Kd.R_lt (sq_kr HO174.out))) (below_size (sq_bl HB.out))); have n4_ := Aside0.mk (below_step (sq_bl HB.out) hb); clear HO171; clear HO174; clear HB; have HO171 := n0_; have HO174 := n1_; have HO178 := n2_; have HO181 := n3_; have HB := n4_; clear n0_ n1_ n2_ n3_ n4_; (try clear hb); (try clear ho0); (try clear ho1); obtain ⟨Ao17, co17, eo17⟩ := Kd.R_slice HO171.out; subst eo17; obtain ⟨Ao18, co18, eo18⟩ := Kd.R_slice HO174.out; subst eo18; obtain ⟨Ao19, co19, eo19⟩ := Kd.R_slice HO178.out; subst eo19; obtain ⟨Ao20, co20, eo20⟩ := Kd.R_slice HO181.out; subst eo20) | ((with_reducible refine gate_callee (f := 18) rfl ?_); refine sq_goes (some 6) Try.func18 #[.agg #[.int .i64 t168, .slice Ao17 t169.length co17, .slice Ao18 t172.length co18], .agg #[.int .i64 t175, .slice Ao19 t176.length co19, .slice Ao20 t179.length co20]] ?_; (with_reducible refine (system_Iso.calls k t168 _ _ t169 _ _ t172 t175 _ _ t176 _ _ t179 t182 true _ ?side1 ?side2 ?side3 ?side4 ?side5 ?side6 ?side7 ?side8 A3.out).mono ?_); (case side1 => exact sq_kc ((Kd.R_reads' HO171.out).2.2)); (case side2 => exact (Kd.R_reads' HO171.out).2.1); (case side3 => exact sq_kc ((Kd.R_reads' HO174.out).2.2)); (case side4 => exact (Kd.R_reads' HO174.out).2.1); (case side5 => exact sq_kc ((Kd.R_reads' HO178.out).2.2)); (case side6 => exact (Kd.R_reads' HO178.out).2.1); (case side7 => exact sq_kc ((Kd.R_reads' HO181.out).2.2)); (case side8 => exact (Kd.R_reads' HO181.out).2.1); rintro e w21 ⟨v183, rfl, ho0, hb⟩; refine ⟨_, rfl, ?_⟩; have n0_ := Aside0.mk (Kd.R_below (sq_kr HO171.out) hb); have n1_ := Aside0.mk (Kd.R_below (sq_kr HO174.out) hb); have n2_ := Aside0.mk (Kd.R_below (sq_kr HO178.out) hb); have n3_ := Aside0.mk (Kd.R_below (sq_kr HO181.out) hb); have n4_ := Aside0.mk (Kd.R_lower ho0 (below_size (sq_bl HB.out))); have n5_ := Aside0.mk (below_step (sq_bl HB.out) hb); clear HO171; clear HO174; clear HO178; clear HO181; clear HB; have HO171 := n0_; have HO174 := n1_; have HO178 := n2_; have HO181 := n3_; have HO184 := n4_; have HB := n5_; clear n0_ n1_ n2_ n3_ n4_ n5_; (try clear hb); (try clear ho0)) | ((with_reducible refine gate_dst (N := 12) rfl ?_); (try (refine gate_guard (by rfl) ?_; dsimp only)); refine Kd.R_lit (Kd.int .i64) _ 3 ?hg (N := 12) ?hd (xs := ([0, 1] : List Int)) (inner := [.int .i64 0, .int .i64 1]) (ok := fun _ => True) (okp := fun _ => True) ?hr ?hp (fun _ hk => hk) trivial (Below.refl _ _) (Nat.le_refl _) (by simp) ?_; (case hd => rfl); (case hg => rfl); (case hr => first | (go_simp; done) | (go_simp; rfl)); (case hp => exact (Reps.one (show Kd.M (Kd.int .i64) _ _ _ 0 [.int .i64 0] from rfl) (Reps.one (show Kd.M (Kd.int .i64) _ _ _ 1 [.int .i64 1] from rfl) (Reps.none _ _)))); intro v187 w22 ho23 hb hg_ hnew_; clear hg_ hnew_; (first | rw [← Ny186.out] at ho23 | (simp only [Int.reduceToNat] at ho23; rw [← Ny186.out] at ho23)); have n0_ := Aside0.mk (Kd.R_below (sq_kr HO171.out) hb); have n1_ := Aside0.mk (Kd.R_below (sq_kr HO174.out) hb); have n2_ := Aside0.mk (Kd.R_below (sq_kr HO178.out) hb); have n3_ := Aside0.mk (Kd.R_below (sq_kr HO181.out) hb); have n4_ := Aside0.mk (Kd.R_elder' (sq_kr HO184.out) (Kd.R_base ho23) hb); have n5_ := Aside0.mk (Kd.R_lower (Kd.R_new' ho23 (Kd.R_lt (sq_kr HO184.out))) (below_size (sq_bl HB.out))); have n6_ := Aside0.mk (below_step (sq_bl HB.out) hb); clear HO171; clear HO174; clear HO178; clear HO181; clear HO184; clear HB; have HO171 := n0_; have HO174 := n1_; have HO178 := n2_; have HO181 := n3_; have HO184 := n4_; have HO188 := n5_; have HB := n6_; clear n0_ n1_ n2_ n3_ n4_ n5_ n6_; clear hb ho23; obtain ⟨Ao24, co24, eo24⟩ := Kd.R_slice HO184.out; subst eo24; obtain ⟨Ao25, co25, eo25⟩ := Kd.R_slice HO188.out; subst eo25) | (go_at_call 20; (with_reducible refine (petrinetref04_Same.calls k _ _ t182 _ _ y186 true _ ?side1 ?side2 ?side3 ?side4 A5.out).mono ?_); (case side1 => exact sq_kc ((Kd.R_reads' HO184.out).2.2)); (case side2 => exact (Kd.R_reads' HO184.out).2.1); (case side3 => exact sq_kc ((Kd.R_reads' HO188.out).2.2)); (case side4 => exact (Kd.R_reads' HO188.out).2.1); rintro e w' ⟨rfl, ⟨nd, rfl⟩⟩) | (go_at_call 24; (with_reducible refine (petrinetlaw45_cycle.calls  t190 t191 t194 _ A7.out).mono ?_); rintro e w26 ⟨v192, v195, rfl, ho0, ho1, hb⟩; clear A7; have n0_ := Aside0.mk (Kd.R_elder' (sq_kr HO171.out) (Kd.R_base ho0) hb); have n1_ := Aside0.mk (Kd.R_elder' (sq_kr HO174.out) (Kd.R_base ho1) hb); have n2_ := Aside0.mk (Kd.R_elder' (sq_kr HO178.out) (Kd.R_base ho0) hb); have n3_ := Aside0.mk (Kd.R_elder' (sq_kr HO181.out) (Kd.R_base ho1) hb); have n4_ := Aside0.mk (Kd.R_below (sq_kr HO184.out) hb); have n5_ := Aside0.mk (Kd.R_below (sq_kr HO188.out) hb); have n6_ := Aside0.mk (Kd.R_lower (Kd.R_new' (Kd.R_new' ho0 (Kd.R_lt (sq_kr HO171.out))) (Kd.R_lt (sq_kr HO178.out))) (below_size (sq_bl HB.out))); have n7_ := Aside0.mk (Kd.R_lower (Kd.R_new' (Kd.R_new' ho1 (Kd.R_lt (sq_kr HO174.out))) (Kd.R_lt (sq_kr HO181.out))) (below_size (sq_bl HB.out))); have n8_ := Aside0.mk (below_step (sq_bl HB.out) hb); clear HO171; clear HO174; clear HO178; clear HO181; clear HO184; clear HO188; clear HB; have HO171 := n0_; have HO174 := n1_; have HO178 := n2_; have HO181 := n3_; have HO184 := n4_; have HO188 := n5_; have HO193 := n6_; have HO196 := n7_; have HB := n8_; clear n0_ n1_ n2_ n3_ n4_ n5_ n6_ n7_ n8_; (try clear hb); (try clear hk); (try clear ho0); (try clear ho1); obtain ⟨Ao27, co27, eo27⟩ := Kd.R_slice HO193.out; subst eo27; obtain ⟨Ao28, co28, eo28⟩ := Kd.R_slice HO196.out; subst eo28) | (go_at_call 16; (with_reducible refine (system_Next.calls k t190 _ _ t191 _ _ t194 1 1 t197 _ ?side1 ?side2 ?side3 ?side4 A8.out).mono ?_); (case side1 => exact sq_kc ((Kd.R_reads' HO193.out).2.2)); (case side2 => exact (Kd.R_reads' HO193.out).2.1); (case side3 => exact sq_kc ((Kd.R_reads' HO196.out).2.2)); (case side4 => exact (Kd.R_reads' HO196.out).2.1); rintro e w29 ⟨rfl, hb⟩; have n0_ := Aside0.mk (Kd.R_below (sq_kr HO171.out) hb); have n1_ := Aside0.mk (Kd.R_below (sq_kr HO174.out) hb); have n2_ := Aside0.mk (Kd.R_below (sq_kr HO178.out) hb); have n3_ := Aside0.mk (Kd.R_below (sq_kr HO181.out) hb); have n4_ := Aside0.mk (Kd.R_below (sq_kr HO184.out) hb); have n5_ := Aside0.mk (Kd.R_below (sq_kr HO188.out) hb); have n6_ := Aside0.mk (Kd.R_below (sq_kr HO193.out) hb); have n7_ := Aside0.mk (Kd.R_below (sq_kr HO196.out) hb); have n8_ := Aside0.mk (below_step (sq_bl HB.out) hb); clear HO171; clear HO174; clear HO178; clear HO181; clear HO184; clear HO188; clear HO193; clear HO196; clear HB; have HO171 := n0_; have HO174 := n1_; have HO178 := n2_; have HO181 := n3_; have HO184 := n4_; have HO188 := n5_; have HO193 := n6_; have HO196 := n7_; have HB := n8_; clear n0_ n1_ n2_ n3_ n4_ n5_ n6_ n7_ n8_; (try clear hb); (try clear hk)) | (go_at_call 24; (with_reducible refine (petrinetlaw45_cycle.calls  t198 t199 t202 _ A10.out).mono ?_); rintro e w30 ⟨v200, v203, rfl, ho0, ho1, hb⟩; clear A10; have n0_ := Aside0.mk (Kd.R_elder' (sq_kr HO171.out) (Kd.R_base ho0) hb); have n1_ := Aside0.mk (Kd.R_elder' (sq_kr HO174.out) (Kd.R_base ho1) hb); have n2_ := Aside0.mk (Kd.R_elder' (sq_kr HO178.out) (Kd.R_base ho0) hb); have n3_ := Aside0.mk (Kd.R_elder' (sq_kr HO181.out) (Kd.R_base ho1) hb); have n4_ := Aside0.mk (Kd.R_below (sq_kr HO184.out) hb); have n5_ := Aside0.mk (Kd.R_below (sq_kr HO188.out) hb); have n6_ := Aside0.mk (Kd.R_elder' (sq_kr HO193.out) (Kd.R_base ho0) hb); have n7_ := Aside0.mk (Kd.R_elder' (sq_kr HO196.out) (Kd.R_base ho1) hb); have n8_ := Aside0.mk (Kd.R_lower (Kd.R_new' (Kd.R_new' (Kd.R_new' ho0 (Kd.R_lt (sq_kr HO171.out))) (Kd.R_lt (sq_kr HO178.out))) (Kd.R_lt (sq_kr HO193.out))) (below_size (sq_bl HB.out))); have n9_ := Aside0.mk (Kd.R_lower (Kd.R_new' (Kd.R_new' (Kd.R_new' ho1 (Kd.R_lt (sq_kr HO174.out))) (Kd.R_lt (sq_kr HO181.out))) (Kd.R_lt (sq_kr HO196.out))) (below_size (sq_bl HB.out))); have n10_ := Aside0.mk (below_step (sq_bl HB.out) hb); clear HO171; clear HO174; clear HO178; clear HO181; clear HO184; clear HO188; clear HO193; clear HO196; clear HB; have HO171 := n0_; have HO174 := n1_; have HO178 := n2_; have HO181 := n3_; have HO184 := n4_; have HO188 := n5_; have HO193 := n6_; have HO196 := n7_; have HO201 := n8_; have HO204 := n9_; have HB := n10_; clear n0_ n1_ n2_ n3_ n4_ n5_ n6_ n7_ n8_ n9_ n10_; (try clear hb); (try clear hk); (try clear ho0); (try clear ho1); obtain ⟨Ao31, co31, eo31⟩ := Kd.R_slice HO201.out; subst eo31; obtain ⟨Ao32, co32, eo32⟩ := Kd.R_slice HO204.out; subst eo32) | (go_at_call 12; (with_reducible refine (system_Deterministic.calls k t198 _ _ t199 _ _ t202 true _ ?side1 ?side2 ?side3 ?side4 A11.out).mono ?_); (case side1 => exact sq_kc ((Kd.R_reads' HO201.out).2.2)); (case side2 => exact (Kd.R_reads' HO201.out).2.1); (case side3 => exact sq_kc ((Kd.R_reads' HO204.out).2.2)); (case side4 => exact (Kd.R_reads' HO204.out).2.1); rintro e w33 ⟨rfl, hb⟩; have n0_ := Aside0.mk (Kd.R_below (sq_kr HO171.out) hb); have n1_ := Aside0.mk (Kd.R_below (sq_kr HO174.out) hb); have n2_ := Aside0.mk (Kd.R_below (sq_kr HO178.out) hb); have n3_ := Aside0.mk (Kd.R_below (sq_kr HO181.out) hb); have n4_ := Aside0.mk (Kd.R_below (sq_kr HO184.out) hb); have n5_ := Aside0.mk (Kd.R_below (sq_kr HO188.out) hb); have n6_ := Aside0.mk (Kd.R_below (sq_kr HO193.out) hb); have n7_ := Aside0.mk (Kd.R_below (sq_kr HO196.out) hb); have n8_ := Aside0.mk (Kd.R_below (sq_kr HO201.out) hb); have n9_ := Aside0.mk (Kd.R_below (sq_kr HO204.out) hb); have n10_ := Aside0.mk (below_step (sq_bl HB.out) hb); clear HO171; clear HO174; clear HO178; clear HO181; clear HO184; clear HO188; clear HO193; clear HO196; clear HO201; clear HO204; clear HB; have HO171 := n0_; have HO174 := n1_; have HO178 := n2_; have HO181 := n3_; have HO184 := n4_; have HO188 := n5_; have HO193 := n6_; have HO196 := n7_; have HO201 := n8_; have HO204 := n9_; have HB := n10_; clear n0_ n1_ n2_ n3_ n4_ n5_ n6_ n7_ n8_ n9_ n10_; (try clear hb); (try clear hk)) | (go_at_call 24; (with_reducible refine (petrinetlaw45_cycle.calls  t206 t207 t210 _ A13.out).mono ?_); rintro e w34 ⟨v208, v211, rfl, ho0, ho1, hb⟩; clear A13; have n0_ := Aside0.mk (Kd.R_elder' (sq_kr HO171.out) (Kd.R_base ho0) hb); have n1_ := Aside0.mk (Kd.R_elder' (sq_kr HO174.out) (Kd.R_base ho1) hb); have n2_ := Aside0.mk (Kd.R_elder' (sq_kr HO178.out) (Kd.R_base ho0) hb); have n3_ := Aside0.mk (Kd.R_elder' (sq_kr HO181.out) (Kd.R_base ho1) hb); have n4_ := Aside0.mk (Kd.R_below (sq_kr HO184.out) hb); have n5_ := Aside0.mk (Kd.R_below (sq_kr HO188.out) hb); have n6_ := Aside0.mk (Kd.R_elder' (sq_kr HO193.out) (Kd.R_base ho0) hb); have n7_ := Aside0.mk (Kd.R_elder' (sq_kr HO196.out) (Kd.R_base ho1) hb); have n8_ := Aside0.mk (Kd.R_elder' (sq_kr HO201.out) (Kd.R_base ho0) hb); have n9_ := Aside0.mk (Kd.R_elder' (sq_kr HO204.out) (Kd.R_base ho1) hb); have n10_ := Aside0.mk (Kd.R_lower (Kd.R_new' (Kd.R_new' (Kd.R_new' (Kd.R_new' ho0 (Kd.R_lt (sq_kr HO171.out))) (Kd.R_lt (sq_kr HO178.out))) (Kd.R_lt (sq_kr HO193.out))) (Kd.R_lt (sq_kr HO201.out))) (below_size (sq_bl HB.out))); have n11_ := Aside0.mk (Kd.R_lower (Kd.R_new' (Kd.R_new' (Kd.R_new' (Kd.R_new' ho1 (Kd.R_lt (sq_kr HO174.out))) (Kd.R_lt (sq_kr HO181.out))) (Kd.R_lt (sq_kr HO196.out))) (Kd.R_lt (sq_kr HO204.out))) (below_size (sq_bl HB.out))); have n12_ := Aside0.mk (below_step (sq_bl HB.out) hb); clear HO171; clear HO174; clear HO178; clear HO181; clear HO184; clear HO188; clear HO193; clear HO196; clear HO201; clear HO204; clear HB; have HO171 := n0_; have HO174 := n1_; have HO178 := n2_; have HO181 := n3_; have HO184 := n4_; have HO188 := n5_; have HO193 := n6_; have HO196 := n7_; have HO201 := n8_; have HO204 := n9_; have HO209 := n10_; have HO212 := n11_; have HB := n12_; clear n0_ n1_ n2_ n3_ n4_ n5_ n6_ n7_ n8_ n9_ n10_ n11_ n12_; (try clear hb); (try clear hk); (try clear ho0); (try clear ho1); obtain ⟨Ao35, co35, eo35⟩ := Kd.R_slice HO209.out; subst eo35; obtain ⟨Ao36, co36, eo36⟩ := Kd.R_slice HO212.out; subst eo36) | (go_at_call 14; (with_reducible refine (system_Reachable.calls k t206 _ _ t207 _ _ t210 t213 _ ?side1 ?side2 ?side3 ?side4 A14.out).mono ?_); (case side1 => exact sq_kc ((Kd.R_reads' HO209.out).2.2)); (case side2 => exact (Kd.R_reads' HO209.out).2.1); (case side3 => exact sq_kc ((Kd.R_reads' HO212.out).2.2)); (case side4 => exact (Kd.R_reads' HO212.out).2.1); rintro e w37 ⟨rfl, hb⟩; have n0_ := Aside0.mk (Kd.R_below (sq_kr HO171.out) hb); have n1_ := Aside0.mk (Kd.R_below (sq_kr HO174.out) hb); have n2_ := Aside0.mk (Kd.R_below (sq_kr HO178.out) hb); have n3_ := Aside0.mk (Kd.R_below (sq_kr HO181.out) hb); have n4_ := Aside0.mk (Kd.R_below (sq_kr HO184.out) hb); have n5_ := Aside0.mk (Kd.R_below (sq_kr HO188.out) hb); have n6_ := Aside0.mk (Kd.R_below (sq_kr HO193.out) hb); have n7_ := Aside0.mk (Kd.R_below (sq_kr HO196.out) hb); have n8_ := Aside0.mk (Kd.R_below (sq_kr HO201.out) hb); have n9_ := Aside0.mk (Kd.R_below (sq_kr HO204.out) hb); have n10_ := Aside0.mk (Kd.R_below (sq_kr HO209.out) hb); have n11_ := Aside0.mk (Kd.R_below (sq_kr HO212.out) hb); have n12_ := Aside0.mk (below_step (sq_bl HB.out) hb); clear HO171; clear HO174; clear HO178; clear HO181; clear HO184; clear HO188; clear HO193; clear HO196; clear HO201; clear HO204; clear HO209; clear HO212; clear HB; have HO171 := n0_; have HO174 := n1_; have HO178 := n2_; have HO181 := n3_; have HO184 := n4_; have HO188 := n5_; have HO193 := n6_; have HO196 := n7_; have HO201 := n8_; have HO204 := n9_; have HO209 := n10_; have HO212 := n11_; have HB := n12_; clear n0_ n1_ n2_ n3_ n4_ n5_ n6_ n7_ n8_ n9_ n10_ n11_ n12_; (try clear hb); (try clear hk)))
 go_ret
 exact ⟨by first | rfl | (simp [errW_none, errW_some] <;> rfl) | (simp [*, errW_none, errW_some] <;> rfl), sq_bl HB.out⟩
/-! ### petrinetref09_Name: function 28 -/
mutual
def petrinetref09_Name.j0 : Nat → ByteArray → Bool → Option (Bool)
 | 0, _, _ => none
 | k + 1, x0, x14 => if x14 = true then (some false) else (petrinetref09_Name.l0 k x0 0)
def petrinetref09_Name.l0 : Nat → ByteArray → Int → Option (Bool)
 | 0, _, _ => none
 | k + 1, x0, x3 => if x3 < (x0.size : Int) then (if 0 ≤ x3 then (if (bt x0 x3) ≥ 97 then (if (bt x0 x3) ≤ 122 then (if (bt x0 x3) ≥ 48 then (if (bt x0 x3) ≤ 57 then (petrinetref09_Name.l0 k x0 (wrap64 (x3 + 1))) else (petrinetref09_Name.l0 k x0 (wrap64 (x3 + 1)))) else (petrinetref09_Name.l0 k x0 (wrap64 (x3 + 1)))) else (if (bt x0 x3) ≥ 48 then (if (bt x0 x3) ≤ 57 then (if ((bt x0 x3) = 95) then (petrinetref09_Name.l0 k x0 (wrap64 (x3 + 1))) else (if x3 = 0 then (some false) else (petrinetref09_Name.l0 k x0 (wrap64 (x3 + 1))))) else (if ((bt x0 x3) = 95) then (petrinetref09_Name.l0 k x0 (wrap64 (x3 + 1))) else (if ((bt x0 x3) = 46) then (if x3 = 0 then (some false) else (petrinetref09_Name.l0 k x0 (wrap64 (x3 + 1)))) else (some false)))) else (if ((bt x0 x3) = 95) then (petrinetref09_Name.l0 k x0 (wrap64 (x3 + 1))) else (if ((bt x0 x3) = 46) then (if x3 = 0 then (some false) else (petrinetref09_Name.l0 k x0 (wrap64 (x3 + 1)))) else (some false))))) else (if (bt x0 x3) ≥ 48 then (if (bt x0 x3) ≤ 57 then (if ((bt x0 x3) = 95) then (petrinetref09_Name.l0 k x0 (wrap64 (x3 + 1))) else (if x3 = 0 then (some false) else (petrinetref09_Name.l0 k x0 (wrap64 (x3 + 1))))) else (if ((bt x0 x3) = 95) then (petrinetref09_Name.l0 k x0 (wrap64 (x3 + 1))) else (if ((bt x0 x3) = 46) then (if x3 = 0 then (some false) else (petrinetref09_Name.l0 k x0 (wrap64 (x3 + 1)))) else (some false)))) else (if ((bt x0 x3) = 95) then (petrinetref09_Name.l0 k x0 (wrap64 (x3 + 1))) else (if ((bt x0 x3) = 46) then (if x3 = 0 then (some false) else (petrinetref09_Name.l0 k x0 (wrap64 (x3 + 1)))) else (some false))))) else (none)) else (some true)
end
def petrinetref09_Name.f (k : Nat) (a0 : ByteArray) : Option (Bool) := if (a0.size : Int) < 1 then (petrinetref09_Name.j0 k a0 true) else (petrinetref09_Name.j0 k a0 (decide ((a0.size : Int) > 16)))
theorem petrinetref09_Name.mono_l : ∀ k, (∀ y0 y1, LeO (petrinetref09_Name.j0 k y0 y1) (petrinetref09_Name.j0 (k + 1) y0 y1)) ∧ (∀ y0 y1, LeO (petrinetref09_Name.l0 k y0 y1) (petrinetref09_Name.l0 (k + 1) y0 y1))
 | 0 => ⟨fun _ _ r h => by simp [petrinetref09_Name.j0] at h, fun _ _ r h => by simp [petrinetref09_Name.l0] at h⟩
 | k + 1 => by
  obtain ⟨ih0, ih1⟩ := petrinetref09_Name.mono_l k
  refine ⟨?_, ?_⟩
  ·intro y0 y1
   unfold petrinetref09_Name.j0
   repeat' first
   | (with_reducible exact ih0 _ _)
   | (with_reducible exact ih1 _ _)
   | (with_reducible exact LeO.refl _)
   | (with_reducible exact LeO.none _)
   | (with_reducible refine LeO.ite ?_ ?_)
   | (with_reducible refine LeO.bind ?_ (fun _ => ?_))
  ·intro y0 y1
   unfold petrinetref09_Name.l0
   repeat' first
   | (with_reducible exact ih0 _ _)
   | (with_reducible exact ih1 _ _)
   | (with_reducible exact LeO.refl _)
   | (with_reducible exact LeO.none _)
   | (with_reducible refine LeO.ite ?_ ?_)
   | (with_reducible refine LeO.bind ?_ (fun _ => ?_))
theorem petrinetref09_Name.mono : ∀ a0 k, LeO (petrinetref09_Name.f k a0) (petrinetref09_Name.f (k + 1) a0) := by
 intro a0 k
 obtain ⟨ih0, ih1⟩ := petrinetref09_Name.mono_l k
 unfold petrinetref09_Name.f
 repeat' first
   | (with_reducible exact ih0 _ _)
   | (with_reducible exact ih1 _ _)
   | (with_reducible exact LeO.refl _)
   | (with_reducible exact LeO.none _)
   | (with_reducible refine LeO.ite ?_ ?_)
   | (with_reducible refine LeO.bind ?_ (fun _ => ?_))
set_option maxHeartbeats 8000000 in
set_option maxRecDepth 100000 in
theorem petrinetref09_Name.calls (k : Nat) (a0 : ByteArray) (r : Bool) (w : World) (h : petrinetref09_Name.f k a0 = some r) :
  Calls Try.prog 28 #[.string a0] w fun e w' => e = .returned (.bool r) ∧ Drawn0 w w' := by
 have hv30 := Try.underlying30
 have H : (if (a0.size : Int) < 1 then (petrinetref09_Name.j0 k a0 true) else (petrinetref09_Name.j0 k a0 (decide ((a0.size : Int) > 16)))) = some r := h
 clear h
 have HC2 := Aside0.mk H
 clear H
 go_enter Try.func28, Try.ntmps28
 go_upto_region 1 with (fail)
 go_cut [14] (fun v14 wc => ∃ (kq : Nat) (x14_1 : Bool), v14 = .bool x14_1 ∧ Aside0 (petrinetref09_Name.j0 kq a0 x14_1 = some r) ∧ Aside0 (kq ≤ k) ∧ Drawn0 w wc)
 case first =>
  have H := HC2.out
  clear HC2
  by_cases c3 : (a0.size : Int) < 1
  rotate_left
  ·rw [if_neg c3] at H
   have c3b0 : decide ((a0.size : Int) < 1) = false := decide_eq_false c3
   have c3b1 : decide (a0.size < 1) = false := decide_eq_false (by omega)
   clear c3
   (first | rw [c3b0] | (simp only [i64_w, i32_w]; rw [c3b0]) | skip)
   have H' := Aside0.mk H
   clear H
   go_wp2
   go_meet
   case rel => exact ⟨_, (decide ((a0.size : Int) > 16)), (by first | rfl | (simp; done) | (simp [*]; done)), H', ⟨by first | omega | exact Nat.le_refl _⟩, by repeat (first | exact Drawn0.refl _ | apply Drawn0.step)⟩
  rw [if_pos c3] at H
  have c3b0 : decide ((a0.size : Int) < 1) = true := decide_eq_true c3
  have c3b1 : decide (a0.size < 1) = true := decide_eq_true (by omega)
  clear c3
  (first | rw [c3b0] | (simp only [i64_w, i32_w]; rw [c3b0]) | skip)
  have H' := Aside0.mk H
  clear H
  go_wp2
  go_meet
  case rel => exact ⟨_, (true), (by first | rfl | (simp; done) | (simp [*]; done)), H', ⟨by first | omega | exact Nat.le_refl _⟩, by repeat (first | exact Drawn0.refl _ | apply Drawn0.step)⟩
 case rest =>
  clear HC2
  obtain ⟨kq, x14_1, rfl, HA, HJ1, ⟨mc1, rfl⟩⟩ := hcut
  cases kq with
  | zero => exact absurd HA.out (by simp [petrinetref09_Name.j0])
  | succ kj1 =>
   have H := HA.out
   clear HA
   simp only [petrinetref09_Name.j0] at H
   by_cases c4 : x14_1 = true
   ·subst c4
    have H1 : (some false) = some r := by rw [if_pos rfl] at H; exact H
    clear H
    have H := H1
    clear H1
    obtain rfl := Option.some.inj H
    go_wp2
    go_ret
    exact ⟨by first | rfl | (simp; done) | (simp [*]; done), by repeat (first | exact Drawn0.refl _ | apply Drawn0.step)⟩
   replace c4 := Bool.eq_false_iff.mpr c4
   subst c4
   have H1 : (petrinetref09_Name.l0 kj1 a0 0) = some r := by rw [if_neg (show ¬ (false = true) by decide)] at H; exact H
   clear H
   have H := H1
   clear H1
   have H' := Aside0.mk H
   clear H
   go_wp2
   go_loopg [3] kj1 (fun kq v3 w' => ∃ (x3_2 : Int), v3 = .int .i64 x3_2 ∧ Aside0 (petrinetref09_Name.l0 kq a0 x3_2 = some r) ∧ Aside0 (kq ≤ kj1) ∧ Drawn0 w w')
   case atStart => exact ⟨(0), (by first | rfl | (simp; done) | (simp [*]; done)), H', ⟨Nat.le_refl _⟩, by repeat (first | exact Drawn0.refl _ | apply Drawn0.step)⟩
   case round =>
    clear H'
    try clear c4
    obtain ⟨x3_2, rfl, HA, HK2, ⟨m2, rfl⟩⟩ := hrel
    cases gk with
    | zero => exact absurd HA.out (by simp [petrinetref09_Name.l0])
    | succ k2 =>
     have H := HA.out
     clear HA
     simp only [petrinetref09_Name.l0] at H
     by_cases c5 : x3_2 < (a0.size : Int)
     rotate_left
     ·rw [if_neg c5] at H
      have c5b0 : decide (x3_2 < (a0.size : Int)) = false := decide_eq_false c5
      clear c5
      obtain rfl := Option.some.inj H
      go_wp2
      go_ret
      exact ⟨by first | rfl | (simp; done) | (simp [*]; done), by repeat (first | exact Drawn0.refl _ | apply Drawn0.step)⟩
     rw [if_pos c5] at H
     have c5b0 : decide (x3_2 < (a0.size : Int)) = true := decide_eq_true c5
     clear c5
     by_cases c6 : 0 ≤ x3_2
     rotate_left
     ·rw [if_neg c6] at H
      exact absurd H (by simp)
     rw [if_pos c6] at H
     have c6b0 : decide (0 ≤ x3_2) = true := decide_eq_true c6
     clear c6
     by_cases c8 : (bt a0 x3_2) ≥ 97
     rotate_left
     ·rw [if_neg c8] at H
      have c8b0 : decide (97 ≤ (bt a0 x3_2)) = false := decide_eq_false c8
      clear c8
      by_cases c22 : (bt a0 x3_2) ≥ 48
      rotate_left
      ·rw [if_neg c22] at H
       have c22b0 : decide (48 ≤ (bt a0 x3_2)) = false := decide_eq_false c22
       clear c22
       by_cases c29 : ((bt a0 x3_2) = 95)
       ·rw [if_pos c29] at H
        have c29b0 : ((bt a0 x3_2) == 95) = true := beq_iff_eq.mpr c29
        have c29b1 : ((bt a0 x3_2) != 95) = false := bne_eq_false_iff_eq.mpr c29
        clear c29
        have H' := Aside0.mk H
        clear H
        have p7 : 0 ≤ (x3_2 : Int) := sq_d
        have q7 : x3_2 < (a0.size : Int) := sq_d
        have hx7 := bt_at a0 x3_2
        replace p7 := eq_true p7
        replace q7 := eq_true q7
        go_wp2
        go_roundg k2
        case measure => have := HJ1.out; have := HK2.out; omega
        case rel => exact ⟨(wrap64 (x3_2 + 1)), (by first | rfl | (simp; done) | (simp [*]; done)), H', ⟨by have := HJ1.out; have := HK2.out; omega⟩, by repeat (first | exact Drawn0.refl _ | apply Drawn0.step)⟩
       rw [if_neg c29] at H
       have c29b0 : ((bt a0 x3_2) == 95) = false := beq_eq_false_iff_ne.mpr c29
       have c29b1 : ((bt a0 x3_2) != 95) = true := bne_iff_ne.mpr c29
       by_cases c30 : ((bt a0 x3_2) = 46)
       rotate_left
       ·rw [if_neg c30] at H
        have c30b0 : ((bt a0 x3_2) == 46) = false := beq_eq_false_iff_ne.mpr c30
        have c30b1 : ((bt a0 x3_2) != 46) = true := bne_iff_ne.mpr c30
        obtain rfl := Option.some.inj H
        have p7 : 0 ≤ (x3_2 : Int) := sq_d
        have q7 : x3_2 < (a0.size : Int) := sq_d
        have hx7 := bt_at a0 x3_2
        replace p7 := eq_true p7
        replace q7 := eq_true q7
        go_wp2
        go_ret
        exact ⟨by first | rfl | (simp; done) | (simp [*]; done), by repeat (first | exact Drawn0.refl _ | apply Drawn0.step)⟩
       rw [if_pos c30] at H
       have c30b0 : ((bt a0 x3_2) == 46) = true := beq_iff_eq.mpr c30
       have c30b1 : ((bt a0 x3_2) != 46) = false := bne_eq_false_iff_eq.mpr c30
       clear c30
       by_cases c31 : x3_2 = 0
       ·rw [if_pos c31] at H
        have c31b0 : (x3_2 == 0) = true := beq_iff_eq.mpr c31
        have c31b1 : (x3_2 != 0) = false := bne_eq_false_iff_eq.mpr c31
        clear c31
        obtain rfl := Option.some.inj H
        have p7 : 0 ≤ (x3_2 : Int) := sq_d
        have q7 : x3_2 < (a0.size : Int) := sq_d
        have hx7 := bt_at a0 x3_2
        replace p7 := eq_true p7
        replace q7 := eq_true q7
        go_wp2
        go_ret
        exact ⟨by first | rfl | (simp; done) | (simp [*]; done), by repeat (first | exact Drawn0.refl _ | apply Drawn0.step)⟩
       rw [if_neg c31] at H
       have c31b0 : (x3_2 == 0) = false := beq_eq_false_iff_ne.mpr c31
       have c31b1 : (x3_2 != 0) = true := bne_iff_ne.mpr c31
       have H' := Aside0.mk H
       clear H
       have p7 : 0 ≤ (x3_2 : Int) := sq_d
       have q7 : x3_2 < (a0.size : Int) := sq_d
       have hx7 := bt_at a0 x3_2
       replace p7 := eq_true p7
       replace q7 := eq_true q7
       go_wp2
       go_roundg k2
       case measure => have := HJ1.out; have := HK2.out; omega
       case rel => exact ⟨(wrap64 (x3_2 + 1)), (by first | rfl | (simp; done) | (simp [*]; done)), H', ⟨by have := HJ1.out; have := HK2.out; omega⟩, by repeat (first | exact Drawn0.refl _ | apply Drawn0.step)⟩
      rw [if_pos c22] at H
      have c22b0 : decide (48 ≤ (bt a0 x3_2)) = true := decide_eq_true c22
      clear c22
      by_cases c23 : (bt a0 x3_2) ≤ 57
      ·rw [if_pos c23] at H
       have c23b0 : decide ((bt a0 x3_2) ≤ 57) = true := decide_eq_true c23
       clear c23
       by_cases c24 : ((bt a0 x3_2) = 95)
       ·rw [if_pos c24] at H
        have c24b0 : ((bt a0 x3_2) == 95) = true := beq_iff_eq.mpr c24
        have c24b1 : ((bt a0 x3_2) != 95) = false := bne_eq_false_iff_eq.mpr c24
        clear c24
        have H' := Aside0.mk H
        clear H
        have p7 : 0 ≤ (x3_2 : Int) := sq_d
        have q7 : x3_2 < (a0.size : Int) := sq_d
        have hx7 := bt_at a0 x3_2
        replace p7 := eq_true p7
        replace q7 := eq_true q7
        go_wp2
        go_roundg k2
        case measure => have := HJ1.out; have := HK2.out; omega
        case rel => exact ⟨(wrap64 (x3_2 + 1)), (by first | rfl | (simp; done) | (simp [*]; done)), H', ⟨by have := HJ1.out; have := HK2.out; omega⟩, by repeat (first | exact Drawn0.refl _ | apply Drawn0.step)⟩
       rw [if_neg c24] at H
       have c24b0 : ((bt a0 x3_2) == 95) = false := beq_eq_false_iff_ne.mpr c24
       have c24b1 : ((bt a0 x3_2) != 95) = true := bne_iff_ne.mpr c24
       by_cases c25 : x3_2 = 0
       ·rw [if_pos c25] at H
        have c25b0 : (x3_2 == 0) = true := beq_iff_eq.mpr c25
        have c25b1 : (x3_2 != 0) = false := bne_eq_false_iff_eq.mpr c25
        clear c25
        obtain rfl := Option.some.inj H
        have p7 : 0 ≤ (x3_2 : Int) := sq_d
        have q7 : x3_2 < (a0.size : Int) := sq_d
        have hx7 := bt_at a0 x3_2
        replace p7 := eq_true p7
        replace q7 := eq_true q7
        go_wp2
        go_ret
        exact ⟨by first | rfl | (simp; done) | (simp [*]; done), by repeat (first | exact Drawn0.refl _ | apply Drawn0.step)⟩
       rw [if_neg c25] at H
       have c25b0 : (x3_2 == 0) = false := beq_eq_false_iff_ne.mpr c25
       have c25b1 : (x3_2 != 0) = true := bne_iff_ne.mpr c25
       have H' := Aside0.mk H
       clear H
       have p7 : 0 ≤ (x3_2 : Int) := sq_d
       have q7 : x3_2 < (a0.size : Int) := sq_d
       have hx7 := bt_at a0 x3_2
       replace p7 := eq_true p7
       replace q7 := eq_true q7
       go_wp2
       go_roundg k2
       case measure => have := HJ1.out; have := HK2.out; omega
       case rel => exact ⟨(wrap64 (x3_2 + 1)), (by first | rfl | (simp; done) | (simp [*]; done)), H', ⟨by have := HJ1.out; have := HK2.out; omega⟩, by repeat (first | exact Drawn0.refl _ | apply Drawn0.step)⟩
      rw [if_neg c23] at H
      have c23b0 : decide ((bt a0 x3_2) ≤ 57) = false := decide_eq_false c23
      clear c23
      by_cases c26 : ((bt a0 x3_2) = 95)
      ·rw [if_pos c26] at H
       have c26b0 : ((bt a0 x3_2) == 95) = true := beq_iff_eq.mpr c26
       have c26b1 : ((bt a0 x3_2) != 95) = false := bne_eq_false_iff_eq.mpr c26
       clear c26
       have H' := Aside0.mk H
       clear H
       have p7 : 0 ≤ (x3_2 : Int) := sq_d
       have q7 : x3_2 < (a0.size : Int) := sq_d
       have hx7 := bt_at a0 x3_2
       replace p7 := eq_true p7
       replace q7 := eq_true q7
       go_wp2
       go_roundg k2
       case measure => have := HJ1.out; have := HK2.out; omega
       case rel => exact ⟨(wrap64 (x3_2 + 1)), (by first | rfl | (simp; done) | (simp [*]; done)), H', ⟨by have := HJ1.out; have := HK2.out; omega⟩, by repeat (first | exact Drawn0.refl _ | apply Drawn0.step)⟩
      rw [if_neg c26] at H
      have c26b0 : ((bt a0 x3_2) == 95) = false := beq_eq_false_iff_ne.mpr c26
      have c26b1 : ((bt a0 x3_2) != 95) = true := bne_iff_ne.mpr c26
      by_cases c27 : ((bt a0 x3_2) = 46)
      rotate_left
      ·rw [if_neg c27] at H
       have c27b0 : ((bt a0 x3_2) == 46) = false := beq_eq_false_iff_ne.mpr c27
       have c27b1 : ((bt a0 x3_2) != 46) = true := bne_iff_ne.mpr c27
       obtain rfl := Option.some.inj H
       have p7 : 0 ≤ (x3_2 : Int) := sq_d
       have q7 : x3_2 < (a0.size : Int) := sq_d
       have hx7 := bt_at a0 x3_2
       replace p7 := eq_true p7
       replace q7 := eq_true q7
       go_wp2
       go_ret
       exact ⟨by first | rfl | (simp; done) | (simp [*]; done), by repeat (first | exact Drawn0.refl _ | apply Drawn0.step)⟩
      rw [if_pos c27] at H
      have c27b0 : ((bt a0 x3_2) == 46) = true := beq_iff_eq.mpr c27
      have c27b1 : ((bt a0 x3_2) != 46) = false := bne_eq_false_iff_eq.mpr c27
      clear c27
      by_cases c28 : x3_2 = 0
      ·rw [if_pos c28] at H
       have c28b0 : (x3_2 == 0) = true := beq_iff_eq.mpr c28
       have c28b1 : (x3_2 != 0) = false := bne_eq_false_iff_eq.mpr c28
       clear c28
       obtain rfl := Option.some.inj H
       have p7 : 0 ≤ (x3_2 : Int) := sq_d
       have q7 : x3_2 < (a0.size : Int) := sq_d
       have hx7 := bt_at a0 x3_2
       replace p7 := eq_true p7
       replace q7 := eq_true q7
       go_wp2
       go_ret
       exact ⟨by first | rfl | (simp; done) | (simp [*]; done), by repeat (first | exact Drawn0.refl _ | apply Drawn0.step)⟩
      rw [if_neg c28] at H
      have c28b0 : (x3_2 == 0) = false := beq_eq_false_iff_ne.mpr c28
      have c28b1 : (x3_2 != 0) = true := bne_iff_ne.mpr c28
      have H' := Aside0.mk H
      clear H
      have p7 : 0 ≤ (x3_2 : Int) := sq_d
      have q7 : x3_2 < (a0.size : Int) := sq_d
      have hx7 := bt_at a0 x3_2
      replace p7 := eq_true p7
      replace q7 := eq_true q7
      go_wp2
      go_roundg k2
      case measure => have := HJ1.out; have := HK2.out; omega
      case rel => exact ⟨(wrap64 (x3_2 + 1)), (by first | rfl | (simp; done) | (simp [*]; done)), H', ⟨by have := HJ1.out; have := HK2.out; omega⟩, by repeat (first | exact Drawn0.refl _ | apply Drawn0.step)⟩
     rw [if_pos c8] at H
     have c8b0 : decide (97 ≤ (bt a0 x3_2)) = true := decide_eq_true c8
     clear c8
     by_cases c9 : (bt a0 x3_2) ≤ 122
     ·rw [if_pos c9] at H
      have c9b0 : decide ((bt a0 x3_2) ≤ 122) = true := decide_eq_true c9
      clear c9
      by_cases c10 : (bt a0 x3_2) ≥ 48
      rotate_left
      ·rw [if_neg c10] at H
       have c10b0 : decide (48 ≤ (bt a0 x3_2)) = false := decide_eq_false c10
       clear c10
       have H' := Aside0.mk H
       clear H
       have p7 : 0 ≤ (x3_2 : Int) := sq_d
       have q7 : x3_2 < (a0.size : Int) := sq_d
       have hx7 := bt_at a0 x3_2
       replace p7 := eq_true p7
       replace q7 := eq_true q7
       go_wp2
       go_roundg k2
       case measure => have := HJ1.out; have := HK2.out; omega
       case rel => exact ⟨(wrap64 (x3_2 + 1)), (by first | rfl | (simp; done) | (simp [*]; done)), H', ⟨by have := HJ1.out; have := HK2.out; omega⟩, by repeat (first | exact Drawn0.refl _ | apply Drawn0.step)⟩
      rw [if_pos c10] at H
      have c10b0 : decide (48 ≤ (bt a0 x3_2)) = true := decide_eq_true c10
      clear c10
      by_cases c11 : (bt a0 x3_2) ≤ 57
      rotate_left
      ·rw [if_neg c11] at H
       have c11b0 : decide ((bt a0 x3_2) ≤ 57) = false := decide_eq_false c11
       clear c11
       have H' := Aside0.mk H
       clear H
       have p7 : 0 ≤ (x3_2 : Int) := sq_d
       have q7 : x3_2 < (a0.size : Int) := sq_d
       have hx7 := bt_at a0 x3_2
       replace p7 := eq_true p7
       replace q7 := eq_true q7
       go_wp2
       go_roundg k2
       case measure => have := HJ1.out; have := HK2.out; omega
       case rel => exact ⟨(wrap64 (x3_2 + 1)), (by first | rfl | (simp; done) | (simp [*]; done)), H', ⟨by have := HJ1.out; have := HK2.out; omega⟩, by repeat (first | exact Drawn0.refl _ | apply Drawn0.step)⟩
      rw [if_pos c11] at H
      have c11b0 : decide ((bt a0 x3_2) ≤ 57) = true := decide_eq_true c11
      clear c11
      have H' := Aside0.mk H
      clear H
      have p7 : 0 ≤ (x3_2 : Int) := sq_d
      have q7 : x3_2 < (a0.size : Int) := sq_d
      have hx7 := bt_at a0 x3_2
      replace p7 := eq_true p7
      replace q7 := eq_true q7
      go_wp2
      go_roundg k2
      case measure => have := HJ1.out; have := HK2.out; omega
      case rel => exact ⟨(wrap64 (x3_2 + 1)), (by first | rfl | (simp; done) | (simp [*]; done)), H', ⟨by have := HJ1.out; have := HK2.out; omega⟩, by repeat (first | exact Drawn0.refl _ | apply Drawn0.step)⟩
     rw [if_neg c9] at H
     have c9b0 : decide ((bt a0 x3_2) ≤ 122) = false := decide_eq_false c9
     clear c9
     by_cases c12 : (bt a0 x3_2) ≥ 48
     rotate_left
     ·rw [if_neg c12] at H
      have c12b0 : decide (48 ≤ (bt a0 x3_2)) = false := decide_eq_false c12
      clear c12
      by_cases c19 : ((bt a0 x3_2) = 95)
      ·rw [if_pos c19] at H
       have c19b0 : ((bt a0 x3_2) == 95) = true := beq_iff_eq.mpr c19
       have c19b1 : ((bt a0 x3_2) != 95) = false := bne_eq_false_iff_eq.mpr c19
       clear c19
       have H' := Aside0.mk H
       clear H
       have p7 : 0 ≤ (x3_2 : Int) := sq_d
       have q7 : x3_2 < (a0.size : Int) := sq_d
       have hx7 := bt_at a0 x3_2
       replace p7 := eq_true p7
       replace q7 := eq_true q7
       go_wp2
       go_roundg k2
       case measure => have := HJ1.out; have := HK2.out; omega
       case rel => exact ⟨(wrap64 (x3_2 + 1)), (by first | rfl | (simp; done) | (simp [*]; done)), H', ⟨by have := HJ1.out; have := HK2.out; omega⟩, by repeat (first | exact Drawn0.refl _ | apply Drawn0.step)⟩
      rw [if_neg c19] at H
      have c19b0 : ((bt a0 x3_2) == 95) = false := beq_eq_false_iff_ne.mpr c19
      have c19b1 : ((bt a0 x3_2) != 95) = true := bne_iff_ne.mpr c19
      by_cases c20 : ((bt a0 x3_2) = 46)
      rotate_left
      ·rw [if_neg c20] at H
       have c20b0 : ((bt a0 x3_2) == 46) = false := beq_eq_false_iff_ne.mpr c20
       have c20b1 : ((bt a0 x3_2) != 46) = true := bne_iff_ne.mpr c20
       obtain rfl := Option.some.inj H
       have p7 : 0 ≤ (x3_2 : Int) := sq_d
       have q7 : x3_2 < (a0.size : Int) := sq_d
       have hx7 := bt_at a0 x3_2
       replace p7 := eq_true p7
       replace q7 := eq_true q7
       go_wp2
       go_ret
       exact ⟨by first | rfl | (simp; done) | (simp [*]; done), by repeat (first | exact Drawn0.refl _ | apply Drawn0.step)⟩
      rw [if_pos c20] at H
      have c20b0 : ((bt a0 x3_2) == 46) = true := beq_iff_eq.mpr c20
      have c20b1 : ((bt a0 x3_2) != 46) = false := bne_eq_false_iff_eq.mpr c20
      clear c20
      by_cases c21 : x3_2 = 0
      ·rw [if_pos c21] at H
       have c21b0 : (x3_2 == 0) = true := beq_iff_eq.mpr c21
       have c21b1 : (x3_2 != 0) = false := bne_eq_false_iff_eq.mpr c21
       clear c21
       obtain rfl := Option.some.inj H
       have p7 : 0 ≤ (x3_2 : Int) := sq_d
       have q7 : x3_2 < (a0.size : Int) := sq_d
       have hx7 := bt_at a0 x3_2
       replace p7 := eq_true p7
       replace q7 := eq_true q7
       go_wp2
       go_ret
       exact ⟨by first | rfl | (simp; done) | (simp [*]; done), by repeat (first | exact Drawn0.refl _ | apply Drawn0.step)⟩
      rw [if_neg c21] at H
      have c21b0 : (x3_2 == 0) = false := beq_eq_false_iff_ne.mpr c21
      have c21b1 : (x3_2 != 0) = true := bne_iff_ne.mpr c21
      have H' := Aside0.mk H
      clear H
      have p7 : 0 ≤ (x3_2 : Int) := sq_d
      have q7 : x3_2 < (a0.size : Int) := sq_d
      have hx7 := bt_at a0 x3_2
      replace p7 := eq_true p7
      replace q7 := eq_true q7
      go_wp2
      go_roundg k2
      case measure => have := HJ1.out; have := HK2.out; omega
      case rel => exact ⟨(wrap64 (x3_2 + 1)), (by first | rfl | (simp; done) | (simp [*]; done)), H', ⟨by have := HJ1.out; have := HK2.out; omega⟩, by repeat (first | exact Drawn0.refl _ | apply Drawn0.step)⟩
     rw [if_pos c12] at H
     have c12b0 : decide (48 ≤ (bt a0 x3_2)) = true := decide_eq_true c12
     clear c12
     by_cases c13 : (bt a0 x3_2) ≤ 57
     ·rw [if_pos c13] at H
      have c13b0 : decide ((bt a0 x3_2) ≤ 57) = true := decide_eq_true c13
      clear c13
      by_cases c14 : ((bt a0 x3_2) = 95)
      ·rw [if_pos c14] at H
       have c14b0 : ((bt a0 x3_2) == 95) = true := beq_iff_eq.mpr c14
       have c14b1 : ((bt a0 x3_2) != 95) = false := bne_eq_false_iff_eq.mpr c14
       clear c14
       have H' := Aside0.mk H
       clear H
       have p7 : 0 ≤ (x3_2 : Int) := sq_d
       have q7 : x3_2 < (a0.size : Int) := sq_d
       have hx7 := bt_at a0 x3_2
       replace p7 := eq_true p7
       replace q7 := eq_true q7
       go_wp2
       go_roundg k2
       case measure => have := HJ1.out; have := HK2.out; omega
       case rel => exact ⟨(wrap64 (x3_2 + 1)), (by first | rfl | (simp; done) | (simp [*]; done)), H', ⟨by have := HJ1.out; have := HK2.out; omega⟩, by repeat (first | exact Drawn0.refl _ | apply Drawn0.step)⟩
      rw [if_neg c14] at H
      have c14b0 : ((bt a0 x3_2) == 95) = false := beq_eq_false_iff_ne.mpr c14
      have c14b1 : ((bt a0 x3_2) != 95) = true := bne_iff_ne.mpr c14
      by_cases c15 : x3_2 = 0
      ·rw [if_pos c15] at H
       have c15b0 : (x3_2 == 0) = true := beq_iff_eq.mpr c15
       have c15b1 : (x3_2 != 0) = false := bne_eq_false_iff_eq.mpr c15
       clear c15
       obtain rfl := Option.some.inj H
       have p7 : 0 ≤ (x3_2 : Int) := sq_d
       have q7 : x3_2 < (a0.size : Int) := sq_d
       have hx7 := bt_at a0 x3_2
       replace p7 := eq_true p7
       replace q7 := eq_true q7
       go_wp2
       go_ret
       exact ⟨by first | rfl | (simp; done) | (simp [*]; done), by repeat (first | exact Drawn0.refl _ | apply Drawn0.step)⟩
      rw [if_neg c15] at H
      have c15b0 : (x3_2 == 0) = false := beq_eq_false_iff_ne.mpr c15
      have c15b1 : (x3_2 != 0) = true := bne_iff_ne.mpr c15
      have H' := Aside0.mk H
      clear H
      have p7 : 0 ≤ (x3_2 : Int) := sq_d
      have q7 : x3_2 < (a0.size : Int) := sq_d
      have hx7 := bt_at a0 x3_2
      replace p7 := eq_true p7
      replace q7 := eq_true q7
      go_wp2
      go_roundg k2
      case measure => have := HJ1.out; have := HK2.out; omega
      case rel => exact ⟨(wrap64 (x3_2 + 1)), (by first | rfl | (simp; done) | (simp [*]; done)), H', ⟨by have := HJ1.out; have := HK2.out; omega⟩, by repeat (first | exact Drawn0.refl _ | apply Drawn0.step)⟩
     rw [if_neg c13] at H
     have c13b0 : decide ((bt a0 x3_2) ≤ 57) = false := decide_eq_false c13
     clear c13
     by_cases c16 : ((bt a0 x3_2) = 95)
     ·rw [if_pos c16] at H
      have c16b0 : ((bt a0 x3_2) == 95) = true := beq_iff_eq.mpr c16
      have c16b1 : ((bt a0 x3_2) != 95) = false := bne_eq_false_iff_eq.mpr c16
      clear c16
      have H' := Aside0.mk H
      clear H
      have p7 : 0 ≤ (x3_2 : Int) := sq_d
      have q7 : x3_2 < (a0.size : Int) := sq_d
      have hx7 := bt_at a0 x3_2
      replace p7 := eq_true p7
      replace q7 := eq_true q7
      go_wp2
      go_roundg k2
      case measure => have := HJ1.out; have := HK2.out; omega
      case rel => exact ⟨(wrap64 (x3_2 + 1)), (by first | rfl | (simp; done) | (simp [*]; done)), H', ⟨by have := HJ1.out; have := HK2.out; omega⟩, by repeat (first | exact Drawn0.refl _ | apply Drawn0.step)⟩
     rw [if_neg c16] at H
     have c16b0 : ((bt a0 x3_2) == 95) = false := beq_eq_false_iff_ne.mpr c16
     have c16b1 : ((bt a0 x3_2) != 95) = true := bne_iff_ne.mpr c16
     by_cases c17 : ((bt a0 x3_2) = 46)
     rotate_left
     ·rw [if_neg c17] at H
      have c17b0 : ((bt a0 x3_2) == 46) = false := beq_eq_false_iff_ne.mpr c17
      have c17b1 : ((bt a0 x3_2) != 46) = true := bne_iff_ne.mpr c17
      obtain rfl := Option.some.inj H
      have p7 : 0 ≤ (x3_2 : Int) := sq_d
      have q7 : x3_2 < (a0.size : Int) := sq_d
      have hx7 := bt_at a0 x3_2
      replace p7 := eq_true p7
      replace q7 := eq_true q7
      go_wp2
      go_ret
      exact ⟨by first | rfl | (simp; done) | (simp [*]; done), by repeat (first | exact Drawn0.refl _ | apply Drawn0.step)⟩
     rw [if_pos c17] at H
     have c17b0 : ((bt a0 x3_2) == 46) = true := beq_iff_eq.mpr c17
     have c17b1 : ((bt a0 x3_2) != 46) = false := bne_eq_false_iff_eq.mpr c17
     clear c17
     by_cases c18 : x3_2 = 0
     ·rw [if_pos c18] at H
      have c18b0 : (x3_2 == 0) = true := beq_iff_eq.mpr c18
      have c18b1 : (x3_2 != 0) = false := bne_eq_false_iff_eq.mpr c18
      clear c18
      obtain rfl := Option.some.inj H
      have p7 : 0 ≤ (x3_2 : Int) := sq_d
      have q7 : x3_2 < (a0.size : Int) := sq_d
      have hx7 := bt_at a0 x3_2
      replace p7 := eq_true p7
      replace q7 := eq_true q7
      go_wp2
      go_ret
      exact ⟨by first | rfl | (simp; done) | (simp [*]; done), by repeat (first | exact Drawn0.refl _ | apply Drawn0.step)⟩
     rw [if_neg c18] at H
     have c18b0 : (x3_2 == 0) = false := beq_eq_false_iff_ne.mpr c18
     have c18b1 : (x3_2 != 0) = true := bne_iff_ne.mpr c18
     have H' := Aside0.mk H
     clear H
     have p7 : 0 ≤ (x3_2 : Int) := sq_d
     have q7 : x3_2 < (a0.size : Int) := sq_d
     have hx7 := bt_at a0 x3_2
     replace p7 := eq_true p7
     replace q7 := eq_true q7
     go_wp2
     go_roundg k2
     case measure => have := HJ1.out; have := HK2.out; omega
     case rel => exact ⟨(wrap64 (x3_2 + 1)), (by first | rfl | (simp; done) | (simp [*]; done)), H', ⟨by have := HJ1.out; have := HK2.out; omega⟩, by repeat (first | exact Drawn0.refl _ | apply Drawn0.step)⟩
/-! ### petrinetref45_at: function 29 -/
def petrinetref45_at.l0 : Nat → List ByteArray → ByteArray → Int → Option (Int)
 | 0, _, _, _ => none
 | k + 1, x0, x1, x5 => if x5 < (x0.length : Int) then (if 0 ≤ x5 then (if (rdOf ByteArray.empty x0 x5).toList = x1.toList then (some x5) else (petrinetref45_at.l0 k x0 x1 (wrap64 (x5 + 1)))) else (none)) else (some (-1))
def petrinetref45_at.f (k : Nat) (l0 : List ByteArray) (a1 : ByteArray) : Option (Int) := petrinetref45_at.l0 k l0 a1 0
theorem petrinetref45_at.mono_l : ∀ k, (∀ y0 y1 y2, LeO (petrinetref45_at.l0 k y0 y1 y2) (petrinetref45_at.l0 (k + 1) y0 y1 y2))
 | 0 => fun _ _ _ r h => by simp [petrinetref45_at.l0] at h
 | k + 1 => by
  have ih0 := petrinetref45_at.mono_l k
  ·intro y0 y1 y2
   unfold petrinetref45_at.l0
   repeat' first
   | (with_reducible exact ih0 _ _ _)
   | (with_reducible exact LeO.refl _)
   | (with_reducible exact LeO.none _)
   | (with_reducible refine LeO.ite ?_ ?_)
   | (with_reducible refine LeO.bind ?_ (fun _ => ?_))
theorem petrinetref45_at.mono : ∀ a0 a1 k, LeO (petrinetref45_at.f k a0 a1) (petrinetref45_at.f (k + 1) a0 a1) := by
 intro a0 a1 k
 have ih0 := petrinetref45_at.mono_l k
 unfold petrinetref45_at.f
 repeat' first
   | (with_reducible exact ih0 _ _ _)
   | (with_reducible exact LeO.refl _)
   | (with_reducible exact LeO.none _)
   | (with_reducible refine LeO.ite ?_ ?_)
   | (with_reducible refine LeO.bind ?_ (fun _ => ?_))
set_option maxHeartbeats 8000000 in
set_option maxRecDepth 100000 in
theorem petrinetref45_at.calls (k : Nat) (A0 : Option Addr) (c0 : Nat) (l0 : List ByteArray) (a1 : ByteArray) (r : Int) (w : World) (hr0 : Kd.C Kd.string w A0 l0.length l0) (hc0 : l0.length ≤ c0) (h : petrinetref45_at.f k l0 a1 = some r) :
  Calls Try.prog 29 #[.slice A0 l0.length c0, .string a1] w fun e w' => e = .returned (.int .i64 r) ∧ Drawn0 w w' := by
 have hv30 := Try.underlying30
 have HR0 := Aside0.mk hr0
 have HC0 := Aside0.mk hc0
 clear hr0 hc0
 have H : (petrinetref45_at.l0 k l0 a1 0) = some r := h
 clear h
 have H' := Aside0.mk H
 clear H
 go_enter Try.func29, Try.ntmps29
 go_wp2
 go_loopg [5] k (fun kq v5 w' => ∃ (x5_1 : Int), v5 = .int .i64 x5_1 ∧ Aside0 (petrinetref45_at.l0 kq l0 a1 x5_1 = some r) ∧ Aside0 (kq ≤ k) ∧ Drawn0 w w')
 case atStart => exact ⟨(0), (by first | rfl | (simp; done) | (simp [*]; done)), H', ⟨Nat.le_refl _⟩, by repeat (first | exact Drawn0.refl _ | apply Drawn0.step)⟩
 case round =>
  clear H'
  obtain ⟨x5_1, rfl, HA, HK1, ⟨m1, rfl⟩⟩ := hrel
  cases gk with
  | zero => exact absurd HA.out (by simp [petrinetref45_at.l0])
  | succ k1 =>
   have H := HA.out
   clear HA
   simp only [petrinetref45_at.l0] at H
   by_cases c3 : x5_1 < (l0.length : Int)
   rotate_left
   ·rw [if_neg c3] at H
    have c3b0 : decide (x5_1 < (l0.length : Int)) = false := decide_eq_false c3
    clear c3
    obtain rfl := Option.some.inj H
    go_wp2
    go_ret
    exact ⟨by first | rfl | (simp; done) | (simp [*]; done), by repeat (first | exact Drawn0.refl _ | apply Drawn0.step)⟩
   rw [if_pos c3] at H
   have c3b0 : decide (x5_1 < (l0.length : Int)) = true := decide_eq_true c3
   clear c3
   by_cases c4 : 0 ≤ x5_1
   rotate_left
   ·rw [if_neg c4] at H
    exact absurd H (by simp)
   rw [if_pos c4] at H
   have c4b0 : decide (0 ≤ x5_1) = true := decide_eq_true c4
   clear c4
   by_cases c5 : (rdOf ByteArray.empty l0 x5_1).toList = a1.toList
   ·rw [if_pos c5] at H
    have c5b0 : ((rdOf ByteArray.empty l0 x5_1).toList == a1.toList) = true := beq_iff_eq.mpr c5
    have c5b1 : ((rdOf ByteArray.empty l0 x5_1).toList != a1.toList) = false := bne_eq_false_iff_eq.mpr c5
    clear c5
    obtain rfl := Option.some.inj H
    have p214 : 0 ≤ (x5_1 : Int) := sq_d
    have q214 : x5_1 < (l0.length : Int) := sq_d
    have LQ214 := Aside0.mk q214
    obtain ⟨ad214, e214, hx214_0⟩ := Kd.at_string HR0.out x5_1 p214 q214
    cases e214
    replace p214 := eq_true p214
    replace q214 := eq_true q214
    go_wp2
    go_ret
    exact ⟨by first | rfl | (simp; done) | (simp [*]; done), by repeat (first | exact Drawn0.refl _ | apply Drawn0.step)⟩
   rw [if_neg c5] at H
   have c5b0 : ((rdOf ByteArray.empty l0 x5_1).toList == a1.toList) = false := beq_eq_false_iff_ne.mpr c5
   have c5b1 : ((rdOf ByteArray.empty l0 x5_1).toList != a1.toList) = true := bne_iff_ne.mpr c5
   have H' := Aside0.mk H
   clear H
   have p214 : 0 ≤ (x5_1 : Int) := sq_d
   have q214 : x5_1 < (l0.length : Int) := sq_d
   have LQ214 := Aside0.mk q214
   obtain ⟨ad214, e214, hx214_0⟩ := Kd.at_string HR0.out x5_1 p214 q214
   cases e214
   replace p214 := eq_true p214
   replace q214 := eq_true q214
   go_wp2
   go_roundg k1
   case measure => have := HK1.out; omega
   case rel => exact ⟨(wrap64 (x5_1 + 1)), (by first | rfl | (simp; done) | (simp [*]; done)), H', ⟨by have := HK1.out; omega⟩, by repeat (first | exact Drawn0.refl _ | apply Drawn0.step)⟩
end Go.Proofs.Ytcnliampiibpbaa.PAll
