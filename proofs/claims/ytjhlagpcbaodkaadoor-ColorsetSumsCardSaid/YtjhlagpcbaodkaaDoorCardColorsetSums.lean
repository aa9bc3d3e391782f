/- The row of ColorsetSums, and its tied card: the call returns true at every input and leaves its arguments as they were. No condition but the ones written. -/
import Derived.Test.YtjhlagpcbaodkaaDoorRows
import Derived.Test.YtjhlagpcbaodkaaDoorWSized
import Derived.Test.YtjhlagpcbaodkaaDoorTie
import Derived.Test.YtjhlagpcbaodkaaDoorCards
import Derived.Test.YtjhlagpcbaodkaaDoorLaidOfSum
import Derived.Test.YtjhlagpcbaodkaaDoorOpens
import Derived.Test.YtjhlagpcbaodkaaDoorPSumlColorsetSums
import Derived.Test.YtjhlagpcbaodkaaDoorLawSums
import Derived.WalkKit
import Derived.ProofKit
import Derived.OpenShut
import Derived.ShutString
import Derived.ChangeOld
import Derived.Below
import Derived.SizedLaws
import Derived.LaidMore
import Derived.Lay
import Derived.SevenTiedAt
import Derived.Stop.Joined
import Derived.MakeChecks
import Derived.Lib.SmallJoins
namespace Go.Proofs.YtjhlagpcbaodkaaDoor.colorsetSums
open Go.Joins Go.ChangeShapes Go.WideShapes Go.ChangeAt Go.RowKit Go.Proofs.YtjhlagpcbaodkaaDoorW.PrintWords Go.Proofs.YtjhlagpcbaodkaaDoorW.PrintLast Go.Proofs.YtjhlagpcbaodkaaDoorW.PrintMore
open Go.ChangeMaps (open_string shut_string)
set_option linter.unusedVariables false
theorem own : ownKnob Tryd.prog.godebug = none := by kernel_rfl
theorem laidOut : laidOutB Tryd.prog = true := by kernel_rfl
set_option maxRecDepth 100000 in
theorem lifted (os : Os) (started : os.Started) (H : Type) (enc : TypeId × Value → H) :
    ReturnsInHanded {} Tryd.checked os 7 .any (fun w args => (Rows.colorsetSumsSpec.pre enc Tryd.prog Tryd.f7 Rows.colorsetSumsRow.domain false w args ∧ laidMetH Tryd.prog Rows.colorsetSumsRow.laid w) ∧ sizedMet enc Tryd.prog Tryd.f7 (OpenSpec.ofChange Rows.colorsetSumsSpec) false w args)
      (Rows.colorsetSumsSpec.post enc Tryd.prog Tryd.f7 false true false false) := by
  refine returnsInHanded_of_change_and (C := Tryd.checked) (X := fun w _ => laidMetH Tryd.prog Rows.colorsetSumsRow.laid w) (fun _ _ _ hh h => h.of_heap hh) own started (by kernel_rfl) Tryd.func7
    (ChangeSpec.witness_shaped (enc := enc) (C := Tryd.checked) (os := os) (X := fun w _ => laidMetH Tryd.prog Rows.colorsetSumsRow.laid w) false (World.laidAll Tryd.prog os Rows.colorsetSumsRow.laid) #[.slice none 0 0, .slice none 0 0, .int .i64 0] 8 (World.laidAll_os _ _ _)
      (World.shaped_of_ZipB (by kernel_rfl) (by kernel_rfl)) (by kernel_rfl) (by kernel_rfl) (by kernel_rfl)
      (by rw [MakeChecks.laidMetH_plain _ _ _ (by kernel_rfl)]; exact laidMet_laidAll _ (by kernel_rfl) (by kernel_rfl))) ?_
  intro W base args ds gs before hval0 hW hcnd hsz0 hL0 _
  have hL := LaidOfSum.laidW_of hL0
  clear hL0
  have hsz : (DataW.weightsEach Tryd.prog (Tryd.f7.params.toList ++ Rows.colorsetSumsSpec.plain.varTypes Tryd.prog) (ds ++ gs)).all (· ≤ reachBytes) = true := hsz0
  have hval : ∀ (j : Nat) t v, Tryd.f7.params[j]? = some t → args[j]? = some v → Value.okWide Tryd.prog W .any base t v := hval0
  have hW' := hW
  obtain ⟨p, q, hA0, hV, rfl, hfz, hnd⟩ := hW
  have hA : DataW.TrodAll enc Tryd.prog W 0 (fun _ => true) true Tryd.f7.params.toList args.toList ds p := hA0
  rw [Tryd.params7] at hA hval hsz
  obtain ⟨v0, vs0, d0, ds0, p0, q0, hargs, rfl, rfl, h0, r0⟩ := trodAll_cons hA
  obtain ⟨v1, vs1, d1, ds1, p1, q1, rfl, rfl, rfl, h1, r1⟩ := trodAll_cons r0
  obtain ⟨v2, vs2, d2, ds2, p2, q2, rfl, rfl, rfl, h2, r2⟩ := trodAll_cons r1
  obtain ⟨rfl, rfl, rfl⟩ := trodAll_nil r2
  obtain rfl : args = #[v0, v1, v2] := by cases args; simp_all
  obtain ⟨rfl, rfl⟩ := trodVars_none hV
  have k0 := h0
  have lt0 : ∀ x ∈ p0, x.block < W.heap.size := by obtain ⟨m, hm⟩ := k0; exact DataW.trod_lt m _ _ _ hm
  obtain ⟨al0, len0, cap0, rfl⟩ := okWide_slice Tryd.underlying34 (hval 0 34 v0 rfl rfl)
  have y0 : len0 * 8 ≤ 140737488351232 := Go.Proofs.YtjhlagpcbaodkaaDoorW.PrintWords.sized_ints hsz (j := 0) (t := 34) rfl rfl Tryd.underlying34 Tryd.underlying3 (by kernel_rfl) (by kernel_rfl) h0
  obtain ⟨fu0, t0⟩ := h0
  obtain ⟨A0, c0, l0, e0, hc0, m0, hr0, w0⟩ := Opens.slice_C (Kd.int .i64) (fun z : Int => (Lit.int .i64 z).wf = true) Tryd.underlying34 (by kernel_rfl) (Opens.opn_int Tryd.underlying3) t0
  have e0 := (List.cons.inj e0).1
  injection e0 with ea0 eb0 ec0
  subst ea0 eb0 ec0
  have k1 := h1
  have lt1 : ∀ x ∈ p1, x.block < W.heap.size := by obtain ⟨m, hm⟩ := k1; exact DataW.trod_lt m _ _ _ hm
  obtain ⟨al1, len1, cap1, rfl⟩ := okWide_slice Tryd.underlying34 (hval 1 34 v1 rfl rfl)
  have y1 : len1 * 8 ≤ 140737488351232 := Go.Proofs.YtjhlagpcbaodkaaDoorW.PrintWords.sized_ints hsz (j := 1) (t := 34) rfl rfl Tryd.underlying34 Tryd.underlying3 (by kernel_rfl) (by kernel_rfl) h1
  obtain ⟨fu1, t1⟩ := h1
  obtain ⟨A1, c1, l1, e1, hc1, m1, hr1, w1⟩ := Opens.slice_C (Kd.int .i64) (fun z : Int => (Lit.int .i64 z).wf = true) Tryd.underlying34 (by kernel_rfl) (Opens.opn_int Tryd.underlying3) t1
  have e1 := (List.cons.inj e1).1
  injection e1 with ea1 eb1 ec1
  subst ea1 eb1 ec1
  obtain ⟨a2, rfl, rfl, rfl, w2⟩ := open_int Tryd.underlying3 (hval 2 3 v2 rfl rfl) h2
  clear hA0 hval0 hsz0 hsz
  obtain ⟨kk, hk⟩ := PlainS.ColorsetSums_pure l0 y0 w0 l1 y1 w1 a2 w2
  refine (PSum.petrinetlaw39_ColorsetSums.calls (k := kk) (A0 := al0) (c0 := cap0) (l0 := l0) (A1 := al1) (c1 := cap1) (l1 := l1) (a2 := a2) (r := true) (w := W) (hL := hL) (hr0 := hr0) (hc0 := hc0) (hr1 := hr1) (hc1 := hc1) (h := hk)).mono fun e W' ⟨he, bel⟩ => ?_
  subst he
  exact ⟨_, rfl, _, _, _, [], _, [], hW', trodAll_mk1 (shut_bool Tryd.underlying4 _), (trodAll_cons_mk (Below.trod laidOut (by kernel_rfl) (of_decide_eq_true (by kernel_rfl)) k0 bel lt0) (trodAll_cons_mk (Below.trod laidOut (by kernel_rfl) (of_decide_eq_true (by kernel_rfl)) k1 bel lt1) (trodAll_cons_mk (shut_int Tryd.underlying3 w2) trodAll_mk0))), rfl, bel.frame _, fun h => by cases h⟩
theorem over : Rows.ColorsetSumsSaid :=
  OpenClaim.holds_of_wide 7 Tryd.f7 rfl rfl rfl rfl rfl rfl rfl ⟨rfl, rfl, rfl, rfl, rfl⟩ rfl rfl rfl rfl rfl (by kernel_rfl) Tryd.func7 (by kernel_rfl)
    (of_decide_eq_true (by kernel_rfl)) (by unfold Func.isWrapper; first | (rw [if_pos (by decide +kernel)]; kernel_rfl) | (rw [if_neg (by decide +kernel)]; exact ⟨rfl, rfl⟩))
    (fun os started H enc _ => lifted os started H enc)
theorem proved : Rows.ColorsetSumsCardSaid :=
  Claim7.holds_tied_plain_at .later [] [.data, .data, .data] true (true, "829fd95c0fa37adca1e70caf579568ab71bba6423daabfe5f826dfea03174b56") true over (fun _ h => by cases h) (by kernel_rfl) (fun _ h => by cases h) colorsetSums_row_tie rfl ⟨rfl, rfl⟩ (by kernel_rfl) rfl
    (fun f fn hf hfn => by
      obtain rfl : f = 7 := Option.some.inj ((show Tryd.prog.funcNamed "petrinet/petrinetlaw39.ColorsetSums" = some 7 by kernel_rfl).symm.trans hf) |>.symm
      obtain rfl : fn = Tryd.f7 := (Option.some.inj (Tryd.func7.symm.trans hfn)).symm
      exact ⟨by kernel_rfl, fun j t ht => by
        rw [Tryd.params7] at ht
        have hm : t ∈ [34, 34, 3] := by simpa using Array.mem_of_getElem? ht
        have hall : ([34, 34, 3].all fun u => !Tryd.prog.wantsStandIn u) = true := by kernel_rfl
        exact (show Tryd.prog.wantsStandIn t = false by simpa using List.all_eq_true.1 hall t hm)⟩)
    (by kernel_rfl)
end Go.Proofs.YtjhlagpcbaodkaaDoor.colorsetSums
namespace Go.Proofs.YtjhlagpcbaodkaaDoor
theorem colorsetSums_card_holds : Rows.ColorsetSumsCardSaid := colorsetSums.proved
end Go.Proofs.YtjhlagpcbaodkaaDoor
