/- The row of OmegaDominates, and its tied card: the call returns true at every input and leaves its arguments as they were. No condition but the ones written. -/
import Derived.Test.YtoobmfofkeaibaaDoorRows
import Derived.Test.YtoobmfofkeaibaaDoorWSized
import Derived.Test.YtoobmfofkeaibaaDoorTie
import Derived.Test.YtoobmfofkeaibaaDoorCards
import Derived.Test.YtoobmfofkeaibaaDoorLaidOfMax
import Derived.Test.YtoobmfofkeaibaaDoorOpens
import Derived.Test.YtoobmfofkeaibaaDoorPMaxlOmegaDominates
import Derived.Test.YtoobmfofkeaibaaDoorTextDominates
import Derived.WalkKit
import Derived.ProofKit
import Derived.OpenShut
import Derived.ShutString
import Derived.ChangeOld
import Derived.Below
import Derived.SizedLaws
import Derived.LaidMore
import Derived.Lay
import Derived.SevenTiedAt
import Derived.Stop.Joined
import Derived.MakeChecks
import Derived.Lib.SmallJoins
namespace Go.Proofs.YtoobmfofkeaibaaDoor.omegaDominates
open Go.Joins Go.ChangeShapes Go.WideShapes Go.ChangeAt Go.RowKit Go.Proofs.YtoobmfofkeaibaaDoorW.PrintWords Go.Proofs.YtoobmfofkeaibaaDoorW.PrintLast Go.Proofs.YtoobmfofkeaibaaDoorW.PrintMore
open Go.ChangeMaps (open_string shut_string)
set_option linter.unusedVariables false
theorem own : ownKnob Tryd.prog.godebug = none := by kernel_rfl
theorem laidOut : laidOutB Tryd.prog = true := by kernel_rfl
set_option maxRecDepth 100000 in
theorem lifted (os : Os) (started : os.Started) (H : Type) (enc : TypeId × Value → H) :
    ReturnsInHanded {} Tryd.checked os 7 .any (fun w args => (Rows.omegaDominatesSpec.pre enc Tryd.prog Tryd.f7 Rows.omegaDominatesRow.domain false w args ∧ laidMetH Tryd.prog Rows.omegaDominatesRow.laid w) ∧ sizedMet enc Tryd.prog Tryd.f7 (OpenSpec.ofChange Rows.omegaDominatesSpec) false w args)
      (Rows.omegaDominatesSpec.post enc Tryd.prog Tryd.f7 false true false false) := by
  refine returnsInHanded_of_change_and (C := Tryd.checked) (X := fun w _ => laidMetH Tryd.prog Rows.omegaDominatesRow.laid w) (fun _ _ _ hh h => h.of_heap hh) own started (by kernel_rfl) Tryd.func7
    (ChangeSpec.witness_shaped (enc := enc) (C := Tryd.checked) (os := os) (X := fun w _ => laidMetH Tryd.prog Rows.omegaDominatesRow.laid w) false (World.laidAll Tryd.prog os Rows.omegaDominatesRow.laid) #[.slice none 0 0] 8 (World.laidAll_os _ _ _)
      (World.shaped_of_ZipB (by kernel_rfl) (by kernel_rfl)) (by kernel_rfl) (by kernel_rfl) (by kernel_rfl)
      (by rw [MakeChecks.laidMetH_plain _ _ _ (by kernel_rfl)]; exact laidMet_laidAll _ (by kernel_rfl) (by kernel_rfl))) ?_
  intro W base args ds gs before hval0 hW hcnd hsz0 hL0 _
  have hL := LaidOfMax.laidW_of hL0
  clear hL0
  have hsz : (DataW.weightsEach Tryd.prog (Tryd.f7.params.toList ++ Rows.omegaDominatesSpec.plain.varTypes Tryd.prog) (ds ++ gs)).all (· ≤ reachBytes) = true := hsz0
  have hval : ∀ (j : Nat) t v, Tryd.f7.params[j]? = some t → args[j]? = some v → Value.okWide Tryd.prog W .any base t v := hval0
  have hW' := hW
  obtain ⟨p, q, hA0, hV, rfl, hfz, hnd⟩ := hW
  have hA : DataW.TrodAll enc Tryd.prog W 0 (fun _ => true) true Tryd.f7.params.toList args.toList ds p := hA0
  rw [Tryd.params7] at hA hval hsz
  obtain ⟨v0, vs0, d0, ds0, p0, q0, hargs, rfl, rfl, h0, r0⟩ := trodAll_cons hA
  obtain ⟨rfl, rfl, rfl⟩ := trodAll_nil r0
  obtain rfl : args = #[v0] := by cases args; simp_all
  obtain ⟨rfl, rfl⟩ := trodVars_none hV
  have k0 := h0
  have lt0 : ∀ x ∈ p0, x.block < W.heap.size := by obtain ⟨m, hm⟩ := k0; exact DataW.trod_lt m _ _ _ hm
  obtain ⟨al0, len0, cap0, rfl⟩ := okWide_slice Tryd.underlying30 (hval 0 30 v0 rfl rfl)
  obtain ⟨fu0, t0⟩ := h0
  have hs0 : ∀ q ∈ d0.weights Tryd.prog 30, q ≤ reachBytes := fun q hq => by have := List.all_eq_true.1 hsz q (DataW.weights_mem_each (j := 0) (t := 30) rfl rfl q hq); simpa using this
  obtain ⟨A0, c0, l0, e0, hc0, m0, hr0, w0⟩ := Opens.slice_CW reachBytes 24 (Kd.slice 3 (Kd.int .i64)) (fun z => z.length * 8 ≤ reachBytes ∧ ∀ x ∈ z, (Lit.int .i64 x).wf = true) Tryd.underlying30 (by kernel_rfl) (by kernel_rfl) (Opens.opn_intsW reachBytes 8 Tryd.underlying22 Tryd.underlying3 (by kernel_rfl) (by kernel_rfl)) t0 hs0
  have e0 := (List.cons.inj e0).1
  injection e0 with ea0 eb0 ec0
  subst ea0 eb0 ec0
  clear hA0 hval0 hsz0 hsz
  obtain ⟨kk, hk⟩ := Plain.OmegaDominates_pure l0 m0 w0
  refine (PMax.petrinetlaw05_OmegaDominates.calls (k := kk) (A0 := al0) (c0 := cap0) (l0 := l0) (r := true) (w := W) (hL := hL) (hr0 := hr0) (hc0 := hc0) (h := hk)).mono fun e W' ⟨he, bel⟩ => ?_
  subst he
  exact ⟨_, rfl, _, _, _, [], _, [], hW', trodAll_mk1 (shut_bool Tryd.underlying4 _), (trodAll_cons_mk (Below.trod laidOut (by kernel_rfl) (of_decide_eq_true (by kernel_rfl)) k0 bel lt0) trodAll_mk0), rfl, bel.frame _, fun h => by cases h⟩
theorem over : Rows.OmegaDominatesSaid :=
  OpenClaim.holds_of_wide 7 Tryd.f7 rfl rfl rfl rfl rfl rfl rfl ⟨rfl, rfl, rfl, rfl, rfl⟩ rfl rfl rfl rfl rfl (by kernel_rfl) Tryd.func7 (by kernel_rfl)
    (of_decide_eq_true (by kernel_rfl)) (by unfold Func.isWrapper; first | (rw [if_pos (by decide +kernel)]; kernel_rfl) | (rw [if_neg (by decide +kernel)]; exact ⟨rfl, rfl⟩))
    (fun os started H enc _ => lifted os started H enc)
theorem proved : Rows.OmegaDominatesCardSaid :=
  Claim7.holds_tied_plain_at .later [] [.data, .data, .data] true (true, "ba2306d6480da663a36c02353722e9e56250107417d498ab33ca581732046eeb") true over (fun _ h => by cases h) (by kernel_rfl) (fun _ h => by cases h) omegaDominates_row_tie rfl ⟨rfl, rfl⟩ (by kernel_rfl) rfl
    (fun f fn hf hfn => by
      obtain rfl : f = 7 := Option.some.inj ((show Tryd.prog.funcNamed "petrinet/petrinetlaw05.OmegaDominates" = some 7 by kernel_rfl).symm.trans hf) |>.symm
      obtain rfl : fn = Tryd.f7 := (Option.some.inj (Tryd.func7.symm.trans hfn)).symm
      exact ⟨by kernel_rfl, fun j t ht => by
        rw [Tryd.params7] at ht
        have hm : t ∈ [30] := by simpa using Array.mem_of_getElem? ht
        have hall : ([30].all fun u => !Tryd.prog.wantsStandIn u) = true := by kernel_rfl
        exact (show Tryd.prog.wantsStandIn t = false by simpa using List.all_eq_true.1 hall t hm)⟩)
    (by kernel_rfl)
end Go.Proofs.YtoobmfofkeaibaaDoor.omegaDominates
namespace Go.Proofs.YtoobmfofkeaibaaDoor
theorem omegaDominates_card_holds : Rows.OmegaDominatesCardSaid := omegaDominates.proved
end Go.Proofs.YtoobmfofkeaibaaDoor
