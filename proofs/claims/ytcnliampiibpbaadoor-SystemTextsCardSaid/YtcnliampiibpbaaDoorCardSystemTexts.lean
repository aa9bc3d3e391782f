/- The row of SystemTexts, and its tied card: the call returns true at every input and leaves its arguments as they were. No condition but the ones written. -/
import Derived.Test.YtcnliampiibpbaaDoorRows
import Derived.Test.YtcnliampiibpbaaDoorV0
import Derived.Test.YtcnliampiibpbaaDoorTie
import Derived.Test.YtcnliampiibpbaaDoorCards
import Derived.Test.YtcnliampiibpbaaDoorLaidOf
import Derived.Test.YtcnliampiibpbaaDoorOpens
import Derived.Test.YtcnliampiibpbaaDoorPAlllSystemTexts
import Derived.Test.YtcnliampiibpbaaDoorTextTexts
import Derived.WalkKit
import Derived.ProofKit
import Derived.OpenShut
import Derived.ShutString
import Derived.ChangeOld
import Derived.Below
import Derived.SizedLaws
import Derived.LaidMore
import Derived.Lay
import Derived.SevenTiedAt
import Derived.Stop.Joined
import Derived.MakeChecks
import Derived.Lib.SmallJoins
namespace Go.Proofs.YtcnliampiibpbaaDoor.systemTexts
open Go.Joins Go.ChangeShapes Go.WideShapes Go.ChangeAt Go.RowKit Go.Proofs.YtcnliampiibpbaaDoorW.PrintWords Go.Proofs.YtcnliampiibpbaaDoorW.PrintLast Go.Proofs.YtcnliampiibpbaaDoorW.PrintMore
open Go.ChangeMaps (open_string shut_string)
set_option linter.unusedVariables false
theorem own : ownKnob Tryd.prog.godebug = none := by kernel_rfl
theorem laidOut : laidOutB Tryd.prog = true := by kernel_rfl
set_option maxRecDepth 100000 in
theorem lifted (os : Os) (started : os.Started) (H : Type) (enc : TypeId × Value → H) :
    ReturnsInHanded {} Tryd.checked os 3 .any (fun w args => (Rows.systemTextsSpec.pre enc Tryd.prog Tryd.f3 Rows.systemTextsRow.domain false w args ∧ laidMetH Tryd.prog Rows.systemTextsRow.laid w) ∧ sizedMet enc Tryd.prog Tryd.f3 (OpenSpec.ofChange Rows.systemTextsSpec) false w args)
      (Rows.systemTextsSpec.post enc Tryd.prog Tryd.f3 false true false false) := by
  refine returnsInHanded_of_change_and (C := Tryd.checked) (X := fun w _ => laidMetH Tryd.prog Rows.systemTextsRow.laid w) (fun _ _ _ hh h => h.of_heap hh) own started (by kernel_rfl) Tryd.func3
    (ChangeSpec.witness_shaped (enc := enc) (C := Tryd.checked) (os := os) (X := fun w _ => laidMetH Tryd.prog Rows.systemTextsRow.laid w) false (World.laidAll Tryd.prog os Rows.systemTextsRow.laid) #[.agg #[.int .i64 0, .slice none 0 0, .slice none 0 0], .string ByteArray.empty] 8 (World.laidAll_os _ _ _)
      (World.shaped_of_ZipB (by kernel_rfl) (by kernel_rfl)) (by kernel_rfl) (by kernel_rfl) (by kernel_rfl)
      (by rw [MakeChecks.laidMetH_plain _ _ _ (by kernel_rfl)]; exact laidMet_laidAll _ (by kernel_rfl) (by kernel_rfl))) ?_
  intro W base args ds gs before hval0 hW hcnd hsz0 hL0 _
  have hL := LaidOf.laidE_of hL0
  clear hL0
  have hsz : (DataW.weightsEach Tryd.prog (Tryd.f3.params.toList ++ Rows.systemTextsSpec.plain.varTypes Tryd.prog) (ds ++ gs)).all (· ≤ reachBytes) = true := hsz0
  have hval : ∀ (j : Nat) t v, Tryd.f3.params[j]? = some t → args[j]? = some v → Value.okWide Tryd.prog W .any base t v := hval0
  have hW' := hW
  obtain ⟨p, q, hA0, hV, rfl, hfz, hnd⟩ := hW
  have hA : DataW.TrodAll enc Tryd.prog W 0 (fun _ => true) true Tryd.f3.params.toList args.toList ds p := hA0
  rw [Tryd.params3] at hA hval hsz
  obtain ⟨v0, vs0, d0, ds0, p0, q0, hargs, rfl, rfl, h0, r0⟩ := trodAll_cons hA
  obtain ⟨v1, vs1, d1, ds1, p1, q1, rfl, rfl, rfl, h1, r1⟩ := trodAll_cons r0
  obtain ⟨rfl, rfl, rfl⟩ := trodAll_nil r1
  obtain rfl : args = #[v0, v1] := by cases args; simp_all
  obtain ⟨rfl, rfl⟩ := trodVars_none hV
  have k0 := h0
  have lt0 : ∀ x ∈ p0, x.block < W.heap.size := by obtain ⟨m, hm⟩ := k0; exact DataW.trod_lt m _ _ _ hm
  obtain ⟨v0_0, v0_1, v0_2, y0_0, y0_1, y0_2, n0, rfl, rfl, rfl, t0_0, t0_1, t0_2⟩ := open_agg3 Tryd.underlying25 (by kernel_rfl) (by kernel_rfl) (hval 0 25 v0 rfl rfl) h0
  obtain ⟨a0_0, e0_0, x0_0, w0_0⟩ := DataW.trod_int Tryd.underlying3 t0_0
  obtain rfl := (List.cons.inj e0_0).1
  obtain ⟨A0_1, c0_1, l0_1, e0_1, hc0_1, m0_1, hr0_1, w0_1⟩ := Opens.slice_C Kd.string (fun z : ByteArray => z.size ≤ maxLen) Tryd.underlying22 (by kernel_rfl) (Opens.opn_string Tryd.underlying9) t0_1
  obtain rfl := (List.cons.inj e0_1).1
  obtain ⟨A0_2, c0_2, l0_2, e0_2, hc0_2, m0_2, hr0_2, w0_2⟩ := Opens.slice_C (PAll.k46) (fun z : PAll.S46 => (fun z : Int => (Lit.int .i64 z).wf = true) z.f0 ∧ (fun z : Int => (Lit.int .i64 z).wf = true) z.f1 ∧ (fun z : Int => (Lit.int .i64 z).wf = true) z.f2) Tryd.underlying23 (by kernel_rfl) (Opens.opn_struct (fun x : PAll.S46 => (x.f0, x.f1, x.f2)) (fun p => ⟨p.1, p.2.1, p.2.2⟩) (fun _ => rfl) Tryd.underlying46 (by kernel_rfl) (Opens.fcons rfl (by kernel_rfl) (Opens.opn_int Tryd.underlying3) (Opens.fcons rfl (by kernel_rfl) (Opens.opn_int Tryd.underlying3) (Opens.fone rfl (by kernel_rfl) (Opens.opn_int Tryd.underlying3))))) t0_2
  obtain rfl := (List.cons.inj e0_2).1
  obtain ⟨a1, rfl, rfl, rfl, y1⟩ := open_string Tryd.underlying9 (hval 1 9 v1 rfl rfl) h1
  have w1 : a1.size ≤ 140737488351232 := by
    have z := sized_string hsz (j := 1) (t := 9) rfl rfl
    rw [Array.length_toList] at z
    exact z
  clear hA0 hval0 hsz0 hsz
  obtain ⟨kk, hk⟩ := Plain.SystemTexts_pure a0_0 w0_0 l0_1 m0_1 w0_1 l0_2 m0_2 w0_2 a1 w1
  refine (PAll.petrinetlaw45_SystemTexts.calls (k := kk) (a0_0 := a0_0) (A0_1 := A0_1) (c0_1 := c0_1) (l0_1 := l0_1) (A0_2 := A0_2) (c0_2 := c0_2) (l0_2 := l0_2) (a1 := a1) (r := true) (w := W) (hL := hL) (hr0_1 := hr0_1) (hc0_1 := hc0_1) (hr0_2 := hr0_2) (hc0_2 := hc0_2) (h := hk)).mono fun e W' ⟨he, bel⟩ => ?_
  subst he
  exact ⟨_, rfl, _, _, _, [], _, [], hW', trodAll_mk1 (shut_bool Tryd.underlying4 _), (trodAll_cons_mk (Below.trod laidOut (by kernel_rfl) (of_decide_eq_true (by kernel_rfl)) k0 bel lt0) (trodAll_cons_mk (shut_string Tryd.underlying9 y1) trodAll_mk0)), rfl, bel.frame _, fun h => by cases h⟩
theorem over : Rows.SystemTextsSaid :=
  OpenClaim.holds_of_wide 3 Tryd.f3 rfl rfl rfl rfl rfl rfl rfl ⟨rfl, rfl, rfl, rfl, rfl⟩ rfl rfl rfl rfl rfl (by kernel_rfl) Tryd.func3 (by kernel_rfl)
    (of_decide_eq_true (by kernel_rfl)) (by unfold Func.isWrapper; first | (rw [if_pos (by decide +kernel)]; kernel_rfl) | (rw [if_neg (by decide +kernel)]; exact ⟨rfl, rfl⟩))
    (fun os started H enc _ => lifted os started H enc)
theorem proved : Rows.SystemTextsCardSaid :=
  Claim7.holds_tied_plain_at .later [] [.data, .data, .data, .sentinel, .sentinel] true (true, "c3b7c0a5a823aef72772d6f94c629e7bb7b7a1ccd593cc0ffa9814b8e66768e7") true over (fun _ h => by cases h) (by kernel_rfl) (fun _ h => by cases h) systemTexts_row_tie rfl ⟨rfl, rfl⟩ (by kernel_rfl) rfl
    (fun f fn hf hfn => by
      obtain rfl : f = 3 := Option.some.inj ((show Tryd.prog.funcNamed "petrinet/petrinetlaw45.SystemTexts" = some 3 by kernel_rfl).symm.trans hf) |>.symm
      obtain rfl : fn = Tryd.f3 := (Option.some.inj (Tryd.func3.symm.trans hfn)).symm
      exact ⟨by kernel_rfl, fun j t ht => by
        rw [Tryd.params3] at ht
        have hm : t ∈ [25, 9] := by simpa using Array.mem_of_getElem? ht
        have hall : ([25, 9].all fun u => !Tryd.prog.wantsStandIn u) = true := by kernel_rfl
        exact (show Tryd.prog.wantsStandIn t = false by simpa using List.all_eq_true.1 hall t hm)⟩)
    (by kernel_rfl)
end Go.Proofs.YtcnliampiibpbaaDoor.systemTexts
namespace Go.Proofs.YtcnliampiibpbaaDoor
theorem systemTexts_card_holds : Rows.SystemTextsCardSaid := systemTexts.proved
end Go.Proofs.YtcnliampiibpbaaDoor
