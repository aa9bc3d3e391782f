/- The row of SystemImages: the call returns true at every input and leaves its arguments as they were. No condition but the ones written. -/
import Derived.Test.YtcnliampiibpbaaRows
import Derived.Test.YtcnliampiibpbaaV1
import Derived.Test.YtcnliampiibpbaaOpens
import Derived.Test.YtcnliampiibpbaaPAlllSystemImages
import Derived.Test.YtcnliampiibpbaaTextImages
import Derived.WalkKit
import Derived.ProofKit
import Derived.OpenShut
import Derived.ShutString
import Derived.ChangeOld
import Derived.Below
import Derived.SizedLaws
import Derived.LaidMore
import Derived.Lay
import Derived.SevenTiedAt
import Derived.Stop.Joined
import Derived.MakeChecks
import Derived.Lib.SmallJoins
namespace Go.Proofs.Ytcnliampiibpbaa.systemImages
open Go.Joins Go.ChangeShapes Go.WideShapes Go.ChangeAt Go.RowKit Go.Proofs.YtcnliampiibpbaaW.PrintWords Go.Proofs.YtcnliampiibpbaaW.PrintLast Go.Proofs.YtcnliampiibpbaaW.PrintMore
open Go.ChangeMaps (open_string shut_string)
set_option linter.unusedVariables false
theorem own : ownKnob Try.prog.godebug = none := by kernel_rfl
theorem laidOut : laidOutB Try.prog = true := by kernel_rfl
set_option maxRecDepth 100000 in
theorem lifted (os : Os) (started : os.Started) (H : Type) (enc : TypeId × Value → H) :
    ReturnsInHanded {} Try.checked os 7 .any (Rows.systemImagesSpec.pre6 enc Try.prog Try.f7 Rows.systemImagesRow.domain false) (Rows.systemImagesSpec.post enc Try.prog Try.f7 false true false false) := by
  refine returnsInHanded_of_change_sized (C := Try.checked) own started (by kernel_rfl) Try.func7
    (ChangeSpec.witness6 (enc := enc) (C := Try.checked) false ⟨#[], #[.agg #[.int .i64 0, .slice none 0 0, .slice none 0 0], .agg #[.int .i64 0, .slice none 0 0, .slice none 0 0]], []⟩ 8 (by kernel_rfl) (by kernel_rfl) (by kernel_rfl) (by kernel_rfl)) ?_
  intro W base args ds gs before hval0 hW hcnd hsz0 _
  have hsz : (DataW.weightsEach Try.prog (Try.f7.params.toList ++ Rows.systemImagesSpec.plain.varTypes Try.prog) (ds ++ gs)).all (· ≤ reachBytes) = true := hsz0
  have hval : ∀ (j : Nat) t v, Try.f7.params[j]? = some t → args[j]? = some v → Value.okWide Try.prog W .any base t v := hval0
  have hW' := hW
  obtain ⟨p, q, hA0, hV, rfl, hfz, hnd⟩ := hW
  have hA : DataW.TrodAll enc Try.prog W 0 (fun _ => true) true Try.f7.params.toList args.toList ds p := hA0
  rw [Try.params7] at hA hval hsz
  obtain ⟨v0, vs0, d0, ds0, p0, q0, hargs, rfl, rfl, h0, r0⟩ := trodAll_cons hA
  obtain ⟨v1, vs1, d1, ds1, p1, q1, rfl, rfl, rfl, h1, r1⟩ := trodAll_cons r0
  obtain ⟨rfl, rfl, rfl⟩ := trodAll_nil r1
  obtain rfl : args = #[v0, v1] := by cases args; simp_all
  obtain ⟨rfl, rfl⟩ := trodVars_none hV
  have k0 := h0
  have lt0 : ∀ x ∈ p0, x.block < W.heap.size := by obtain ⟨m, hm⟩ := k0; exact DataW.trod_lt m _ _ _ hm
  obtain ⟨v0_0, v0_1, v0_2, y0_0, y0_1, y0_2, n0, rfl, rfl, rfl, t0_0, t0_1, t0_2⟩ := open_agg3 Try.underlying25 (by kernel_rfl) (by kernel_rfl) (hval 0 25 v0 rfl rfl) h0
  obtain ⟨a0_0, e0_0, x0_0, w0_0⟩ := DataW.trod_int Try.underlying3 t0_0
  obtain rfl := (List.cons.inj e0_0).1
  obtain ⟨A0_1, c0_1, l0_1, e0_1, hc0_1, m0_1, hr0_1, w0_1⟩ := Opens.slice_C Kd.string (fun z : ByteArray => z.size ≤ maxLen) Try.underlying22 (by kernel_rfl) (Opens.opn_string Try.underlying9) t0_1
  obtain rfl := (List.cons.inj e0_1).1
  obtain ⟨A0_2, c0_2, l0_2, e0_2, hc0_2, m0_2, hr0_2, w0_2⟩ := Opens.slice_C (PAll.k44) (fun z : PAll.S44 => (fun z : Int => (Lit.int .i64 z).wf = true) z.f0 ∧ (fun z : Int => (Lit.int .i64 z).wf = true) z.f1 ∧ (fun z : Int => (Lit.int .i64 z).wf = true) z.f2) Try.underlying23 (by kernel_rfl) (Opens.opn_struct (fun x : PAll.S44 => (x.f0, x.f1, x.f2)) (fun p => ⟨p.1, p.2.1, p.2.2⟩) (fun _ => rfl) Try.underlying44 (by kernel_rfl) (Opens.fcons rfl (by kernel_rfl) (Opens.opn_int Try.underlying3) (Opens.fcons rfl (by kernel_rfl) (Opens.opn_int Try.underlying3) (Opens.fone rfl (by kernel_rfl) (Opens.opn_int Try.underlying3))))) t0_2
  obtain rfl := (List.cons.inj e0_2).1
  have k1 := h1
  have lt1 : ∀ x ∈ p1, x.block < W.heap.size := by obtain ⟨m, hm⟩ := k1; exact DataW.trod_lt m _ _ _ hm
  obtain ⟨v1_0, v1_1, v1_2, y1_0, y1_1, y1_2, n1, rfl, rfl, rfl, t1_0, t1_1, t1_2⟩ := open_agg3 Try.underlying25 (by kernel_rfl) (by kernel_rfl) (hval 1 25 v1 rfl rfl) h1
  obtain ⟨a1_0, e1_0, x1_0, w1_0⟩ := DataW.trod_int Try.underlying3 t1_0
  obtain rfl := (List.cons.inj e1_0).1
  obtain ⟨A1_1, c1_1, l1_1, e1_1, hc1_1, m1_1, hr1_1, w1_1⟩ := Opens.slice_C Kd.string (fun z : ByteArray => z.size ≤ maxLen) Try.underlying22 (by kernel_rfl) (Opens.opn_string Try.underlying9) t1_1
  obtain rfl := (List.cons.inj e1_1).1
  obtain ⟨A1_2, c1_2, l1_2, e1_2, hc1_2, m1_2, hr1_2, w1_2⟩ := Opens.slice_C (PAll.k44) (fun z : PAll.S44 => (fun z : Int => (Lit.int .i64 z).wf = true) z.f0 ∧ (fun z : Int => (Lit.int .i64 z).wf = true) z.f1 ∧ (fun z : Int => (Lit.int .i64 z).wf = true) z.f2) Try.underlying23 (by kernel_rfl) (Opens.opn_struct (fun x : PAll.S44 => (x.f0, x.f1, x.f2)) (fun p => ⟨p.1, p.2.1, p.2.2⟩) (fun _ => rfl) Try.underlying44 (by kernel_rfl) (Opens.fcons rfl (by kernel_rfl) (Opens.opn_int Try.underlying3) (Opens.fcons rfl (by kernel_rfl) (Opens.opn_int Try.underlying3) (Opens.fone rfl (by kernel_rfl) (Opens.opn_int Try.underlying3))))) t1_2
  obtain rfl := (List.cons.inj e1_2).1
  clear hA0 hval0 hsz0 hsz
  obtain ⟨kk, hk⟩ := Plain.SystemImages_pure a0_0 w0_0 l0_1 m0_1 w0_1 l0_2 m0_2 w0_2 a1_0 w1_0 l1_1 m1_1 w1_1 l1_2 m1_2 w1_2
  refine (PAll.petrinetlaw45_SystemImages.calls (k := kk) (a0_0 := a0_0) (A0_1 := A0_1) (c0_1 := c0_1) (l0_1 := l0_1) (A0_2 := A0_2) (c0_2 := c0_2) (l0_2 := l0_2) (a1_0 := a1_0) (A1_1 := A1_1) (c1_1 := c1_1) (l1_1 := l1_1) (A1_2 := A1_2) (c1_2 := c1_2) (l1_2 := l1_2) (r := true) (w := W) (hr0_1 := hr0_1) (hc0_1 := hc0_1) (hr0_2 := hr0_2) (hc0_2 := hc0_2) (hr1_1 := hr1_1) (hc1_1 := hc1_1) (hr1_2 := hr1_2) (hc1_2 := hc1_2) (h := hk)).mono fun e W' ⟨he, bel⟩ => ?_
  subst he
  exact ⟨_, rfl, _, _, _, [], _, [], hW', trodAll_mk1 (shut_bool Try.underlying4 _), (trodAll_cons_mk (Below.trod laidOut (by kernel_rfl) (of_decide_eq_true (by kernel_rfl)) k0 bel lt0) (trodAll_cons_mk (Below.trod laidOut (by kernel_rfl) (of_decide_eq_true (by kernel_rfl)) k1 bel lt1) trodAll_mk0)), rfl, bel.frame _, fun h => by cases h⟩
theorem over : Rows.systemImagesRow.holds Try.pinned (OpenSpec.ofChange Rows.systemImagesSpec) :=
  OpenClaim.holds_of_wide 7 Try.f7 rfl rfl rfl rfl rfl rfl rfl ⟨rfl, rfl, rfl, rfl, rfl⟩ rfl rfl rfl rfl rfl (by kernel_rfl) Try.func7 (by kernel_rfl)
    (of_decide_eq_true (by kernel_rfl)) (by unfold Func.isWrapper; first | (rw [if_pos (by decide +kernel)]; kernel_rfl) | (rw [if_neg (by decide +kernel)]; exact ⟨rfl, rfl⟩))
    (fun os started H enc _ => lifted os started H enc)
theorem proved : Rows.SystemImagesSaid := over
end Go.Proofs.Ytcnliampiibpbaa.systemImages
namespace Go.Proofs.Ytcnliampiibpbaa
theorem systemImages_holds : Rows.SystemImagesSaid := systemImages.proved
end Go.Proofs.Ytcnliampiibpbaa
