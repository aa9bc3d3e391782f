/- Lean functions for Go functions, each with the proof that the call returns what it says; printed by wip/tools/myprint.py. -/
-- squeezed
-- tight
import Derived.Test.YtcnliampiibpbaaTq
import Derived.Test.YtcnliampiibpbaaPAllx0
import Derived.Test.YtcnliampiibpbaaPAllx2
import Derived.Test.YtcnliampiibpbaaPAllx7
import Derived.Test.YtcnliampiibpbaaPAllx9
import Derived.Test.YtcnliampiibpbaaPAllx10
import Derived.Test.YtcnliampiibpbaaPAllx13
import Derived.Test.YtcnliampiibpbaaPAllx16
import Derived.Test.YtcnliampiibpbaaPAllx20
import Derived.Test.YtcnliampiibpbaaPAllx21
namespace Go.Proofs.Ytcnliampiibpbaa.PAll
open Go.RowKit Go.Proofs.YtcnliampiibpbaaW.PrintWords Go.Proofs.YtcnliampiibpbaaW.PrintLast Go.Proofs.YtcnliampiibpbaaW.PrintMore
attribute [local go_sem] Instr.field asAgg max2_int min2_int max_two min_two max_three min_three max_four min_four   -- for this text's walks alone
set_option linter.unusedVariables false
set_option linter.unusedSimpArgs false

/-! ### petrinetlaw45_SystemImages: function 7 -/
mutual
def petrinetlaw45_SystemImages.j0 : Nat → Bool → Int → List ByteArray → List (S44) → Int → List ByteArray → List (S44) → Option (Bool)
 | 0, _, _, _, _, _, _, _ => none
 | k + 1, x26, x481000, x481001, x481002, x482000, x482001, x482002 => if x26 = true then ((petrinetlaw45_alive.f k).bind fun t484 => (some t484)) else ((petrinetref45_Deterministic.f k x481000 x481001 x481002).bind fun t485 => (if t485 = true then ((petrinetref45_Reachable.f k x481000 x481001 x481002).bind fun t486 => (petrinetlaw45_SystemImages.j1 k t486 x481000 x481001 x481002 x482000 x482001 x482002)) else (petrinetlaw45_SystemImages.j1 k false x481000 x481001 x481002 x482000 x482001 x482002)))
def petrinetlaw45_SystemImages.j1 : Nat → Bool → Int → List ByteArray → List (S44) → Int → List ByteArray → List (S44) → Option (Bool)
 | 0, _, _, _, _, _, _, _ => none
 | k + 1, x33, x481000, x481001, x481002, x482000, x482001, x482002 => if x33 = true then ((system_Iso.f k x481000 x481001 x481002 x481000 x481001 x481002).bind fun bt487 => (if bt487.2 = true then (petrinetlaw45_SystemImages.j2 k bt487.1 ((bt487.1.length : Int) != x481000) x481000 x481001 x481002 x482000 x482001 x482002) else (petrinetlaw45_SystemImages.j2 k bt487.1 true x481000 x481001 x481002 x482000 x482001 x482002))) else (petrinetlaw45_SystemImages.j4 k x481000 x481001 x481002 x482000 x482001 x482002)
def petrinetlaw45_SystemImages.j4 : Nat → Int → List ByteArray → List (S44) → Int → List ByteArray → List (S44) → Option (Bool)
 | 0, _, _, _, _, _, _ => none
 | k + 1, x481000, x481001, x481002, x482000, x482001, x482002 => (system_Iso.f k x481000 x481001 x481002 x482000 x482001 x482002).bind fun bt492 => ((system_Iso.f k x482000 x482001 x482002 x481000 x481001 x481002).bind fun bt496 => (if (bt492.2 != bt496.2) = true then (some false) else (if bt492.2 = true then (if (bt492.1.length : Int) = x481000 then (petrinetlaw45_SystemImages.j5 k bt492.1 bt496.1 ((bt496.1.length : Int) != x481000) x481000 x481001 x481002 x482000 x482001 x482002) else (petrinetlaw45_SystemImages.j5 k bt492.1 bt496.1 true x481000 x481001 x481002 x482000 x482001 x482002)) else (if (bt492.1.length : Int) = 0 then (if (bt496.1.length : Int) = 0 then ((petrinetlaw45_alive.f k).bind fun t500 => (some t500)) else (some false)) else (some false)))))
def petrinetlaw45_SystemImages.j5 : Nat → List Int → List Int → Bool → Int → List ByteArray → List (S44) → Int → List ByteArray → List (S44) → Option (Bool)
 | 0, _, _, _, _, _, _, _, _, _ => none
 | k + 1, x8, x10, x100, x481000, x481001, x481002, x482000, x482001, x482002 => if x100 = true then (some false) else (petrinetlaw45_SystemImages.l1 k x8 x10 0 x481000 x481001 x481002 x482000 x482001 x482002)
def petrinetlaw45_SystemImages.l1 : Nat → List Int → List Int → Int → Int → List ByteArray → List (S44) → Int → List ByteArray → List (S44) → Option (Bool)
 | 0, _, _, _, _, _, _, _, _, _ => none
 | k + 1, x8, x10, x12, x481000, x481001, x481002, x482000, x482001, x482002 => if x12 < (x8.length : Int) then (if 0 ≤ x12 then (if (rd x8 x12) < 0 then (some false) else (if (rd x8 x12) ≥ (x10.length : Int) then (some false) else (if 0 ≤ (rd x8 x12) then (if (rd x8 x12) < (x10.length : Int) then (if (rd x10 (rd x8 x12)) = x12 then (petrinetlaw45_SystemImages.l1 k x8 x10 (wrap64 (x12 + 1)) x481000 x481001 x481002 x482000 x482001 x482002) else (some false)) else (none)) else (none)))) else (none)) else (petrinetlaw45_SystemImages.l2 k x8 0 x481000 x481001 x481002 x482000 x482001 x482002)
def petrinetlaw45_SystemImages.l2 : Nat → List Int → Int → Int → List ByteArray → List (S44) → Int → List ByteArray → List (S44) → Option (Bool)
 | 0, _, _, _, _, _, _, _, _ => none
 | k + 1, x8, x13, x481000, x481001, x481002, x482000, x482001, x482002 => if x13 < (x481002.length : Int) then (if 0 ≤ x13 then (petrinetlaw45_SystemImages.l3 k x8 x13 false 0 x481000 x481001 x481002 x482000 x482001 x482002 ((rd_T44 x481002 x13).f0) ((rd_T44 x481002 x13).f1) ((rd_T44 x481002 x13).f2)) else (none)) else (petrinetlaw45_SystemImages.l4 k (decide ((x481001.length : Int) ≤ 4)) 0 x481000 x481001 x481002 x482000 x482001 x482002)
def petrinetlaw45_SystemImages.l3 : Nat → List Int → Int → Bool → Int → Int → List ByteArray → List (S44) → Int → List ByteArray → List (S44) → Int → Int → Int → Option (Bool)
 | 0, _, _, _, _, _, _, _, _, _, _, _, _, _ => none
 | k + 1, x8, x13, x15, x16, x481000, x481001, x481002, x482000, x482001, x482002, x507000, x507001, x507002 => if x16 < (x482001.length : Int) then (if x15 = true then (petrinetlaw45_SystemImages.l3 k x8 x13 true (wrap64 (x16 + 1)) x481000 x481001 x481002 x482000 x482001 x482002 x507000 x507001 x507002) else (if 0 ≤ x16 then (if 0 ≤ x507001 then (if x507001 < (x481001.length : Int) then (if (rdOf ByteArray.empty x482001 x16).toList = (rdOf ByteArray.empty x481001 x507001).toList then (if 0 ≤ x507000 then (if x507000 < (x8.length : Int) then ((system_Next.f k x482000 x482001 x482002 (rd x8 x507000) x16).bind fun t510 => (if 0 ≤ x507002 then (if x507002 < (x8.length : Int) then (petrinetlaw45_SystemImages.l3 k x8 x13 (t510 == (rd x8 x507002)) (wrap64 (x16 + 1)) x481000 x481001 x481002 x482000 x482001 x482002 x507000 x507001 x507002) else (none)) else (none))) else (none)) else (none)) else (petrinetlaw45_SystemImages.l3 k x8 x13 false (wrap64 (x16 + 1)) x481000 x481001 x481002 x482000 x482001 x482002 x507000 x507001 x507002)) else (none)) else (none)) else (none))) else (if x15 = true then (petrinetlaw45_SystemImages.l2 k x8 (wrap64 (x13 + 1)) x481000 x481001 x481002 x482000 x482001 x482002) else (some false))
def petrinetlaw45_SystemImages.j10 : Nat → Bool → Int → List ByteArray → List (S44) → Int → List ByteArray → List (S44) → Option (Bool)
 | 0, _, _, _, _, _, _, _ => none
 | k + 1, x17, x481000, x481001, x481002, x482000, x482001, x482002 => if x17 = true then ((system_Traces.f k x481000 x481001 x481002 4).bind fun t514 => ((system_Traces.f k x482000 x482001 x482002 4).bind fun t517 => ((petrinetref04_Lists.f k t514 t517).bind fun t520 => (if t520 = true then ((petrinetlaw45_alive.f k).bind fun t521 => (some t521)) else (some false))))) else ((petrinetlaw45_alive.f k).bind fun t522 => (some t522))
def petrinetlaw45_SystemImages.l4 : Nat → Bool → Int → Int → List ByteArray → List (S44) → Int → List ByteArray → List (S44) → Option (Bool)
 | 0, _, _, _, _, _, _, _, _ => none
 | k + 1, x17, x18, x481000, x481001, x481002, x482000, x482001, x482002 => if x18 < (x481001.length : Int) then (if x17 = true then (if 0 ≤ x18 then (if x18 < (x482001.length : Int) then (petrinetlaw45_SystemImages.l4 k ((rdOf ByteArray.empty x481001 x18).toList == (rdOf ByteArray.empty x482001 x18).toList) (wrap64 (x18 + 1)) x481000 x481001 x481002 x482000 x482001 x482002) else (none)) else (none)) else (petrinetlaw45_SystemImages.j10 k x17 x481000 x481001 x481002 x482000 x482001 x482002)) else (petrinetlaw45_SystemImages.j10 k x17 x481000 x481001 x481002 x482000 x482001 x482002)
def petrinetlaw45_SystemImages.j2 : Nat → List Int → Bool → Int → List ByteArray → List (S44) → Int → List ByteArray → List (S44) → Option (Bool)
 | 0, _, _, _, _, _, _, _, _ => none
 | k + 1, x5, x48, x481000, x481001, x481002, x482000, x482001, x482002 => if x48 = true then (some false) else (petrinetlaw45_SystemImages.l0 k x5 0 x481000 x481001 x481002 x482000 x482001 x482002)
def petrinetlaw45_SystemImages.l0 : Nat → List Int → Int → Int → List ByteArray → List (S44) → Int → List ByteArray → List (S44) → Option (Bool)
 | 0, _, _, _, _, _, _, _, _ => none
 | k + 1, x5, x7, x481000, x481001, x481002, x482000, x482001, x482002 => if x7 < (x5.length : Int) then (if 0 ≤ x7 then (if (rd x5 x7) = x7 then (petrinetlaw45_SystemImages.l0 k x5 (wrap64 (x7 + 1)) x481000 x481001 x481002 x482000 x482001 x482002) else (some false)) else (none)) else (petrinetlaw45_SystemImages.j4 k x481000 x481001 x481002 x482000 x482001 x482002)
end
def petrinetlaw45_SystemImages.f (k : Nat) (a0_0 : Int) (l0_1 : List ByteArray) (l0_2 : List (S44)) (a1_0 : Int) (l1_1 : List ByteArray) (l1_2 : List (S44)) : Option (Bool) := (petrinetlaw45_few.f k a0_0 l0_1 l0_2).bind fun t482 => (if t482 = true then ((petrinetlaw45_few.f k a1_0 l1_1 l1_2).bind fun t483 => (petrinetlaw45_SystemImages.j0 k (!t483) a0_0 l0_1 l0_2 a1_0 l1_1 l1_2)) else (petrinetlaw45_SystemImages.j0 k true a0_0 l0_1 l0_2 a1_0 l1_1 l1_2))
theorem petrinetlaw45_SystemImages.mono_l : ∀ k, (∀ y0 y1 y2 y3 y4 y5 y6, LeO (petrinetlaw45_SystemImages.j0 k y0 y1 y2 y3 y4 y5 y6) (petrinetlaw45_SystemImages.j0 (k + 1) y0 y1 y2 y3 y4 y5 y6)) ∧ (∀ y0 y1 y2 y3 y4 y5 y6, LeO (petrinetlaw45_SystemImages.j1 k y0 y1 y2 y3 y4 y5 y6) (petrinetlaw45_SystemImages.j1 (k + 1) y0 y1 y2 y3 y4 y5 y6)) ∧ (∀ y0 y1 y2 y3 y4 y5, LeO (petrinetlaw45_SystemImages.j4 k y0 y1 y2 y3 y4 y5) (petrinetlaw45_SystemImages.j4 (k + 1) y0 y1 y2 y3 y4 y5)) ∧ (∀ y0 y1 y2 y3 y4 y5 y6 y7 y8, LeO (petrinetlaw45_SystemImages.j5 k y0 y1 y2 y3 y4 y5 y6 y7 y8) (petrinetlaw45_SystemImages.j5 (k + 1) y0 y1 y2 y3 y4 y5 y6 y7 y8)) ∧ (∀ y0 y1 y2 y3 y4 y5 y6 y7 y8, LeO (petrinetlaw45_SystemImages.l1 k y0 y1 y2 y3 y4 y5 y6 y7 y8) (petrinetlaw45_SystemImages.l1 (k + 1) y0 y1 y2 y3 y4 y5 y6 y7 y8)) ∧ (∀ y0 y1 y2 y3 y4 y5 y6 y7, LeO (petrinetlaw45_SystemImages.l2 k y0 y1 y2 y3 y4 y5 y6 y7) (petrinetlaw45_SystemImages.l2 (k + 1) y0 y1 y2 y3 y4 y5 y6 y7)) ∧ (∀ y0 y1 y2 y3 y4 y5 y6 y7 y8 y9 y10 y11 y12, LeO (petrinetlaw45_SystemImages.l3 k y0 y1 y2 y3 y4 y5 y6 y7 y8 y9 y10 y11 y12) (petrinetlaw45_SystemImages.l3 (k + 1) y0 y1 y2 y3 y4 y5 y6 y7 y8 y9 y10 y11 y12)) ∧ (∀ y0 y1 y2 y3 y4 y5 y6, LeO (petrinetlaw45_SystemImages.j10 k y0 y1 y2 y3 y4 y5 y6) (petrinetlaw45_SystemImages.j10 (k + 1) y0 y1 y2 y3 y4 y5 y6)) ∧ (∀ y0 y1 y2 y3 y4 y5 y6 y7, LeO (petrinetlaw45_SystemImages.l4 k y0 y1 y2 y3 y4 y5 y6 y7) (petrinetlaw45_SystemImages.l4 (k + 1) y0 y1 y2 y3 y4 y5 y6 y7)) ∧ (∀ y0 y1 y2 y3 y4 y5 y6 y7, LeO (petrinetlaw45_SystemImages.j2 k y0 y1 y2 y3 y4 y5 y6 y7) (petrinetlaw45_SystemImages.j2 (k + 1) y0 y1 y2 y3 y4 y5 y6 y7)) ∧ (∀ y0 y1 y2 y3 y4 y5 y6 y7, LeO (petrinetlaw45_SystemImages.l0 k y0 y1 y2 y3 y4 y5 y6 y7) (petrinetlaw45_SystemImages.l0 (k + 1) y0 y1 y2 y3 y4 y5 y6 y7))
 | 0 => ⟨fun _ _ _ _ _ _ _ r h => by simp [petrinetlaw45_SystemImages.j0] at h, fun _ _ _ _ _ _ _ r h => by simp [petrinetlaw45_SystemImages.j1] at h, fun _ _ _ _ _ _ r h => by simp [petrinetlaw45_SystemImages.j4] at h, fun _ _ _ _ _ _ _ _ _ r h => by simp [petrinetlaw45_SystemImages.j5] at h, fun _ _ _ _ _ _ _ _ _ r h => by simp [petrinetlaw45_SystemImages.l1] at h, fun _ _ _ _ _ _ _ _ r h => by simp [petrinetlaw45_SystemImages.l2] at h, fun _ _ _ _ _ _ _ _ _ _ _ _ _ r h => by simp [petrinetlaw45_SystemImages.l3] at h, fun _ _ _ _ _ _ _ r h => by simp [petrinetlaw45_SystemImages.j10] at h, fun _ _ _ _ _ _ _ _ r h => by simp [petrinetlaw45_SystemImages.l4] at h, fun _ _ _ _ _ _ _ _ r h => by simp [petrinetlaw45_SystemImages.j2] at h, fun _ _ _ _ _ _ _ _ r h => by simp [petrinetlaw45_SystemImages.l0] at h⟩
 | k + 1 => by
  obtain ⟨ih0, ih1, ih2, ih3, ih4, ih5, ih6, ih7, ih8, ih9, ih10⟩ := petrinetlaw45_SystemImages.mono_l k
  refine ⟨?_, ?_, ?_, ?_, ?_, ?_, ?_, ?_, ?_, ?_, ?_⟩
  all_goals intros
  all_goals first | unfold petrinetlaw45_SystemImages.j0 | unfold petrinetlaw45_SystemImages.j1 | unfold petrinetlaw45_SystemImages.j4 | unfold petrinetlaw45_SystemImages.j5 | unfold petrinetlaw45_SystemImages.l1 | unfold petrinetlaw45_SystemImages.l2 | unfold petrinetlaw45_SystemImages.l3 | unfold petrinetlaw45_SystemImages.j10 | unfold petrinetlaw45_SystemImages.l4 | unfold petrinetlaw45_SystemImages.j2 | unfold petrinetlaw45_SystemImages.l0
  all_goals repeat' (with_reducible first | exact ih0 _ _ _ _ _ _ _ | exact ih1 _ _ _ _ _ _ _ | exact ih2 _ _ _ _ _ _ | exact ih3 _ _ _ _ _ _ _ _ _ | exact ih4 _ _ _ _ _ _ _ _ _ | exact ih5 _ _ _ _ _ _ _ _ | exact ih6 _ _ _ _ _ _ _ _ _ _ _ _ _ | exact ih7 _ _ _ _ _ _ _ | exact ih8 _ _ _ _ _ _ _ _ | exact ih9 _ _ _ _ _ _ _ _ | exact ih10 _ _ _ _ _ _ _ _ | exact petrinetlaw45_alive.mono _ | exact petrinetlaw45_few.mono _ _ _ _ | exact petrinetref04_Lists.mono _ _ _ | exact petrinetref45_Deterministic.mono _ _ _ _ | exact petrinetref45_Reachable.mono _ _ _ _ | exact system_Iso.mono _ _ _ _ _ _ _ | exact system_Next.mono _ _ _ _ _ _ | exact system_Traces.mono _ _ _ _ _ | exact LeO.refl _ | exact LeO.none _ | refine LeO.ite ?_ ?_ | refine LeO.bind ?_ (fun _ => ?_))
theorem petrinetlaw45_SystemImages.mono : ∀ a0 a1 a2 a3 a4 a5 k, LeO (petrinetlaw45_SystemImages.f k a0 a1 a2 a3 a4 a5) (petrinetlaw45_SystemImages.f (k + 1) a0 a1 a2 a3 a4 a5) := by
 intro a0 a1 a2 a3 a4 a5 k
 obtain ⟨ih0, ih1, ih2, ih3, ih4, ih5, ih6, ih7, ih8, ih9, ih10⟩ := petrinetlaw45_SystemImages.mono_l k
 unfold petrinetlaw45_SystemImages.f
 repeat' (with_reducible first | exact ih0 _ _ _ _ _ _ _ | exact ih1 _ _ _ _ _ _ _ | exact ih2 _ _ _ _ _ _ | exact ih3 _ _ _ _ _ _ _ _ _ | exact ih4 _ _ _ _ _ _ _ _ _ | exact ih5 _ _ _ _ _ _ _ _ | exact ih6 _ _ _ _ _ _ _ _ _ _ _ _ _ | exact ih7 _ _ _ _ _ _ _ | exact ih8 _ _ _ _ _ _ _ _ | exact ih9 _ _ _ _ _ _ _ _ | exact ih10 _ _ _ _ _ _ _ _ | exact petrinetlaw45_alive.mono _ | exact petrinetlaw45_few.mono _ _ _ _ | exact petrinetref04_Lists.mono _ _ _ | exact petrinetref45_Deterministic.mono _ _ _ _ | exact petrinetref45_Reachable.mono _ _ _ _ | exact system_Iso.mono _ _ _ _ _ _ _ | exact system_Next.mono _ _ _ _ _ _ | exact system_Traces.mono _ _ _ _ _ | exact LeO.refl _ | exact LeO.none _ | refine LeO.ite ?_ ?_ | refine LeO.bind ?_ (fun _ => ?_))
def petrinetlaw45_SystemImages.T32 : Bool × List (List Nat × List Nat) := (true, [([], []), ([0], [0]), ([1], [1]), ([2, 1], [1, 2]), ([1], [1]), ([3, 4, 1], [1, 3, 4]), ([5, 1], [1, 5]), ([1], [1]), ([7, 1], [1, 7]), ([1], [1]), ([9, 1], [1, 9]), ([8, 10, 1], [1, 8, 10]), ([11, 1], [1, 11]), ([6, 12, 1], [1, 6, 12]), ([13, 1, 1], [1, 13]), ([14], [14]), ([14], [14]), ([14], [14]), ([17, 14], [14, 17]), ([16, 18, 14], [14, 16, 18]), ([19, 14], [14, 19]), ([14], [14]), ([15, 20, 21, 14, 14], [14, 15, 20, 21]), ([14], [14]), ([14], [14]), ([24, 14], [14, 24]), ([23, 25, 14], [14, 23, 25]), ([26, 14], [14, 26]), ([22, 27, 14], [14, 22, 27]), ([14, 28, 1], [1, 14, 28]), ([1, 29], [1, 29]), ([30, 22, 0, 1, 2, 3, 4, 5, 6, 7, 8, 9, 10, 11, 12, 13, 14, 15, 16, 17, 18, 19, 20, 21, 22, 23, 24, 25, 26, 27, 28, 29, 30], [0, 30])])
def petrinetlaw45_SystemImages.B32 : List Nat := [0, 1, 3, 7, 3, 31, 63, 3, 131, 3, 515, 1923, 3971, 8191, 16383, 32767, 32767, 32767, 163839, 491519, 1015807, 32767, 4194303, 32767, 32767, 16809983, 58753023, 125861887, 268435455, 536870911, 1073741823, 2147483647]
theorem petrinetlaw45_SystemImages.tab32 : rtab .any (opsOf Try.f7 32) = petrinetlaw45_SystemImages.T32 := by kernel_rfl
theorem petrinetlaw45_SystemImages.bits32 : waitsOk petrinetlaw45_SystemImages.T32.2 petrinetlaw45_SystemImages.B32 = true := by kernel_rfl
def petrinetlaw45_SystemImages.T39 : Bool × List (List Nat × List Nat) := (true, [([], []), ([0], [0]), ([], []), ([1, 2], [1, 2]), ([3], [3]), ([], []), ([5], [5]), ([], []), ([6, 7], [6, 7]), ([8], [8]), ([4, 9], [4, 9]), ([10, 0, 1, 2, 3, 4, 5, 6, 7, 8, 9, 10], [10])])
def petrinetlaw45_SystemImages.B39 : List Nat := [0, 1, 0, 7, 15, 0, 32, 0, 224, 480, 1023, 2047]
theorem petrinetlaw45_SystemImages.tab39 : rtab .any (opsOf Try.f7 39) = petrinetlaw45_SystemImages.T39 := by kernel_rfl
theorem petrinetlaw45_SystemImages.bits39 : waitsOk petrinetlaw45_SystemImages.T39.2 petrinetlaw45_SystemImages.B39 = true := by kernel_rfl
def petrinetlaw45_SystemImages.T40 : Bool × List (List Nat × List Nat) := (true, [([], []), ([0], [0]), ([1], [1]), ([2], [2]), ([3, 2, 2], [2, 3]), ([2], [2]), ([5, 4, 2], [2, 5]), ([4, 6, 6, 2], [2, 4, 6]), ([2, 7], [2, 7]), ([8, 7], [8]), ([9, 9], [9]), ([9, 10], [9, 10]), ([11, 10, 0, 1, 2, 3, 4, 5, 6, 7, 8, 9, 10, 11], [11])])
def petrinetlaw45_SystemImages.B40 : List Nat := [0, 1, 3, 7, 15, 7, 63, 127, 255, 511, 1023, 2047, 4095]
theorem petrinetlaw45_SystemImages.tab40 : rtab .any (opsOf Try.f7 40) = petrinetlaw45_SystemImages.T40 := by kernel_rfl
theorem petrinetlaw45_SystemImages.bits40 : waitsOk petrinetlaw45_SystemImages.T40.2 petrinetlaw45_SystemImages.B40 = true := by kernel_rfl
set_option maxHeartbeats 8000000 in
set_option maxRecDepth 100000 in
theorem petrinetlaw45_SystemImages.calls (k : Nat) (a0_0 : Int) (A0_1 : Option Addr) (c0_1 : Nat) (l0_1 : List ByteArray) (A0_2 : Option Addr) (c0_2 : Nat) (l0_2 : List (S44)) (a1_0 : Int) (A1_1 : Option Addr) (c1_1 : Nat) (l1_1 : List ByteArray) (A1_2 : Option Addr) (c1_2 : Nat) (l1_2 : List (S44)) (r : Bool) (w : World) (hr0_1 : Kd.C Kd.string w A0_1 l0_1.length l0_1) (hc0_1 : l0_1.length ≤ c0_1) (hr0_2 : Kd.C k44 w A0_2 l0_2.length l0_2) (hc0_2 : l0_2.length ≤ c0_2) (hr1_1 : Kd.C Kd.string w A1_1 l1_1.length l1_1) (hc1_1 : l1_1.length ≤ c1_1) (hr1_2 : Kd.C k44 w A1_2 l1_2.length l1_2) (hc1_2 : l1_2.length ≤ c1_2) (h : petrinetlaw45_SystemImages.f k a0_0 l0_1 l0_2 a1_0 l1_1 l1_2 = some r) :
  Calls Try.prog 7 #[.agg #[.int .i64 a0_0, .slice A0_1 l0_1.length c0_1, .slice A0_2 l0_2.length c0_2], .agg #[.int .i64 a1_0, .slice A1_1 l1_1.length c1_1, .slice A1_2 l1_2.length c1_2]] w fun e w' => e = .returned (.bool r) ∧ Below w.heap.size w w' := by
 have hv30 := Try.underlying30; have hu25 := Try.underlying25; have hu44 := Try.underlying44; have HR0_1 := Aside0.mk hr0_1; have HC0_1 := Aside0.mk hc0_1; clear hr0_1 hc0_1; have HR0_2 := Aside0.mk hr0_2; have HC0_2 := Aside0.mk hc0_2; clear hr0_2 hc0_2; have HR1_1 := Aside0.mk hr1_1; have HC1_1 := Aside0.mk hc1_1; clear hr1_1 hc1_1; have HR1_2 := Aside0.mk hr1_2; have HC1_2 := Aside0.mk hc1_2; clear hr1_2 hc1_2; have HB := Aside0.mk (Below.refl w.heap.size w); have H : ((petrinetlaw45_few.f k a0_0 l0_1 l0_2).bind fun t482 => (if t482 = true then ((petrinetlaw45_few.f k a1_0 l1_1 l1_2).bind fun t483 => (petrinetlaw45_SystemImages.j0 k (!t483) a0_0 l0_1 l0_2 a1_0 l1_1 l1_2)) else (petrinetlaw45_SystemImages.j0 k true a0_0 l0_1 l0_2 a1_0 l1_1 l1_2))) = some r := h; clear h; have HC3 := Aside0.mk H; clear H
 go_enter Try.func7, Try.ntmps7
 go_upto_region 1 with (first | ((with_reducible refine gate_dst (N := 2) rfl ?_); (try (refine gate_guard (by rfl) ?_; dsimp only)); refine sq_box 2 #[.int .i64 a0_0, .slice A0_1 l0_1.length c0_1, .slice A0_2 l0_2.length c0_2] 25 ?_; intro gb480 hg w4 hbox hb; have BK480 := Aside0.mk hbox; have GW480 := tq_w HB hg; have GE480 := tq_w HB hg; replace HB := tq_s HB hb; clear hb hbox hg) | ((with_reducible refine gate_dst (N := 3) rfl ?_); (try (refine gate_guard (by rfl) ?_; dsimp only)); refine sq_box 3 #[.int .i64 a1_0, .slice A1_1 l1_1.length c1_1, .slice A1_2 l1_2.length c1_2] 25 ?_; intro gb481 hg w5 hbox hb; have BK481 := Aside0.mk hbox; have GW481 := tq_w HB hg; have GE481 := tq_w HB hg; replace HB := tq_s HB hb; have NB480_481 := tq_nl BK480 hg; have NB481_480 := tq_ng BK480 hg; replace BK480 := tq_k BK480 hb; clear hb hbox hg))
 (try simp only [Act.put, List.setIfInBounds_toArray, List.set_cons_zero, List.set_cons_succ])
 go_cut [26] (fun v26 wc => ∃ (kq : Nat) (x26_2 : Bool), v26 = .bool x26_2 ∧ Aside0 (petrinetlaw45_SystemImages.j0 kq x26_2 a0_0 l0_1 l0_2 a1_0 l1_1 l1_2 = some r) ∧ Aside0 (kq ≤ k) ∧ Aside0 (wc.heap[gb480]? = some (.cells #[.int .i64 a0_0, (.slice A0_1 l0_1.length c0_1), (.slice A0_2 l0_2.length c0_2)] 25 (0, 0))) ∧ Aside0 (wc.heap[gb481]? = some (.cells #[.int .i64 a1_0, (.slice A1_1 l1_1.length c1_1), (.slice A1_2 l1_2.length c1_2)] 25 (0, 0))) ∧ Aside0 (Below w.heap.size w wc))
 case first => as_aux_lemma =>
  have H := HC3.out; clear HC3; revert H; refine tq_o fun t482 A6 H => ?_; cases t482
  ·replace H := tq_f H; have H' := Aside0.mk H; clear H; have hnb14 := NB480_481.out; have hnc14 := NB481_480.out; obtain ⟨hcz15_0, hcz15_1, hcz15_2, hfz15_0, hfz15_1, hfz15_2⟩ := tq_3 (w := w5) BK480
   go_wp2_with (first | ((with_reducible refine gate_callee (f := 8) rfl ?_); refine sq_goes (some 20) Try.func8 #[.agg #[.int .i64 a0_0, .slice A0_1 l0_1.length c0_1, .slice A0_2 l0_2.length c0_2]] ?_; (with_reducible refine (petrinetlaw45_few.calls k a0_0 _ _ l0_1 _ _ l0_2 false _ ?s1 ?s2 ?s3 ?s4 A6.out).mono ?_); (case s1 => exact tq_c HR0_1 HB); (case s2 => exact HC0_1.out); (case s3 => exact tq_c HR0_2 HB); (case s4 => exact HC0_2.out); rintro e w16 ⟨rfl, hb⟩; refine ⟨_, rfl, ?_⟩; replace BK480 := tq_k BK480 hb; replace BK481 := tq_k BK481 hb; replace HB := tq_s HB hb; (try clear hb)))
   go_meet
   case rel => exact ⟨_, (true), tq_z, H', ⟨by first | omega | exact Nat.le_refl _⟩, ⟨sq_bk BK480.out⟩, ⟨sq_bk BK481.out⟩, ⟨sq_bs HB.out⟩⟩
  replace H := tq_t H; revert H; refine tq_o fun t483 A8 H => ?_; have H' := Aside0.mk H; clear H; have hnb9 := NB480_481.out; have hnc9 := NB481_480.out; obtain ⟨hcz10_0, hcz10_1, hcz10_2, hfz10_0, hfz10_1, hfz10_2⟩ := tq_3 (w := w5) BK480
  go_wp2_with (first | ((with_reducible refine gate_callee (f := 8) rfl ?_); refine sq_goes (some 20) Try.func8 #[.agg #[.int .i64 a0_0, .slice A0_1 l0_1.length c0_1, .slice A0_2 l0_2.length c0_2]] ?_; (with_reducible refine (petrinetlaw45_few.calls k a0_0 _ _ l0_1 _ _ l0_2 true _ ?s1 ?s2 ?s3 ?s4 A6.out).mono ?_); (case s1 => exact tq_c HR0_1 HB); (case s2 => exact HC0_1.out); (case s3 => exact tq_c HR0_2 HB); (case s4 => exact HC0_2.out); rintro e w11 ⟨rfl, hb⟩; refine ⟨_, rfl, ?_⟩; replace BK480 := tq_k BK480 hb; replace BK481 := tq_k BK481 hb; replace HB := tq_s HB hb; (try clear hb); obtain ⟨hcz12_0, hcz12_1, hcz12_2, hfz12_0, hfz12_1, hfz12_2⟩ := tq_3 (w := w11) BK481) | (go_at_call 8; (with_reducible refine (petrinetlaw45_few.calls k a1_0 _ _ l1_1 _ _ l1_2 t483 _ ?s1 ?s2 ?s3 ?s4 A8.out).mono ?_); (case s1 => exact tq_c HR1_1 HB); (case s2 => exact HC1_1.out); (case s3 => exact tq_c HR1_2 HB); (case s4 => exact HC1_2.out); rintro e w13 ⟨rfl, hb⟩; replace BK480 := tq_k BK480 hb; replace BK481 := tq_k BK481 hb; replace HB := tq_s HB hb; (try clear hb)))
  go_meet
  case rel => exact ⟨_, (!t483), tq_z, H', ⟨by first | omega | exact Nat.le_refl _⟩, ⟨sq_bk BK480.out⟩, ⟨sq_bk BK481.out⟩, ⟨sq_bs HB.out⟩⟩
 case rest => as_aux_lemma =>
  clear HC3; obtain ⟨kq, x26_2, rfl, HA, HJ2, BK480, BK481, HB⟩ := hcut
  cases kq with
  | zero => exact absurd HA.out (by simp [petrinetlaw45_SystemImages.j0])
  | succ kj2 =>
   have H := HA.out; clear HA
   simp only [petrinetlaw45_SystemImages.j0] at H
   cases x26_2; rotate_left
   ·replace H := tq_t H; revert H; refine tq_o fun t484 A18 H => ?_; obtain rfl := Option.some.inj H
    go_wp2_with (first | ((with_reducible refine gate_callee (f := 9) rfl ?_); refine sq_goes (some 27) Try.func9 #[] ?_; (with_reducible refine (petrinetlaw45_alive.calls kj2  t484 _ A18.out).mono ?_); rintro e w19 ⟨rfl, hb⟩; refine ⟨_, rfl, ?_⟩; replace BK480 := tq_k BK480 hb; replace BK481 := tq_k BK481 hb; replace HB := tq_s HB hb; (try clear hb)))
    go_ret
    exact tq_v (sq_bs HB.out)
   replace H := tq_f H; have HC20 := Aside0.mk H; clear H
   go_upto_region 3 with (fail)
   go_cut [33] (fun v33 wc => ∃ (kq : Nat) (x33_19 : Bool), v33 = .bool x33_19 ∧ Aside0 (petrinetlaw45_SystemImages.j1 kq x33_19 a0_0 l0_1 l0_2 a1_0 l1_1 l1_2 = some r) ∧ Aside0 (kq ≤ kj2) ∧ Aside0 (wc.heap[gb480]? = some (.cells #[.int .i64 a0_0, (.slice A0_1 l0_1.length c0_1), (.slice A0_2 l0_2.length c0_2)] 25 (0, 0))) ∧ Aside0 (wc.heap[gb481]? = some (.cells #[.int .i64 a1_0, (.slice A1_1 l1_1.length c1_1), (.slice A1_2 l1_2.length c1_2)] 25 (0, 0))) ∧ Aside0 (Below w.heap.size w wc))
   case first => as_aux_lemma =>
    have H := HC20.out; clear HC20; revert H; refine tq_o fun t485 A21 H => ?_; cases t485
    ·replace H := tq_f H; have H' := Aside0.mk H; clear H; have hnb29 := NB480_481.out; have hnc29 := NB481_480.out; obtain ⟨hcz30_0, hcz30_1, hcz30_2, hfz30_0, hfz30_1, hfz30_2⟩ := tq_3 (w := wc) BK480
     go_wp2_with (first | ((with_reducible refine gate_callee (f := 13) rfl ?_); refine sq_goes (some 29) Try.func13 #[.agg #[.int .i64 a0_0, .slice A0_1 l0_1.length c0_1, .slice A0_2 l0_2.length c0_2]] ?_; (with_reducible refine (petrinetref45_Deterministic.calls kj2 a0_0 _ _ l0_1 _ _ l0_2 false _ ?s1 ?s2 ?s3 ?s4 A21.out).mono ?_); (case s1 => exact tq_c HR0_1 HB); (case s2 => exact HC0_1.out); (case s3 => exact tq_c HR0_2 HB); (case s4 => exact HC0_2.out); rintro e w31 ⟨rfl, hb⟩; refine ⟨_, rfl, ?_⟩; replace BK480 := tq_k BK480 hb; replace BK481 := tq_k BK481 hb; replace HB := tq_s HB hb; (try clear hb)))
     go_meet
     case rel => exact ⟨_, (false), tq_z, H', ⟨by have := HJ2.out; first | omega | exact Nat.le_refl _⟩, ⟨sq_bk BK480.out⟩, ⟨sq_bk BK481.out⟩, ⟨sq_bs HB.out⟩⟩
    replace H := tq_t H; revert H; refine tq_o fun t486 A23 H => ?_; have H' := Aside0.mk H; clear H; have hnb24 := NB480_481.out; have hnc24 := NB481_480.out; obtain ⟨hcz25_0, hcz25_1, hcz25_2, hfz25_0, hfz25_1, hfz25_2⟩ := tq_3 (w := wc) BK480
    go_wp2_with (first | ((with_reducible refine gate_callee (f := 13) rfl ?_); refine sq_goes (some 29) Try.func13 #[.agg #[.int .i64 a0_0, .slice A0_1 l0_1.length c0_1, .slice A0_2 l0_2.length c0_2]] ?_; (with_reducible refine (petrinetref45_Deterministic.calls kj2 a0_0 _ _ l0_1 _ _ l0_2 true _ ?s1 ?s2 ?s3 ?s4 A21.out).mono ?_); (case s1 => exact tq_c HR0_1 HB); (case s2 => exact HC0_1.out); (case s3 => exact tq_c HR0_2 HB); (case s4 => exact HC0_2.out); rintro e w26 ⟨rfl, hb⟩; refine ⟨_, rfl, ?_⟩; replace BK480 := tq_k BK480 hb; replace BK481 := tq_k BK481 hb; replace HB := tq_s HB hb; (try clear hb); obtain ⟨hcz27_0, hcz27_1, hcz27_2, hfz27_0, hfz27_1, hfz27_2⟩ := tq_3 (w := w26) BK480) | (go_at_call 15; (with_reducible refine (petrinetref45_Reachable.calls kj2 a0_0 _ _ l0_1 _ _ l0_2 t486 _ ?s1 ?s2 ?s3 ?s4 A23.out).mono ?_); (case s1 => exact tq_c HR0_1 HB); (case s2 => exact HC0_1.out); (case s3 => exact tq_c HR0_2 HB); (case s4 => exact HC0_2.out); rintro e w28 ⟨rfl, hb⟩; replace BK480 := tq_k BK480 hb; replace BK481 := tq_k BK481 hb; replace HB := tq_s HB hb; (try clear hb)))
    go_meet
    case rel => exact ⟨_, (t486), tq_z, H', ⟨by have := HJ2.out; first | omega | exact Nat.le_refl _⟩, ⟨sq_bk BK480.out⟩, ⟨sq_bk BK481.out⟩, ⟨sq_bs HB.out⟩⟩
   case rest => as_aux_lemma =>
    clear HC20
    try clear c17
    obtain ⟨kq, x33_19, rfl, HA, HJ19, BK480, BK481, HB⟩ := hcut
    cases kq with
    | zero => exact absurd HA.out (by simp [petrinetlaw45_SystemImages.j1])
    | succ kj19 =>
     have H := HA.out; clear HA
     simp only [petrinetlaw45_SystemImages.j1] at H
     have HC32 := Aside0.mk H; clear H
     go_upto_if 33 with (fail)
     go_cut [] (fun wc => ∃ (kq : Nat), Aside0 (petrinetlaw45_SystemImages.j4 kq a0_0 l0_1 l0_2 a1_0 l1_1 l1_2 = some r) ∧ Aside0 (kq ≤ kj19) ∧ Aside0 (wc.heap[gb480]? = some (.cells #[.int .i64 a0_0, (.slice A0_1 l0_1.length c0_1), (.slice A0_2 l0_2.length c0_2)] 25 (0, 0))) ∧ Aside0 (wc.heap[gb481]? = some (.cells #[.int .i64 a1_0, (.slice A1_1 l1_1.length c1_1), (.slice A1_2 l1_2.length c1_2)] 25 (0, 0))) ∧ Aside0 (Below w.heap.size w wc))
     case first => as_aux_lemma =>
      have H := HC32.out; clear HC32; cases x33_19
      ·replace H := tq_f H; have H' := Aside0.mk H; clear H
       go_wp2
       go_meet
       case rel => exact ⟨_, H', ⟨by have := HJ2.out; have := HJ19.out; first | omega | exact Nat.le_refl _⟩, ⟨sq_bk BK480.out⟩, ⟨sq_bk BK481.out⟩, ⟨sq_bs HB.out⟩⟩
      replace H := tq_t H; replace H := Option.bind_eq_some_iff.mp H; obtain ⟨⟨t487, t490⟩, A340, H⟩ := H; replace H : (if t490 = true then (petrinetlaw45_SystemImages.j2 kj19 t487 ((t487.length : Int) != a0_0) a0_0 l0_1 l0_2 a1_0 l1_1 l1_2) else (petrinetlaw45_SystemImages.j2 kj19 t487 true a0_0 l0_1 l0_2 a1_0 l1_1 l1_2)) = some r := H; have A34 := Aside0.mk A340; clear A340; have HC35 := Aside0.mk H; clear H; have hnb36 := NB480_481.out; have hnc36 := NB481_480.out; obtain ⟨hcz37_0, hcz37_1, hcz37_2, hfz37_0, hfz37_1, hfz37_2⟩ := tq_3 (w := wc) BK480
      go_upto_region 5 with (first | ((with_reducible refine gate_callee (f := 18) rfl ?_); refine sq_goes (some 37) Try.func18 #[.agg #[.int .i64 a0_0, .slice A0_1 l0_1.length c0_1, .slice A0_2 l0_2.length c0_2], .agg #[.int .i64 a0_0, .slice A0_1 l0_1.length c0_1, .slice A0_2 l0_2.length c0_2]] ?_; (with_reducible refine (system_Iso.calls kj19 a0_0 _ _ l0_1 _ _ l0_2 a0_0 _ _ l0_1 _ _ l0_2 t487 t490 _ ?s1 ?s2 ?s3 ?s4 ?s5 ?s6 ?s7 ?s8 A34.out).mono ?_); (case s1 => exact tq_c HR0_1 HB); (case s2 => exact HC0_1.out); (case s3 => exact tq_c HR0_2 HB); (case s4 => exact HC0_2.out); (case s5 => exact tq_c HR0_1 HB); (case s6 => exact HC0_1.out); (case s7 => exact tq_c HR0_2 HB); (case s8 => exact HC0_2.out); rintro e w38 ⟨v488, rfl, ho0, hb⟩; refine ⟨_, rfl, ?_⟩; have HO489 := Aside0.mk (Kd.R_lower ho0 (below_size (sq_bs HB.out))); replace BK480 := tq_k BK480 hb; replace BK481 := tq_k BK481 hb; replace HB := tq_s HB hb; (try clear hb); (try clear ho0)))
      (try simp only [Act.put, List.setIfInBounds_toArray, List.set_cons_zero, List.set_cons_succ])
      go_cut [48] (fun v48 wc => ∃ (kq : Nat) (x48_34 : Bool), v48 = .bool x48_34 ∧ Aside0 (petrinetlaw45_SystemImages.j2 kq t487 x48_34 a0_0 l0_1 l0_2 a1_0 l1_1 l1_2 = some r) ∧ Aside0 (kq ≤ kj19) ∧ Aside0 (Kd.R (Kd.int .i64) 3 wc w.heap.size (fun _ => True) v488 t487) ∧ Aside0 (wc.heap[gb480]? = some (.cells #[.int .i64 a0_0, (.slice A0_1 l0_1.length c0_1), (.slice A0_2 l0_2.length c0_2)] 25 (0, 0))) ∧ Aside0 (wc.heap[gb481]? = some (.cells #[.int .i64 a1_0, (.slice A1_1 l1_1.length c1_1), (.slice A1_2 l1_2.length c1_2)] 25 (0, 0))) ∧ Aside0 (Below w.heap.size w wc))
      case first => as_aux_lemma =>
       have H := HC35.out; clear HC35; cases t490
       ·replace H := tq_f H; have H' := Aside0.mk H; clear H
        go_wp2
        go_meet
        case rel => exact ⟨_, (true), tq_z, H', ⟨by have := HJ2.out; have := HJ19.out; first | omega | exact Nat.le_refl _⟩, ⟨sq_kr HO489.out⟩, ⟨sq_bk BK480.out⟩, ⟨sq_bk BK481.out⟩, ⟨sq_bs HB.out⟩⟩
       replace H := tq_t H; have H' := Aside0.mk H; clear H; obtain ⟨Ao40, co40, eo40⟩ := Kd.R_slice HO489.out; subst eo40; have hnb41 := NB480_481.out; have hnc41 := NB481_480.out; obtain ⟨hcz42_0, hcz42_1, hcz42_2, hfz42_0, hfz42_1, hfz42_2⟩ := tq_3 (w := w38) BK480
       go_wp2
       go_meet
       case rel => exact ⟨_, (((t487.length : Int) != a0_0)), tq_z, H', ⟨by have := HJ2.out; have := HJ19.out; first | omega | exact Nat.le_refl _⟩, ⟨sq_kr HO489.out⟩, ⟨sq_bk BK480.out⟩, ⟨sq_bk BK481.out⟩, ⟨sq_bs HB.out⟩⟩
      case rest => as_aux_lemma =>
       clear HC35
       try clear c33
       try clear hcz37_0
       try clear hcz37_1
       try clear hcz37_2
       try clear hfz37_0
       try clear hfz37_1
       try clear hfz37_2
       obtain ⟨kq, x48_34, rfl, HA, HJ34, HO_5, BK480, BK481, HB⟩ := hcut
       cases kq with
       | zero => exact absurd HA.out (by simp [petrinetlaw45_SystemImages.j2])
       | succ kj34 =>
        have H := HA.out; clear HA
        simp only [petrinetlaw45_SystemImages.j2] at H
        cases x48_34; rotate_left
        ·replace H := tq_t H; obtain rfl := Option.some.inj H
         go_wp2
         go_ret
         exact tq_v (sq_bs HB.out)
        replace H := tq_f H; have H' := Aside0.mk H; clear H
        go_wp2
        go_loopg [7] kj34 (fun kq v7 w' => ∃ (x7_4 : Int), v7 = .int .i64 x7_4 ∧ Aside0 (petrinetlaw45_SystemImages.l0 kq t487 x7_4 a0_0 l0_1 l0_2 a1_0 l1_1 l1_2 = some r) ∧ Aside0 (kq ≤ kj34) ∧ Aside0 (Kd.R (Kd.int .i64) 3 w' w.heap.size (fun _ => True) v488 t487) ∧ Aside0 (w'.heap[gb480]? = some (.cells #[.int .i64 a0_0, (.slice A0_1 l0_1.length c0_1), (.slice A0_2 l0_2.length c0_2)] 25 (0, 0))) ∧ Aside0 (w'.heap[gb481]? = some (.cells #[.int .i64 a1_0, (.slice A1_1 l1_1.length c1_1), (.slice A1_2 l1_2.length c1_2)] 25 (0, 0))) ∧ Aside0 (Below w.heap.size w w'))
        case atStart => exact ⟨(0), tq_z, H', ⟨Nat.le_refl _⟩, ⟨sq_kr HO_5.out⟩, ⟨sq_bk BK480.out⟩, ⟨sq_bk BK481.out⟩, ⟨sq_bs HB.out⟩⟩
        case round => as_aux_lemma =>
         clear H'
         try clear c43
         obtain ⟨x7_4, rfl, HA, HK4, HO_5, BK480, BK481, HB⟩ := hrel
         cases gk with
         | zero => exact absurd HA.out (by simp [petrinetlaw45_SystemImages.l0])
         | succ k4 =>
          have H := HA.out; clear HA
          simp only [petrinetlaw45_SystemImages.l0] at H
          revert H; refine tq_dd (fun c44b0 H => ?_) (fun c44b0 H => ?_); rotate_left
          ·have H' := Aside0.mk H; clear H; obtain ⟨Ao49, co49, eo49⟩ := Kd.R_slice HO_5.out; subst eo49
           go_wp2
           go_meet
           case rel => exact ⟨_, H', ⟨by have := HJ2.out; have := HJ19.out; have := HJ34.out; have := HK4.out; first | omega | exact Nat.le_refl _⟩, ⟨sq_bk BK480.out⟩, ⟨sq_bk BK481.out⟩, ⟨sq_bs HB.out⟩⟩
          revert H; refine tq_i1 fun c45b0 H => ?_; have HH_ := Aside0.mk H; clear H; obtain ⟨Ao47, co47, eo47⟩ := Kd.R_slice HO_5.out; subst eo47; have p491 : 0 ≤ (x7_4 : Int) := sq_d; have q491 : x7_4 < (t487.length : Int) := sq_d; have LQ491 := Aside0.mk q491; obtain ⟨ad491, e491, hx491_0⟩ := Kd.at_int (Kd.R_reads' HO_5.out).2.2 x7_4 p491 q491; cases e491; replace p491 := eq_true p491; replace q491 := eq_true q491; have H := HH_.out; clear HH_; revert H; refine tq_rr (fun c46 H => ?_) (fun c46 H => ?_); rotate_left
          ·obtain ⟨c46b0, c46b1⟩ := tq_n c46; obtain rfl := Option.some.inj H
           go_wp2
           go_ret
           exact tq_v (sq_bs HB.out)
          obtain ⟨c46b0, c46b1⟩ := tq_e c46; clear c46; have H' := Aside0.mk H; clear H
          go_wp2
          go_roundg k4
          case measure => have := HJ2.out; have := HJ19.out; have := HJ34.out; have := HK4.out; omega
          case rel => exact ⟨(wrap64 (x7_4 + 1)), tq_z, H', ⟨by have := HJ2.out; have := HJ19.out; have := HJ34.out; have := HK4.out; omega⟩, ⟨sq_kr HO_5.out⟩, ⟨sq_bk BK480.out⟩, ⟨sq_bk BK481.out⟩, ⟨sq_bs HB.out⟩⟩
     case rest => as_aux_lemma =>
      clear HC32; obtain ⟨kq, HA, HJ31, BK480, BK481, HB⟩ := hcut
      cases kq with
      | zero => exact absurd HA.out (by simp [petrinetlaw45_SystemImages.j4])
      | succ kj31 =>
       have H := HA.out; clear HA
       simp only [petrinetlaw45_SystemImages.j4] at H
       replace H := Option.bind_eq_some_iff.mp H; obtain ⟨⟨t492, t495⟩, A500, H⟩ := H; replace H : ((system_Iso.f kj31 a1_0 l1_1 l1_2 a0_0 l0_1 l0_2).bind fun bt496 => (if (t495 != bt496.2) = true then (some false) else (if t495 = true then (if (t492.length : Int) = a0_0 then (petrinetlaw45_SystemImages.j5 kj31 t492 bt496.1 ((bt496.1.length : Int) != a0_0) a0_0 l0_1 l0_2 a1_0 l1_1 l1_2) else (petrinetlaw45_SystemImages.j5 kj31 t492 bt496.1 true a0_0 l0_1 l0_2 a1_0 l1_1 l1_2)) else (if (t492.length : Int) = 0 then (if (bt496.1.length : Int) = 0 then ((petrinetlaw45_alive.f kj31).bind fun t500 => (some t500)) else (some false)) else (some false))))) = some r := H; have A50 := Aside0.mk A500; clear A500; replace H := Option.bind_eq_some_iff.mp H; obtain ⟨⟨t496, t499⟩, A510, H⟩ := H; replace H : (if (t495 != t499) = true then (some false) else (if t495 = true then (if (t492.length : Int) = a0_0 then (petrinetlaw45_SystemImages.j5 kj31 t492 t496 ((t496.length : Int) != a0_0) a0_0 l0_1 l0_2 a1_0 l1_1 l1_2) else (petrinetlaw45_SystemImages.j5 kj31 t492 t496 true a0_0 l0_1 l0_2 a1_0 l1_1 l1_2)) else (if (t492.length : Int) = 0 then (if (t496.length : Int) = 0 then ((petrinetlaw45_alive.f kj31).bind fun t500 => (some t500)) else (some false)) else (some false)))) = some r := H; have A51 := Aside0.mk A510; clear A510; revert H; refine tq_rr (fun c52 H => ?_) (fun c52 H => ?_)
       ·have c52b0 : (t495 != t499) = true := c52
        (try (have c52b1 : decide (t495 = t499) = false := by simpa using c52))
        (try (have c52b2 : (t495 == t499) = false := by simpa using c52))
        (try (have c52b3 : ¬ (t495 = t499) := by simpa using c52))
        clear c52; obtain rfl := Option.some.inj H; have hnb53 := NB480_481.out; have hnc53 := NB481_480.out; obtain ⟨hcz54_0, hcz54_1, hcz54_2, hfz54_0, hfz54_1, hfz54_2⟩ := tq_3 (w := wc) BK480; obtain ⟨hcz55_0, hcz55_1, hcz55_2, hfz55_0, hfz55_1, hfz55_2⟩ := tq_3 (w := wc) BK481
        go_wp2_with (first | ((with_reducible refine gate_callee (f := 18) rfl ?_); refine sq_goes (some 64) Try.func18 #[.agg #[.int .i64 a0_0, .slice A0_1 l0_1.length c0_1, .slice A0_2 l0_2.length c0_2], .agg #[.int .i64 a1_0, .slice A1_1 l1_1.length c1_1, .slice A1_2 l1_2.length c1_2]] ?_; (with_reducible refine (system_Iso.calls kj31 a0_0 _ _ l0_1 _ _ l0_2 a1_0 _ _ l1_1 _ _ l1_2 t492 t495 _ ?s1 ?s2 ?s3 ?s4 ?s5 ?s6 ?s7 ?s8 A50.out).mono ?_); (case s1 => exact tq_c HR0_1 HB); (case s2 => exact HC0_1.out); (case s3 => exact tq_c HR0_2 HB); (case s4 => exact HC0_2.out); (case s5 => exact tq_c HR1_1 HB); (case s6 => exact HC1_1.out); (case s7 => exact tq_c HR1_2 HB); (case s8 => exact HC1_2.out); rintro e w56 ⟨v493, rfl, ho0, hb⟩; refine ⟨_, rfl, ?_⟩; have HO494 := Aside0.mk (Kd.R_lower ho0 (below_size (sq_bs HB.out))); replace BK480 := tq_k BK480 hb; replace BK481 := tq_k BK481 hb; replace HB := tq_s HB hb; (try clear hb); (try clear ho0); obtain ⟨hcz57_0, hcz57_1, hcz57_2, hfz57_0, hfz57_1, hfz57_2⟩ := tq_3 (w := w56) BK481; obtain ⟨hcz58_0, hcz58_1, hcz58_2, hfz58_0, hfz58_1, hfz58_2⟩ := tq_3 (w := w56) BK480) | ((with_reducible refine gate_callee (f := 18) rfl ?_); refine sq_goes (some 70) Try.func18 #[.agg #[.int .i64 a1_0, .slice A1_1 l1_1.length c1_1, .slice A1_2 l1_2.length c1_2], .agg #[.int .i64 a0_0, .slice A0_1 l0_1.length c0_1, .slice A0_2 l0_2.length c0_2]] ?_; (with_reducible refine (system_Iso.calls kj31 a1_0 _ _ l1_1 _ _ l1_2 a0_0 _ _ l0_1 _ _ l0_2 t496 t499 _ ?s1 ?s2 ?s3 ?s4 ?s5 ?s6 ?s7 ?s8 A51.out).mono ?_); (case s1 => exact tq_c HR1_1 HB); (case s2 => exact HC1_1.out); (case s3 => exact tq_c HR1_2 HB); (case s4 => exact HC1_2.out); (case s5 => exact tq_c HR0_1 HB); (case s6 => exact HC0_1.out); (case s7 => exact tq_c HR0_2 HB); (case s8 => exact HC0_2.out); rintro e w59 ⟨v497, rfl, ho0, hb⟩; refine ⟨_, rfl, ?_⟩; have HO498 := Aside0.mk (Kd.R_lower (Kd.R_new' ho0 (Kd.R_lt (sq_kr HO494.out))) (below_size (sq_bs HB.out))); replace HO494 := Aside0.mk (Kd.R_elder' (sq_kr HO494.out) (Kd.R_base ho0) hb); replace BK480 := tq_k BK480 hb; replace BK481 := tq_k BK481 hb; replace HB := tq_s HB hb; (try clear hb); (try clear ho0)))
        go_ret
        exact tq_v (sq_bs HB.out)
       have c52b0 : (t495 != t499) = false := by simpa using c52
       (try (have c52b1 : decide (t495 = t499) = true := by simpa using c52))
       (try (have c52b2 : (t495 == t499) = true := by simpa using c52))
       clear c52; cases t495
       ·replace H := tq_f H; revert H; refine tq_rr (fun c166 H => ?_) (fun c166 H => ?_); rotate_left
        ·obtain ⟨c166b0, c166b1⟩ := tq_n c166; have c166b2 : ¬ (t492 = []) := fun h_ => c166 (by rw [h_]; rfl); obtain rfl := Option.some.inj H; have hnb188 := NB480_481.out; have hnc188 := NB481_480.out; obtain ⟨hcz189_0, hcz189_1, hcz189_2, hfz189_0, hfz189_1, hfz189_2⟩ := tq_3 (w := wc) BK480; obtain ⟨hcz190_0, hcz190_1, hcz190_2, hfz190_0, hfz190_1, hfz190_2⟩ := tq_3 (w := wc) BK481
         go_wp2_with (first | ((with_reducible refine gate_callee (f := 18) rfl ?_); refine sq_goes (some 64) Try.func18 #[.agg #[.int .i64 a0_0, .slice A0_1 l0_1.length c0_1, .slice A0_2 l0_2.length c0_2], .agg #[.int .i64 a1_0, .slice A1_1 l1_1.length c1_1, .slice A1_2 l1_2.length c1_2]] ?_; (with_reducible refine (system_Iso.calls kj31 a0_0 _ _ l0_1 _ _ l0_2 a1_0 _ _ l1_1 _ _ l1_2 t492 false _ ?s1 ?s2 ?s3 ?s4 ?s5 ?s6 ?s7 ?s8 A50.out).mono ?_); (case s1 => exact tq_c HR0_1 HB); (case s2 => exact HC0_1.out); (case s3 => exact tq_c HR0_2 HB); (case s4 => exact HC0_2.out); (case s5 => exact tq_c HR1_1 HB); (case s6 => exact HC1_1.out); (case s7 => exact tq_c HR1_2 HB); (case s8 => exact HC1_2.out); rintro e w191 ⟨v493, rfl, ho0, hb⟩; refine ⟨_, rfl, ?_⟩; have HO494 := Aside0.mk (Kd.R_lower ho0 (below_size (sq_bs HB.out))); replace BK480 := tq_k BK480 hb; replace BK481 := tq_k BK481 hb; replace HB := tq_s HB hb; (try clear hb); (try clear ho0); obtain ⟨hcz192_0, hcz192_1, hcz192_2, hfz192_0, hfz192_1, hfz192_2⟩ := tq_3 (w := w191) BK481; obtain ⟨hcz193_0, hcz193_1, hcz193_2, hfz193_0, hfz193_1, hfz193_2⟩ := tq_3 (w := w191) BK480) | ((with_reducible refine gate_callee (f := 18) rfl ?_); refine sq_goes (some 70) Try.func18 #[.agg #[.int .i64 a1_0, .slice A1_1 l1_1.length c1_1, .slice A1_2 l1_2.length c1_2], .agg #[.int .i64 a0_0, .slice A0_1 l0_1.length c0_1, .slice A0_2 l0_2.length c0_2]] ?_; (with_reducible refine (system_Iso.calls kj31 a1_0 _ _ l1_1 _ _ l1_2 a0_0 _ _ l0_1 _ _ l0_2 t496 t499 _ ?s1 ?s2 ?s3 ?s4 ?s5 ?s6 ?s7 ?s8 A51.out).mono ?_); (case s1 => exact tq_c HR1_1 HB); (case s2 => exact HC1_1.out); (case s3 => exact tq_c HR1_2 HB); (case s4 => exact HC1_2.out); (case s5 => exact tq_c HR0_1 HB); (case s6 => exact HC0_1.out); (case s7 => exact tq_c HR0_2 HB); (case s8 => exact HC0_2.out); rintro e w194 ⟨v497, rfl, ho0, hb⟩; refine ⟨_, rfl, ?_⟩; have HO498 := Aside0.mk (Kd.R_lower (Kd.R_new' ho0 (Kd.R_lt (sq_kr HO494.out))) (below_size (sq_bs HB.out))); replace HO494 := Aside0.mk (Kd.R_elder' (sq_kr HO494.out) (Kd.R_base ho0) hb); replace BK480 := tq_k BK480 hb; replace BK481 := tq_k BK481 hb; replace HB := tq_s HB hb; (try clear hb); (try clear ho0); obtain ⟨Ao195, co195, eo195⟩ := Kd.R_slice HO494.out; subst eo195))
         go_ret
         exact tq_v (sq_bs HB.out)
        obtain ⟨c166b0, c166b1⟩ := tq_e c166; clear c166; revert H; refine tq_rr (fun c167 H => ?_) (fun c167 H => ?_); rotate_left
        ·obtain ⟨c167b0, c167b1⟩ := tq_n c167; have c167b2 : ¬ (t496 = []) := fun h_ => c167 (by rw [h_]; rfl); obtain rfl := Option.some.inj H; have hnb179 := NB480_481.out; have hnc179 := NB481_480.out; obtain ⟨hcz180_0, hcz180_1, hcz180_2, hfz180_0, hfz180_1, hfz180_2⟩ := tq_3 (w := wc) BK480; obtain ⟨hcz181_0, hcz181_1, hcz181_2, hfz181_0, hfz181_1, hfz181_2⟩ := tq_3 (w := wc) BK481
         go_wp2_with (first | ((with_reducible refine gate_callee (f := 18) rfl ?_); refine sq_goes (some 64) Try.func18 #[.agg #[.int .i64 a0_0, .slice A0_1 l0_1.length c0_1, .slice A0_2 l0_2.length c0_2], .agg #[.int .i64 a1_0, .slice A1_1 l1_1.length c1_1, .slice A1_2 l1_2.length c1_2]] ?_; (with_reducible refine (system_Iso.calls kj31 a0_0 _ _ l0_1 _ _ l0_2 a1_0 _ _ l1_1 _ _ l1_2 t492 false _ ?s1 ?s2 ?s3 ?s4 ?s5 ?s6 ?s7 ?s8 A50.out).mono ?_); (case s1 => exact tq_c HR0_1 HB); (case s2 => exact HC0_1.out); (case s3 => exact tq_c HR0_2 HB); (case s4 => exact HC0_2.out); (case s5 => exact tq_c HR1_1 HB); (case s6 => exact HC1_1.out); (case s7 => exact tq_c HR1_2 HB); (case s8 => exact HC1_2.out); rintro e w182 ⟨v493, rfl, ho0, hb⟩; refine ⟨_, rfl, ?_⟩; have HO494 := Aside0.mk (Kd.R_lower ho0 (below_size (sq_bs HB.out))); replace BK480 := tq_k BK480 hb; replace BK481 := tq_k BK481 hb; replace HB := tq_s HB hb; (try clear hb); (try clear ho0); obtain ⟨hcz183_0, hcz183_1, hcz183_2, hfz183_0, hfz183_1, hfz183_2⟩ := tq_3 (w := w182) BK481; obtain ⟨hcz184_0, hcz184_1, hcz184_2, hfz184_0, hfz184_1, hfz184_2⟩ := tq_3 (w := w182) BK480) | ((with_reducible refine gate_callee (f := 18) rfl ?_); refine sq_goes (some 70) Try.func18 #[.agg #[.int .i64 a1_0, .slice A1_1 l1_1.length c1_1, .slice A1_2 l1_2.length c1_2], .agg #[.int .i64 a0_0, .slice A0_1 l0_1.length c0_1, .slice A0_2 l0_2.length c0_2]] ?_; (with_reducible refine (system_Iso.calls kj31 a1_0 _ _ l1_1 _ _ l1_2 a0_0 _ _ l0_1 _ _ l0_2 t496 t499 _ ?s1 ?s2 ?s3 ?s4 ?s5 ?s6 ?s7 ?s8 A51.out).mono ?_); (case s1 => exact tq_c HR1_1 HB); (case s2 => exact HC1_1.out); (case s3 => exact tq_c HR1_2 HB); (case s4 => exact HC1_2.out); (case s5 => exact tq_c HR0_1 HB); (case s6 => exact HC0_1.out); (case s7 => exact tq_c HR0_2 HB); (case s8 => exact HC0_2.out); rintro e w185 ⟨v497, rfl, ho0, hb⟩; refine ⟨_, rfl, ?_⟩; have HO498 := Aside0.mk (Kd.R_lower (Kd.R_new' ho0 (Kd.R_lt (sq_kr HO494.out))) (below_size (sq_bs HB.out))); replace HO494 := Aside0.mk (Kd.R_elder' (sq_kr HO494.out) (Kd.R_base ho0) hb); replace BK480 := tq_k BK480 hb; replace BK481 := tq_k BK481 hb; replace HB := tq_s HB hb; (try clear hb); (try clear ho0); obtain ⟨Ao186, co186, eo186⟩ := Kd.R_slice HO494.out; subst eo186; obtain ⟨Ao187, co187, eo187⟩ := Kd.R_slice HO498.out; subst eo187))
         go_ret
         exact tq_v (sq_bs HB.out)
        obtain ⟨c167b0, c167b1⟩ := tq_e c167; clear c167; revert H; refine tq_o fun t500 A168 H => ?_; obtain rfl := Option.some.inj H; have hnb169 := NB480_481.out; have hnc169 := NB481_480.out; obtain ⟨hcz170_0, hcz170_1, hcz170_2, hfz170_0, hfz170_1, hfz170_2⟩ := tq_3 (w := wc) BK480; obtain ⟨hcz171_0, hcz171_1, hcz171_2, hfz171_0, hfz171_1, hfz171_2⟩ := tq_3 (w := wc) BK481
        go_wp2_with (first | ((with_reducible refine gate_callee (f := 18) rfl ?_); refine sq_goes (some 64) Try.func18 #[.agg #[.int .i64 a0_0, .slice A0_1 l0_1.length c0_1, .slice A0_2 l0_2.length c0_2], .agg #[.int .i64 a1_0, .slice A1_1 l1_1.length c1_1, .slice A1_2 l1_2.length c1_2]] ?_; (with_reducible refine (system_Iso.calls kj31 a0_0 _ _ l0_1 _ _ l0_2 a1_0 _ _ l1_1 _ _ l1_2 t492 false _ ?s1 ?s2 ?s3 ?s4 ?s5 ?s6 ?s7 ?s8 A50.out).mono ?_); (case s1 => exact tq_c HR0_1 HB); (case s2 => exact HC0_1.out); (case s3 => exact tq_c HR0_2 HB); (case s4 => exact HC0_2.out); (case s5 => exact tq_c HR1_1 HB); (case s6 => exact HC1_1.out); (case s7 => exact tq_c HR1_2 HB); (case s8 => exact HC1_2.out); rintro e w172 ⟨v493, rfl, ho0, hb⟩; refine ⟨_, rfl, ?_⟩; have HO494 := Aside0.mk (Kd.R_lower ho0 (below_size (sq_bs HB.out))); replace BK480 := tq_k BK480 hb; replace BK481 := tq_k BK481 hb; replace HB := tq_s HB hb; (try clear hb); (try clear ho0); obtain ⟨hcz173_0, hcz173_1, hcz173_2, hfz173_0, hfz173_1, hfz173_2⟩ := tq_3 (w := w172) BK481; obtain ⟨hcz174_0, hcz174_1, hcz174_2, hfz174_0, hfz174_1, hfz174_2⟩ := tq_3 (w := w172) BK480) | ((with_reducible refine gate_callee (f := 18) rfl ?_); refine sq_goes (some 70) Try.func18 #[.agg #[.int .i64 a1_0, .slice A1_1 l1_1.length c1_1, .slice A1_2 l1_2.length c1_2], .agg #[.int .i64 a0_0, .slice A0_1 l0_1.length c0_1, .slice A0_2 l0_2.length c0_2]] ?_; (with_reducible refine (system_Iso.calls kj31 a1_0 _ _ l1_1 _ _ l1_2 a0_0 _ _ l0_1 _ _ l0_2 t496 t499 _ ?s1 ?s2 ?s3 ?s4 ?s5 ?s6 ?s7 ?s8 A51.out).mono ?_); (case s1 => exact tq_c HR1_1 HB); (case s2 => exact HC1_1.out); (case s3 => exact tq_c HR1_2 HB); (case s4 => exact HC1_2.out); (case s5 => exact tq_c HR0_1 HB); (case s6 => exact HC0_1.out); (case s7 => exact tq_c HR0_2 HB); (case s8 => exact HC0_2.out); rintro e w175 ⟨v497, rfl, ho0, hb⟩; refine ⟨_, rfl, ?_⟩; have HO498 := Aside0.mk (Kd.R_lower (Kd.R_new' ho0 (Kd.R_lt (sq_kr HO494.out))) (below_size (sq_bs HB.out))); replace HO494 := Aside0.mk (Kd.R_elder' (sq_kr HO494.out) (Kd.R_base ho0) hb); replace BK480 := tq_k BK480 hb; replace BK481 := tq_k BK481 hb; replace HB := tq_s HB hb; (try clear hb); (try clear ho0); obtain ⟨Ao176, co176, eo176⟩ := Kd.R_slice HO494.out; subst eo176; obtain ⟨Ao177, co177, eo177⟩ := Kd.R_slice HO498.out; subst eo177) | (go_at_call 9; (with_reducible refine (petrinetlaw45_alive.calls kj31  t500 _ A168.out).mono ?_); rintro e w178 ⟨rfl, hb⟩; replace HO494 := tq_r HO494 hb; replace HO498 := tq_r HO498 hb; replace BK480 := tq_k BK480 hb; replace BK481 := tq_k BK481 hb; replace HB := tq_s HB hb; (try clear hb)))
        go_ret
        exact tq_v (sq_bs HB.out)
       replace H := tq_t H; have HC61 := Aside0.mk H; clear H; have hnb62 := NB480_481.out; have hnc62 := NB481_480.out; obtain ⟨hcz63_0, hcz63_1, hcz63_2, hfz63_0, hfz63_1, hfz63_2⟩ := tq_3 (w := wc) BK480; obtain ⟨hcz64_0, hcz64_1, hcz64_2, hfz64_0, hfz64_1, hfz64_2⟩ := tq_3 (w := wc) BK481
       go_upto_region 18 with (first | ((with_reducible refine gate_callee (f := 18) rfl ?_); refine sq_goes (some 64) Try.func18 #[.agg #[.int .i64 a0_0, .slice A0_1 l0_1.length c0_1, .slice A0_2 l0_2.length c0_2], .agg #[.int .i64 a1_0, .slice A1_1 l1_1.length c1_1, .slice A1_2 l1_2.length c1_2]] ?_; (with_reducible refine (system_Iso.calls kj31 a0_0 _ _ l0_1 _ _ l0_2 a1_0 _ _ l1_1 _ _ l1_2 t492 true _ ?s1 ?s2 ?s3 ?s4 ?s5 ?s6 ?s7 ?s8 A50.out).mono ?_); (case s1 => exact tq_c HR0_1 HB); (case s2 => exact HC0_1.out); (case s3 => exact tq_c HR0_2 HB); (case s4 => exact HC0_2.out); (case s5 => exact tq_c HR1_1 HB); (case s6 => exact HC1_1.out); (case s7 => exact tq_c HR1_2 HB); (case s8 => exact HC1_2.out); rintro e w65 ⟨v493, rfl, ho0, hb⟩; refine ⟨_, rfl, ?_⟩; have HO494 := Aside0.mk (Kd.R_lower ho0 (below_size (sq_bs HB.out))); replace BK480 := tq_k BK480 hb; replace BK481 := tq_k BK481 hb; replace HB := tq_s HB hb; (try clear hb); (try clear ho0); obtain ⟨hcz66_0, hcz66_1, hcz66_2, hfz66_0, hfz66_1, hfz66_2⟩ := tq_3 (w := w65) BK481; obtain ⟨hcz67_0, hcz67_1, hcz67_2, hfz67_0, hfz67_1, hfz67_2⟩ := tq_3 (w := w65) BK480) | ((with_reducible refine gate_callee (f := 18) rfl ?_); refine sq_goes (some 70) Try.func18 #[.agg #[.int .i64 a1_0, .slice A1_1 l1_1.length c1_1, .slice A1_2 l1_2.length c1_2], .agg #[.int .i64 a0_0, .slice A0_1 l0_1.length c0_1, .slice A0_2 l0_2.length c0_2]] ?_; (with_reducible refine (system_Iso.calls kj31 a1_0 _ _ l1_1 _ _ l1_2 a0_0 _ _ l0_1 _ _ l0_2 t496 t499 _ ?s1 ?s2 ?s3 ?s4 ?s5 ?s6 ?s7 ?s8 A51.out).mono ?_); (case s1 => exact tq_c HR1_1 HB); (case s2 => exact HC1_1.out); (case s3 => exact tq_c HR1_2 HB); (case s4 => exact HC1_2.out); (case s5 => exact tq_c HR0_1 HB); (case s6 => exact HC0_1.out); (case s7 => exact tq_c HR0_2 HB); (case s8 => exact HC0_2.out); rintro e w68 ⟨v497, rfl, ho0, hb⟩; refine ⟨_, rfl, ?_⟩; have HO498 := Aside0.mk (Kd.R_lower (Kd.R_new' ho0 (Kd.R_lt (sq_kr HO494.out))) (below_size (sq_bs HB.out))); replace HO494 := Aside0.mk (Kd.R_elder' (sq_kr HO494.out) (Kd.R_base ho0) hb); replace BK480 := tq_k BK480 hb; replace BK481 := tq_k BK481 hb; replace HB := tq_s HB hb; (try clear hb); (try clear ho0)))
       (try simp only [Act.put, List.setIfInBounds_toArray, List.set_cons_zero, List.set_cons_succ])
       go_cut [100] (fun v100 wc => ∃ (kq : Nat) (x100_60 : Bool), v100 = .bool x100_60 ∧ Aside0 (petrinetlaw45_SystemImages.j5 kq t492 t496 x100_60 a0_0 l0_1 l0_2 a1_0 l1_1 l1_2 = some r) ∧ Aside0 (kq ≤ kj31) ∧ Aside0 (Kd.R (Kd.int .i64) 3 wc w.heap.size (fun k_ => some k_ ≠ (v497 : Value).ownBlock) v493 t492) ∧ Aside0 (Kd.R (Kd.int .i64) 3 wc w.heap.size (fun k_ => some k_ ≠ (v493 : Value).ownBlock) v497 t496) ∧ Aside0 (wc.heap[gb480]? = some (.cells #[.int .i64 a0_0, (.slice A0_1 l0_1.length c0_1), (.slice A0_2 l0_2.length c0_2)] 25 (0, 0))) ∧ Aside0 (wc.heap[gb481]? = some (.cells #[.int .i64 a1_0, (.slice A1_1 l1_1.length c1_1), (.slice A1_2 l1_2.length c1_2)] 25 (0, 0))) ∧ Aside0 (Below w.heap.size w wc))
       case first => as_aux_lemma =>
        have H := HC61.out; clear HC61; have HH_ := Aside0.mk H; clear H; obtain ⟨Ao70, co70, eo70⟩ := Kd.R_slice HO494.out; subst eo70; have hnb71 := NB480_481.out; have hnc71 := NB481_480.out; obtain ⟨hcz72_0, hcz72_1, hcz72_2, hfz72_0, hfz72_1, hfz72_2⟩ := tq_3 (w := w68) BK480; have H := HH_.out; clear HH_; revert H; refine tq_rr (fun c69 H => ?_) (fun c69 H => ?_); rotate_left
        ·obtain ⟨c69b0, c69b1⟩ := tq_n c69
         (first | rw [c69b0] | (simp only [i64_w, i32_w]; rw [c69b0]) | skip)
         have H' := Aside0.mk H; clear H
         go_wp2
         go_meet
         case rel => exact ⟨_, (true), tq_z, H', ⟨by have := HJ2.out; have := HJ19.out; have := HJ31.out; first | omega | exact Nat.le_refl _⟩, ⟨tq_m HO494 (fun _ hk => hk.2)⟩, ⟨tq_m HO498 (fun _ hk => hk.2)⟩, ⟨sq_bk BK480.out⟩, ⟨sq_bk BK481.out⟩, ⟨sq_bs HB.out⟩⟩
        obtain ⟨c69b0, c69b1⟩ := tq_e c69; clear c69
        (first | rw [c69b0] | (simp only [i64_w, i32_w]; rw [c69b0]) | skip)
        have H' := Aside0.mk H; clear H; obtain ⟨Ao73, co73, eo73⟩ := Kd.R_slice HO498.out; subst eo73
        go_wp2
        go_meet
        case rel => exact ⟨_, (((t496.length : Int) != a0_0)), tq_z, H', ⟨by have := HJ2.out; have := HJ19.out; have := HJ31.out; first | omega | exact Nat.le_refl _⟩, ⟨tq_m HO494 (fun _ hk => hk.2)⟩, ⟨tq_m HO498 (fun _ hk => hk.2)⟩, ⟨sq_bk BK480.out⟩, ⟨sq_bk BK481.out⟩, ⟨sq_bs HB.out⟩⟩
       case rest => as_aux_lemma =>
        clear HC61
        try clear c52b0
        try clear c52b1
        try clear c52b2
        try clear c60
        try clear hcz63_0
        try clear hcz63_1
        try clear hcz63_2
        try clear hcz64_0
        try clear hcz64_1
        try clear hcz64_2
        try clear hcz66_0
        try clear hcz66_1
        try clear hcz66_2
        try clear hcz67_0
        try clear hcz67_1
        try clear hcz67_2
        try clear hfz63_0
        try clear hfz63_1
        try clear hfz63_2
        try clear hfz64_0
        try clear hfz64_1
        try clear hfz64_2
        try clear hfz66_0
        try clear hfz66_1
        try clear hfz66_2
        try clear hfz67_0
        try clear hfz67_1
        try clear hfz67_2
        obtain ⟨kq, x100_60, rfl, HA, HJ60, HO_8, HO_10, BK480, BK481, HB⟩ := hcut
        cases kq with
        | zero => exact absurd HA.out (by simp [petrinetlaw45_SystemImages.j5])
        | succ kj60 =>
         have H := HA.out; clear HA
         simp only [petrinetlaw45_SystemImages.j5] at H
         cases x100_60; rotate_left
         ·replace H := tq_t H; obtain rfl := Option.some.inj H
          go_wp2
          go_ret
          exact tq_v (sq_bs HB.out)
         replace H := tq_f H; have H' := Aside0.mk H; clear H
         go_wp2
         go_loopg [12] kj60 (fun kq v12 w' => ∃ (x12_5 : Int), v12 = .int .i64 x12_5 ∧ Aside0 (petrinetlaw45_SystemImages.l1 kq t492 t496 x12_5 a0_0 l0_1 l0_2 a1_0 l1_1 l1_2 = some r) ∧ Aside0 (kq ≤ kj60) ∧ Aside0 (Kd.R (Kd.int .i64) 3 w' w.heap.size (fun k_ => some k_ ≠ (v497 : Value).ownBlock) v493 t492) ∧ Aside0 (Kd.R (Kd.int .i64) 3 w' w.heap.size (fun k_ => some k_ ≠ (v493 : Value).ownBlock) v497 t496) ∧ Aside0 (w'.heap[gb480]? = some (.cells #[.int .i64 a0_0, (.slice A0_1 l0_1.length c0_1), (.slice A0_2 l0_2.length c0_2)] 25 (0, 0))) ∧ Aside0 (w'.heap[gb481]? = some (.cells #[.int .i64 a1_0, (.slice A1_1 l1_1.length c1_1), (.slice A1_2 l1_2.length c1_2)] 25 (0, 0))) ∧ Aside0 (Below w.heap.size w w'))
         case atStart => exact ⟨(0), tq_z, H', ⟨Nat.le_refl _⟩, ⟨sq_kr HO_8.out⟩, ⟨sq_kr HO_10.out⟩, ⟨sq_bk BK480.out⟩, ⟨sq_bk BK481.out⟩, ⟨sq_bs HB.out⟩⟩
         case round => as_aux_lemma =>
          clear H'
          try clear c77
          obtain ⟨x12_5, rfl, HA, HK5, HO_8, HO_10, BK480, BK481, HB⟩ := hrel
          cases gk with
          | zero => exact absurd HA.out (by simp [petrinetlaw45_SystemImages.l1])
          | succ k5 =>
           have H := HA.out; clear HA
           simp only [petrinetlaw45_SystemImages.l1] at H
           revert H; refine tq_dd (fun c78b0 H => ?_) (fun c78b0 H => ?_)
           ·revert H; refine tq_i1 fun c79b0 H => ?_; revert H; refine tq_dd (fun c80b0 H => ?_) (fun c80b0 H => ?_)
            ·obtain rfl := Option.some.inj H; obtain ⟨Ao81, co81, eo81⟩ := Kd.R_slice HO_8.out; subst eo81; have p501 : 0 ≤ (x12_5 : Int) := sq_d; have q501 : x12_5 < (t492.length : Int) := sq_d; have LQ501 := Aside0.mk q501; obtain ⟨ad501, e501, hx501_0⟩ := Kd.at_int (Kd.R_reads' HO_8.out).2.2 x12_5 p501 q501; cases e501; replace p501 := eq_true p501; replace q501 := eq_true q501
             go_wp2
             go_ret
             exact tq_v (sq_bs HB.out)
            revert H; refine tq_rr (fun c82 H => ?_) (fun c82 H => ?_)
            ·have c82b0 : decide ((t496.length : Int) ≤ (rd t492 x12_5)) = true := decide_eq_true c82; clear c82; obtain rfl := Option.some.inj H; obtain ⟨Ao83, co83, eo83⟩ := Kd.R_slice HO_8.out; subst eo83; have p501 : 0 ≤ (x12_5 : Int) := sq_d; have q501 : x12_5 < (t492.length : Int) := sq_d; have LQ501 := Aside0.mk q501; obtain ⟨ad501, e501, hx501_0⟩ := Kd.at_int (Kd.R_reads' HO_8.out).2.2 x12_5 p501 q501; cases e501; replace p501 := eq_true p501; replace q501 := eq_true q501; have p502 : 0 ≤ (x12_5 : Int) := sq_d; have q502 : x12_5 < (t492.length : Int) := sq_d; have LQ502 := Aside0.mk q502; obtain ⟨ad502, e502, hx502_0⟩ := Kd.at_int (Kd.R_reads' HO_8.out).2.2 x12_5 p502 q502; obtain rfl : ad501 = ad502 := (by injection e502); replace p502 := eq_true p502; replace q502 := eq_true q502; obtain ⟨Ao84, co84, eo84⟩ := Kd.R_slice HO_10.out; subst eo84
             go_wp2
             go_ret
             exact tq_v (sq_bs HB.out)
            have c82b0 : decide ((t496.length : Int) ≤ (rd t492 x12_5)) = false := decide_eq_false c82; clear c82; revert H; refine tq_i1 fun c85b0 H => ?_; revert H; refine tq_i1 fun c86b0 H => ?_; have HH_ := Aside0.mk H; clear H; obtain ⟨Ao88, co88, eo88⟩ := Kd.R_slice HO_8.out; subst eo88; have p501 : 0 ≤ (x12_5 : Int) := sq_d; have q501 : x12_5 < (t492.length : Int) := sq_d; have LQ501 := Aside0.mk q501; obtain ⟨ad501, e501, hx501_0⟩ := Kd.at_int (Kd.R_reads' HO_8.out).2.2 x12_5 p501 q501; cases e501; replace p501 := eq_true p501; replace q501 := eq_true q501; have p502 : 0 ≤ (x12_5 : Int) := sq_d; have q502 : x12_5 < (t492.length : Int) := sq_d; have LQ502 := Aside0.mk q502; obtain ⟨ad502, e502, hx502_0⟩ := Kd.at_int (Kd.R_reads' HO_8.out).2.2 x12_5 p502 q502; obtain rfl : ad501 = ad502 := (by injection e502); replace p502 := eq_true p502; replace q502 := eq_true q502; obtain ⟨Ao89, co89, eo89⟩ := Kd.R_slice HO_10.out; subst eo89; have p503 : 0 ≤ (x12_5 : Int) := sq_d; have q503 : x12_5 < (t492.length : Int) := sq_d; have LQ503 := Aside0.mk q503; obtain ⟨ad503, e503, hx503_0⟩ := Kd.at_int (Kd.R_reads' HO_8.out).2.2 x12_5 p503 q503; obtain rfl : ad501 = ad503 := (by injection e503); replace p503 := eq_true p503; replace q503 := eq_true q503; have p504 : 0 ≤ ((rd t492 x12_5) : Int) := sq_d; have q504 : (rd t492 x12_5) < (t496.length : Int) := sq_d; obtain ⟨ad504, e504, hx504_0⟩ := Kd.at_int (Kd.R_reads' HO_10.out).2.2 (rd t492 x12_5) p504 q504; cases e504; replace p504 := eq_true p504; replace q504 := eq_true q504; have H := HH_.out; clear HH_; revert H; refine tq_rr (fun c87 H => ?_) (fun c87 H => ?_); rotate_left
            ·obtain ⟨c87b0, c87b1⟩ := tq_n c87; obtain rfl := Option.some.inj H
             go_wp2
             go_ret
             exact tq_v (sq_bs HB.out)
            obtain ⟨c87b0, c87b1⟩ := tq_e c87; clear c87; have H' := Aside0.mk H; clear H
            go_wp2
            go_roundg k5
            case measure => have := HJ2.out; have := HJ19.out; have := HJ31.out; have := HJ60.out; have := HK5.out; omega
            case rel => exact ⟨(wrap64 (x12_5 + 1)), tq_z, H', ⟨by have := HJ2.out; have := HJ19.out; have := HJ31.out; have := HJ60.out; have := HK5.out; omega⟩, ⟨sq_kr HO_8.out⟩, ⟨sq_kr HO_10.out⟩, ⟨sq_bk BK480.out⟩, ⟨sq_bk BK481.out⟩, ⟨sq_bs HB.out⟩⟩
           have H' := Aside0.mk H; clear H; obtain ⟨Ao92, co92, eo92⟩ := Kd.R_slice HO_8.out; subst eo92
           go_wp2
           go_loopg [13] k5 (fun kq v13 w' => ∃ (x13_6 : Int), v13 = .int .i64 x13_6 ∧ Aside0 (petrinetlaw45_SystemImages.l2 kq t492 x13_6 a0_0 l0_1 l0_2 a1_0 l1_1 l1_2 = some r) ∧ Aside0 (kq ≤ k5) ∧ Aside0 (Kd.R (Kd.int .i64) 3 w' w.heap.size (fun _ => True) (.slice Ao92 t492.length co92) t492) ∧ Aside0 (w'.heap[gb480]? = some (.cells #[.int .i64 a0_0, (.slice A0_1 l0_1.length c0_1), (.slice A0_2 l0_2.length c0_2)] 25 (0, 0))) ∧ Aside0 (w'.heap[gb481]? = some (.cells #[.int .i64 a1_0, (.slice A1_1 l1_1.length c1_1), (.slice A1_2 l1_2.length c1_2)] 25 (0, 0))) ∧ Aside0 (Below w.heap.size w w'))
           case atStart => exact ⟨(0), tq_z, H', ⟨Nat.le_refl _⟩, ⟨tq_m HO_8 (fun _ hk => trivial)⟩, ⟨sq_bk BK480.out⟩, ⟨sq_bk BK481.out⟩, ⟨sq_bs HB.out⟩⟩
           case round => as_aux_lemma =>
            clear H'
            try clear c78b0
            obtain ⟨x13_6, rfl, HA, HK6, HO_8, BK480, BK481, HB⟩ := hrel
            cases gk with
            | zero => exact absurd HA.out (by simp [petrinetlaw45_SystemImages.l2])
            | succ k6 =>
             have H := HA.out; clear HA
             simp only [petrinetlaw45_SystemImages.l2] at H
             revert H; refine tq_dd (fun c93b0 H => ?_) (fun c93b0 H => ?_)
             ·revert H; refine tq_i1 fun c94b0 H => ?_; have H' := Aside0.mk H; clear H; have hnb95 := NB480_481.out; have hnc95 := NB481_480.out; obtain ⟨hcz96_0, hcz96_1, hcz96_2, hfz96_0, hfz96_1, hfz96_2⟩ := tq_3 (w := wr) BK480; have p505 : 0 ≤ (x13_6 : Int) := sq_d; have q505 : x13_6 < (l0_2.length : Int) := sq_d; have LQ505 := Aside0.mk q505; obtain ⟨ad505, e505, hx505_0, hx505_1, hx505_2⟩ := at_T44 HR0_2.out x13_6 p505 q505; cases e505; replace hx505_0 := tq_hx HB hx505_0; replace hx505_1 := tq_hx HB hx505_1; replace hx505_2 := tq_hx HB hx505_2; replace p505 := eq_true p505; replace q505 := eq_true q505
              go_wp2_with (first | ((with_reducible refine gate_dst (N := 14) rfl ?_); (try (refine gate_guard (by rfl) ?_; dsimp only)); refine sq_box 14 #[.int .i64 0, .int .i64 0, .int .i64 0] 44 ?_; intro gb506 hg w97 hbox hb; replace HO_8 := tq_r HO_8 hb; have BK506 := Aside0.mk hbox; have GW506 := tq_w HB hg; have GE506 := tq_w HB hg; replace HB := tq_s HB hb; have NB480_506 := tq_nl BK480 hg; have NB506_480 := tq_ng BK480 hg; replace BK480 := tq_k BK480 hb; have NB481_506 := tq_nl BK481 hg; have NB506_481 := tq_ng BK481 hg; replace BK481 := tq_k BK481 hb; clear hb hbox hg; have hnb98 := NB506_480.out; have hnc98 := NB480_506.out; have hnb99 := NB506_481.out; have hnc99 := NB481_506.out; obtain ⟨hcz100_0, hcz100_1, hcz100_2, hfz100_0, hfz100_1, hfz100_2⟩ := tq_3 (w := w97) BK506))
              go_loopg [15, 16] k6 (fun kq v15 v16 w' => ∃ (x15_7 : Bool) (x16_7 : Int), v15 = .bool x15_7 ∧ v16 = .int .i64 x16_7 ∧ Aside0 (petrinetlaw45_SystemImages.l3 kq t492 x13_6 x15_7 x16_7 a0_0 l0_1 l0_2 a1_0 l1_1 l1_2 ((rd_T44 l0_2 x13_6).f0) ((rd_T44 l0_2 x13_6).f1) ((rd_T44 l0_2 x13_6).f2) = some r) ∧ Aside0 (kq ≤ k6) ∧ Aside0 (Kd.R (Kd.int .i64) 3 w' w.heap.size (fun _ => True) (.slice Ao92 t492.length co92) t492) ∧ Aside0 (w'.heap[gb480]? = some (.cells #[.int .i64 a0_0, (.slice A0_1 l0_1.length c0_1), (.slice (some ad505) l0_2.length c0_2)] 25 (0, 0))) ∧ Aside0 (w'.heap[gb481]? = some (.cells #[.int .i64 a1_0, (.slice A1_1 l1_1.length c1_1), (.slice A1_2 l1_2.length c1_2)] 25 (0, 0))) ∧ Aside0 (w'.heap[gb506]? = some (.cells #[.int .i64 ((rd_T44 l0_2 x13_6).f0), .int .i64 ((rd_T44 l0_2 x13_6).f1), .int .i64 ((rd_T44 l0_2 x13_6).f2)] 44 (0, 0))) ∧ Aside0 (Below w.heap.size w w'))
              case atStart => exact ⟨(false), (0), tq_z, tq_z, H', ⟨Nat.le_refl _⟩, ⟨by (with_reducible repeat (first | apply Kd.R_alloc | apply Kd.R_drewN | apply Kd.R_drew)); exact Kd.R_mono (Kd.R_far (p := ⟨gb506, 2, none⟩) (Kd.R_far (p := ⟨gb506, 1, none⟩) (Kd.R_far (p := ⟨gb506, 0, none⟩) (Kd.R_types HO_8.out BK506.out (by decide)) (fun _ hk => hk.2) (.int .i64 ((rd_T44 l0_2 x13_6).f0))) (fun _ hk => hk.2) (.int .i64 ((rd_T44 l0_2 x13_6).f1))) (fun _ hk => hk.2) (.int .i64 ((rd_T44 l0_2 x13_6).f2))) (fun _ hk => trivial)⟩, ⟨by refine tq_b ?_; refine blk_far ?_ NB480_506.out _; refine tq_b ?_; refine blk_far ?_ NB480_506.out _; refine tq_b ?_; refine blk_far ?_ NB480_506.out _; refine tq_b ?_; exact BK480.out⟩, ⟨by refine tq_b ?_; refine blk_far ?_ NB481_506.out _; refine tq_b ?_; refine blk_far ?_ NB481_506.out _; refine tq_b ?_; refine blk_far ?_ NB481_506.out _; refine tq_b ?_; exact BK481.out⟩, ⟨by refine tq_b ?_; refine blk_put (cs := #[.int .i64 ((rd_T44 l0_2 x13_6).f0), .int .i64 ((rd_T44 l0_2 x13_6).f1), .int .i64 0]) ?_ 2 _ rfl; refine tq_b ?_; refine blk_put (cs := #[.int .i64 ((rd_T44 l0_2 x13_6).f0), .int .i64 0, .int .i64 0]) ?_ 1 _ rfl; refine tq_b ?_; refine blk_put (cs := #[.int .i64 0, .int .i64 0, .int .i64 0]) ?_ 0 _ rfl; refine tq_b ?_; exact BK506.out⟩, ⟨sq_bs HB.out⟩⟩
              case round => as_aux_lemma =>
               clear H'
               try clear c93b0
               try clear c94b0
               try clear hcz100_0
               try clear hcz100_1
               try clear hcz100_2
               try clear hcz96_0
               try clear hcz96_1
               try clear hcz96_2
               try clear hfz100_0
               try clear hfz100_1
               try clear hfz100_2
               try clear hfz96_0
               try clear hfz96_1
               try clear hfz96_2
               try clear hx505_0
               try clear hx505_1
               try clear hx505_2
               try clear p505
               try clear q505
               obtain ⟨x15_7, x16_7, rfl, rfl, HA, HK7, HO_8, BK480, BK481, BK506, HB⟩ := hrel
               cases gk with
               | zero => exact absurd HA.out (by simp [petrinetlaw45_SystemImages.l3])
               | succ k7 =>
                have H := HA.out; clear HA
                simp only [petrinetlaw45_SystemImages.l3] at H
                revert H; refine tq_dd (fun c101b0 H => ?_) (fun c101b0 H => ?_); rotate_left
                ·cases x15_7
                 ·replace H := tq_f H; obtain rfl := Option.some.inj H; have hnb129 := NB481_480.out; have hnc129 := NB480_481.out; have hnb130 := NB481_506.out; have hnc130 := NB506_481.out; obtain ⟨hcz131_0, hcz131_1, hcz131_2, hfz131_0, hfz131_1, hfz131_2⟩ := tq_3 (w := wr) BK481
                  go_wp2
                  go_ret
                  exact tq_v (sq_bs HB.out)
                 replace H := tq_t H; have H' := Aside0.mk H; clear H; have hnb126 := NB481_480.out; have hnc126 := NB480_481.out; have hnb127 := NB481_506.out; have hnc127 := NB506_481.out; obtain ⟨hcz128_0, hcz128_1, hcz128_2, hfz128_0, hfz128_1, hfz128_2⟩ := tq_3 (w := wr) BK481
                 go_wp2
                 go_roundg k7
                 case measure => have := HJ2.out; have := HJ19.out; have := HJ31.out; have := HJ60.out; have := HK5.out; have := HK6.out; have := HK7.out; omega
                 case rel => exact ⟨(wrap64 (x13_6 + 1)), tq_z, H', ⟨by have := HJ2.out; have := HJ19.out; have := HJ31.out; have := HJ60.out; have := HK5.out; have := HK6.out; have := HK7.out; omega⟩, ⟨sq_kr HO_8.out⟩, ⟨sq_bk BK480.out⟩, ⟨sq_bk BK481.out⟩, ⟨sq_bs HB.out⟩⟩
                cases x15_7; rotate_left
                ·replace H := tq_t H; have H' := Aside0.mk H; clear H; have hnb103 := NB481_480.out; have hnc103 := NB480_481.out; have hnb104 := NB481_506.out; have hnc104 := NB506_481.out; obtain ⟨hcz105_0, hcz105_1, hcz105_2, hfz105_0, hfz105_1, hfz105_2⟩ := tq_3 (w := wr) BK481
                 try go_wp2
                 replace HO_8 := Aside0.mk (Kd.R_drew HO_8.out); replace BK480 := Aside0.mk (blk_drew BK480.out); replace BK481 := Aside0.mk (blk_drew BK481.out); replace BK506 := Aside0.mk (blk_drew BK506.out); replace HB := Aside0.mk (below_drew1 HB.out); refine start_ (n := 32) (S := fun w' => True) (ds := []) #[false, false, false, false, false, false, false, false, false, false, false, false, false, false, false, false, false, false, false, false, false, false, false, false, false, false, false, false, false, false, false, false] (by kernel_rfl) rfl rfl trivial (fun hHeld => ?_); refine with_tabW petrinetlaw45_SystemImages.tab32 petrinetlaw45_SystemImages.bits32 (fun HT_ HW_ => ?_)
                 generalize wr.drew = w106 at HO_8 BK480 BK481 BK506 HB hHeld ⊢
                 refine sq_p 0 151 (sqm 32 1) HT_.out ?_; refine sq_p 1 152 (sqm 32 3) HT_.out ?_; refine sq_u 2 153 (sqm 32 7) HT_.out ?_; refine sq_u 3 154 (sqm 32 15) HT_.out ?_; refine sq_u 4 155 (sqm 32 31) HT_.out ?_; refine sq_u 5 156 (sqm 32 63) HT_.out ?_; refine sq_u 6 157 (sqm 32 127) HT_.out ?_; refine sq_u 7 158 (sqm 32 255) HT_.out ?_; refine sq_u 8 159 (sqm 32 511) HT_.out ?_; refine sq_u 9 160 (sqm 32 1023) HT_.out ?_; refine sq_u 10 161 (sqm 32 2047) HT_.out ?_; refine sq_u 11 162 (sqm 32 4095) HT_.out ?_; refine sq_u 12 163 (sqm 32 8191) HT_.out ?_; refine sq_u 13 164 (sqm 32 16383) HT_.out ?_; refine sq_u 14 165 (sqm 32 32767) HT_.out ?_; refine sq_u 15 166 (sqm 32 65535) HT_.out ?_; refine sq_u 16 167 (sqm 32 131071) HT_.out ?_; refine sq_u 17 168 (sqm 32 262143) HT_.out ?_; refine sq_u 18 169 (sqm 32 524287) HT_.out ?_; refine sq_u 19 170 (sqm 32 1048575) HT_.out ?_; refine sq_u 20 171 (sqm 32 2097151) HT_.out ?_; refine sq_u 21 172 (sqm 32 4194303) HT_.out ?_; refine sq_u 22 173 (sqm 32 8388607) HT_.out ?_; refine sq_u 23 174 (sqm 32 16777215) HT_.out ?_; refine sq_u 24 175 (sqm 32 33554431) HT_.out ?_; refine sq_u 25 176 (sqm 32 67108863) HT_.out ?_; refine sq_u 26 177 (sqm 32 134217727) HT_.out ?_; refine sq_u 27 178 (sqm 32 268435455) HT_.out ?_; refine sq_u 28 179 (sqm 32 536870911) HT_.out ?_; refine sq_u 29 180 (sqm 32 1073741823) HT_.out ?_; refine sq_p 30 181 (sqm 32 2147483647) HT_.out ?_; refine sq_p 31 15 (sqm 32 4294967295) HT_.out ?_; refine done_ (done_of HT_.out (by kernel_rfl)) ?_
                 try go_wp2
                 go_roundg k7
                 case measure => have := HJ2.out; have := HJ19.out; have := HJ31.out; have := HJ60.out; have := HK5.out; have := HK6.out; have := HK7.out; omega
                 case rel => exact ⟨(true), (wrap64 (x16_7 + 1)), tq_z, tq_z, H', ⟨by have := HJ2.out; have := HJ19.out; have := HJ31.out; have := HJ60.out; have := HK5.out; have := HK6.out; have := HK7.out; omega⟩, ⟨sq_kr HO_8.out⟩, ⟨sq_bk BK480.out⟩, ⟨sq_bk BK481.out⟩, ⟨sq_bk BK506.out⟩, ⟨sq_bs HB.out⟩⟩
                replace H := tq_f H; revert H; refine tq_i1 fun c107b0 H => ?_; revert H; refine tq_i1 fun c108b0 H => ?_; revert H; refine tq_i1 fun c109b0 H => ?_; revert H; refine tq_rr (fun c110 H => ?_) (fun c110 H => ?_); rotate_left
                ·obtain ⟨c110b0, c110b1⟩ := tq_n c110; have H' := Aside0.mk H; clear H; have hnb121 := NB481_480.out; have hnc121 := NB480_481.out; have hnb122 := NB481_506.out; have hnc122 := NB506_481.out; obtain ⟨hcz123_0, hcz123_1, hcz123_2, hfz123_0, hfz123_1, hfz123_2⟩ := tq_3 (w := wr) BK481
                 try go_wp2
                 replace HO_8 := Aside0.mk (Kd.R_drew HO_8.out); replace BK480 := Aside0.mk (blk_drew BK480.out); replace BK481 := Aside0.mk (blk_drew BK481.out); replace BK506 := Aside0.mk (blk_drew BK506.out); replace HB := Aside0.mk (below_drew1 HB.out); have p507 : 0 ≤ (x16_7 : Int) := sq_d; have q507 : x16_7 < (l1_1.length : Int) := sq_d; have LQ507 := Aside0.mk q507; obtain ⟨ad507, e507, hx507_0⟩ := Kd.at_string HR1_1.out x16_7 p507 q507; have hw507_0 := hx507_0; cases e507; replace hx507_0 := tq_hx HB hx507_0; replace p507 := eq_true p507; replace q507 := eq_true q507; have p508 : 0 ≤ (((rd_T44 l0_2 x13_6).f1) : Int) := sq_d; have q508 : ((rd_T44 l0_2 x13_6).f1) < (l0_1.length : Int) := sq_d; obtain ⟨ad508, e508, hx508_0⟩ := Kd.at_string HR0_1.out ((rd_T44 l0_2 x13_6).f1) p508 q508; have hw508_0 := hx508_0; cases e508; replace hx508_0 := tq_hx HB hx508_0; replace p508 := eq_true p508; replace q508 := eq_true q508; refine start_ (n := 32) (S := fun w' => w'.cell? ⟨gb481, 0, none⟩ = some (.int .i64 a1_0) ∧ w'.cell? ⟨gb481, 1, none⟩ = some (.slice (some ad507) l1_1.length c1_1) ∧ w'.cell? ⟨gb481, 2, none⟩ = some (.slice A1_2 l1_2.length c1_2) ∧ w'.cell? ⟨gb480, 0, none⟩ = some (.int .i64 a0_0) ∧ w'.cell? ⟨gb480, 1, none⟩ = some (.slice (some ad508) l0_1.length c0_1) ∧ w'.cell? ⟨gb480, 2, none⟩ = some (.slice (some ad505) l0_2.length c0_2) ∧ w'.cell? ⟨gb506, 0, none⟩ = some (.int .i64 ((rd_T44 l0_2 x13_6).f0)) ∧ w'.cell? ⟨gb506, 1, none⟩ = some (.int .i64 ((rd_T44 l0_2 x13_6).f1)) ∧ w'.cell? ⟨gb506, 2, none⟩ = some (.int .i64 ((rd_T44 l0_2 x13_6).f2)) ∧ w'.cell? (ad507.add (x16_7).toNat) = some (.string (rdOf ByteArray.empty l1_1 x16_7)) ∧ w'.cell? (ad508.add (((rd_T44 l0_2 x13_6).f1)).toNat) = some (.string (rdOf ByteArray.empty l0_1 ((rd_T44 l0_2 x13_6).f1)))) (ds := []) #[false, false, false, false, false, false, false, false, false, false, false, false, false, false, false, false, false, false, false, false, false, false, false, false, false, false, false, false, false, false, false, false] (by kernel_rfl) rfl rfl ⟨tq_q BK481 0, tq_q BK481 1, tq_q BK481 2, tq_q BK480 0, tq_q BK480 1, tq_q BK480 2, tq_q BK506 0, tq_q BK506 1, tq_q BK506 2, ((HB.out.cell (World.block_lt_of_cell? w _ hw507_0)).trans hw507_0), ((HB.out.cell (World.block_lt_of_cell? w _ hw508_0)).trans hw508_0)⟩ (fun hHeld => ?_); refine with_tabW petrinetlaw45_SystemImages.tab32 petrinetlaw45_SystemImages.bits32 (fun HT_ HW_ => ?_)
                 generalize wr.drew = w124 at HO_8 BK480 BK481 BK506 HB hx507_0 hx508_0 hHeld ⊢
                 refine sq_p 0 151 (sqm 32 1) HT_.out ?_; refine sq_p 1 152 (sqm 32 3) HT_.out ?_; refine sq_p 2 153 (sqm 32 7) HT_.out ?_; refine sq_p 4 155 (sqm 32 23) HT_.out ?_; refine sq_p 7 158 (sqm 32 151) HT_.out ?_; refine sq_p 9 160 (sqm 32 663) HT_.out ?_; refine sq_t 3 154 (sqm 32 671) HT_.out HW_.out hHeld ?_; refine sq_p 5 156 (sqm 32 703) HT_.out ?_; refine sq_t 6 157 (sqm 32 767) HT_.out HW_.out hHeld ?_; refine sq_t 8 159 (sqm 32 1023) HT_.out HW_.out hHeld ?_; refine sq_t 10 161 (sqm 32 2047) HT_.out HW_.out hHeld ?_; refine sq_p 11 162 (sqm 32 4095) HT_.out ?_; refine sq_t 12 163 (sqm 32 8191) HT_.out HW_.out hHeld ?_; refine sq_p 13 164 (sqm 32 16383) HT_.out ?_; refine sq_p 14 165 (sqm 32 32767) HT_.out ?_; refine sq_u 15 166 (sqm 32 65535) HT_.out ?_; refine sq_u 16 167 (sqm 32 131071) HT_.out ?_; refine sq_u 17 168 (sqm 32 262143) HT_.out ?_; refine sq_u 18 169 (sqm 32 524287) HT_.out ?_; refine sq_u 19 170 (sqm 32 1048575) HT_.out ?_; refine sq_u 20 171 (sqm 32 2097151) HT_.out ?_; refine sq_u 21 172 (sqm 32 4194303) HT_.out ?_; refine sq_u 22 173 (sqm 32 8388607) HT_.out ?_; refine sq_u 23 174 (sqm 32 16777215) HT_.out ?_; refine sq_u 24 175 (sqm 32 33554431) HT_.out ?_; refine sq_u 25 176 (sqm 32 67108863) HT_.out ?_; refine sq_u 26 177 (sqm 32 134217727) HT_.out ?_; refine sq_u 27 178 (sqm 32 268435455) HT_.out ?_; refine sq_u 28 179 (sqm 32 536870911) HT_.out ?_; refine sq_p 29 180 (sqm 32 1073741823) HT_.out ?_; refine sq_p 30 181 (sqm 32 2147483647) HT_.out ?_; refine sq_p 31 15 (sqm 32 4294967295) HT_.out ?_; refine done_ (done_of HT_.out (by kernel_rfl)) ?_
                 try go_wp2
                 go_roundg k7
                 case measure => have := HJ2.out; have := HJ19.out; have := HJ31.out; have := HJ60.out; have := HK5.out; have := HK6.out; have := HK7.out; omega
                 case rel => exact ⟨(false), (wrap64 (x16_7 + 1)), tq_z, tq_z, H', ⟨by have := HJ2.out; have := HJ19.out; have := HJ31.out; have := HJ60.out; have := HK5.out; have := HK6.out; have := HK7.out; omega⟩, ⟨sq_kr HO_8.out⟩, ⟨sq_bk BK480.out⟩, ⟨sq_bk BK481.out⟩, ⟨sq_bk BK506.out⟩, ⟨sq_bs HB.out⟩⟩
                obtain ⟨c110b0, c110b1⟩ := tq_e c110; clear c110; revert H; refine tq_i1 fun c111b0 H => ?_; revert H; refine tq_i1 fun c112b0 H => ?_; revert H; refine tq_o fun t510 A113 H => ?_; revert H; refine tq_i1 fun c114b0 H => ?_; revert H; refine tq_i1 fun c115b0 H => ?_; have H' := Aside0.mk H; clear H; have hnb116 := NB481_480.out; have hnc116 := NB480_481.out; have hnb117 := NB481_506.out; have hnc117 := NB506_481.out; obtain ⟨hcz118_0, hcz118_1, hcz118_2, hfz118_0, hfz118_1, hfz118_2⟩ := tq_3 (w := wr) BK481
                try go_wp2
                replace HO_8 := Aside0.mk (Kd.R_drew HO_8.out); replace BK480 := Aside0.mk (blk_drew BK480.out); replace BK481 := Aside0.mk (blk_drew BK481.out); replace BK506 := Aside0.mk (blk_drew BK506.out); replace HB := Aside0.mk (below_drew1 HB.out); have p507 : 0 ≤ (x16_7 : Int) := sq_d; have q507 : x16_7 < (l1_1.length : Int) := sq_d; have LQ507 := Aside0.mk q507; obtain ⟨ad507, e507, hx507_0⟩ := Kd.at_string HR1_1.out x16_7 p507 q507; have hw507_0 := hx507_0; cases e507; replace hx507_0 := tq_hx HB hx507_0; replace p507 := eq_true p507; replace q507 := eq_true q507; have p508 : 0 ≤ (((rd_T44 l0_2 x13_6).f1) : Int) := sq_d; have q508 : ((rd_T44 l0_2 x13_6).f1) < (l0_1.length : Int) := sq_d; obtain ⟨ad508, e508, hx508_0⟩ := Kd.at_string HR0_1.out ((rd_T44 l0_2 x13_6).f1) p508 q508; have hw508_0 := hx508_0; cases e508; replace hx508_0 := tq_hx HB hx508_0; replace p508 := eq_true p508; replace q508 := eq_true q508; have p509 : 0 ≤ (((rd_T44 l0_2 x13_6).f0) : Int) := sq_d; have q509 : ((rd_T44 l0_2 x13_6).f0) < (t492.length : Int) := sq_d; obtain ⟨ad509, e509, hx509_0⟩ := Kd.at_int (Kd.R_reads' HO_8.out).2.2 ((rd_T44 l0_2 x13_6).f0) p509 q509; cases e509; replace p509 := eq_true p509; replace q509 := eq_true q509; have p511 : 0 ≤ (((rd_T44 l0_2 x13_6).f2) : Int) := sq_d; have q511 : ((rd_T44 l0_2 x13_6).f2) < (t492.length : Int) := sq_d; obtain ⟨ad511, e511, hx511_0⟩ := Kd.at_int (Kd.R_reads' HO_8.out).2.2 ((rd_T44 l0_2 x13_6).f2) p511 q511; obtain rfl : ad509 = ad511 := (by injection e511); replace p511 := eq_true p511; replace q511 := eq_true q511
                refine start_ (n := 32) (S := fun w' => w'.cell? ⟨gb481, 0, none⟩ = some (.int .i64 a1_0) ∧ w'.cell? ⟨gb481, 1, none⟩ = some (.slice (some ad507) l1_1.length c1_1) ∧ w'.cell? ⟨gb481, 2, none⟩ = some (.slice A1_2 l1_2.length c1_2) ∧ w'.cell? ⟨gb480, 0, none⟩ = some (.int .i64 a0_0) ∧ w'.cell? ⟨gb480, 1, none⟩ = some (.slice (some ad508) l0_1.length c0_1) ∧ w'.cell? ⟨gb480, 2, none⟩ = some (.slice (some ad505) l0_2.length c0_2) ∧ w'.cell? ⟨gb506, 0, none⟩ = some (.int .i64 ((rd_T44 l0_2 x13_6).f0)) ∧ w'.cell? ⟨gb506, 1, none⟩ = some (.int .i64 ((rd_T44 l0_2 x13_6).f1)) ∧ w'.cell? ⟨gb506, 2, none⟩ = some (.int .i64 ((rd_T44 l0_2 x13_6).f2)) ∧ w'.cell? (ad507.add (x16_7).toNat) = some (.string (rdOf ByteArray.empty l1_1 x16_7)) ∧ w'.cell? (ad508.add (((rd_T44 l0_2 x13_6).f1)).toNat) = some (.string (rdOf ByteArray.empty l0_1 ((rd_T44 l0_2 x13_6).f1))) ∧ w'.cell? (ad509.add (((rd_T44 l0_2 x13_6).f0)).toNat) = some (.int .i64 (rd t492 ((rd_T44 l0_2 x13_6).f0))) ∧ w'.cell? (ad509.add (((rd_T44 l0_2 x13_6).f2)).toNat) = some (.int .i64 (rd t492 ((rd_T44 l0_2 x13_6).f2)))) (ds := []) #[false, false, false, false, false, false, false, false, false, false, false, false, false, false, false, false, false, false, false, false, false, false, false, false, false, false, false, false, false, false, false, false] (by kernel_rfl) rfl rfl ⟨tq_q BK481 0, tq_q BK481 1, tq_q BK481 2, tq_q BK480 0, tq_q BK480 1, tq_q BK480 2, tq_q BK506 0, tq_q BK506 1, tq_q BK506 2, ((HB.out.cell (World.block_lt_of_cell? w _ hw507_0)).trans hw507_0), ((HB.out.cell (World.block_lt_of_cell? w _ hw508_0)).trans hw508_0), hx509_0, hx511_0⟩ (fun hHeld => ?_); refine with_tabW petrinetlaw45_SystemImages.tab32 petrinetlaw45_SystemImages.bits32 (fun HT_ HW_ => ?_)
                generalize wr.drew = w119 at HO_8 BK480 BK481 BK506 HB hx507_0 hx508_0 hx509_0 hx511_0 hHeld ⊢
                refine sq_p 0 151 (sqm 32 1) HT_.out ?_; refine sq_p 1 152 (sqm 32 3) HT_.out ?_; refine sq_p 2 153 (sqm 32 7) HT_.out ?_; refine sq_p 4 155 (sqm 32 23) HT_.out ?_; refine sq_p 7 158 (sqm 32 151) HT_.out ?_; refine sq_p 9 160 (sqm 32 663) HT_.out ?_; refine sq_t 3 154 (sqm 32 671) HT_.out HW_.out hHeld ?_; refine sq_p 5 156 (sqm 32 703) HT_.out ?_; refine sq_t 6 157 (sqm 32 767) HT_.out HW_.out hHeld ?_; refine sq_t 8 159 (sqm 32 1023) HT_.out HW_.out hHeld ?_; refine sq_t 10 161 (sqm 32 2047) HT_.out HW_.out hHeld ?_; refine sq_p 11 162 (sqm 32 4095) HT_.out ?_; refine sq_t 12 163 (sqm 32 8191) HT_.out HW_.out hHeld ?_; refine sq_p 13 164 (sqm 32 16383) HT_.out ?_; refine sq_p 14 165 (sqm 32 32767) HT_.out ?_; refine sq_p 16 167 (sqm 32 98303) HT_.out ?_; refine sq_p 17 168 (sqm 32 229375) HT_.out ?_; refine sq_p 21 172 (sqm 32 2326527) HT_.out ?_; refine sq_p 23 174 (sqm 32 10715135) HT_.out ?_; refine sq_p 24 175 (sqm 32 27492351) HT_.out ?_; refine sq_t 15 166 (sqm 32 27525119) HT_.out HW_.out hHeld ?_; refine sq_t 18 169 (sqm 32 27787263) HT_.out HW_.out hHeld ?_; refine sq_p 19 170 (sqm 32 28311551) HT_.out ?_; refine sq_t 20 171 (sqm 32 29360127) HT_.out HW_.out hHeld ?_; refine sq_t 25 176 (sqm 32 62914559) HT_.out HW_.out hHeld ?_; refine sq_p 26 177 (sqm 32 130023423) HT_.out ?_; refine sq_t 27 178 (sqm 32 264241151) HT_.out HW_.out hHeld ?_; refine one_ (i := 22) (N := some 173) (sqm 32 268435455) rfl rfl (one_of HT_.out (by kernel_rfl)) (by decide) (fun K hK => ?_); refine goes_ Try.func16 (by kernel_rfl) rfl #[.agg #[.int .i64 a1_0, .slice (some ad507) l1_1.length c1_1, .slice A1_2 l1_2.length c1_2], .int .i64 (rd t492 ((rd_T44 l0_2 x13_6).f0)), .int .i64 x16_7] (by rfl) rfl rfl (by (try simp only [List.map_toArray, List.map_cons, List.map_nil]); first | done | rfl | (simp only [List.length_drop, List.length_take]; rfl)) ?_
                with_reducible refine (system_Next.calls k7 a1_0 _ _ l1_1 _ _ l1_2 (rd t492 ((rd_T44 l0_2 x13_6).f0)) x16_7 t510 _ ?s1 ?s2 ?s3 ?s4 A113.out).mono ?_
                (case s1 => exact tq_c HR1_1 HB)
                (case s2 => exact HC1_1.out)
                (case s3 => exact tq_c HR1_2 HB)
                (case s4 => exact HC1_2.out)
                rintro e w120 ⟨rfl, hb⟩
                have HS11_ := (hb.cell (World.block_lt_of_cell? _ _ (hHeld.2.2.2.2.2.2.2.2.2.2.2.1))).trans (hHeld.2.2.2.2.2.2.2.2.2.2.2.1); have HS12_ := (hb.cell (World.block_lt_of_cell? _ _ (hHeld.2.2.2.2.2.2.2.2.2.2.2.2))).trans (hHeld.2.2.2.2.2.2.2.2.2.2.2.2); refine ⟨_, rfl, ?_⟩; replace HO_8 := tq_r HO_8 hb; replace BK480 := tq_k BK480 hb; replace BK481 := tq_k BK481 hb; replace BK506 := tq_k BK506 hb; replace HB := tq_s HB hb
                (try clear hb)
                (try clear hb2)
                (try clear hk)
                (try clear hi)
                refine hK.out _ _ ⟨tq_q BK481 0, tq_q BK481 1, tq_q BK481 2, tq_q BK480 0, tq_q BK480 1, tq_q BK480 2, tq_q BK506 0, tq_q BK506 1, tq_q BK506 2, ((HB.out.cell (World.block_lt_of_cell? w _ hw507_0)).trans hw507_0), ((HB.out.cell (World.block_lt_of_cell? w _ hw508_0)).trans hw508_0), HS11_, HS12_⟩ (fun hHeld => ?_); clear hK K; refine norm_ (a' := ?_) ?_ ?_; rotate_left
                ·show Act.put _ (some 173) _ = _
                 simp only [Act.put, List.setIfInBounds_toArray, List.set_cons_zero, List.set_cons_succ, i64_w, i32_w]
                 rfl
                refine sq_p 28 179 (sqm 32 536870911) HT_.out ?_; refine sq_p 29 180 (sqm 32 1073741823) HT_.out ?_; refine sq_p 30 181 (sqm 32 2147483647) HT_.out ?_; refine sq_p 31 15 (sqm 32 4294967295) HT_.out ?_; refine done_ (done_of HT_.out (by kernel_rfl)) ?_
                try go_wp2
                go_roundg k7
                case measure => have := HJ2.out; have := HJ19.out; have := HJ31.out; have := HJ60.out; have := HK5.out; have := HK6.out; have := HK7.out; omega
                case rel => exact ⟨((t510 == (rd t492 ((rd_T44 l0_2 x13_6).f2)))), (wrap64 (x16_7 + 1)), tq_z, tq_z, H', ⟨by have := HJ2.out; have := HJ19.out; have := HJ31.out; have := HJ60.out; have := HK5.out; have := HK6.out; have := HK7.out; omega⟩, ⟨sq_kr HO_8.out⟩, ⟨sq_bk BK480.out⟩, ⟨sq_bk BK481.out⟩, ⟨sq_bk BK506.out⟩, ⟨sq_bs HB.out⟩⟩
             have HC132 := Aside0.mk H; clear H; have hnb133 := NB480_481.out; have hnc133 := NB481_480.out; obtain ⟨hcz134_0, hcz134_1, hcz134_2, hfz134_0, hfz134_1, hfz134_2⟩ := tq_3 (w := wr) BK480
             go_upto_block 8 with (fail)
             go_cut [17] (fun v17 wc => ∃ (kq : Nat) (x17_131 : Bool), v17 = .bool x17_131 ∧ Aside0 (petrinetlaw45_SystemImages.j10 kq x17_131 a0_0 l0_1 l0_2 a1_0 l1_1 l1_2 = some r) ∧ Aside0 (kq ≤ k6) ∧ Aside0 (wc.heap[gb480]? = some (.cells #[.int .i64 a0_0, (.slice A0_1 l0_1.length c0_1), (.slice A0_2 l0_2.length c0_2)] 25 (0, 0))) ∧ Aside0 (wc.heap[gb481]? = some (.cells #[.int .i64 a1_0, (.slice A1_1 l1_1.length c1_1), (.slice A1_2 l1_2.length c1_2)] 25 (0, 0))) ∧ Aside0 (Below w.heap.size w wc))
             case first => as_aux_lemma =>
              have H := HC132.out; clear HC132; have H' := Aside0.mk H; clear H
              go_wp2
              go_loopg [17, 18] k6 (fun kq v17 v18 w' => ∃ (x17_7 : Bool) (x18_7 : Int), v17 = .bool x17_7 ∧ v18 = .int .i64 x18_7 ∧ Aside0 (petrinetlaw45_SystemImages.l4 kq x17_7 x18_7 a0_0 l0_1 l0_2 a1_0 l1_1 l1_2 = some r) ∧ Aside0 (kq ≤ k6) ∧ Aside0 (w'.heap[gb480]? = some (.cells #[.int .i64 a0_0, (.slice A0_1 l0_1.length c0_1), (.slice A0_2 l0_2.length c0_2)] 25 (0, 0))) ∧ Aside0 (w'.heap[gb481]? = some (.cells #[.int .i64 a1_0, (.slice A1_1 l1_1.length c1_1), (.slice A1_2 l1_2.length c1_2)] 25 (0, 0))) ∧ Aside0 (Below w.heap.size w w'))
              case atStart => exact ⟨(decide ((l0_1.length : Int) ≤ 4)), (0), tq_z, tq_z, H', ⟨Nat.le_refl _⟩, ⟨sq_bk BK480.out⟩, ⟨sq_bk BK481.out⟩, ⟨sq_bs HB.out⟩⟩
              case round => as_aux_lemma =>
               clear H'
               try clear c93b0
               try clear hcz134_0
               try clear hcz134_1
               try clear hcz134_2
               try clear hfz134_0
               try clear hfz134_1
               try clear hfz134_2
               obtain ⟨x17_7, x18_7, rfl, rfl, HA, HK7, BK480, BK481, HB⟩ := hrel
               cases gk with
               | zero => exact absurd HA.out (by simp [petrinetlaw45_SystemImages.l4])
               | succ k7 =>
                have H := HA.out; clear HA
                simp only [petrinetlaw45_SystemImages.l4] at H
                revert H; refine tq_dd (fun c135b0 H => ?_) (fun c135b0 H => ?_); rotate_left
                ·(first | rw [c135b0] | (simp only [i64_w, i32_w]; rw [c135b0]) | skip)
                 have H' := Aside0.mk H; clear H; have hnb144 := NB480_481.out; have hnc144 := NB481_480.out; obtain ⟨hcz145_0, hcz145_1, hcz145_2, hfz145_0, hfz145_1, hfz145_2⟩ := tq_3 (w := wr) BK480
                 go_wp2
                 go_meet
                 case rel => exact ⟨_, (x17_7), tq_z, H', ⟨by have := HJ2.out; have := HJ19.out; have := HJ31.out; have := HJ60.out; have := HK5.out; have := HK6.out; have := HK7.out; first | omega | exact Nat.le_refl _⟩, ⟨sq_bk BK480.out⟩, ⟨sq_bk BK481.out⟩, ⟨sq_bs HB.out⟩⟩
                (first | rw [c135b0] | (simp only [i64_w, i32_w]; rw [c135b0]) | skip)
                cases x17_7
                ·replace H := tq_f H; have H' := Aside0.mk H; clear H; have hnb142 := NB480_481.out; have hnc142 := NB481_480.out; obtain ⟨hcz143_0, hcz143_1, hcz143_2, hfz143_0, hfz143_1, hfz143_2⟩ := tq_3 (w := wr) BK480
                 go_wp2
                 go_meet
                 case rel => exact ⟨_, (false), tq_z, H', ⟨by have := HJ2.out; have := HJ19.out; have := HJ31.out; have := HJ60.out; have := HK5.out; have := HK6.out; have := HK7.out; first | omega | exact Nat.le_refl _⟩, ⟨sq_bk BK480.out⟩, ⟨sq_bk BK481.out⟩, ⟨sq_bs HB.out⟩⟩
                replace H := tq_t H; revert H; refine tq_i1 fun c137b0 H => ?_; revert H; refine tq_i1 fun c138b0 H => ?_; have H' := Aside0.mk H; clear H; have hnb139 := NB480_481.out; have hnc139 := NB481_480.out; obtain ⟨hcz140_0, hcz140_1, hcz140_2, hfz140_0, hfz140_1, hfz140_2⟩ := tq_3 (w := wr) BK480
                try go_wp2
                replace BK480 := Aside0.mk (blk_drew BK480.out); replace BK481 := Aside0.mk (blk_drew BK481.out); replace HB := Aside0.mk (below_drew1 HB.out); have p512 : 0 ≤ (x18_7 : Int) := sq_d; have q512 : x18_7 < (l0_1.length : Int) := sq_d; have LQ512 := Aside0.mk q512; obtain ⟨ad512, e512, hx512_0⟩ := Kd.at_string HR0_1.out x18_7 p512 q512; have hw512_0 := hx512_0; cases e512; replace hx512_0 := tq_hx HB hx512_0; replace p512 := eq_true p512; replace q512 := eq_true q512; have p513 : 0 ≤ (x18_7 : Int) := sq_d; have q513 : x18_7 < (l1_1.length : Int) := sq_d; have LQ513 := Aside0.mk q513; obtain ⟨ad513, e513, hx513_0⟩ := Kd.at_string HR1_1.out x18_7 p513 q513; have hw513_0 := hx513_0; cases e513; replace hx513_0 := tq_hx HB hx513_0; replace p513 := eq_true p513; replace q513 := eq_true q513; refine start_ (n := 12) (S := fun w' => w'.cell? ⟨gb480, 0, none⟩ = some (.int .i64 a0_0) ∧ w'.cell? ⟨gb480, 1, none⟩ = some (.slice (some ad512) l0_1.length c0_1) ∧ w'.cell? ⟨gb480, 2, none⟩ = some (.slice A0_2 l0_2.length c0_2) ∧ w'.cell? ⟨gb481, 0, none⟩ = some (.int .i64 a1_0) ∧ w'.cell? ⟨gb481, 1, none⟩ = some (.slice (some ad513) l1_1.length c1_1) ∧ w'.cell? ⟨gb481, 2, none⟩ = some (.slice A1_2 l1_2.length c1_2) ∧ w'.cell? (ad512.add (x18_7).toNat) = some (.string (rdOf ByteArray.empty l0_1 x18_7)) ∧ w'.cell? (ad513.add (x18_7).toNat) = some (.string (rdOf ByteArray.empty l1_1 x18_7))) (ds := []) #[false, false, false, false, false, false, false, false, false, false, false, false] (by kernel_rfl) rfl rfl ⟨tq_q BK480 0, tq_q BK480 1, tq_q BK480 2, tq_q BK481 0, tq_q BK481 1, tq_q BK481 2, ((HB.out.cell (World.block_lt_of_cell? w _ hw512_0)).trans hw512_0), ((HB.out.cell (World.block_lt_of_cell? w _ hw513_0)).trans hw513_0)⟩ (fun hHeld => ?_); refine with_tabW petrinetlaw45_SystemImages.tab39 petrinetlaw45_SystemImages.bits39 (fun HT_ HW_ => ?_)
                generalize wr.drew = w141 at BK480 BK481 HB hx512_0 hx513_0 hHeld ⊢
                refine sq_p 0 198 (sqm 12 1) HT_.out ?_; refine sq_p 2 200 (sqm 12 5) HT_.out ?_; refine sq_p 5 203 (sqm 12 37) HT_.out ?_; refine sq_p 7 205 (sqm 12 165) HT_.out ?_; refine sq_t 1 199 (sqm 12 167) HT_.out HW_.out hHeld ?_; refine sq_p 3 201 (sqm 12 175) HT_.out ?_; refine sq_t 4 202 (sqm 12 191) HT_.out HW_.out hHeld ?_; refine sq_t 6 204 (sqm 12 255) HT_.out HW_.out hHeld ?_; refine sq_p 8 206 (sqm 12 511) HT_.out ?_; refine sq_t 9 207 (sqm 12 1023) HT_.out HW_.out hHeld ?_; refine sq_p 10 208 (sqm 12 2047) HT_.out ?_; refine sq_p 11 17 (sqm 12 4095) HT_.out ?_; refine done_ (done_of HT_.out (by kernel_rfl)) ?_
                try go_wp2
                go_roundg k7
                case measure => have := HJ2.out; have := HJ19.out; have := HJ31.out; have := HJ60.out; have := HK5.out; have := HK6.out; have := HK7.out; omega
                case rel => exact ⟨(((rdOf ByteArray.empty l0_1 x18_7).toList == (rdOf ByteArray.empty l1_1 x18_7).toList)), (wrap64 (x18_7 + 1)), tq_z, tq_z, H', ⟨by have := HJ2.out; have := HJ19.out; have := HJ31.out; have := HJ60.out; have := HK5.out; have := HK6.out; have := HK7.out; omega⟩, ⟨sq_bk BK480.out⟩, ⟨sq_bk BK481.out⟩, ⟨sq_bs HB.out⟩⟩
             case rest => as_aux_lemma =>
              clear HC132
              try clear c93b0
              try clear hcz134_0
              try clear hcz134_1
              try clear hcz134_2
              try clear hfz134_0
              try clear hfz134_1
              try clear hfz134_2
              obtain ⟨kq, x17_131, rfl, HA, HJ131, BK480, BK481, HB⟩ := hcut
              cases kq with
              | zero => exact absurd HA.out (by simp [petrinetlaw45_SystemImages.j10])
              | succ kj131 =>
               have H := HA.out; clear HA
               simp only [petrinetlaw45_SystemImages.j10] at H
               cases x17_131
               ·replace H := tq_f H; revert H; refine tq_o fun t522 A163 H => ?_; obtain rfl := Option.some.inj H
                try go_wp2
                replace BK480 := Aside0.mk (blk_drew BK480.out); replace BK481 := Aside0.mk (blk_drew BK481.out); replace HB := Aside0.mk (below_drew1 HB.out); refine start_ (n := 13) (S := fun w' => True) (ds := []) #[false, false, false, false, false, false, false, false, false, false, false, false, false] (by kernel_rfl) rfl rfl trivial (fun hHeld => ?_); refine with_tabW petrinetlaw45_SystemImages.tab40 petrinetlaw45_SystemImages.bits40 (fun HT_ HW_ => ?_)
                generalize wc.drew = w164 at BK480 BK481 HB hHeld ⊢
                refine sq_p 0 209 (sqm 13 1) HT_.out ?_; refine sq_p 1 210 (sqm 13 3) HT_.out ?_; refine sq_p 2 211 (sqm 13 7) HT_.out ?_; refine sq_u 3 212 (sqm 13 15) HT_.out ?_; refine sq_u 4 213 (sqm 13 31) HT_.out ?_; refine sq_u 5 214 (sqm 13 63) HT_.out ?_; refine sq_u 6 215 (sqm 13 127) HT_.out ?_; refine sq_u 7 216 (sqm 13 255) HT_.out ?_; refine sq_p 8 217 (sqm 13 511) HT_.out ?_; refine sq_p 9 218 (sqm 13 1023) HT_.out ?_; refine one_ (i := 10) (N := some 219) (sqm 13 2047) rfl rfl (one_of HT_.out (by kernel_rfl)) (by decide) (fun K hK => ?_); refine goes_ Try.func9 (by kernel_rfl) rfl #[] (by rfl) rfl rfl (by (try simp only [List.map_toArray, List.map_cons, List.map_nil]); first | done | rfl | (simp only [List.length_drop, List.length_take]; rfl)) ?_
                with_reducible refine (petrinetlaw45_alive.calls kj131  t522 _ A163.out).mono ?_
                rintro e w165 ⟨rfl, hb⟩
                refine ⟨_, rfl, ?_⟩; replace BK480 := tq_k BK480 hb; replace BK481 := tq_k BK481 hb; replace HB := tq_s HB hb
                (try clear hb)
                (try clear hb2)
                (try clear hk)
                (try clear hi)
                refine hK.out _ _ trivial (fun hHeld => ?_); clear hK K; refine norm_ (a' := ?_) ?_ ?_; rotate_left
                ·show Act.put _ (some 219) _ = _
                 simp only [Act.put, List.setIfInBounds_toArray, List.set_cons_zero, List.set_cons_succ, i64_w, i32_w]
                 rfl
                refine sq_p 11 220 (sqm 13 4095) HT_.out ?_; refine sq_p 12 4 (sqm 13 8191) HT_.out ?_; refine done_ (done_of HT_.out (by kernel_rfl)) ?_
                try go_wp2
                go_ret
                exact tq_v (sq_bs HB.out)
               replace H := tq_t H; revert H; refine tq_o fun t514 A147 H => ?_; revert H; refine tq_o fun t517 A148 H => ?_; revert H; refine tq_o fun t520 A149 H => ?_; cases t520
               ·replace H := tq_f H; obtain rfl := Option.some.inj H
                try go_wp2
                replace BK480 := Aside0.mk (blk_drew BK480.out); replace BK481 := Aside0.mk (blk_drew BK481.out); replace HB := Aside0.mk (below_drew1 HB.out); refine start_ (n := 13) (S := fun w' => w'.cell? ⟨gb480, 0, none⟩ = some (.int .i64 a0_0) ∧ w'.cell? ⟨gb480, 1, none⟩ = some (.slice A0_1 l0_1.length c0_1) ∧ w'.cell? ⟨gb480, 2, none⟩ = some (.slice A0_2 l0_2.length c0_2) ∧ w'.cell? ⟨gb481, 0, none⟩ = some (.int .i64 a1_0) ∧ w'.cell? ⟨gb481, 1, none⟩ = some (.slice A1_1 l1_1.length c1_1) ∧ w'.cell? ⟨gb481, 2, none⟩ = some (.slice A1_2 l1_2.length c1_2)) (ds := []) #[false, false, false, false, false, false, false, false, false, false, false, false, false] (by kernel_rfl) rfl rfl ⟨tq_q BK480 0, tq_q BK480 1, tq_q BK480 2, tq_q BK481 0, tq_q BK481 1, tq_q BK481 2⟩ (fun hHeld => ?_); refine with_tabW petrinetlaw45_SystemImages.tab40 petrinetlaw45_SystemImages.bits40 (fun HT_ HW_ => ?_)
                generalize wc.drew = w158 at BK480 BK481 HB hHeld ⊢
                refine sq_p 0 209 (sqm 13 1) HT_.out ?_; refine sq_p 1 210 (sqm 13 3) HT_.out ?_; refine sq_p 2 211 (sqm 13 7) HT_.out ?_; refine sq_t 3 212 (sqm 13 15) HT_.out HW_.out hHeld ?_; refine sq_t 5 214 (sqm 13 47) HT_.out HW_.out hHeld ?_; refine one_ (i := 4) (N := some 213) (sqm 13 63) rfl rfl (one_of HT_.out (by kernel_rfl)) (by decide) (fun K hK => ?_); refine goes_ Try.func22 (by kernel_rfl) rfl #[.agg #[.int .i64 a0_0, .slice A0_1 l0_1.length c0_1, .slice A0_2 l0_2.length c0_2], .int .i64 4] (by rfl) rfl rfl (by (try simp only [List.map_toArray, List.map_cons, List.map_nil]); first | done | rfl | (simp only [List.length_drop, List.length_take]; rfl)) ?_
                with_reducible refine (system_Traces.calls kj131 a0_0 _ _ l0_1 _ _ l0_2 4 t514 _ ?s1 ?s2 ?s3 ?s4 A147.out).mono ?_
                (case s1 => exact tq_c HR0_1 HB)
                (case s2 => exact HC0_1.out)
                (case s3 => exact tq_c HR0_2 HB)
                (case s4 => exact HC0_2.out)
                rintro e w159 ⟨v515, rfl, ho0, hb⟩
                refine ⟨_, rfl, ?_⟩; have HO516 := Aside0.mk (Kd.N_lower (Kd.N_mono (ok' := fun k_ => k_ ≠ gb480 ∧ k_ ≠ gb481) ho0 (fun k_ hk_ => ⟨(Kd.freshB (g := gb480) (o := .cells #[.int .i64 a0_0, .slice A0_1 l0_1.length c0_1, .slice A0_2 l0_2.length c0_2] 25 (0, 0)) (sq_bk BK480.out) k_ hk_), (Kd.freshB (g := gb481) (o := .cells #[.int .i64 a1_0, .slice A1_1 l1_1.length c1_1, .slice A1_2 l1_2.length c1_2] 25 (0, 0)) (sq_bk BK481.out) k_ hk_)⟩)) (below_size (sq_bs HB.out))); replace BK480 := tq_k BK480 hb; replace BK481 := tq_k BK481 hb; replace HB := tq_s HB hb
                (try clear hb)
                (try clear hb2)
                (try clear hk)
                (try clear hi)
                (try clear ho0)
                refine hK.out _ _ ⟨tq_q BK480 0, tq_q BK480 1, tq_q BK480 2, tq_q BK481 0, tq_q BK481 1, tq_q BK481 2⟩ (fun hHeld => ?_); clear hK K; refine norm_ (a' := ?_) ?_ ?_; rotate_left
                ·show Act.put _ (some 213) _ = _
                 simp only [Act.put, List.setIfInBounds_toArray, List.set_cons_zero, List.set_cons_succ, i64_w, i32_w]
                 rfl
                refine one_ (i := 6) (N := some 215) (sqm 13 127) rfl rfl (one_of HT_.out (by kernel_rfl)) (by decide) (fun K hK => ?_); refine goes_ Try.func22 (by kernel_rfl) rfl #[.agg #[.int .i64 a1_0, .slice A1_1 l1_1.length c1_1, .slice A1_2 l1_2.length c1_2], .int .i64 4] (by rfl) rfl rfl (by (try simp only [List.map_toArray, List.map_cons, List.map_nil]); first | done | rfl | (simp only [List.length_drop, List.length_take]; rfl)) ?_
                with_reducible refine (system_Traces.calls kj131 a1_0 _ _ l1_1 _ _ l1_2 4 t517 _ ?s1 ?s2 ?s3 ?s4 A148.out).mono ?_
                (case s1 => exact tq_c HR1_1 HB)
                (case s2 => exact HC1_1.out)
                (case s3 => exact tq_c HR1_2 HB)
                (case s4 => exact HC1_2.out)
                rintro e w160 ⟨v518, rfl, ho0, hb⟩
                refine ⟨_, rfl, ?_⟩; have HO519 := Aside0.mk (Kd.N_lower (Kd.N_mono (ok' := fun k_ => some k_ ≠ (v515 : Value).ownBlock ∧ k_ ≠ gb480 ∧ k_ ≠ gb481) ho0 (fun k_ hk_ => ⟨(Kd.fresh' (Kd.N_lt (by (with_reducible repeat (first | apply Kd.N_alloc | apply Kd.N_drewN | apply Kd.N_drew)); exact HO516.out)) k_ hk_), (Kd.freshB (g := gb480) (o := .cells #[.int .i64 a0_0, .slice A0_1 l0_1.length c0_1, .slice A0_2 l0_2.length c0_2] 25 (0, 0)) (sq_bk BK480.out) k_ hk_), (Kd.freshB (g := gb481) (o := .cells #[.int .i64 a1_0, .slice A1_1 l1_1.length c1_1, .slice A1_2 l1_2.length c1_2] 25 (0, 0)) (sq_bk BK481.out) k_ hk_)⟩)) (below_size (sq_bs HB.out))); replace HO516 := Aside0.mk (Kd.N_elder' (by (with_reducible repeat (first | apply Kd.N_alloc | apply Kd.N_drewN | apply Kd.N_drew)); exact HO516.out) (Kd.N_base ho0) hb); replace BK480 := tq_k BK480 hb; replace BK481 := tq_k BK481 hb; replace HB := tq_s HB hb
                (try clear hb)
                (try clear hb2)
                (try clear hk)
                (try clear hi)
                (try clear ho0)
                obtain ⟨Ao161, co161, eo161⟩ := Kd.N_slice HO516.out
                (first | subst eo161 | (injection eo161 with f1_ f2_ f3_; have f4_ := f1_.symm; have f5_ := f3_.symm; clear f1_ f2_ f3_; subst f4_; subst f5_))
                obtain ⟨Ao162, co162, eo162⟩ := Kd.N_slice HO519.out
                (first | subst eo162 | (injection eo162 with f1_ f2_ f3_; have f4_ := f1_.symm; have f5_ := f3_.symm; clear f1_ f2_ f3_; subst f4_; subst f5_))
                refine hK.out _ _ ⟨tq_q BK480 0, tq_q BK480 1, tq_q BK480 2, tq_q BK481 0, tq_q BK481 1, tq_q BK481 2⟩ (fun hHeld => ?_); clear hK K; refine norm_ (a' := ?_) ?_ ?_; rotate_left
                ·show Act.put _ (some 215) _ = _
                 simp only [Act.put, List.setIfInBounds_toArray, List.set_cons_zero, List.set_cons_succ, i64_w, i32_w]
                 rfl
                refine one_ (i := 7) (N := some 216) (sqm 13 255) rfl rfl (one_of HT_.out (by kernel_rfl)) (by decide) (fun K hK => ?_); refine goes_ Try.func21 (by kernel_rfl) rfl #[.slice Ao161 t514.length co161, .slice Ao162 t517.length co162] (by rfl) rfl rfl (by (try simp only [List.map_toArray, List.map_cons, List.map_nil]); first | done | rfl | (simp only [List.length_drop, List.length_take]; rfl)) ?_
                with_reducible refine (petrinetref04_Lists.calls kj131 _ _ t514 _ _ t517 false _ ?s1 ?s2 ?s3 ?s4 A149.out).mono ?_
                (case s1 => exact sq_kc ((Kd.N_reads' HO516.out).2.2))
                (case s2 => exact (Kd.N_reads' HO516.out).2.1)
                (case s3 => exact sq_kc ((Kd.N_reads' HO519.out).2.2))
                (case s4 => exact (Kd.N_reads' HO519.out).2.1)
                rintro e w' ⟨rfl, ⟨nd, rfl⟩⟩
                refine ⟨_, rfl, ?_⟩; refine hK.out _ _ ⟨tq_q BK480 0, tq_q BK480 1, tq_q BK480 2, tq_q BK481 0, tq_q BK481 1, tq_q BK481 2⟩ (fun hHeld => ?_); clear hK K; refine norm_ (a' := ?_) ?_ ?_; rotate_left
                ·show Act.put _ (some 216) _ = _
                 simp only [Act.put, List.setIfInBounds_toArray, List.set_cons_zero, List.set_cons_succ, i64_w, i32_w]
                 rfl
                refine sq_p 8 217 (sqm 13 511) HT_.out ?_; refine sq_p 9 218 (sqm 13 1023) HT_.out ?_; refine sq_u 10 219 (sqm 13 2047) HT_.out ?_; refine sq_p 11 220 (sqm 13 4095) HT_.out ?_; refine sq_p 12 4 (sqm 13 8191) HT_.out ?_; refine done_ (done_of HT_.out (by kernel_rfl)) ?_
                try go_wp2
                go_ret
                exact tq_v (sq_bs HB.out)
               replace H := tq_t H; revert H; refine tq_o fun t521 A151 H => ?_; obtain rfl := Option.some.inj H
               try go_wp2
               replace BK480 := Aside0.mk (blk_drew BK480.out); replace BK481 := Aside0.mk (blk_drew BK481.out); replace HB := Aside0.mk (below_drew1 HB.out); refine start_ (n := 13) (S := fun w' => w'.cell? ⟨gb480, 0, none⟩ = some (.int .i64 a0_0) ∧ w'.cell? ⟨gb480, 1, none⟩ = some (.slice A0_1 l0_1.length c0_1) ∧ w'.cell? ⟨gb480, 2, none⟩ = some (.slice A0_2 l0_2.length c0_2) ∧ w'.cell? ⟨gb481, 0, none⟩ = some (.int .i64 a1_0) ∧ w'.cell? ⟨gb481, 1, none⟩ = some (.slice A1_1 l1_1.length c1_1) ∧ w'.cell? ⟨gb481, 2, none⟩ = some (.slice A1_2 l1_2.length c1_2)) (ds := []) #[false, false, false, false, false, false, false, false, false, false, false, false, false] (by kernel_rfl) rfl rfl ⟨tq_q BK480 0, tq_q BK480 1, tq_q BK480 2, tq_q BK481 0, tq_q BK481 1, tq_q BK481 2⟩ (fun hHeld => ?_); refine with_tabW petrinetlaw45_SystemImages.tab40 petrinetlaw45_SystemImages.bits40 (fun HT_ HW_ => ?_)
               generalize wc.drew = w152 at BK480 BK481 HB hHeld ⊢
               refine sq_p 0 209 (sqm 13 1) HT_.out ?_; refine sq_p 1 210 (sqm 13 3) HT_.out ?_; refine sq_p 2 211 (sqm 13 7) HT_.out ?_; refine sq_t 3 212 (sqm 13 15) HT_.out HW_.out hHeld ?_; refine sq_t 5 214 (sqm 13 47) HT_.out HW_.out hHeld ?_; refine one_ (i := 4) (N := some 213) (sqm 13 63) rfl rfl (one_of HT_.out (by kernel_rfl)) (by decide) (fun K hK => ?_); refine goes_ Try.func22 (by kernel_rfl) rfl #[.agg #[.int .i64 a0_0, .slice A0_1 l0_1.length c0_1, .slice A0_2 l0_2.length c0_2], .int .i64 4] (by rfl) rfl rfl (by (try simp only [List.map_toArray, List.map_cons, List.map_nil]); first | done | rfl | (simp only [List.length_drop, List.length_take]; rfl)) ?_
               with_reducible refine (system_Traces.calls kj131 a0_0 _ _ l0_1 _ _ l0_2 4 t514 _ ?s1 ?s2 ?s3 ?s4 A147.out).mono ?_
               (case s1 => exact tq_c HR0_1 HB)
               (case s2 => exact HC0_1.out)
               (case s3 => exact tq_c HR0_2 HB)
               (case s4 => exact HC0_2.out)
               rintro e w153 ⟨v515, rfl, ho0, hb⟩
               refine ⟨_, rfl, ?_⟩; have HO516 := Aside0.mk (Kd.N_lower (Kd.N_mono (ok' := fun k_ => k_ ≠ gb480 ∧ k_ ≠ gb481) ho0 (fun k_ hk_ => ⟨(Kd.freshB (g := gb480) (o := .cells #[.int .i64 a0_0, .slice A0_1 l0_1.length c0_1, .slice A0_2 l0_2.length c0_2] 25 (0, 0)) (sq_bk BK480.out) k_ hk_), (Kd.freshB (g := gb481) (o := .cells #[.int .i64 a1_0, .slice A1_1 l1_1.length c1_1, .slice A1_2 l1_2.length c1_2] 25 (0, 0)) (sq_bk BK481.out) k_ hk_)⟩)) (below_size (sq_bs HB.out))); replace BK480 := tq_k BK480 hb; replace BK481 := tq_k BK481 hb; replace HB := tq_s HB hb
               (try clear hb)
               (try clear hb2)
               (try clear hk)
               (try clear hi)
               (try clear ho0)
               refine hK.out _ _ ⟨tq_q BK480 0, tq_q BK480 1, tq_q BK480 2, tq_q BK481 0, tq_q BK481 1, tq_q BK481 2⟩ (fun hHeld => ?_); clear hK K; refine norm_ (a' := ?_) ?_ ?_; rotate_left
               ·show Act.put _ (some 213) _ = _
                simp only [Act.put, List.setIfInBounds_toArray, List.set_cons_zero, List.set_cons_succ, i64_w, i32_w]
                rfl
               refine one_ (i := 6) (N := some 215) (sqm 13 127) rfl rfl (one_of HT_.out (by kernel_rfl)) (by decide) (fun K hK => ?_); refine goes_ Try.func22 (by kernel_rfl) rfl #[.agg #[.int .i64 a1_0, .slice A1_1 l1_1.length c1_1, .slice A1_2 l1_2.length c1_2], .int .i64 4] (by rfl) rfl rfl (by (try simp only [List.map_toArray, List.map_cons, List.map_nil]); first | done | rfl | (simp only [List.length_drop, List.length_take]; rfl)) ?_
               with_reducible refine (system_Traces.calls kj131 a1_0 _ _ l1_1 _ _ l1_2 4 t517 _ ?s1 ?s2 ?s3 ?s4 A148.out).mono ?_
               (case s1 => exact tq_c HR1_1 HB)
               (case s2 => exact HC1_1.out)
               (case s3 => exact tq_c HR1_2 HB)
               (case s4 => exact HC1_2.out)
               rintro e w154 ⟨v518, rfl, ho0, hb⟩
               refine ⟨_, rfl, ?_⟩; have HO519 := Aside0.mk (Kd.N_lower (Kd.N_mono (ok' := fun k_ => some k_ ≠ (v515 : Value).ownBlock ∧ k_ ≠ gb480 ∧ k_ ≠ gb481) ho0 (fun k_ hk_ => ⟨(Kd.fresh' (Kd.N_lt (by (with_reducible repeat (first | apply Kd.N_alloc | apply Kd.N_drewN | apply Kd.N_drew)); exact HO516.out)) k_ hk_), (Kd.freshB (g := gb480) (o := .cells #[.int .i64 a0_0, .slice A0_1 l0_1.length c0_1, .slice A0_2 l0_2.length c0_2] 25 (0, 0)) (sq_bk BK480.out) k_ hk_), (Kd.freshB (g := gb481) (o := .cells #[.int .i64 a1_0, .slice A1_1 l1_1.length c1_1, .slice A1_2 l1_2.length c1_2] 25 (0, 0)) (sq_bk BK481.out) k_ hk_)⟩)) (below_size (sq_bs HB.out))); replace HO516 := Aside0.mk (Kd.N_elder' (by (with_reducible repeat (first | apply Kd.N_alloc | apply Kd.N_drewN | apply Kd.N_drew)); exact HO516.out) (Kd.N_base ho0) hb); replace BK480 := tq_k BK480 hb; replace BK481 := tq_k BK481 hb; replace HB := tq_s HB hb
               (try clear hb)
               (try clear hb2)
               (try clear hk)
               (try clear hi)
               (try clear ho0)
               obtain ⟨Ao155, co155, eo155⟩ := Kd.N_slice HO516.out
               (first | subst eo155 | (injection eo155 with f1_ f2_ f3_; have f4_ := f1_.symm; have f5_ := f3_.symm; clear f1_ f2_ f3_; subst f4_; subst f5_))
               obtain ⟨Ao156, co156, eo156⟩ := Kd.N_slice HO519.out
               (first | subst eo156 | (injection eo156 with f1_ f2_ f3_; have f4_ := f1_.symm; have f5_ := f3_.symm; clear f1_ f2_ f3_; subst f4_; subst f5_))
               refine hK.out _ _ ⟨tq_q BK480 0, tq_q BK480 1, tq_q BK480 2, tq_q BK481 0, tq_q BK481 1, tq_q BK481 2⟩ (fun hHeld => ?_); clear hK K; refine norm_ (a' := ?_) ?_ ?_; rotate_left
               ·show Act.put _ (some 215) _ = _
                simp only [Act.put, List.setIfInBounds_toArray, List.set_cons_zero, List.set_cons_succ, i64_w, i32_w]
                rfl
               refine one_ (i := 7) (N := some 216) (sqm 13 255) rfl rfl (one_of HT_.out (by kernel_rfl)) (by decide) (fun K hK => ?_); refine goes_ Try.func21 (by kernel_rfl) rfl #[.slice Ao155 t514.length co155, .slice Ao156 t517.length co156] (by rfl) rfl rfl (by (try simp only [List.map_toArray, List.map_cons, List.map_nil]); first | done | rfl | (simp only [List.length_drop, List.length_take]; rfl)) ?_
               with_reducible refine (petrinetref04_Lists.calls kj131 _ _ t514 _ _ t517 true _ ?s1 ?s2 ?s3 ?s4 A149.out).mono ?_
               (case s1 => exact sq_kc ((Kd.N_reads' HO516.out).2.2))
               (case s2 => exact (Kd.N_reads' HO516.out).2.1)
               (case s3 => exact sq_kc ((Kd.N_reads' HO519.out).2.2))
               (case s4 => exact (Kd.N_reads' HO519.out).2.1)
               rintro e w' ⟨rfl, ⟨nd, rfl⟩⟩
               refine ⟨_, rfl, ?_⟩; refine hK.out _ _ ⟨tq_q BK480 0, tq_q BK480 1, tq_q BK480 2, tq_q BK481 0, tq_q BK481 1, tq_q BK481 2⟩ (fun hHeld => ?_); clear hK K; refine norm_ (a' := ?_) ?_ ?_; rotate_left
               ·show Act.put _ (some 216) _ = _
                simp only [Act.put, List.setIfInBounds_toArray, List.set_cons_zero, List.set_cons_succ, i64_w, i32_w]
                rfl
               refine sq_p 8 217 (sqm 13 511) HT_.out ?_; refine sq_p 9 218 (sqm 13 1023) HT_.out ?_; refine one_ (i := 10) (N := some 219) (sqm 13 2047) rfl rfl (one_of HT_.out (by kernel_rfl)) (by decide) (fun K hK => ?_); refine goes_ Try.func9 (by kernel_rfl) rfl #[] (by rfl) rfl rfl (by (try simp only [List.map_toArray, List.map_cons, List.map_nil]); first | done | rfl | (simp only [List.length_drop, List.length_take]; rfl)) ?_
               with_reducible refine (petrinetlaw45_alive.calls kj131  t521 _ A151.out).mono ?_
               rintro e w157 ⟨rfl, hb⟩
               refine ⟨_, rfl, ?_⟩; replace HO516 := Aside0.mk (Kd.N_below (by (with_reducible repeat (first | apply Kd.N_alloc | apply Kd.N_drewN | apply Kd.N_drew)); exact HO516.out) hb); replace HO519 := Aside0.mk (Kd.N_below (by (with_reducible repeat (first | apply Kd.N_alloc | apply Kd.N_drewN | apply Kd.N_drew)); exact HO519.out) hb); replace BK480 := tq_k BK480 hb; replace BK481 := tq_k BK481 hb; replace HB := tq_s HB hb
               (try clear hb)
               (try clear hb2)
               (try clear hk)
               (try clear hi)
               refine hK.out _ _ ⟨tq_q BK480 0, tq_q BK480 1, tq_q BK480 2, tq_q BK481 0, tq_q BK481 1, tq_q BK481 2⟩ (fun hHeld => ?_); clear hK K; refine norm_ (a' := ?_) ?_ ?_; rotate_left
               ·show Act.put _ (some 219) _ = _
                simp only [Act.put, List.setIfInBounds_toArray, List.set_cons_zero, List.set_cons_succ, i64_w, i32_w]
                rfl
               refine sq_p 11 220 (sqm 13 4095) HT_.out ?_; refine sq_p 12 4 (sqm 13 8191) HT_.out ?_; refine done_ (done_of HT_.out (by kernel_rfl)) ?_
               try go_wp2
               go_ret
               exact tq_v (sq_bs HB.out)
end Go.Proofs.Ytcnliampiibpbaa.PAll
