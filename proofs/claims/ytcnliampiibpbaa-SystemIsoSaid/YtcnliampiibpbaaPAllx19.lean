/- Lean functions for Go functions, each with the proof that the call returns what it says; printed by wip/tools/myprint.py. -/
-- squeezed
import Derived.Test.YtcnliampiibpbaaPAllx0
import Derived.Test.YtcnliampiibpbaaPAllx10
import Derived.Test.YtcnliampiibpbaaPAllx13
import Derived.Test.YtcnliampiibpbaaPAllx16
import Derived.Test.YtcnliampiibpbaaPAllx18
namespace Go.Proofs.Ytcnliampiibpbaa.PAll
open Go.RowKit Go.Proofs.YtcnliampiibpbaaW.PrintWords Go.Proofs.YtcnliampiibpbaaW.PrintLast Go.Proofs.YtcnliampiibpbaaW.PrintMore
attribute [local go_sem] Instr.field asAgg max2_int min2_int max_two min_two max_three min_three max_four min_four   -- for this text's walks alone
set_option linter.unusedVariables false
set_option linter.unusedSimpArgs false

/-! ### petrinetref45_Iso: function 19 -/
mutual
def petrinetref45_Iso.j0 : Nat → Bool → Int → List ByteArray → List (S44) → Int → List ByteArray → List (S44) → Option (List Int × Bool)
 | 0, _, _, _, _, _, _, _ => none
 | k + 1, x57, x344000, x344001, x344002, x345000, x345001, x345002 => if x57 = true then (some (([] : List Int), false)) else (petrinetref45_Iso.l0 k ([] : List Int) 0 x344000 x344001 x344002 x345000 x345001 x345002)
def petrinetref45_Iso.l0 : Nat → List Int → Int → Int → List ByteArray → List (S44) → Int → List ByteArray → List (S44) → Option (List Int × Bool)
 | 0, _, _, _, _, _, _, _, _ => none
 | k + 1, x6, x7, x344000, x344001, x344002, x345000, x345001, x345002 => if x7 < x344000 then (if x6.length < 17592186044416 then (petrinetref45_Iso.l0 k (x6 ++ [(-1)]) (wrap64 (x7 + 1)) x344000 x344001 x344002 x345000 x345001 x345002) else (none)) else (if 0 < (x6.length : Int) then (petrinetref45_Iso.l1 k (x6.set (0 : Int).toNat 0) 0 x344000 x344001 x344002 x345000 x345001 x345002) else (none))
def petrinetref45_Iso.l1 : Nat → List Int → Int → Int → List ByteArray → List (S44) → Int → List ByteArray → List (S44) → Option (List Int × Bool)
 | 0, _, _, _, _, _, _, _, _ => none
 | k + 1, x6, x8, x344000, x344001, x344002, x345000, x345001, x345002 => if x8 < x344000 then (petrinetref45_Iso.l2 k x6 x8 0 x344000 x344001 x344002 x345000 x345001 x345002) else (if 0 ≤ x344000 then (if (x344000 : Int).toNat ≤ 281474976710656 then (petrinetref45_Iso.l3 k x6 (List.replicate (x344000 : Int).toNat false) 0 x344000 x344001 x344002 x345000 x345001 x345002) else (none)) else (none))
def petrinetref45_Iso.l2 : Nat → List Int → Int → Int → Int → List ByteArray → List (S44) → Int → List ByteArray → List (S44) → Option (List Int × Bool)
 | 0, _, _, _, _, _, _, _, _, _ => none
 | k + 1, x6, x8, x9, x344000, x344001, x344002, x345000, x345001, x345002 => if x9 < (x344002.length : Int) then (if 0 ≤ x9 then (if 0 ≤ ((rd_T44 x344002 x9).f0) then (if ((rd_T44 x344002 x9).f0) < (x6.length : Int) then (if (rd x6 ((rd_T44 x344002 x9).f0)) < 0 then (petrinetref45_Iso.l2 k x6 x8 (wrap64 (x9 + 1)) x344000 x344001 x344002 x345000 x345001 x345002) else (if 0 ≤ ((rd_T44 x344002 x9).f1) then (if ((rd_T44 x344002 x9).f1) < (x344001.length : Int) then ((petrinetref45_at.f k x345001 (rdOf ByteArray.empty x344001 ((rd_T44 x344002 x9).f1))).bind fun t358 => ((petrinetref45_Next.f k x345000 x345001 x345002 (rd x6 ((rd_T44 x344002 x9).f0)) t358).bind fun t359 => (if t359 < 0 then (some (([] : List Int), false)) else (if 0 ≤ ((rd_T44 x344002 x9).f2) then (if ((rd_T44 x344002 x9).f2) < (x6.length : Int) then (if (rd x6 ((rd_T44 x344002 x9).f2)) ≥ 0 then (if (rd x6 ((rd_T44 x344002 x9).f2)) = t359 then (petrinetref45_Iso.l2 k (x6.set (((rd_T44 x344002 x9).f2) : Int).toNat t359) x8 (wrap64 (x9 + 1)) x344000 x344001 x344002 x345000 x345001 x345002) else (some (([] : List Int), false))) else (petrinetref45_Iso.l2 k (x6.set (((rd_T44 x344002 x9).f2) : Int).toNat t359) x8 (wrap64 (x9 + 1)) x344000 x344001 x344002 x345000 x345001 x345002)) else (none)) else (none))))) else (none)) else (none))) else (none)) else (none)) else (none)) else (petrinetref45_Iso.l1 k x6 (wrap64 (x8 + 1)) x344000 x344001 x344002 x345000 x345001 x345002)
def petrinetref45_Iso.l3 : Nat → List Int → List Bool → Int → Int → List ByteArray → List (S44) → Int → List ByteArray → List (S44) → Option (List Int × Bool)
 | 0, _, _, _, _, _, _, _, _, _ => none
 | k + 1, x6, x12, x13, x344000, x344001, x344002, x345000, x345001, x345002 => if x13 < x344000 then (if 0 ≤ x13 then (if x13 < (x6.length : Int) then (if (rd x6 x13) < 0 then (some (([] : List Int), false)) else (if 0 ≤ (rd x6 x13) then (if (rd x6 x13) < (x12.length : Int) then (if rdOf false x12 (rd x6 x13) = true then (some (([] : List Int), false)) else (petrinetref45_Iso.l3 k x6 (x12.set ((rd x6 x13) : Int).toNat true) (wrap64 (x13 + 1)) x344000 x344001 x344002 x345000 x345001 x345002)) else (none)) else (none))) else (none)) else (none)) else (petrinetref45_Iso.l4 k x6 0 x344000 x344001 x344002 x345000 x345001 x345002)
def petrinetref45_Iso.l4 : Nat → List Int → Int → Int → List ByteArray → List (S44) → Int → List ByteArray → List (S44) → Option (List Int × Bool)
 | 0, _, _, _, _, _, _, _, _ => none
 | k + 1, x6, x14, x344000, x344001, x344002, x345000, x345001, x345002 => if x14 < (x344001.length : Int) then (if 0 ≤ x14 then ((petrinetref45_at.f k x345001 (rdOf ByteArray.empty x344001 x14)).bind fun t373 => (if t373 < 0 then (some (([] : List Int), false)) else (petrinetref45_Iso.l4 k x6 (wrap64 (x14 + 1)) x344000 x344001 x344002 x345000 x345001 x345002))) else (none)) else (some (x6, true))
end
def petrinetref45_Iso.f (k : Nat) (a0_0 : Int) (l0_1 : List ByteArray) (l0_2 : List (S44)) (a1_0 : Int) (l1_1 : List ByteArray) (l1_2 : List (S44)) : Option (List Int × Bool) := (petrinetref45_Deterministic.f k a0_0 l0_1 l0_2).bind fun t345 => (if t345 = true then ((petrinetref45_Deterministic.f k a1_0 l1_1 l1_2).bind fun t346 => (if t346 = true then ((petrinetref45_Reachable.f k a0_0 l0_1 l0_2).bind fun t347 => (if t347 = true then ((petrinetref45_Reachable.f k a1_0 l1_1 l1_2).bind fun t348 => (if t348 = true then (if a0_0 = a1_0 then (if (l0_1.length : Int) = (l1_1.length : Int) then (petrinetref45_Iso.j0 k ((l0_2.length : Int) != (l1_2.length : Int)) a0_0 l0_1 l0_2 a1_0 l1_1 l1_2) else (petrinetref45_Iso.j0 k true a0_0 l0_1 l0_2 a1_0 l1_1 l1_2)) else (petrinetref45_Iso.j0 k true a0_0 l0_1 l0_2 a1_0 l1_1 l1_2)) else (petrinetref45_Iso.j0 k true a0_0 l0_1 l0_2 a1_0 l1_1 l1_2))) else (petrinetref45_Iso.j0 k true a0_0 l0_1 l0_2 a1_0 l1_1 l1_2))) else (petrinetref45_Iso.j0 k true a0_0 l0_1 l0_2 a1_0 l1_1 l1_2))) else (petrinetref45_Iso.j0 k true a0_0 l0_1 l0_2 a1_0 l1_1 l1_2))
theorem petrinetref45_Iso.mono_l : ∀ k, (∀ y0 y1 y2 y3 y4 y5 y6, LeO (petrinetref45_Iso.j0 k y0 y1 y2 y3 y4 y5 y6) (petrinetref45_Iso.j0 (k + 1) y0 y1 y2 y3 y4 y5 y6)) ∧ (∀ y0 y1 y2 y3 y4 y5 y6 y7, LeO (petrinetref45_Iso.l0 k y0 y1 y2 y3 y4 y5 y6 y7) (petrinetref45_Iso.l0 (k + 1) y0 y1 y2 y3 y4 y5 y6 y7)) ∧ (∀ y0 y1 y2 y3 y4 y5 y6 y7, LeO (petrinetref45_Iso.l1 k y0 y1 y2 y3 y4 y5 y6 y7) (petrinetref45_Iso.l1 (k + 1) y0 y1 y2 y3 y4 y5 y6 y7)) ∧ (∀ y0 y1 y2 y3 y4 y5 y6 y7 y8, LeO (petrinetref45_Iso.l2 k y0 y1 y2 y3 y4 y5 y6 y7 y8) (petrinetref45_Iso.l2 (k + 1) y0 y1 y2 y3 y4 y5 y6 y7 y8)) ∧ (∀ y0 y1 y2 y3 y4 y5 y6 y7 y8, LeO (petrinetref45_Iso.l3 k y0 y1 y2 y3 y4 y5 y6 y7 y8) (petrinetref45_Iso.l3 (k + 1) y0 y1 y2 y3 y4 y5 y6 y7 y8)) ∧ (∀ y0 y1 y2 y3 y4 y5 y6 y7, LeO (petrinetref45_Iso.l4 k y0 y1 y2 y3 y4 y5 y6 y7) (petrinetref45_Iso.l4 (k + 1) y0 y1 y2 y3 y4 y5 y6 y7))
 | 0 => ⟨fun _ _ _ _ _ _ _ r h => by simp [petrinetref45_Iso.j0] at h, fun _ _ _ _ _ _ _ _ r h => by simp [petrinetref45_Iso.l0] at h, fun _ _ _ _ _ _ _ _ r h => by simp [petrinetref45_Iso.l1] at h, fun _ _ _ _ _ _ _ _ _ r h => by simp [petrinetref45_Iso.l2] at h, fun _ _ _ _ _ _ _ _ _ r h => by simp [petrinetref45_Iso.l3] at h, fun _ _ _ _ _ _ _ _ r h => by simp [petrinetref45_Iso.l4] at h⟩
 | k + 1 => by
  obtain ⟨ih0, ih1, ih2, ih3, ih4, ih5⟩ := petrinetref45_Iso.mono_l k
  refine ⟨?_, ?_, ?_, ?_, ?_, ?_⟩
  ·intro y0 y1 y2 y3 y4 y5 y6
   unfold petrinetref45_Iso.j0
   repeat' first
   | (with_reducible exact ih0 _ _ _ _ _ _ _)
   | (with_reducible exact ih1 _ _ _ _ _ _ _ _)
   | (with_reducible exact ih2 _ _ _ _ _ _ _ _)
   | (with_reducible exact ih3 _ _ _ _ _ _ _ _ _)
   | (with_reducible exact ih4 _ _ _ _ _ _ _ _ _)
   | (with_reducible exact ih5 _ _ _ _ _ _ _ _)
   | (with_reducible exact petrinetref45_Deterministic.mono _ _ _ _)
   | (with_reducible exact petrinetref45_Next.mono _ _ _ _ _ _)
   | (with_reducible exact petrinetref45_Reachable.mono _ _ _ _)
   | (with_reducible exact petrinetref45_at.mono _ _ _)
   | (with_reducible exact LeO.refl _)
   | (with_reducible exact LeO.none _)
   | (with_reducible refine LeO.ite ?_ ?_)
   | (with_reducible refine LeO.bind ?_ (fun _ => ?_))
  ·intro y0 y1 y2 y3 y4 y5 y6 y7
   unfold petrinetref45_Iso.l0
   repeat' first
   | (with_reducible exact ih0 _ _ _ _ _ _ _)
   | (with_reducible exact ih1 _ _ _ _ _ _ _ _)
   | (with_reducible exact ih2 _ _ _ _ _ _ _ _)
   | (with_reducible exact ih3 _ _ _ _ _ _ _ _ _)
   | (with_reducible exact ih4 _ _ _ _ _ _ _ _ _)
   | (with_reducible exact ih5 _ _ _ _ _ _ _ _)
   | (with_reducible exact petrinetref45_Deterministic.mono _ _ _ _)
   | (with_reducible exact petrinetref45_Next.mono _ _ _ _ _ _)
   | (with_reducible exact petrinetref45_Reachable.mono _ _ _ _)
   | (with_reducible exact petrinetref45_at.mono _ _ _)
   | (with_reducible exact LeO.refl _)
   | (with_reducible exact LeO.none _)
   | (with_reducible refine LeO.ite ?_ ?_)
   | (with_reducible refine LeO.bind ?_ (fun _ => ?_))
  ·intro y0 y1 y2 y3 y4 y5 y6 y7
   unfold petrinetref45_Iso.l1
   repeat' first
   | (with_reducible exact ih0 _ _ _ _ _ _ _)
   | (with_reducible exact ih1 _ _ _ _ _ _ _ _)
   | (with_reducible exact ih2 _ _ _ _ _ _ _ _)
   | (with_reducible exact ih3 _ _ _ _ _ _ _ _ _)
   | (with_reducible exact ih4 _ _ _ _ _ _ _ _ _)
   | (with_reducible exact ih5 _ _ _ _ _ _ _ _)
   | (with_reducible exact petrinetref45_Deterministic.mono _ _ _ _)
   | (with_reducible exact petrinetref45_Next.mono _ _ _ _ _ _)
   | (with_reducible exact petrinetref45_Reachable.mono _ _ _ _)
   | (with_reducible exact petrinetref45_at.mono _ _ _)
   | (with_reducible exact LeO.refl _)
   | (with_reducible exact LeO.none _)
   | (with_reducible refine LeO.ite ?_ ?_)
   | (with_reducible refine LeO.bind ?_ (fun _ => ?_))
  ·intro y0 y1 y2 y3 y4 y5 y6 y7 y8
   unfold petrinetref45_Iso.l2
   repeat' first
   | (with_reducible exact ih0 _ _ _ _ _ _ _)
   | (with_reducible exact ih1 _ _ _ _ _ _ _ _)
   | (with_reducible exact ih2 _ _ _ _ _ _ _ _)
   | (with_reducible exact ih3 _ _ _ _ _ _ _ _ _)
   | (with_reducible exact ih4 _ _ _ _ _ _ _ _ _)
   | (with_reducible exact ih5 _ _ _ _ _ _ _ _)
   | (with_reducible exact petrinetref45_Deterministic.mono _ _ _ _)
   | (with_reducible exact petrinetref45_Next.mono _ _ _ _ _ _)
   | (with_reducible exact petrinetref45_Reachable.mono _ _ _ _)
   | (with_reducible exact petrinetref45_at.mono _ _ _)
   | (with_reducible exact LeO.refl _)
   | (with_reducible exact LeO.none _)
   | (with_reducible refine LeO.ite ?_ ?_)
   | (with_reducible refine LeO.bind ?_ (fun _ => ?_))
  ·intro y0 y1 y2 y3 y4 y5 y6 y7 y8
   unfold petrinetref45_Iso.l3
   repeat' first
   | (with_reducible exact ih0 _ _ _ _ _ _ _)
   | (with_reducible exact ih1 _ _ _ _ _ _ _ _)
   | (with_reducible exact ih2 _ _ _ _ _ _ _ _)
   | (with_reducible exact ih3 _ _ _ _ _ _ _ _ _)
   | (with_reducible exact ih4 _ _ _ _ _ _ _ _ _)
   | (with_reducible exact ih5 _ _ _ _ _ _ _ _)
   | (with_reducible exact petrinetref45_Deterministic.mono _ _ _ _)
   | (with_reducible exact petrinetref45_Next.mono _ _ _ _ _ _)
   | (with_reducible exact petrinetref45_Reachable.mono _ _ _ _)
   | (with_reducible exact petrinetref45_at.mono _ _ _)
   | (with_reducible exact LeO.refl _)
   | (with_reducible exact LeO.none _)
   | (with_reducible refine LeO.ite ?_ ?_)
   | (with_reducible refine LeO.bind ?_ (fun _ => ?_))
  ·intro y0 y1 y2 y3 y4 y5 y6 y7
   unfold petrinetref45_Iso.l4
   repeat' first
   | (with_reducible exact ih0 _ _ _ _ _ _ _)
   | (with_reducible exact ih1 _ _ _ _ _ _ _ _)
   | (with_reducible exact ih2 _ _ _ _ _ _ _ _)
   | (with_reducible exact ih3 _ _ _ _ _ _ _ _ _)
   | (with_reducible exact ih4 _ _ _ _ _ _ _ _ _)
   | (with_reducible exact ih5 _ _ _ _ _ _ _ _)
   | (with_reducible exact petrinetref45_Deterministic.mono _ _ _ _)
   | (with_reducible exact petrinetref45_Next.mono _ _ _ _ _ _)
   | (with_reducible exact petrinetref45_Reachable.mono _ _ _ _)
   | (with_reducible exact petrinetref45_at.mono _ _ _)
   | (with_reducible exact LeO.refl _)
   | (with_reducible exact LeO.none _)
   | (with_reducible refine LeO.ite ?_ ?_)
   | (with_reducible refine LeO.bind ?_ (fun _ => ?_))
theorem petrinetref45_Iso.mono : ∀ a0 a1 a2 a3 a4 a5 k, LeO (petrinetref45_Iso.f k a0 a1 a2 a3 a4 a5) (petrinetref45_Iso.f (k + 1) a0 a1 a2 a3 a4 a5) := by
 intro a0 a1 a2 a3 a4 a5 k
 obtain ⟨ih0, ih1, ih2, ih3, ih4, ih5⟩ := petrinetref45_Iso.mono_l k
 unfold petrinetref45_Iso.f
 repeat' first
   | (with_reducible exact ih0 _ _ _ _ _ _ _)
   | (with_reducible exact ih1 _ _ _ _ _ _ _ _)
   | (with_reducible exact ih2 _ _ _ _ _ _ _ _)
   | (with_reducible exact ih3 _ _ _ _ _ _ _ _ _)
   | (with_reducible exact ih4 _ _ _ _ _ _ _ _ _)
   | (with_reducible exact ih5 _ _ _ _ _ _ _ _)
   | (with_reducible exact petrinetref45_Deterministic.mono _ _ _ _)
   | (with_reducible exact petrinetref45_Next.mono _ _ _ _ _ _)
   | (with_reducible exact petrinetref45_Reachable.mono _ _ _ _)
   | (with_reducible exact petrinetref45_at.mono _ _ _)
   | (with_reducible exact LeO.refl _)
   | (with_reducible exact LeO.none _)
   | (with_reducible refine LeO.ite ?_ ?_)
   | (with_reducible refine LeO.bind ?_ (fun _ => ?_))
def petrinetref45_Iso.T17 : Bool × List (List Nat × List Nat) := (true, [([], []), ([], []), ([], []), ([2], [2]), ([1, 3], [1, 3]), ([4], [4]), ([], []), ([6], [6]), ([], []), ([8], [8]), ([], []), ([10], [10]), ([9, 11], [9, 11]), ([12], [12]), ([7, 13], [7, 13]), ([0, 5, 14, 14], [0, 5, 14]), ([15, 15, 0, 1, 2, 3, 4, 5, 6, 7, 8, 9, 10, 11, 12, 13, 14, 15], [15])])
def petrinetref45_Iso.B17 : List Nat := [0, 0, 0, 4, 14, 30, 0, 64, 0, 256, 0, 1024, 3840, 7936, 16320, 32767, 65535]
theorem petrinetref45_Iso.tab17 : rtab .any (opsOf Try.f19 17) = petrinetref45_Iso.T17 := by kernel_rfl
theorem petrinetref45_Iso.bits17 : waitsOk petrinetref45_Iso.T17.2 petrinetref45_Iso.B17 = true := by kernel_rfl
def petrinetref45_Iso.T31 : Bool × List (List Nat × List Nat) := (true, [([], []), ([0], [0]), ([], []), ([2], [2]), ([], []), ([3, 4], [3, 4]), ([5], [5]), ([1, 6], [1, 6]), ([7], [7])])
def petrinetref45_Iso.B31 : List Nat := [0, 1, 0, 4, 0, 28, 60, 127, 255]
theorem petrinetref45_Iso.tab31 : rtab .any (opsOf Try.f19 31) = petrinetref45_Iso.T31 := by kernel_rfl
theorem petrinetref45_Iso.bits31 : waitsOk petrinetref45_Iso.T31.2 petrinetref45_Iso.B31 = true := by kernel_rfl
set_option maxHeartbeats 8000000 in
set_option maxRecDepth 100000 in
theorem petrinetref45_Iso.calls (k : Nat) (a0_0 : Int) (A0_1 : Option Addr) (c0_1 : Nat) (l0_1 : List ByteArray) (A0_2 : Option Addr) (c0_2 : Nat) (l0_2 : List (S44)) (a1_0 : Int) (A1_1 : Option Addr) (c1_1 : Nat) (l1_1 : List ByteArray) (A1_2 : Option Addr) (c1_2 : Nat) (l1_2 : List (S44)) (r1 : List Int) (r2 : Bool) (w : World) (hr0_1 : Kd.C Kd.string w A0_1 l0_1.length l0_1) (hc0_1 : l0_1.length ≤ c0_1) (hr0_2 : Kd.C k44 w A0_2 l0_2.length l0_2) (hc0_2 : l0_2.length ≤ c0_2) (hr1_1 : Kd.C Kd.string w A1_1 l1_1.length l1_1) (hc1_1 : l1_1.length ≤ c1_1) (hr1_2 : Kd.C k44 w A1_2 l1_2.length l1_2) (hc1_2 : l1_2.length ≤ c1_2) (h : petrinetref45_Iso.f k a0_0 l0_1 l0_2 a1_0 l1_1 l1_2 = some (r1, r2)) :
  Calls Try.prog 19 #[.agg #[.int .i64 a0_0, .slice A0_1 l0_1.length c0_1, .slice A0_2 l0_2.length c0_2], .agg #[.int .i64 a1_0, .slice A1_1 l1_1.length c1_1, .slice A1_2 l1_2.length c1_2]] w fun e w' => ∃ v0_ : Value, e = .returned (.tuple #[v0_, .bool r2]) ∧ Kd.R (Kd.int .i64) 3 w' w.heap.size (fun _ => True) v0_ r1 ∧ Below w.heap.size w w' := by
 have hv30 := Try.underlying30
 have hu25 := Try.underlying25
 have hu44 := Try.underlying44
 have HR0_1 := Aside0.mk hr0_1
 have HC0_1 := Aside0.mk hc0_1
 clear hr0_1 hc0_1
 have HR0_2 := Aside0.mk hr0_2
 have HC0_2 := Aside0.mk hc0_2
 clear hr0_2 hc0_2
 have HR1_1 := Aside0.mk hr1_1
 have HC1_1 := Aside0.mk hc1_1
 clear hr1_1 hc1_1
 have HR1_2 := Aside0.mk hr1_2
 have HC1_2 := Aside0.mk hc1_2
 clear hr1_2 hc1_2
 have HB := Aside0.mk (Below.refl w.heap.size w)
 have H : ((petrinetref45_Deterministic.f k a0_0 l0_1 l0_2).bind fun t345 => (if t345 = true then ((petrinetref45_Deterministic.f k a1_0 l1_1 l1_2).bind fun t346 => (if t346 = true then ((petrinetref45_Reachable.f k a0_0 l0_1 l0_2).bind fun t347 => (if t347 = true then ((petrinetref45_Reachable.f k a1_0 l1_1 l1_2).bind fun t348 => (if t348 = true then (if a0_0 = a1_0 then (if (l0_1.length : Int) = (l1_1.length : Int) then (petrinetref45_Iso.j0 k ((l0_2.length : Int) != (l1_2.length : Int)) a0_0 l0_1 l0_2 a1_0 l1_1 l1_2) else (petrinetref45_Iso.j0 k true a0_0 l0_1 l0_2 a1_0 l1_1 l1_2)) else (petrinetref45_Iso.j0 k true a0_0 l0_1 l0_2 a1_0 l1_1 l1_2)) else (petrinetref45_Iso.j0 k true a0_0 l0_1 l0_2 a1_0 l1_1 l1_2))) else (petrinetref45_Iso.j0 k true a0_0 l0_1 l0_2 a1_0 l1_1 l1_2))) else (petrinetref45_Iso.j0 k true a0_0 l0_1 l0_2 a1_0 l1_1 l1_2))) else (petrinetref45_Iso.j0 k true a0_0 l0_1 l0_2 a1_0 l1_1 l1_2))) = some (r1, r2) := h
 clear h
 have HC3 := Aside0.mk H
 clear H
 go_enter Try.func19, Try.ntmps19
 go_upto_region 1 with (first | ((with_reducible refine gate_dst (N := 2) rfl ?_); (try (refine gate_guard (by rfl) ?_; dsimp only)); refine sq_box 2 #[.int .i64 a0_0, .slice A0_1 l0_1.length c0_1, .slice A0_2 l0_2.length c0_2] 25 ?_; intro gb343 hg w4 hbox hb; have n0_ := Aside0.mk (below_step (sq_bl HB.out) hb); have n1_ := Aside0.mk (hbox); have n2_ := Aside0.mk ((by rw [hg]; exact (below_size (sq_bl HB.out)) : w.heap.size ≤ gb343)); have n3_ := Aside0.mk ((by rw [hg]; exact (below_size (sq_bl HB.out)) : w.heap.size ≤ gb343)); clear HB; have HB := n0_; have BK343 := n1_; have GW343 := n2_; have GE343 := n3_; clear n0_ n1_ n2_ n3_; clear hb hbox hg) | ((with_reducible refine gate_dst (N := 3) rfl ?_); (try (refine gate_guard (by rfl) ?_; dsimp only)); refine sq_box 3 #[.int .i64 a1_0, .slice A1_1 l1_1.length c1_1, .slice A1_2 l1_2.length c1_2] 25 ?_; intro gb344 hg w5 hbox hb; have n0_ := Aside0.mk (blk_below (g := gb343) (o := .cells #[.int .i64 a0_0, .slice A0_1 l0_1.length c0_1, .slice A0_2 l0_2.length c0_2] 25 (0, 0)) (sq_bk BK343.out) hb); have n1_ := Aside0.mk (below_step (sq_bs HB.out) hb); have n2_ := Aside0.mk (hbox); have n3_ := Aside0.mk ((by rw [hg]; exact (below_size (sq_bs HB.out)) : w.heap.size ≤ gb344)); have n4_ := Aside0.mk ((by rw [hg]; exact (below_size (sq_bs HB.out)) : w.heap.size ≤ gb344)); have n5_ := Aside0.mk ((by rw [hg]; exact Nat.ne_of_lt (blk_lt (g := gb343) (o := .cells #[.int .i64 a0_0, .slice A0_1 l0_1.length c0_1, .slice A0_2 l0_2.length c0_2] 25 (0, 0)) (sq_bk BK343.out)) : gb343 ≠ gb344)); have n6_ := Aside0.mk ((by rw [hg]; exact Nat.ne_of_gt (blk_lt (g := gb343) (o := .cells #[.int .i64 a0_0, .slice A0_1 l0_1.length c0_1, .slice A0_2 l0_2.length c0_2] 25 (0, 0)) (sq_bk BK343.out)) : gb344 ≠ gb343)); clear BK343; clear HB; have BK343 := n0_; have HB := n1_; have BK344 := n2_; have GW344 := n3_; have GE344 := n4_; have NB343_344 := n5_; have NB344_343 := n6_; clear n0_ n1_ n2_ n3_ n4_ n5_ n6_; clear hb hbox hg))
 (try simp only [Act.put, List.setIfInBounds_toArray, List.set_cons_zero, List.set_cons_succ])
 go_cut [57] (fun v57 wc => ∃ (kq : Nat) (x57_2 : Bool), v57 = .bool x57_2 ∧ Aside0 (petrinetref45_Iso.j0 kq x57_2 a0_0 l0_1 l0_2 a1_0 l1_1 l1_2 = some (r1, r2)) ∧ Aside0 (kq ≤ k) ∧ Aside0 (wc.heap[gb343]? = some (.cells #[.int .i64 a0_0, (.slice A0_1 l0_1.length c0_1), (.slice A0_2 l0_2.length c0_2)] 25 (0, 0))) ∧ Aside0 (wc.heap[gb344]? = some (.cells #[.int .i64 a1_0, (.slice A1_1 l1_1.length c1_1), (.slice A1_2 l1_2.length c1_2)] 25 (0, 0))) ∧ Aside0 (Below w.heap.size w wc))
 case first =>
  have H := HC3.out
  clear HC3
  replace H := Option.bind_eq_some_iff.mp H
  obtain ⟨t345, A60, H⟩ := H
  replace H : (if t345 = true then ((petrinetref45_Deterministic.f k a1_0 l1_1 l1_2).bind fun t346 => (if t346 = true then ((petrinetref45_Reachable.f k a0_0 l0_1 l0_2).bind fun t347 => (if t347 = true then ((petrinetref45_Reachable.f k a1_0 l1_1 l1_2).bind fun t348 => (if t348 = true then (if a0_0 = a1_0 then (if (l0_1.length : Int) = (l1_1.length : Int) then (petrinetref45_Iso.j0 k ((l0_2.length : Int) != (l1_2.length : Int)) a0_0 l0_1 l0_2 a1_0 l1_1 l1_2) else (petrinetref45_Iso.j0 k true a0_0 l0_1 l0_2 a1_0 l1_1 l1_2)) else (petrinetref45_Iso.j0 k true a0_0 l0_1 l0_2 a1_0 l1_1 l1_2)) else (petrinetref45_Iso.j0 k true a0_0 l0_1 l0_2 a1_0 l1_1 l1_2))) else (petrinetref45_Iso.j0 k true a0_0 l0_1 l0_2 a1_0 l1_1 l1_2))) else (petrinetref45_Iso.j0 k true a0_0 l0_1 l0_2 a1_0 l1_1 l1_2))) else (petrinetref45_Iso.j0 k true a0_0 l0_1 l0_2 a1_0 l1_1 l1_2)) = some (r1, r2) := H
  have A6 := Aside0.mk A60
  clear A60
  by_cases c7 : t345 = true
  ·subst c7
   have H1 : ((petrinetref45_Deterministic.f k a1_0 l1_1 l1_2).bind fun t346 => (if t346 = true then ((petrinetref45_Reachable.f k a0_0 l0_1 l0_2).bind fun t347 => (if t347 = true then ((petrinetref45_Reachable.f k a1_0 l1_1 l1_2).bind fun t348 => (if t348 = true then (if a0_0 = a1_0 then (if (l0_1.length : Int) = (l1_1.length : Int) then (petrinetref45_Iso.j0 k ((l0_2.length : Int) != (l1_2.length : Int)) a0_0 l0_1 l0_2 a1_0 l1_1 l1_2) else (petrinetref45_Iso.j0 k true a0_0 l0_1 l0_2 a1_0 l1_1 l1_2)) else (petrinetref45_Iso.j0 k true a0_0 l0_1 l0_2 a1_0 l1_1 l1_2)) else (petrinetref45_Iso.j0 k true a0_0 l0_1 l0_2 a1_0 l1_1 l1_2))) else (petrinetref45_Iso.j0 k true a0_0 l0_1 l0_2 a1_0 l1_1 l1_2))) else (petrinetref45_Iso.j0 k true a0_0 l0_1 l0_2 a1_0 l1_1 l1_2))) = some (r1, r2) := by rw [if_pos rfl] at H; exact H
   clear H
   have H := H1
   clear H1
   replace H := Option.bind_eq_some_iff.mp H
   obtain ⟨t346, A80, H⟩ := H
   replace H : (if t346 = true then ((petrinetref45_Reachable.f k a0_0 l0_1 l0_2).bind fun t347 => (if t347 = true then ((petrinetref45_Reachable.f k a1_0 l1_1 l1_2).bind fun t348 => (if t348 = true then (if a0_0 = a1_0 then (if (l0_1.length : Int) = (l1_1.length : Int) then (petrinetref45_Iso.j0 k ((l0_2.length : Int) != (l1_2.length : Int)) a0_0 l0_1 l0_2 a1_0 l1_1 l1_2) else (petrinetref45_Iso.j0 k true a0_0 l0_1 l0_2 a1_0 l1_1 l1_2)) else (petrinetref45_Iso.j0 k true a0_0 l0_1 l0_2 a1_0 l1_1 l1_2)) else (petrinetref45_Iso.j0 k true a0_0 l0_1 l0_2 a1_0 l1_1 l1_2))) else (petrinetref45_Iso.j0 k true a0_0 l0_1 l0_2 a1_0 l1_1 l1_2))) else (petrinetref45_Iso.j0 k true a0_0 l0_1 l0_2 a1_0 l1_1 l1_2)) = some (r1, r2) := H
   have A8 := Aside0.mk A80
   clear A80
   by_cases c9 : t346 = true
   ·subst c9
    have H1 : ((petrinetref45_Reachable.f k a0_0 l0_1 l0_2).bind fun t347 => (if t347 = true then ((petrinetref45_Reachable.f k a1_0 l1_1 l1_2).bind fun t348 => (if t348 = true then (if a0_0 = a1_0 then (if (l0_1.length : Int) = (l1_1.length : Int) then (petrinetref45_Iso.j0 k ((l0_2.length : Int) != (l1_2.length : Int)) a0_0 l0_1 l0_2 a1_0 l1_1 l1_2) else (petrinetref45_Iso.j0 k true a0_0 l0_1 l0_2 a1_0 l1_1 l1_2)) else (petrinetref45_Iso.j0 k true a0_0 l0_1 l0_2 a1_0 l1_1 l1_2)) else (petrinetref45_Iso.j0 k true a0_0 l0_1 l0_2 a1_0 l1_1 l1_2))) else (petrinetref45_Iso.j0 k true a0_0 l0_1 l0_2 a1_0 l1_1 l1_2))) = some (r1, r2) := by rw [if_pos rfl] at H; exact H
    clear H
    have H := H1
    clear H1
    replace H := Option.bind_eq_some_iff.mp H
    obtain ⟨t347, A100, H⟩ := H
    replace H : (if t347 = true then ((petrinetref45_Reachable.f k a1_0 l1_1 l1_2).bind fun t348 => (if t348 = true then (if a0_0 = a1_0 then (if (l0_1.length : Int) = (l1_1.length : Int) then (petrinetref45_Iso.j0 k ((l0_2.length : Int) != (l1_2.length : Int)) a0_0 l0_1 l0_2 a1_0 l1_1 l1_2) else (petrinetref45_Iso.j0 k true a0_0 l0_1 l0_2 a1_0 l1_1 l1_2)) else (petrinetref45_Iso.j0 k true a0_0 l0_1 l0_2 a1_0 l1_1 l1_2)) else (petrinetref45_Iso.j0 k true a0_0 l0_1 l0_2 a1_0 l1_1 l1_2))) else (petrinetref45_Iso.j0 k true a0_0 l0_1 l0_2 a1_0 l1_1 l1_2)) = some (r1, r2) := H
    have A10 := Aside0.mk A100
    clear A100
    by_cases c11 : t347 = true
    ·subst c11
     have H1 : ((petrinetref45_Reachable.f k a1_0 l1_1 l1_2).bind fun t348 => (if t348 = true then (if a0_0 = a1_0 then (if (l0_1.length : Int) = (l1_1.length : Int) then (petrinetref45_Iso.j0 k ((l0_2.length : Int) != (l1_2.length : Int)) a0_0 l0_1 l0_2 a1_0 l1_1 l1_2) else (petrinetref45_Iso.j0 k true a0_0 l0_1 l0_2 a1_0 l1_1 l1_2)) else (petrinetref45_Iso.j0 k true a0_0 l0_1 l0_2 a1_0 l1_1 l1_2)) else (petrinetref45_Iso.j0 k true a0_0 l0_1 l0_2 a1_0 l1_1 l1_2))) = some (r1, r2) := by rw [if_pos rfl] at H; exact H
     clear H
     have H := H1
     clear H1
     replace H := Option.bind_eq_some_iff.mp H
     obtain ⟨t348, A120, H⟩ := H
     replace H : (if t348 = true then (if a0_0 = a1_0 then (if (l0_1.length : Int) = (l1_1.length : Int) then (petrinetref45_Iso.j0 k ((l0_2.length : Int) != (l1_2.length : Int)) a0_0 l0_1 l0_2 a1_0 l1_1 l1_2) else (petrinetref45_Iso.j0 k true a0_0 l0_1 l0_2 a1_0 l1_1 l1_2)) else (petrinetref45_Iso.j0 k true a0_0 l0_1 l0_2 a1_0 l1_1 l1_2)) else (petrinetref45_Iso.j0 k true a0_0 l0_1 l0_2 a1_0 l1_1 l1_2)) = some (r1, r2) := H
     have A12 := Aside0.mk A120
     clear A120
     by_cases c13 : t348 = true
     ·subst c13
      have H1 : (if a0_0 = a1_0 then (if (l0_1.length : Int) = (l1_1.length : Int) then (petrinetref45_Iso.j0 k ((l0_2.length : Int) != (l1_2.length : Int)) a0_0 l0_1 l0_2 a1_0 l1_1 l1_2) else (petrinetref45_Iso.j0 k true a0_0 l0_1 l0_2 a1_0 l1_1 l1_2)) else (petrinetref45_Iso.j0 k true a0_0 l0_1 l0_2 a1_0 l1_1 l1_2)) = some (r1, r2) := by rw [if_pos rfl] at H; exact H
      clear H
      have H := H1
      clear H1
      have HH_ := Aside0.mk H
      clear H
      have hnb16 := NB343_344.out
      have hnc16 := NB344_343.out
      have hcz17_0 : w5.cell? ⟨gb343, 0, none⟩ = some (.int .i64 a0_0) := (blk_cell BK343.out 0).trans rfl
      have hcz17_1 : w5.cell? ⟨gb343, 1, none⟩ = some (.slice A0_1 l0_1.length c0_1) := (blk_cell BK343.out 1).trans rfl
      have hcz17_2 : w5.cell? ⟨gb343, 2, none⟩ = some (.slice A0_2 l0_2.length c0_2) := (blk_cell BK343.out 2).trans rfl
      have hfz17_0 := blk_frozen BK343.out 0
      have hfz17_1 := blk_frozen BK343.out 1
      have hfz17_2 := blk_frozen BK343.out 2
      have H := HH_.out
      clear HH_
      by_cases c14 : a0_0 = a1_0
      ·rw [if_pos c14] at H
       have c14b0 : (a0_0 == a1_0) = true := beq_iff_eq.mpr c14
       have c14b1 : (a0_0 != a1_0) = false := bne_eq_false_iff_eq.mpr c14
       clear c14
       (first | rw [c14b0] | (simp only [i64_w, i32_w]; rw [c14b0]) | skip)
       by_cases c15 : (l0_1.length : Int) = (l1_1.length : Int)
       ·rw [if_pos c15] at H
        have c15b0 : ((l0_1.length : Int) == (l1_1.length : Int)) = true := beq_iff_eq.mpr c15
        have c15b1 : ((l0_1.length : Int) != (l1_1.length : Int)) = false := bne_eq_false_iff_eq.mpr c15
        have c15b2 : (l0_1.length == l1_1.length) = true := by first | simpa using c15 | (simp at c15 ⊢; omega)
        clear c15
        have H' := Aside0.mk H
        clear H
        go_wp2_with (first | ((with_reducible refine gate_callee (f := 13) rfl ?_); refine sq_goes (some 16) Try.func13 #[.agg #[.int .i64 a0_0, .slice A0_1 l0_1.length c0_1, .slice A0_2 l0_2.length c0_2]] ?_; (with_reducible refine (petrinetref45_Deterministic.calls k a0_0 _ _ l0_1 _ _ l0_2 true _ ?side1 ?side2 ?side3 ?side4 A6.out).mono ?_); (case side1 => exact sq_kc ((Kd.C_below HR0_1.out HB.out))); (case side2 => exact HC0_1.out); (case side3 => exact sq_kc ((Kd.C_below HR0_2.out HB.out))); (case side4 => exact HC0_2.out); rintro e w18 ⟨rfl, hb⟩; refine ⟨_, rfl, ?_⟩; have n0_ := Aside0.mk (blk_below (g := gb343) (o := .cells #[.int .i64 a0_0, .slice A0_1 l0_1.length c0_1, .slice A0_2 l0_2.length c0_2] 25 (0, 0)) (sq_bk BK343.out) hb); have n1_ := Aside0.mk (blk_below (g := gb344) (o := .cells #[.int .i64 a1_0, .slice A1_1 l1_1.length c1_1, .slice A1_2 l1_2.length c1_2] 25 (0, 0)) (sq_bk BK344.out) hb); have n2_ := Aside0.mk (below_step (sq_bs HB.out) hb); clear BK343; clear BK344; clear HB; have BK343 := n0_; have BK344 := n1_; have HB := n2_; clear n0_ n1_ n2_; (try clear hb); have hcz19_0 : w18.cell? ⟨gb344, 0, none⟩ = some (.int .i64 a1_0) := (blk_cell BK344.out 0).trans rfl; have hcz19_1 : w18.cell? ⟨gb344, 1, none⟩ = some (.slice A1_1 l1_1.length c1_1) := (blk_cell BK344.out 1).trans rfl; have hcz19_2 : w18.cell? ⟨gb344, 2, none⟩ = some (.slice A1_2 l1_2.length c1_2) := (blk_cell BK344.out 2).trans rfl; have hfz19_0 := blk_frozen BK344.out 0; have hfz19_1 := blk_frozen BK344.out 1; have hfz19_2 := blk_frozen BK344.out 2) | (go_at_call 13; (with_reducible refine (petrinetref45_Deterministic.calls k a1_0 _ _ l1_1 _ _ l1_2 true _ ?side1 ?side2 ?side3 ?side4 A8.out).mono ?_); (case side1 => exact sq_kc ((Kd.C_below HR1_1.out HB.out))); (case side2 => exact HC1_1.out); (case side3 => exact sq_kc ((Kd.C_below HR1_2.out HB.out))); (case side4 => exact HC1_2.out); rintro e w20 ⟨rfl, hb⟩; have n0_ := Aside0.mk (blk_below (g := gb343) (o := .cells #[.int .i64 a0_0, .slice A0_1 l0_1.length c0_1, .slice A0_2 l0_2.length c0_2] 25 (0, 0)) (sq_bk BK343.out) hb); have n1_ := Aside0.mk (blk_below (g := gb344) (o := .cells #[.int .i64 a1_0, .slice A1_1 l1_1.length c1_1, .slice A1_2 l1_2.length c1_2] 25 (0, 0)) (sq_bk BK344.out) hb); have n2_ := Aside0.mk (below_step (sq_bs HB.out) hb); clear BK343; clear BK344; clear HB; have BK343 := n0_; have BK344 := n1_; have HB := n2_; clear n0_ n1_ n2_; (try clear hb); have hcz21_0 : w20.cell? ⟨gb343, 0, none⟩ = some (.int .i64 a0_0) := (blk_cell BK343.out 0).trans rfl; have hcz21_1 : w20.cell? ⟨gb343, 1, none⟩ = some (.slice A0_1 l0_1.length c0_1) := (blk_cell BK343.out 1).trans rfl; have hcz21_2 : w20.cell? ⟨gb343, 2, none⟩ = some (.slice A0_2 l0_2.length c0_2) := (blk_cell BK343.out 2).trans rfl; have hfz21_0 := blk_frozen BK343.out 0; have hfz21_1 := blk_frozen BK343.out 1; have hfz21_2 := blk_frozen BK343.out 2) | (go_at_call 15; (with_reducible refine (petrinetref45_Reachable.calls k a0_0 _ _ l0_1 _ _ l0_2 true _ ?side1 ?side2 ?side3 ?side4 A10.out).mono ?_); (case side1 => exact sq_kc ((Kd.C_below HR0_1.out HB.out))); (case side2 => exact HC0_1.out); (case side3 => exact sq_kc ((Kd.C_below HR0_2.out HB.out))); (case side4 => exact HC0_2.out); rintro e w22 ⟨rfl, hb⟩; have n0_ := Aside0.mk (blk_below (g := gb343) (o := .cells #[.int .i64 a0_0, .slice A0_1 l0_1.length c0_1, .slice A0_2 l0_2.length c0_2] 25 (0, 0)) (sq_bk BK343.out) hb); have n1_ := Aside0.mk (blk_below (g := gb344) (o := .cells #[.int .i64 a1_0, .slice A1_1 l1_1.length c1_1, .slice A1_2 l1_2.length c1_2] 25 (0, 0)) (sq_bk BK344.out) hb); have n2_ := Aside0.mk (below_step (sq_bs HB.out) hb); clear BK343; clear BK344; clear HB; have BK343 := n0_; have BK344 := n1_; have HB := n2_; clear n0_ n1_ n2_; (try clear hb); have hcz23_0 : w22.cell? ⟨gb344, 0, none⟩ = some (.int .i64 a1_0) := (blk_cell BK344.out 0).trans rfl; have hcz23_1 : w22.cell? ⟨gb344, 1, none⟩ = some (.slice A1_1 l1_1.length c1_1) := (blk_cell BK344.out 1).trans rfl; have hcz23_2 : w22.cell? ⟨gb344, 2, none⟩ = some (.slice A1_2 l1_2.length c1_2) := (blk_cell BK344.out 2).trans rfl; have hfz23_0 := blk_frozen BK344.out 0; have hfz23_1 := blk_frozen BK344.out 1; have hfz23_2 := blk_frozen BK344.out 2) | (go_at_call 15; (with_reducible refine (petrinetref45_Reachable.calls k a1_0 _ _ l1_1 _ _ l1_2 true _ ?side1 ?side2 ?side3 ?side4 A12.out).mono ?_); (case side1 => exact sq_kc ((Kd.C_below HR1_1.out HB.out))); (case side2 => exact HC1_1.out); (case side3 => exact sq_kc ((Kd.C_below HR1_2.out HB.out))); (case side4 => exact HC1_2.out); rintro e w24 ⟨rfl, hb⟩; have n0_ := Aside0.mk (blk_below (g := gb343) (o := .cells #[.int .i64 a0_0, .slice A0_1 l0_1.length c0_1, .slice A0_2 l0_2.length c0_2] 25 (0, 0)) (sq_bk BK343.out) hb); have n1_ := Aside0.mk (blk_below (g := gb344) (o := .cells #[.int .i64 a1_0, .slice A1_1 l1_1.length c1_1, .slice A1_2 l1_2.length c1_2] 25 (0, 0)) (sq_bk BK344.out) hb); have n2_ := Aside0.mk (below_step (sq_bs HB.out) hb); clear BK343; clear BK344; clear HB; have BK343 := n0_; have BK344 := n1_; have HB := n2_; clear n0_ n1_ n2_; (try clear hb); have hcz25_0 : w24.cell? ⟨gb343, 0, none⟩ = some (.int .i64 a0_0) := (blk_cell BK343.out 0).trans rfl; have hcz25_1 : w24.cell? ⟨gb343, 1, none⟩ = some (.slice A0_1 l0_1.length c0_1) := (blk_cell BK343.out 1).trans rfl; have hcz25_2 : w24.cell? ⟨gb343, 2, none⟩ = some (.slice A0_2 l0_2.length c0_2) := (blk_cell BK343.out 2).trans rfl; have hfz25_0 := blk_frozen BK343.out 0; have hfz25_1 := blk_frozen BK343.out 1; have hfz25_2 := blk_frozen BK343.out 2; have hcz26_0 : w24.cell? ⟨gb344, 0, none⟩ = some (.int .i64 a1_0) := (blk_cell BK344.out 0).trans rfl; have hcz26_1 : w24.cell? ⟨gb344, 1, none⟩ = some (.slice A1_1 l1_1.length c1_1) := (blk_cell BK344.out 1).trans rfl; have hcz26_2 : w24.cell? ⟨gb344, 2, none⟩ = some (.slice A1_2 l1_2.length c1_2) := (blk_cell BK344.out 2).trans rfl; have hfz26_0 := blk_frozen BK344.out 0; have hfz26_1 := blk_frozen BK344.out 1; have hfz26_2 := blk_frozen BK344.out 2))
        go_meet
        case rel => exact ⟨_, (((l0_2.length : Int) != (l1_2.length : Int))), (by first | rfl | (simp; done) | (simp [*]; done)), H', ⟨by first | omega | exact Nat.le_refl _⟩, ⟨sq_bk BK343.out⟩, ⟨sq_bk BK344.out⟩, ⟨sq_bs HB.out⟩⟩
       ·rw [if_neg c15] at H
        have c15b0 : ((l0_1.length : Int) == (l1_1.length : Int)) = false := beq_eq_false_iff_ne.mpr c15
        have c15b1 : ((l0_1.length : Int) != (l1_1.length : Int)) = true := bne_iff_ne.mpr c15
        have c15b2 : (l0_1.length == l1_1.length) = false := by first | simpa using c15 | (simp at c15 ⊢; omega)
        have H' := Aside0.mk H
        clear H
        go_wp2_with (first | ((with_reducible refine gate_callee (f := 13) rfl ?_); refine sq_goes (some 16) Try.func13 #[.agg #[.int .i64 a0_0, .slice A0_1 l0_1.length c0_1, .slice A0_2 l0_2.length c0_2]] ?_; (with_reducible refine (petrinetref45_Deterministic.calls k a0_0 _ _ l0_1 _ _ l0_2 true _ ?side1 ?side2 ?side3 ?side4 A6.out).mono ?_); (case side1 => exact sq_kc ((Kd.C_below HR0_1.out HB.out))); (case side2 => exact HC0_1.out); (case side3 => exact sq_kc ((Kd.C_below HR0_2.out HB.out))); (case side4 => exact HC0_2.out); rintro e w29 ⟨rfl, hb⟩; refine ⟨_, rfl, ?_⟩; have n0_ := Aside0.mk (blk_below (g := gb343) (o := .cells #[.int .i64 a0_0, .slice A0_1 l0_1.length c0_1, .slice A0_2 l0_2.length c0_2] 25 (0, 0)) (sq_bk BK343.out) hb); have n1_ := Aside0.mk (blk_below (g := gb344) (o := .cells #[.int .i64 a1_0, .slice A1_1 l1_1.length c1_1, .slice A1_2 l1_2.length c1_2] 25 (0, 0)) (sq_bk BK344.out) hb); have n2_ := Aside0.mk (below_step (sq_bs HB.out) hb); clear BK343; clear BK344; clear HB; have BK343 := n0_; have BK344 := n1_; have HB := n2_; clear n0_ n1_ n2_; (try clear hb); have hcz30_0 : w29.cell? ⟨gb344, 0, none⟩ = some (.int .i64 a1_0) := (blk_cell BK344.out 0).trans rfl; have hcz30_1 : w29.cell? ⟨gb344, 1, none⟩ = some (.slice A1_1 l1_1.length c1_1) := (blk_cell BK344.out 1).trans rfl; have hcz30_2 : w29.cell? ⟨gb344, 2, none⟩ = some (.slice A1_2 l1_2.length c1_2) := (blk_cell BK344.out 2).trans rfl; have hfz30_0 := blk_frozen BK344.out 0; have hfz30_1 := blk_frozen BK344.out 1; have hfz30_2 := blk_frozen BK344.out 2) | (go_at_call 13; (with_reducible refine (petrinetref45_Deterministic.calls k a1_0 _ _ l1_1 _ _ l1_2 true _ ?side1 ?side2 ?side3 ?side4 A8.out).mono ?_); (case side1 => exact sq_kc ((Kd.C_below HR1_1.out HB.out))); (case side2 => exact HC1_1.out); (case side3 => exact sq_kc ((Kd.C_below HR1_2.out HB.out))); (case side4 => exact HC1_2.out); rintro e w31 ⟨rfl, hb⟩; have n0_ := Aside0.mk (blk_below (g := gb343) (o := .cells #[.int .i64 a0_0, .slice A0_1 l0_1.length c0_1, .slice A0_2 l0_2.length c0_2] 25 (0, 0)) (sq_bk BK343.out) hb); have n1_ := Aside0.mk (blk_below (g := gb344) (o := .cells #[.int .i64 a1_0, .slice A1_1 l1_1.length c1_1, .slice A1_2 l1_2.length c1_2] 25 (0, 0)) (sq_bk BK344.out) hb); have n2_ := Aside0.mk (below_step (sq_bs HB.out) hb); clear BK343; clear BK344; clear HB; have BK343 := n0_; have BK344 := n1_; have HB := n2_; clear n0_ n1_ n2_; (try clear hb); have hcz32_0 : w31.cell? ⟨gb343, 0, none⟩ = some (.int .i64 a0_0) := (blk_cell BK343.out 0).trans rfl; have hcz32_1 : w31.cell? ⟨gb343, 1, none⟩ = some (.slice A0_1 l0_1.length c0_1) := (blk_cell BK343.out 1).trans rfl; have hcz32_2 : w31.cell? ⟨gb343, 2, none⟩ = some (.slice A0_2 l0_2.length c0_2) := (blk_cell BK343.out 2).trans rfl; have hfz32_0 := blk_frozen BK343.out 0; have hfz32_1 := blk_frozen BK343.out 1; have hfz32_2 := blk_frozen BK343.out 2) | (go_at_call 15; (with_reducible refine (petrinetref45_Reachable.calls k a0_0 _ _ l0_1 _ _ l0_2 true _ ?side1 ?side2 ?side3 ?side4 A10.out).mono ?_); (case side1 => exact sq_kc ((Kd.C_below HR0_1.out HB.out))); (case side2 => exact HC0_1.out); (case side3 => exact sq_kc ((Kd.C_below HR0_2.out HB.out))); (case side4 => exact HC0_2.out); rintro e w33 ⟨rfl, hb⟩; have n0_ := Aside0.mk (blk_below (g := gb343) (o := .cells #[.int .i64 a0_0, .slice A0_1 l0_1.length c0_1, .slice A0_2 l0_2.length c0_2] 25 (0, 0)) (sq_bk BK343.out) hb); have n1_ := Aside0.mk (blk_below (g := gb344) (o := .cells #[.int .i64 a1_0, .slice A1_1 l1_1.length c1_1, .slice A1_2 l1_2.length c1_2] 25 (0, 0)) (sq_bk BK344.out) hb); have n2_ := Aside0.mk (below_step (sq_bs HB.out) hb); clear BK343; clear BK344; clear HB; have BK343 := n0_; have BK344 := n1_; have HB := n2_; clear n0_ n1_ n2_; (try clear hb); have hcz34_0 : w33.cell? ⟨gb344, 0, none⟩ = some (.int .i64 a1_0) := (blk_cell BK344.out 0).trans rfl; have hcz34_1 : w33.cell? ⟨gb344, 1, none⟩ = some (.slice A1_1 l1_1.length c1_1) := (blk_cell BK344.out 1).trans rfl; have hcz34_2 : w33.cell? ⟨gb344, 2, none⟩ = some (.slice A1_2 l1_2.length c1_2) := (blk_cell BK344.out 2).trans rfl; have hfz34_0 := blk_frozen BK344.out 0; have hfz34_1 := blk_frozen BK344.out 1; have hfz34_2 := blk_frozen BK344.out 2) | (go_at_call 15; (with_reducible refine (petrinetref45_Reachable.calls k a1_0 _ _ l1_1 _ _ l1_2 true _ ?side1 ?side2 ?side3 ?side4 A12.out).mono ?_); (case side1 => exact sq_kc ((Kd.C_below HR1_1.out HB.out))); (case side2 => exact HC1_1.out); (case side3 => exact sq_kc ((Kd.C_below HR1_2.out HB.out))); (case side4 => exact HC1_2.out); rintro e w35 ⟨rfl, hb⟩; have n0_ := Aside0.mk (blk_below (g := gb343) (o := .cells #[.int .i64 a0_0, .slice A0_1 l0_1.length c0_1, .slice A0_2 l0_2.length c0_2] 25 (0, 0)) (sq_bk BK343.out) hb); have n1_ := Aside0.mk (blk_below (g := gb344) (o := .cells #[.int .i64 a1_0, .slice A1_1 l1_1.length c1_1, .slice A1_2 l1_2.length c1_2] 25 (0, 0)) (sq_bk BK344.out) hb); have n2_ := Aside0.mk (below_step (sq_bs HB.out) hb); clear BK343; clear BK344; clear HB; have BK343 := n0_; have BK344 := n1_; have HB := n2_; clear n0_ n1_ n2_; (try clear hb); have hcz36_0 : w35.cell? ⟨gb343, 0, none⟩ = some (.int .i64 a0_0) := (blk_cell BK343.out 0).trans rfl; have hcz36_1 : w35.cell? ⟨gb343, 1, none⟩ = some (.slice A0_1 l0_1.length c0_1) := (blk_cell BK343.out 1).trans rfl; have hcz36_2 : w35.cell? ⟨gb343, 2, none⟩ = some (.slice A0_2 l0_2.length c0_2) := (blk_cell BK343.out 2).trans rfl; have hfz36_0 := blk_frozen BK343.out 0; have hfz36_1 := blk_frozen BK343.out 1; have hfz36_2 := blk_frozen BK343.out 2; have hcz37_0 : w35.cell? ⟨gb344, 0, none⟩ = some (.int .i64 a1_0) := (blk_cell BK344.out 0).trans rfl; have hcz37_1 : w35.cell? ⟨gb344, 1, none⟩ = some (.slice A1_1 l1_1.length c1_1) := (blk_cell BK344.out 1).trans rfl; have hcz37_2 : w35.cell? ⟨gb344, 2, none⟩ = some (.slice A1_2 l1_2.length c1_2) := (blk_cell BK344.out 2).trans rfl; have hfz37_0 := blk_frozen BK344.out 0; have hfz37_1 := blk_frozen BK344.out 1; have hfz37_2 := blk_frozen BK344.out 2))
        go_meet
        case rel => exact ⟨_, (true), (by first | rfl | (simp; done) | (simp [*]; done)), H', ⟨by first | omega | exact Nat.le_refl _⟩, ⟨sq_bk BK343.out⟩, ⟨sq_bk BK344.out⟩, ⟨sq_bs HB.out⟩⟩
      ·rw [if_neg c14] at H
       have c14b0 : (a0_0 == a1_0) = false := beq_eq_false_iff_ne.mpr c14
       have c14b1 : (a0_0 != a1_0) = true := bne_iff_ne.mpr c14
       (first | rw [c14b0] | (simp only [i64_w, i32_w]; rw [c14b0]) | skip)
       have H' := Aside0.mk H
       clear H
       go_wp2_with (first | ((with_reducible refine gate_callee (f := 13) rfl ?_); refine sq_goes (some 16) Try.func13 #[.agg #[.int .i64 a0_0, .slice A0_1 l0_1.length c0_1, .slice A0_2 l0_2.length c0_2]] ?_; (with_reducible refine (petrinetref45_Deterministic.calls k a0_0 _ _ l0_1 _ _ l0_2 true _ ?side1 ?side2 ?side3 ?side4 A6.out).mono ?_); (case side1 => exact sq_kc ((Kd.C_below HR0_1.out HB.out))); (case side2 => exact HC0_1.out); (case side3 => exact sq_kc ((Kd.C_below HR0_2.out HB.out))); (case side4 => exact HC0_2.out); rintro e w40 ⟨rfl, hb⟩; refine ⟨_, rfl, ?_⟩; have n0_ := Aside0.mk (blk_below (g := gb343) (o := .cells #[.int .i64 a0_0, .slice A0_1 l0_1.length c0_1, .slice A0_2 l0_2.length c0_2] 25 (0, 0)) (sq_bk BK343.out) hb); have n1_ := Aside0.mk (blk_below (g := gb344) (o := .cells #[.int .i64 a1_0, .slice A1_1 l1_1.length c1_1, .slice A1_2 l1_2.length c1_2] 25 (0, 0)) (sq_bk BK344.out) hb); have n2_ := Aside0.mk (below_step (sq_bs HB.out) hb); clear BK343; clear BK344; clear HB; have BK343 := n0_; have BK344 := n1_; have HB := n2_; clear n0_ n1_ n2_; (try clear hb); have hcz41_0 : w40.cell? ⟨gb344, 0, none⟩ = some (.int .i64 a1_0) := (blk_cell BK344.out 0).trans rfl; have hcz41_1 : w40.cell? ⟨gb344, 1, none⟩ = some (.slice A1_1 l1_1.length c1_1) := (blk_cell BK344.out 1).trans rfl; have hcz41_2 : w40.cell? ⟨gb344, 2, none⟩ = some (.slice A1_2 l1_2.length c1_2) := (blk_cell BK344.out 2).trans rfl; have hfz41_0 := blk_frozen BK344.out 0; have hfz41_1 := blk_frozen BK344.out 1; have hfz41_2 := blk_frozen BK344.out 2) | (go_at_call 13; (with_reducible refine (petrinetref45_Deterministic.calls k a1_0 _ _ l1_1 _ _ l1_2 true _ ?side1 ?side2 ?side3 ?side4 A8.out).mono ?_); (case side1 => exact sq_kc ((Kd.C_below HR1_1.out HB.out))); (case side2 => exact HC1_1.out); (case side3 => exact sq_kc ((Kd.C_below HR1_2.out HB.out))); (case side4 => exact HC1_2.out); rintro e w42 ⟨rfl, hb⟩; have n0_ := Aside0.mk (blk_below (g := gb343) (o := .cells #[.int .i64 a0_0, .slice A0_1 l0_1.length c0_1, .slice A0_2 l0_2.length c0_2] 25 (0, 0)) (sq_bk BK343.out) hb); have n1_ := Aside0.mk (blk_below (g := gb344) (o := .cells #[.int .i64 a1_0, .slice A1_1 l1_1.length c1_1, .slice A1_2 l1_2.length c1_2] 25 (0, 0)) (sq_bk BK344.out) hb); have n2_ := Aside0.mk (below_step (sq_bs HB.out) hb); clear BK343; clear BK344; clear HB; have BK343 := n0_; have BK344 := n1_; have HB := n2_; clear n0_ n1_ n2_; (try clear hb); have hcz43_0 : w42.cell? ⟨gb343, 0, none⟩ = some (.int .i64 a0_0) := (blk_cell BK343.out 0).trans rfl; have hcz43_1 : w42.cell? ⟨gb343, 1, none⟩ = some (.slice A0_1 l0_1.length c0_1) := (blk_cell BK343.out 1).trans rfl; have hcz43_2 : w42.cell? ⟨gb343, 2, none⟩ = some (.slice A0_2 l0_2.length c0_2) := (blk_cell BK343.out 2).trans rfl; have hfz43_0 := blk_frozen BK343.out 0; have hfz43_1 := blk_frozen BK343.out 1; have hfz43_2 := blk_frozen BK343.out 2) | (go_at_call 15; (with_reducible refine (petrinetref45_Reachable.calls k a0_0 _ _ l0_1 _ _ l0_2 true _ ?side1 ?side2 ?side3 ?side4 A10.out).mono ?_); (case side1 => exact sq_kc ((Kd.C_below HR0_1.out HB.out))); (case side2 => exact HC0_1.out); (case side3 => exact sq_kc ((Kd.C_below HR0_2.out HB.out))); (case side4 => exact HC0_2.out); rintro e w44 ⟨rfl, hb⟩; have n0_ := Aside0.mk (blk_below (g := gb343) (o := .cells #[.int .i64 a0_0, .slice A0_1 l0_1.length c0_1, .slice A0_2 l0_2.length c0_2] 25 (0, 0)) (sq_bk BK343.out) hb); have n1_ := Aside0.mk (blk_below (g := gb344) (o := .cells #[.int .i64 a1_0, .slice A1_1 l1_1.length c1_1, .slice A1_2 l1_2.length c1_2] 25 (0, 0)) (sq_bk BK344.out) hb); have n2_ := Aside0.mk (below_step (sq_bs HB.out) hb); clear BK343; clear BK344; clear HB; have BK343 := n0_; have BK344 := n1_; have HB := n2_; clear n0_ n1_ n2_; (try clear hb); have hcz45_0 : w44.cell? ⟨gb344, 0, none⟩ = some (.int .i64 a1_0) := (blk_cell BK344.out 0).trans rfl; have hcz45_1 : w44.cell? ⟨gb344, 1, none⟩ = some (.slice A1_1 l1_1.length c1_1) := (blk_cell BK344.out 1).trans rfl; have hcz45_2 : w44.cell? ⟨gb344, 2, none⟩ = some (.slice A1_2 l1_2.length c1_2) := (blk_cell BK344.out 2).trans rfl; have hfz45_0 := blk_frozen BK344.out 0; have hfz45_1 := blk_frozen BK344.out 1; have hfz45_2 := blk_frozen BK344.out 2) | (go_at_call 15; (with_reducible refine (petrinetref45_Reachable.calls k a1_0 _ _ l1_1 _ _ l1_2 true _ ?side1 ?side2 ?side3 ?side4 A12.out).mono ?_); (case side1 => exact sq_kc ((Kd.C_below HR1_1.out HB.out))); (case side2 => exact HC1_1.out); (case side3 => exact sq_kc ((Kd.C_below HR1_2.out HB.out))); (case side4 => exact HC1_2.out); rintro e w46 ⟨rfl, hb⟩; have n0_ := Aside0.mk (blk_below (g := gb343) (o := .cells #[.int .i64 a0_0, .slice A0_1 l0_1.length c0_1, .slice A0_2 l0_2.length c0_2] 25 (0, 0)) (sq_bk BK343.out) hb); have n1_ := Aside0.mk (blk_below (g := gb344) (o := .cells #[.int .i64 a1_0, .slice A1_1 l1_1.length c1_1, .slice A1_2 l1_2.length c1_2] 25 (0, 0)) (sq_bk BK344.out) hb); have n2_ := Aside0.mk (below_step (sq_bs HB.out) hb); clear BK343; clear BK344; clear HB; have BK343 := n0_; have BK344 := n1_; have HB := n2_; clear n0_ n1_ n2_; (try clear hb); have hcz47_0 : w46.cell? ⟨gb343, 0, none⟩ = some (.int .i64 a0_0) := (blk_cell BK343.out 0).trans rfl; have hcz47_1 : w46.cell? ⟨gb343, 1, none⟩ = some (.slice A0_1 l0_1.length c0_1) := (blk_cell BK343.out 1).trans rfl; have hcz47_2 : w46.cell? ⟨gb343, 2, none⟩ = some (.slice A0_2 l0_2.length c0_2) := (blk_cell BK343.out 2).trans rfl; have hfz47_0 := blk_frozen BK343.out 0; have hfz47_1 := blk_frozen BK343.out 1; have hfz47_2 := blk_frozen BK343.out 2; have hcz48_0 : w46.cell? ⟨gb344, 0, none⟩ = some (.int .i64 a1_0) := (blk_cell BK344.out 0).trans rfl; have hcz48_1 : w46.cell? ⟨gb344, 1, none⟩ = some (.slice A1_1 l1_1.length c1_1) := (blk_cell BK344.out 1).trans rfl; have hcz48_2 : w46.cell? ⟨gb344, 2, none⟩ = some (.slice A1_2 l1_2.length c1_2) := (blk_cell BK344.out 2).trans rfl; have hfz48_0 := blk_frozen BK344.out 0; have hfz48_1 := blk_frozen BK344.out 1; have hfz48_2 := blk_frozen BK344.out 2))
       go_meet
       case rel => exact ⟨_, (true), (by first | rfl | (simp; done) | (simp [*]; done)), H', ⟨by first | omega | exact Nat.le_refl _⟩, ⟨sq_bk BK343.out⟩, ⟨sq_bk BK344.out⟩, ⟨sq_bs HB.out⟩⟩
     ·replace c13 := Bool.eq_false_iff.mpr c13
      subst c13
      have H1 : (petrinetref45_Iso.j0 k true a0_0 l0_1 l0_2 a1_0 l1_1 l1_2) = some (r1, r2) := by rw [if_neg (show ¬ (false = true) by decide)] at H; exact H
      clear H
      have H := H1
      clear H1
      have H' := Aside0.mk H
      clear H
      have hnb49 := NB343_344.out
      have hnc49 := NB344_343.out
      have hcz50_0 : w5.cell? ⟨gb343, 0, none⟩ = some (.int .i64 a0_0) := (blk_cell BK343.out 0).trans rfl
      have hcz50_1 : w5.cell? ⟨gb343, 1, none⟩ = some (.slice A0_1 l0_1.length c0_1) := (blk_cell BK343.out 1).trans rfl
      have hcz50_2 : w5.cell? ⟨gb343, 2, none⟩ = some (.slice A0_2 l0_2.length c0_2) := (blk_cell BK343.out 2).trans rfl
      have hfz50_0 := blk_frozen BK343.out 0
      have hfz50_1 := blk_frozen BK343.out 1
      have hfz50_2 := blk_frozen BK343.out 2
      go_wp2_with (first | ((with_reducible refine gate_callee (f := 13) rfl ?_); refine sq_goes (some 16) Try.func13 #[.agg #[.int .i64 a0_0, .slice A0_1 l0_1.length c0_1, .slice A0_2 l0_2.length c0_2]] ?_; (with_reducible refine (petrinetref45_Deterministic.calls k a0_0 _ _ l0_1 _ _ l0_2 true _ ?side1 ?side2 ?side3 ?side4 A6.out).mono ?_); (case side1 => exact sq_kc ((Kd.C_below HR0_1.out HB.out))); (case side2 => exact HC0_1.out); (case side3 => exact sq_kc ((Kd.C_below HR0_2.out HB.out))); (case side4 => exact HC0_2.out); rintro e w51 ⟨rfl, hb⟩; refine ⟨_, rfl, ?_⟩; have n0_ := Aside0.mk (blk_below (g := gb343) (o := .cells #[.int .i64 a0_0, .slice A0_1 l0_1.length c0_1, .slice A0_2 l0_2.length c0_2] 25 (0, 0)) (sq_bk BK343.out) hb); have n1_ := Aside0.mk (blk_below (g := gb344) (o := .cells #[.int .i64 a1_0, .slice A1_1 l1_1.length c1_1, .slice A1_2 l1_2.length c1_2] 25 (0, 0)) (sq_bk BK344.out) hb); have n2_ := Aside0.mk (below_step (sq_bs HB.out) hb); clear BK343; clear BK344; clear HB; have BK343 := n0_; have BK344 := n1_; have HB := n2_; clear n0_ n1_ n2_; (try clear hb); have hcz52_0 : w51.cell? ⟨gb344, 0, none⟩ = some (.int .i64 a1_0) := (blk_cell BK344.out 0).trans rfl; have hcz52_1 : w51.cell? ⟨gb344, 1, none⟩ = some (.slice A1_1 l1_1.length c1_1) := (blk_cell BK344.out 1).trans rfl; have hcz52_2 : w51.cell? ⟨gb344, 2, none⟩ = some (.slice A1_2 l1_2.length c1_2) := (blk_cell BK344.out 2).trans rfl; have hfz52_0 := blk_frozen BK344.out 0; have hfz52_1 := blk_frozen BK344.out 1; have hfz52_2 := blk_frozen BK344.out 2) | (go_at_call 13; (with_reducible refine (petrinetref45_Deterministic.calls k a1_0 _ _ l1_1 _ _ l1_2 true _ ?side1 ?side2 ?side3 ?side4 A8.out).mono ?_); (case side1 => exact sq_kc ((Kd.C_below HR1_1.out HB.out))); (case side2 => exact HC1_1.out); (case side3 => exact sq_kc ((Kd.C_below HR1_2.out HB.out))); (case side4 => exact HC1_2.out); rintro e w53 ⟨rfl, hb⟩; have n0_ := Aside0.mk (blk_below (g := gb343) (o := .cells #[.int .i64 a0_0, .slice A0_1 l0_1.length c0_1, .slice A0_2 l0_2.length c0_2] 25 (0, 0)) (sq_bk BK343.out) hb); have n1_ := Aside0.mk (blk_below (g := gb344) (o := .cells #[.int .i64 a1_0, .slice A1_1 l1_1.length c1_1, .slice A1_2 l1_2.length c1_2] 25 (0, 0)) (sq_bk BK344.out) hb); have n2_ := Aside0.mk (below_step (sq_bs HB.out) hb); clear BK343; clear BK344; clear HB; have BK343 := n0_; have BK344 := n1_; have HB := n2_; clear n0_ n1_ n2_; (try clear hb); have hcz54_0 : w53.cell? ⟨gb343, 0, none⟩ = some (.int .i64 a0_0) := (blk_cell BK343.out 0).trans rfl; have hcz54_1 : w53.cell? ⟨gb343, 1, none⟩ = some (.slice A0_1 l0_1.length c0_1) := (blk_cell BK343.out 1).trans rfl; have hcz54_2 : w53.cell? ⟨gb343, 2, none⟩ = some (.slice A0_2 l0_2.length c0_2) := (blk_cell BK343.out 2).trans rfl; have hfz54_0 := blk_frozen BK343.out 0; have hfz54_1 := blk_frozen BK343.out 1; have hfz54_2 := blk_frozen BK343.out 2) | (go_at_call 15; (with_reducible refine (petrinetref45_Reachable.calls k a0_0 _ _ l0_1 _ _ l0_2 true _ ?side1 ?side2 ?side3 ?side4 A10.out).mono ?_); (case side1 => exact sq_kc ((Kd.C_below HR0_1.out HB.out))); (case side2 => exact HC0_1.out); (case side3 => exact sq_kc ((Kd.C_below HR0_2.out HB.out))); (case side4 => exact HC0_2.out); rintro e w55 ⟨rfl, hb⟩; have n0_ := Aside0.mk (blk_below (g := gb343) (o := .cells #[.int .i64 a0_0, .slice A0_1 l0_1.length c0_1, .slice A0_2 l0_2.length c0_2] 25 (0, 0)) (sq_bk BK343.out) hb); have n1_ := Aside0.mk (blk_below (g := gb344) (o := .cells #[.int .i64 a1_0, .slice A1_1 l1_1.length c1_1, .slice A1_2 l1_2.length c1_2] 25 (0, 0)) (sq_bk BK344.out) hb); have n2_ := Aside0.mk (below_step (sq_bs HB.out) hb); clear BK343; clear BK344; clear HB; have BK343 := n0_; have BK344 := n1_; have HB := n2_; clear n0_ n1_ n2_; (try clear hb); have hcz56_0 : w55.cell? ⟨gb344, 0, none⟩ = some (.int .i64 a1_0) := (blk_cell BK344.out 0).trans rfl; have hcz56_1 : w55.cell? ⟨gb344, 1, none⟩ = some (.slice A1_1 l1_1.length c1_1) := (blk_cell BK344.out 1).trans rfl; have hcz56_2 : w55.cell? ⟨gb344, 2, none⟩ = some (.slice A1_2 l1_2.length c1_2) := (blk_cell BK344.out 2).trans rfl; have hfz56_0 := blk_frozen BK344.out 0; have hfz56_1 := blk_frozen BK344.out 1; have hfz56_2 := blk_frozen BK344.out 2) | (go_at_call 15; (with_reducible refine (petrinetref45_Reachable.calls k a1_0 _ _ l1_1 _ _ l1_2 false _ ?side1 ?side2 ?side3 ?side4 A12.out).mono ?_); (case side1 => exact sq_kc ((Kd.C_below HR1_1.out HB.out))); (case side2 => exact HC1_1.out); (case side3 => exact sq_kc ((Kd.C_below HR1_2.out HB.out))); (case side4 => exact HC1_2.out); rintro e w57 ⟨rfl, hb⟩; have n0_ := Aside0.mk (blk_below (g := gb343) (o := .cells #[.int .i64 a0_0, .slice A0_1 l0_1.length c0_1, .slice A0_2 l0_2.length c0_2] 25 (0, 0)) (sq_bk BK343.out) hb); have n1_ := Aside0.mk (blk_below (g := gb344) (o := .cells #[.int .i64 a1_0, .slice A1_1 l1_1.length c1_1, .slice A1_2 l1_2.length c1_2] 25 (0, 0)) (sq_bk BK344.out) hb); have n2_ := Aside0.mk (below_step (sq_bs HB.out) hb); clear BK343; clear BK344; clear HB; have BK343 := n0_; have BK344 := n1_; have HB := n2_; clear n0_ n1_ n2_; (try clear hb)))
      go_meet
      case rel => exact ⟨_, (true), (by first | rfl | (simp; done) | (simp [*]; done)), H', ⟨by first | omega | exact Nat.le_refl _⟩, ⟨sq_bk BK343.out⟩, ⟨sq_bk BK344.out⟩, ⟨sq_bs HB.out⟩⟩
    ·replace c11 := Bool.eq_false_iff.mpr c11
     subst c11
     have H1 : (petrinetref45_Iso.j0 k true a0_0 l0_1 l0_2 a1_0 l1_1 l1_2) = some (r1, r2) := by rw [if_neg (show ¬ (false = true) by decide)] at H; exact H
     clear H
     have H := H1
     clear H1
     have H' := Aside0.mk H
     clear H
     have hnb58 := NB343_344.out
     have hnc58 := NB344_343.out
     have hcz59_0 : w5.cell? ⟨gb343, 0, none⟩ = some (.int .i64 a0_0) := (blk_cell BK343.out 0).trans rfl
     have hcz59_1 : w5.cell? ⟨gb343, 1, none⟩ = some (.slice A0_1 l0_1.length c0_1) := (blk_cell BK343.out 1).trans rfl
     have hcz59_2 : w5.cell? ⟨gb343, 2, none⟩ = some (.slice A0_2 l0_2.length c0_2) := (blk_cell BK343.out 2).trans rfl
     have hfz59_0 := blk_frozen BK343.out 0
     have hfz59_1 := blk_frozen BK343.out 1
     have hfz59_2 := blk_frozen BK343.out 2
     go_wp2_with (first | ((with_reducible refine gate_callee (f := 13) rfl ?_); refine sq_goes (some 16) Try.func13 #[.agg #[.int .i64 a0_0, .slice A0_1 l0_1.length c0_1, .slice A0_2 l0_2.length c0_2]] ?_; (with_reducible refine (petrinetref45_Deterministic.calls k a0_0 _ _ l0_1 _ _ l0_2 true _ ?side1 ?side2 ?side3 ?side4 A6.out).mono ?_); (case side1 => exact sq_kc ((Kd.C_below HR0_1.out HB.out))); (case side2 => exact HC0_1.out); (case side3 => exact sq_kc ((Kd.C_below HR0_2.out HB.out))); (case side4 => exact HC0_2.out); rintro e w60 ⟨rfl, hb⟩; refine ⟨_, rfl, ?_⟩; have n0_ := Aside0.mk (blk_below (g := gb343) (o := .cells #[.int .i64 a0_0, .slice A0_1 l0_1.length c0_1, .slice A0_2 l0_2.length c0_2] 25 (0, 0)) (sq_bk BK343.out) hb); have n1_ := Aside0.mk (blk_below (g := gb344) (o := .cells #[.int .i64 a1_0, .slice A1_1 l1_1.length c1_1, .slice A1_2 l1_2.length c1_2] 25 (0, 0)) (sq_bk BK344.out) hb); have n2_ := Aside0.mk (below_step (sq_bs HB.out) hb); clear BK343; clear BK344; clear HB; have BK343 := n0_; have BK344 := n1_; have HB := n2_; clear n0_ n1_ n2_; (try clear hb); have hcz61_0 : w60.cell? ⟨gb344, 0, none⟩ = some (.int .i64 a1_0) := (blk_cell BK344.out 0).trans rfl; have hcz61_1 : w60.cell? ⟨gb344, 1, none⟩ = some (.slice A1_1 l1_1.length c1_1) := (blk_cell BK344.out 1).trans rfl; have hcz61_2 : w60.cell? ⟨gb344, 2, none⟩ = some (.slice A1_2 l1_2.length c1_2) := (blk_cell BK344.out 2).trans rfl; have hfz61_0 := blk_frozen BK344.out 0; have hfz61_1 := blk_frozen BK344.out 1; have hfz61_2 := blk_frozen BK344.out 2) | (go_at_call 13; (with_reducible refine (petrinetref45_Deterministic.calls k a1_0 _ _ l1_1 _ _ l1_2 true _ ?side1 ?side2 ?side3 ?side4 A8.out).mono ?_); (case side1 => exact sq_kc ((Kd.C_below HR1_1.out HB.out))); (case side2 => exact HC1_1.out); (case side3 => exact sq_kc ((Kd.C_below HR1_2.out HB.out))); (case side4 => exact HC1_2.out); rintro e w62 ⟨rfl, hb⟩; have n0_ := Aside0.mk (blk_below (g := gb343) (o := .cells #[.int .i64 a0_0, .slice A0_1 l0_1.length c0_1, .slice A0_2 l0_2.length c0_2] 25 (0, 0)) (sq_bk BK343.out) hb); have n1_ := Aside0.mk (blk_below (g := gb344) (o := .cells #[.int .i64 a1_0, .slice A1_1 l1_1.length c1_1, .slice A1_2 l1_2.length c1_2] 25 (0, 0)) (sq_bk BK344.out) hb); have n2_ := Aside0.mk (below_step (sq_bs HB.out) hb); clear BK343; clear BK344; clear HB; have BK343 := n0_; have BK344 := n1_; have HB := n2_; clear n0_ n1_ n2_; (try clear hb); have hcz63_0 : w62.cell? ⟨gb343, 0, none⟩ = some (.int .i64 a0_0) := (blk_cell BK343.out 0).trans rfl; have hcz63_1 : w62.cell? ⟨gb343, 1, none⟩ = some (.slice A0_1 l0_1.length c0_1) := (blk_cell BK343.out 1).trans rfl; have hcz63_2 : w62.cell? ⟨gb343, 2, none⟩ = some (.slice A0_2 l0_2.length c0_2) := (blk_cell BK343.out 2).trans rfl; have hfz63_0 := blk_frozen BK343.out 0; have hfz63_1 := blk_frozen BK343.out 1; have hfz63_2 := blk_frozen BK343.out 2) | (go_at_call 15; (with_reducible refine (petrinetref45_Reachable.calls k a0_0 _ _ l0_1 _ _ l0_2 false _ ?side1 ?side2 ?side3 ?side4 A10.out).mono ?_); (case side1 => exact sq_kc ((Kd.C_below HR0_1.out HB.out))); (case side2 => exact HC0_1.out); (case side3 => exact sq_kc ((Kd.C_below HR0_2.out HB.out))); (case side4 => exact HC0_2.out); rintro e w64 ⟨rfl, hb⟩; have n0_ := Aside0.mk (blk_below (g := gb343) (o := .cells #[.int .i64 a0_0, .slice A0_1 l0_1.length c0_1, .slice A0_2 l0_2.length c0_2] 25 (0, 0)) (sq_bk BK343.out) hb); have n1_ := Aside0.mk (blk_below (g := gb344) (o := .cells #[.int .i64 a1_0, .slice A1_1 l1_1.length c1_1, .slice A1_2 l1_2.length c1_2] 25 (0, 0)) (sq_bk BK344.out) hb); have n2_ := Aside0.mk (below_step (sq_bs HB.out) hb); clear BK343; clear BK344; clear HB; have BK343 := n0_; have BK344 := n1_; have HB := n2_; clear n0_ n1_ n2_; (try clear hb)))
     go_meet
     case rel => exact ⟨_, (true), (by first | rfl | (simp; done) | (simp [*]; done)), H', ⟨by first | omega | exact Nat.le_refl _⟩, ⟨sq_bk BK343.out⟩, ⟨sq_bk BK344.out⟩, ⟨sq_bs HB.out⟩⟩
   ·replace c9 := Bool.eq_false_iff.mpr c9
    subst c9
    have H1 : (petrinetref45_Iso.j0 k true a0_0 l0_1 l0_2 a1_0 l1_1 l1_2) = some (r1, r2) := by rw [if_neg (show ¬ (false = true) by decide)] at H; exact H
    clear H
    have H := H1
    clear H1
    have H' := Aside0.mk H
    clear H
    have hnb65 := NB343_344.out
    have hnc65 := NB344_343.out
    have hcz66_0 : w5.cell? ⟨gb343, 0, none⟩ = some (.int .i64 a0_0) := (blk_cell BK343.out 0).trans rfl
    have hcz66_1 : w5.cell? ⟨gb343, 1, none⟩ = some (.slice A0_1 l0_1.length c0_1) := (blk_cell BK343.out 1).trans rfl
    have hcz66_2 : w5.cell? ⟨gb343, 2, none⟩ = some (.slice A0_2 l0_2.length c0_2) := (blk_cell BK343.out 2).trans rfl
    have hfz66_0 := blk_frozen BK343.out 0
    have hfz66_1 := blk_frozen BK343.out 1
    have hfz66_2 := blk_frozen BK343.out 2
    go_wp2_with (first | ((with_reducible refine gate_callee (f := 13) rfl ?_); refine sq_goes (some 16) Try.func13 #[.agg #[.int .i64 a0_0, .slice A0_1 l0_1.length c0_1, .slice A0_2 l0_2.length c0_2]] ?_; (with_reducible refine (petrinetref45_Deterministic.calls k a0_0 _ _ l0_1 _ _ l0_2 true _ ?side1 ?side2 ?side3 ?side4 A6.out).mono ?_); (case side1 => exact sq_kc ((Kd.C_below HR0_1.out HB.out))); (case side2 => exact HC0_1.out); (case side3 => exact sq_kc ((Kd.C_below HR0_2.out HB.out))); (case side4 => exact HC0_2.out); rintro e w67 ⟨rfl, hb⟩; refine ⟨_, rfl, ?_⟩; have n0_ := Aside0.mk (blk_below (g := gb343) (o := .cells #[.int .i64 a0_0, .slice A0_1 l0_1.length c0_1, .slice A0_2 l0_2.length c0_2] 25 (0, 0)) (sq_bk BK343.out) hb); have n1_ := Aside0.mk (blk_below (g := gb344) (o := .cells #[.int .i64 a1_0, .slice A1_1 l1_1.length c1_1, .slice A1_2 l1_2.length c1_2] 25 (0, 0)) (sq_bk BK344.out) hb); have n2_ := Aside0.mk (below_step (sq_bs HB.out) hb); clear BK343; clear BK344; clear HB; have BK343 := n0_; have BK344 := n1_; have HB := n2_; clear n0_ n1_ n2_; (try clear hb); have hcz68_0 : w67.cell? ⟨gb344, 0, none⟩ = some (.int .i64 a1_0) := (blk_cell BK344.out 0).trans rfl; have hcz68_1 : w67.cell? ⟨gb344, 1, none⟩ = some (.slice A1_1 l1_1.length c1_1) := (blk_cell BK344.out 1).trans rfl; have hcz68_2 : w67.cell? ⟨gb344, 2, none⟩ = some (.slice A1_2 l1_2.length c1_2) := (blk_cell BK344.out 2).trans rfl; have hfz68_0 := blk_frozen BK344.out 0; have hfz68_1 := blk_frozen BK344.out 1; have hfz68_2 := blk_frozen BK344.out 2) | (go_at_call 13; (with_reducible refine (petrinetref45_Deterministic.calls k a1_0 _ _ l1_1 _ _ l1_2 false _ ?side1 ?side2 ?side3 ?side4 A8.out).mono ?_); (case side1 => exact sq_kc ((Kd.C_below HR1_1.out HB.out))); (case side2 => exact HC1_1.out); (case side3 => exact sq_kc ((Kd.C_below HR1_2.out HB.out))); (case side4 => exact HC1_2.out); rintro e w69 ⟨rfl, hb⟩; have n0_ := Aside0.mk (blk_below (g := gb343) (o := .cells #[.int .i64 a0_0, .slice A0_1 l0_1.length c0_1, .slice A0_2 l0_2.length c0_2] 25 (0, 0)) (sq_bk BK343.out) hb); have n1_ := Aside0.mk (blk_below (g := gb344) (o := .cells #[.int .i64 a1_0, .slice A1_1 l1_1.length c1_1, .slice A1_2 l1_2.length c1_2] 25 (0, 0)) (sq_bk BK344.out) hb); have n2_ := Aside0.mk (below_step (sq_bs HB.out) hb); clear BK343; clear BK344; clear HB; have BK343 := n0_; have BK344 := n1_; have HB := n2_; clear n0_ n1_ n2_; (try clear hb)))
    go_meet
    case rel => exact ⟨_, (true), (by first | rfl | (simp; done) | (simp [*]; done)), H', ⟨by first | omega | exact Nat.le_refl _⟩, ⟨sq_bk BK343.out⟩, ⟨sq_bk BK344.out⟩, ⟨sq_bs HB.out⟩⟩
  ·replace c7 := Bool.eq_false_iff.mpr c7
   subst c7
   have H1 : (petrinetref45_Iso.j0 k true a0_0 l0_1 l0_2 a1_0 l1_1 l1_2) = some (r1, r2) := by rw [if_neg (show ¬ (false = true) by decide)] at H; exact H
   clear H
   have H := H1
   clear H1
   have H' := Aside0.mk H
   clear H
   have hnb70 := NB343_344.out
   have hnc70 := NB344_343.out
   have hcz71_0 : w5.cell? ⟨gb343, 0, none⟩ = some (.int .i64 a0_0) := (blk_cell BK343.out 0).trans rfl
   have hcz71_1 : w5.cell? ⟨gb343, 1, none⟩ = some (.slice A0_1 l0_1.length c0_1) := (blk_cell BK343.out 1).trans rfl
   have hcz71_2 : w5.cell? ⟨gb343, 2, none⟩ = some (.slice A0_2 l0_2.length c0_2) := (blk_cell BK343.out 2).trans rfl
   have hfz71_0 := blk_frozen BK343.out 0
   have hfz71_1 := blk_frozen BK343.out 1
   have hfz71_2 := blk_frozen BK343.out 2
   go_wp2_with (first | ((with_reducible refine gate_callee (f := 13) rfl ?_); refine sq_goes (some 16) Try.func13 #[.agg #[.int .i64 a0_0, .slice A0_1 l0_1.length c0_1, .slice A0_2 l0_2.length c0_2]] ?_; (with_reducible refine (petrinetref45_Deterministic.calls k a0_0 _ _ l0_1 _ _ l0_2 false _ ?side1 ?side2 ?side3 ?side4 A6.out).mono ?_); (case side1 => exact sq_kc ((Kd.C_below HR0_1.out HB.out))); (case side2 => exact HC0_1.out); (case side3 => exact sq_kc ((Kd.C_below HR0_2.out HB.out))); (case side4 => exact HC0_2.out); rintro e w72 ⟨rfl, hb⟩; refine ⟨_, rfl, ?_⟩; have n0_ := Aside0.mk (blk_below (g := gb343) (o := .cells #[.int .i64 a0_0, .slice A0_1 l0_1.length c0_1, .slice A0_2 l0_2.length c0_2] 25 (0, 0)) (sq_bk BK343.out) hb); have n1_ := Aside0.mk (blk_below (g := gb344) (o := .cells #[.int .i64 a1_0, .slice A1_1 l1_1.length c1_1, .slice A1_2 l1_2.length c1_2] 25 (0, 0)) (sq_bk BK344.out) hb); have n2_ := Aside0.mk (below_step (sq_bs HB.out) hb); clear BK343; clear BK344; clear HB; have BK343 := n0_; have BK344 := n1_; have HB := n2_; clear n0_ n1_ n2_; (try clear hb)))
   go_meet
   case rel => exact ⟨_, (true), (by first | rfl | (simp; done) | (simp [*]; done)), H', ⟨by first | omega | exact Nat.le_refl _⟩, ⟨sq_bk BK343.out⟩, ⟨sq_bk BK344.out⟩, ⟨sq_bs HB.out⟩⟩
 case rest =>
  clear HC3
  obtain ⟨kq, x57_2, rfl, HA, HJ2, BK343, BK344, HB⟩ := hcut
  cases kq with
  | zero => exact absurd HA.out (by simp [petrinetref45_Iso.j0])
  | succ kj2 =>
   have H := HA.out
   clear HA
   simp only [petrinetref45_Iso.j0] at H
   by_cases c73 : x57_2 = true
   ·subst c73
    have H1 : (some (([] : List Int), false)) = some (r1, r2) := by rw [if_pos rfl] at H; exact H
    clear H
    have H := H1
    clear H1
    simp only [Option.some.injEq, Prod.mk.injEq] at H
    obtain ⟨rfl, rfl⟩ := H
    go_wp2
    go_ret2
    exact ⟨_, by first | rfl | (simp [errW_none, errW_some] <;> rfl) | (simp [*, errW_none, errW_some] <;> rfl), by first | exact Kd.R_nil _ _ _ _ _ | exact Kd.N_nil _ _ _ _ _ | exact Kd.V_nil _ _ _ _ _ | exact Kd.Q_nil _ _ _ _ _ | exact Kd.S_nil _ _ _ _ _, sq_bs HB.out⟩
   ·replace c73 := Bool.eq_false_iff.mpr c73
    subst c73
    have H1 : (petrinetref45_Iso.l0 kj2 ([] : List Int) 0 a0_0 l0_1 l0_2 a1_0 l1_1 l1_2) = some (r1, r2) := by rw [if_neg (show ¬ (false = true) by decide)] at H; exact H
    clear H
    have H := H1
    clear H1
    have H' := Aside0.mk H
    clear H
    go_wp2
    go_loopg [6, 7] kj2 (fun kq v6 v7 w' => ∃ (x6_2 : List Int) (x7_2 : Int), v7 = .int .i64 x7_2 ∧ Aside0 (petrinetref45_Iso.l0 kq x6_2 x7_2 a0_0 l0_1 l0_2 a1_0 l1_1 l1_2 = some (r1, r2)) ∧ Aside0 (kq ≤ kj2) ∧ Aside0 (Kd.R (Kd.int .i64) 3 w' w.heap.size (fun _ => True) v6 x6_2) ∧ Aside0 (w'.heap[gb343]? = some (.cells #[.int .i64 a0_0, (.slice A0_1 l0_1.length c0_1), (.slice A0_2 l0_2.length c0_2)] 25 (0, 0))) ∧ Aside0 (w'.heap[gb344]? = some (.cells #[.int .i64 a1_0, (.slice A1_1 l1_1.length c1_1), (.slice A1_2 l1_2.length c1_2)] 25 (0, 0))) ∧ Aside0 (Below w.heap.size w w'))
    case atStart => exact ⟨(([] : List Int)), (0), (by first | rfl | (simp; done) | (simp [*]; done)), H', ⟨Nat.le_refl _⟩, ⟨by first | exact Kd.R_nil _ _ _ _ _ | exact Kd.N_nil _ _ _ _ _ | exact Kd.V_nil _ _ _ _ _ | exact Kd.Q_nil _ _ _ _ _ | exact Kd.S_nil _ _ _ _ _⟩, ⟨sq_bk BK343.out⟩, ⟨sq_bk BK344.out⟩, ⟨sq_bs HB.out⟩⟩
    case round =>
     clear H'
     try clear c73
     obtain ⟨x6_2, x7_2, rfl, HA, HK2, HO_6, BK343, BK344, HB⟩ := hrel
     cases gk with
     | zero => exact absurd HA.out (by simp [petrinetref45_Iso.l0])
     | succ k2 =>
      have H := HA.out
      clear HA
      simp only [petrinetref45_Iso.l0] at H
      by_cases c74 : x7_2 < a0_0
      ·rw [if_pos c74] at H
       have c74b0 : decide (x7_2 < a0_0) = true := decide_eq_true c74
       clear c74
       by_cases c75 : x6_2.length < 17592186044416
       ·rw [if_pos c75] at H
        have LMc75 := Aside0.mk c75
        clear c75
        obtain ⟨y349, hy349⟩ : ∃ y_ : List Int, y_ = (x6_2 ++ [(-1)]) := ⟨_, rfl⟩
        replace H : (petrinetref45_Iso.l0 k2 y349 (wrap64 (x7_2 + 1)) a0_0 l0_1 l0_2 a1_0 l1_1 l1_2) = some (r1, r2) := by first | (rw [hy349]; with_reducible exact H) | (have H2_ := (Option.bind_some _ _).symm.trans H; rw [hy349]; with_reducible exact H2_) | (have H2_ := (Option.bind_some _ _).symm.trans H; with_reducible exact H2_) | with_reducible exact H | (rw [hy349]; exact H) | exact H
        have Ny349 := Aside0.mk hy349
        clear hy349
        have H' := Aside0.mk H
        clear H
        have hnb76 := NB343_344.out
        have hnc76 := NB344_343.out
        have hcz77_0 : wr.cell? ⟨gb343, 0, none⟩ = some (.int .i64 a0_0) := (blk_cell BK343.out 0).trans rfl
        have hcz77_1 : wr.cell? ⟨gb343, 1, none⟩ = some (.slice A0_1 l0_1.length c0_1) := (blk_cell BK343.out 1).trans rfl
        have hcz77_2 : wr.cell? ⟨gb343, 2, none⟩ = some (.slice A0_2 l0_2.length c0_2) := (blk_cell BK343.out 2).trans rfl
        have hfz77_0 := blk_frozen BK343.out 0
        have hfz77_1 := blk_frozen BK343.out 1
        have hfz77_2 := blk_frozen BK343.out 2
        go_wp2_with (first | ((with_reducible refine gate_builtin (b := .append) (xs := #[.tmp 64, .tmp 65]) rfl ?_); (try (refine gate_guard (by rfl) ?_; dsimp only)); at_builtin; refine Kd.R_append (Kd.int .i64) (w0 := w) w.heap.size rfl (.tmp 64) (.tmp 65) 34 3 (.int .i64 0) 8 rfl Try.underlying34 info3 rfl (by decide) (by omega) u6 x6_2 (-1) [.int .i64 (-1)] (fun _ => True) (fun _ => False) rfl rfl ?aP (fun _ hk => hk.elim) ?aF ?aO ?aB ?aS ?aL ?_; (case aP => exact rfl); (case aB => exact (sq_bs HB.out)); (case aF => exact (fun _ _ => trivial)); (case aO => exact (sq_kr HO_6.out)); (case aS => exact (below_size (sq_bs HB.out))); (case aL => have := LMc75.out; omega); intro v350 w78 ho hb hg hat; rw [← Ny349.out] at ho; have n0_ := Aside0.mk (blk_grown (g := gb343) (o := .cells #[.int .i64 a0_0, .slice A0_1 l0_1.length c0_1, .slice A0_2 l0_2.length c0_2] 25 (0, 0)) (sq_bk BK343.out) hg (Kd.R_ne HO_6.out BK343.out (by decide))); have n1_ := Aside0.mk (blk_grown (g := gb344) (o := .cells #[.int .i64 a1_0, .slice A1_1 l1_1.length c1_1, .slice A1_2 l1_2.length c1_2] 25 (0, 0)) (sq_bk BK344.out) hg (Kd.R_ne HO_6.out BK344.out (by decide))); have n2_ := Aside0.mk (hb); have n3_ := Aside0.mk (ho); clear BK343; clear BK344; clear HB; clear HO_6; have BK343 := n0_; have BK344 := n1_; have HB := n2_; have HO351 := n3_; clear n0_ n1_ n2_ n3_; clear ho hb hg hat))
        go_roundg k2
        case measure => have := HJ2.out; have := HK2.out; omega
        case rel => exact ⟨(y349), (wrap64 (x7_2 + 1)), (by first | rfl | (simp; done) | (simp [*]; done)), H', ⟨by have := HJ2.out; have := HK2.out; omega⟩, ⟨sq_kr HO351.out⟩, ⟨sq_bk BK343.out⟩, ⟨sq_bk BK344.out⟩, ⟨sq_bs HB.out⟩⟩
       ·rw [if_neg c75] at H
        exact absurd H (by simp)
      ·rw [if_neg c74] at H
       have c74b0 : decide (x7_2 < a0_0) = false := decide_eq_false c74
       clear c74
       by_cases c79 : 0 < (x6_2.length : Int)
       ·rw [if_pos c79] at H
        have c79b0 : decide (0 < (x6_2.length : Int)) = true := decide_eq_true c79
        have c79b1 : decide (0 < x6_2.length) = true := decide_eq_true (by omega)
        clear c79
        obtain ⟨y352, hy352⟩ : ∃ y_ : List Int, y_ = (x6_2.set (0 : Int).toNat 0) := ⟨_, rfl⟩
        replace H : (petrinetref45_Iso.l1 k2 y352 0 a0_0 l0_1 l0_2 a1_0 l1_1 l1_2) = some (r1, r2) := by first | (rw [hy352]; with_reducible exact H) | (have H2_ := (Option.bind_some _ _).symm.trans H; rw [hy352]; with_reducible exact H2_) | (have H2_ := (Option.bind_some _ _).symm.trans H; with_reducible exact H2_) | with_reducible exact H | (rw [hy352]; exact H) | exact H
        have Ny352 := Aside0.mk hy352
        clear hy352
        have H' := Aside0.mk H
        clear H
        have hnb81 := NB343_344.out
        have hnc81 := NB344_343.out
        have hcz82_0 : wr.cell? ⟨gb343, 0, none⟩ = some (.int .i64 a0_0) := (blk_cell BK343.out 0).trans rfl
        have hcz82_1 : wr.cell? ⟨gb343, 1, none⟩ = some (.slice A0_1 l0_1.length c0_1) := (blk_cell BK343.out 1).trans rfl
        have hcz82_2 : wr.cell? ⟨gb343, 2, none⟩ = some (.slice A0_2 l0_2.length c0_2) := (blk_cell BK343.out 2).trans rfl
        have hfz82_0 := blk_frozen BK343.out 0
        have hfz82_1 := blk_frozen BK343.out 1
        have hfz82_2 := blk_frozen BK343.out 2
        have p80 : 0 ≤ (0 : Int) := (by omega)
        have q80 : (0 : Int) < ((x6_2.length : Int) : Int) := of_decide_eq_true (by first | (with_reducible assumption) | assumption)
        have qi80 : (0 < x6_2.length) = True := eq_true (by omega)
        obtain ⟨go80, co80, eo80, gb80, gl80, cl80, HG80⟩ := Kd.R_form HO_6.out (by omega)
        (first | cases eo80 | (injection eo80 with ea_ en_ ec_; (first | subst ea_ | (injection ea_ with ea_; subst ea_)); subst ec_; clear en_))
        have GB80 := Aside0.mk gb80
        have GG80 := Aside0.mk HG80
        clear gb80 gl80 HG80
        obtain ⟨hx80_0, hf80_0⟩ := Kd.R_celln 0 HO_6.out (0 : Int) p80 q80
        (try rw [show ((0 : Int)).toNat = 0 from rfl] at hx80_0)
        (try simp only [Nat.reduceMul, Nat.zero_mul, Nat.zero_add, Nat.reduceAdd] at hx80_0)
        (try rw [show ((0 : Int)).toNat = 0 from rfl] at hf80_0)
        (try simp only [Nat.reduceMul, Nat.zero_mul, Nat.zero_add, Nat.reduceAdd] at hf80_0)
        replace p80 := eq_true p80
        replace q80 := eq_true q80
        have HP83 := Kd.R_putg HO_6.out (0 : Int) 0
        go_wp2_with (first | ((with_reducible refine gate_store (t := 3) (p := 68) rfl ?_); refine store_event (t := 3) (p := 68) (v := ?vo_w84) (w1 := (wr.setCell ⟨go80, (0 : Int).toNat, none⟩ (.int .i64 0))) ?hg ?ho ?hn ?hr ?_; (case ho => rfl); (case hg => rfl); (case hn => rfl); (case hr => first | (go_simp; done) | (go_simp; rfl)); intro w84 hw; have hg : wr.grownBy w84 (some go80) := (by rw [hw]; exact HP83.2); have hp_ : Kd.R (Kd.int .i64) 3 w84 w.heap.size (fun _ => True) (.slice (some ⟨go80, 0, none⟩) x6_2.length co80) y352 := (by rw [hw, Ny352.out]; exact HP83.1); clear HP83; have n0_ := Aside0.mk (hp_); have n1_ := Aside0.mk (blk_grown (g := gb343) (o := .cells #[.int .i64 a0_0, .slice A0_1 l0_1.length c0_1, .slice A0_2 l0_2.length c0_2] 25 (0, 0)) (sq_bk BK343.out) hg (Kd.R_ne HO_6.out BK343.out (by decide))); have n2_ := Aside0.mk (blk_grown (g := gb344) (o := .cells #[.int .i64 a1_0, .slice A1_1 l1_1.length c1_1, .slice A1_2 l1_2.length c1_2] 25 (0, 0)) (sq_bk BK344.out) hg (Kd.R_ne HO_6.out BK344.out (by decide))); have n3_ := Aside0.mk ((by rw [hw]; exact below_set (HB.out) GB80.out : Below w.heap.size w w84)); clear HO_6; clear BK343; clear BK344; clear HB; have HO_6 := n0_; have BK343 := n1_; have BK344 := n2_; have HB := n3_; clear n0_ n1_ n2_ n3_; clear hg hw hp_))
        go_loopg [8] k2 (fun kq v8 w' => ∃ (x6_3 : List Int) (x8_3 : Int), v8 = .int .i64 x8_3 ∧ Aside0 (petrinetref45_Iso.l1 kq x6_3 x8_3 a0_0 l0_1 l0_2 a1_0 l1_1 l1_2 = some (r1, r2)) ∧ Aside0 (kq ≤ k2) ∧ Aside0 (Kd.R (Kd.int .i64) 3 w' w.heap.size (fun _ => True) (.slice (some ⟨go80, 0, none⟩) x6_2.length co80) x6_3) ∧ Aside0 (w'.heap[gb343]? = some (.cells #[.int .i64 a0_0, (.slice A0_1 l0_1.length c0_1), (.slice A0_2 l0_2.length c0_2)] 25 (0, 0))) ∧ Aside0 (w'.heap[gb344]? = some (.cells #[.int .i64 a1_0, (.slice A1_1 l1_1.length c1_1), (.slice A1_2 l1_2.length c1_2)] 25 (0, 0))) ∧ Aside0 (Below w.heap.size w w'))
        case atStart => exact ⟨(y352), (0), (by first | rfl | (simp; done) | (simp [*]; done)), H', ⟨Nat.le_refl _⟩, ⟨sq_kr HO_6.out⟩, ⟨sq_bk BK343.out⟩, ⟨sq_bk BK344.out⟩, ⟨sq_bs HB.out⟩⟩
        case round =>
         clear H'
         try clear c74b0
         try clear c79b0
         try clear c79b1
         try clear p80
         try clear q80
         try clear qi80
         try clear hcz82_0
         try clear hcz82_1
         try clear hcz82_2
         try clear hfz82_0
         try clear hfz82_1
         try clear hfz82_2
         try clear hx80_0
         obtain ⟨x6_3, x8_3, rfl, HA, HK3, HO_6, BK343, BK344, HB⟩ := hrel
         have hl6_3 := (Kd.R_reads' HO_6.out).1
         rw [hl6_3] at HO_6
         (try simp only [hl6_3])
         (try simp only [hl6_3] at BK343)
         (try simp only [hl6_3] at BK344)
         cases gk with
         | zero => exact absurd HA.out (by simp [petrinetref45_Iso.l1])
         | succ k3 =>
          have H := HA.out
          clear HA
          simp only [petrinetref45_Iso.l1] at H
          by_cases c85 : x8_3 < a0_0
          ·rw [if_pos c85] at H
           have c85b0 : decide (x8_3 < a0_0) = true := decide_eq_true c85
           clear c85
           have H' := Aside0.mk H
           clear H
           have hnb86 := NB343_344.out
           have hnc86 := NB344_343.out
           have hcz87_0 : wr.cell? ⟨gb343, 0, none⟩ = some (.int .i64 a0_0) := (blk_cell BK343.out 0).trans rfl
           have hcz87_1 : wr.cell? ⟨gb343, 1, none⟩ = some (.slice A0_1 l0_1.length c0_1) := (blk_cell BK343.out 1).trans rfl
           have hcz87_2 : wr.cell? ⟨gb343, 2, none⟩ = some (.slice A0_2 l0_2.length c0_2) := (blk_cell BK343.out 2).trans rfl
           have hfz87_0 := blk_frozen BK343.out 0
           have hfz87_1 := blk_frozen BK343.out 1
           have hfz87_2 := blk_frozen BK343.out 2
           go_wp2
           go_loopg [9] k3 (fun kq v9 w' => ∃ (x6_4 : List Int) (x9_4 : Int), v9 = .int .i64 x9_4 ∧ Aside0 (petrinetref45_Iso.l2 kq x6_4 x8_3 x9_4 a0_0 l0_1 l0_2 a1_0 l1_1 l1_2 = some (r1, r2)) ∧ Aside0 (kq ≤ k3) ∧ Aside0 (Kd.R (Kd.int .i64) 3 w' w.heap.size (fun _ => True) (.slice (some ⟨go80, 0, none⟩) x6_3.length co80) x6_4) ∧ Aside0 (w'.heap[gb343]? = some (.cells #[.int .i64 a0_0, (.slice A0_1 l0_1.length c0_1), (.slice A0_2 l0_2.length c0_2)] 25 (0, 0))) ∧ Aside0 (w'.heap[gb344]? = some (.cells #[.int .i64 a1_0, (.slice A1_1 l1_1.length c1_1), (.slice A1_2 l1_2.length c1_2)] 25 (0, 0))) ∧ Aside0 (Below w.heap.size w w'))
           case atStart => exact ⟨(x6_3), (0), (by first | rfl | (simp; done) | (simp [*]; done)), H', ⟨Nat.le_refl _⟩, ⟨by (try simp only [hl6_3]); (with_reducible repeat (first | apply Kd.R_alloc | apply Kd.R_drewN | apply Kd.R_drew)); exact HO_6.out⟩, ⟨by (try simp only [hl6_3]); (with_reducible repeat (first | refine blk_drewN ?_ _ | refine blk_drew ?_ | refine blk_alloc ?_ _)); exact BK343.out⟩, ⟨by (try simp only [hl6_3]); (with_reducible repeat (first | refine blk_drewN ?_ _ | refine blk_drew ?_ | refine blk_alloc ?_ _)); exact BK344.out⟩, ⟨sq_bs HB.out⟩⟩
           case round =>
            clear H'
            try clear c85b0
            try clear hcz87_0
            try clear hcz87_1
            try clear hcz87_2
            try clear hfz87_0
            try clear hfz87_1
            try clear hfz87_2
            obtain ⟨x6_4, x9_4, rfl, HA, HK4, HO_6, BK343, BK344, HB⟩ := hrel
            have hl6_4 := (Kd.R_reads' HO_6.out).1
            rw [hl6_4] at HO_6
            (try simp only [hl6_4])
            (try simp only [hl6_4] at BK343)
            (try simp only [hl6_4] at BK344)
            cases gk with
            | zero => exact absurd HA.out (by simp [petrinetref45_Iso.l2])
            | succ k4 =>
             have H := HA.out
             clear HA
             simp only [petrinetref45_Iso.l2] at H
             by_cases c88 : x9_4 < (l0_2.length : Int)
             ·rw [if_pos c88] at H
              have c88b0 : decide (x9_4 < (l0_2.length : Int)) = true := decide_eq_true c88
              have c88z0 := c88b0
              (try rw [hl6_3] at c88z0)
              have c88z1 := c88b0
              (try rw [hl6_4] at c88z1)
              clear c88
              by_cases c89 : 0 ≤ x9_4
              ·rw [if_pos c89] at H
               have c89b0 : decide (0 ≤ x9_4) = true := decide_eq_true c89
               clear c89
               by_cases c90 : 0 ≤ ((rd_T44 l0_2 x9_4).f0)
               ·rw [if_pos c90] at H
                have c90b0 : decide (0 ≤ ((rd_T44 l0_2 x9_4).f0)) = true := decide_eq_true c90
                clear c90
                by_cases c91 : ((rd_T44 l0_2 x9_4).f0) < (x6_4.length : Int)
                ·rw [if_pos c91] at H
                 have c91b0 : decide (((rd_T44 l0_2 x9_4).f0) < (x6_4.length : Int)) = true := decide_eq_true c91
                 have c91z0 := c91b0
                 (try rw [hl6_3] at c91z0)
                 have c91z1 := c91b0
                 (try rw [hl6_4] at c91z1)
                 clear c91
                 by_cases c92 : (rd x6_4 ((rd_T44 l0_2 x9_4).f0)) < 0
                 ·rw [if_pos c92] at H
                  have c92b0 : decide ((rd x6_4 ((rd_T44 l0_2 x9_4).f0)) < 0) = true := decide_eq_true c92
                  clear c92
                  have H' := Aside0.mk H
                  clear H
                  have hnb93 := NB343_344.out
                  have hnc93 := NB344_343.out
                  have hcz94_0 : wr.cell? ⟨gb343, 0, none⟩ = some (.int .i64 a0_0) := (blk_cell BK343.out 0).trans rfl
                  have hcz94_1 : wr.cell? ⟨gb343, 1, none⟩ = some (.slice A0_1 l0_1.length c0_1) := (blk_cell BK343.out 1).trans rfl
                  have hcz94_2 : wr.cell? ⟨gb343, 2, none⟩ = some (.slice A0_2 l0_2.length c0_2) := (blk_cell BK343.out 2).trans rfl
                  have hfz94_0 := blk_frozen BK343.out 0
                  have hfz94_1 := blk_frozen BK343.out 1
                  have hfz94_2 := blk_frozen BK343.out 2
                  have p353 : 0 ≤ (x9_4 : Int) := of_decide_eq_true (by first | (with_reducible assumption) | assumption)
                  have q353 : x9_4 < (l0_2.length : Int) := of_decide_eq_true (by first | (with_reducible assumption) | assumption)
                  have LQ353 := Aside0.mk q353
                  obtain ⟨ad353, e353, hx353_0, hx353_1, hx353_2⟩ := at_T44 HR0_2.out x9_4 p353 q353
                  cases e353
                  replace hx353_0 := (HB.out.cell (World.block_lt_of_cell? w _ hx353_0)).trans hx353_0
                  replace hx353_1 := (HB.out.cell (World.block_lt_of_cell? w _ hx353_1)).trans hx353_1
                  replace hx353_2 := (HB.out.cell (World.block_lt_of_cell? w _ hx353_2)).trans hx353_2
                  replace p353 := eq_true p353
                  replace q353 := eq_true q353
                  go_wp2_with (first | ((with_reducible refine gate_dst (N := 10) rfl ?_); (try (refine gate_guard (by rfl) ?_; dsimp only)); refine sq_box 10 #[.int .i64 0, .int .i64 0, .int .i64 0] 44 ?_; intro gb354 hg w95 hbox hb; have n0_ := Aside0.mk (Kd.R_below (sq_kr HO_6.out) hb); have n1_ := Aside0.mk (blk_below (g := gb343) (o := .cells #[.int .i64 a0_0, .slice A0_1 l0_1.length c0_1, .slice (some ad353) l0_2.length c0_2] 25 (0, 0)) (sq_bk BK343.out) hb); have n2_ := Aside0.mk (blk_below (g := gb344) (o := .cells #[.int .i64 a1_0, .slice A1_1 l1_1.length c1_1, .slice A1_2 l1_2.length c1_2] 25 (0, 0)) (sq_bk BK344.out) hb); have n3_ := Aside0.mk (below_step (sq_bs HB.out) hb); have n4_ := Aside0.mk (hbox); have n5_ := Aside0.mk ((by rw [hg]; exact (below_size (sq_bs HB.out)) : w.heap.size ≤ gb354)); have n6_ := Aside0.mk ((by rw [hg]; exact (below_size (sq_bs HB.out)) : w.heap.size ≤ gb354)); have n7_ := Aside0.mk ((by rw [hg]; exact Nat.ne_of_lt (blk_lt (g := gb343) (o := .cells #[.int .i64 a0_0, .slice A0_1 l0_1.length c0_1, .slice (some ad353) l0_2.length c0_2] 25 (0, 0)) (sq_bk BK343.out)) : gb343 ≠ gb354)); have n8_ := Aside0.mk ((by rw [hg]; exact Nat.ne_of_gt (blk_lt (g := gb343) (o := .cells #[.int .i64 a0_0, .slice A0_1 l0_1.length c0_1, .slice (some ad353) l0_2.length c0_2] 25 (0, 0)) (sq_bk BK343.out)) : gb354 ≠ gb343)); have n9_ := Aside0.mk ((by rw [hg]; exact Nat.ne_of_lt (blk_lt (g := gb344) (o := .cells #[.int .i64 a1_0, .slice A1_1 l1_1.length c1_1, .slice A1_2 l1_2.length c1_2] 25 (0, 0)) (sq_bk BK344.out)) : gb344 ≠ gb354)); have n10_ := Aside0.mk ((by rw [hg]; exact Nat.ne_of_gt (blk_lt (g := gb344) (o := .cells #[.int .i64 a1_0, .slice A1_1 l1_1.length c1_1, .slice A1_2 l1_2.length c1_2] 25 (0, 0)) (sq_bk BK344.out)) : gb354 ≠ gb344)); clear HO_6; clear BK343; clear BK344; clear HB; have HO_6 := n0_; have BK343 := n1_; have BK344 := n2_; have HB := n3_; have BK354 := n4_; have GW354 := n5_; have GE354 := n6_; have NB343_354 := n7_; have NB354_343 := n8_; have NB344_354 := n9_; have NB354_344 := n10_; clear n0_ n1_ n2_ n3_ n4_ n5_ n6_ n7_ n8_ n9_ n10_; clear hb hbox hg; have hnb96 := NB354_343.out; have hnc96 := NB343_354.out; have hnb97 := NB354_344.out; have hnc97 := NB344_354.out; have hcz98_0 : w95.cell? ⟨gb354, 0, none⟩ = some (.int .i64 0) := (blk_cell BK354.out 0).trans rfl; have hcz98_1 : w95.cell? ⟨gb354, 1, none⟩ = some (.int .i64 0) := (blk_cell BK354.out 1).trans rfl; have hcz98_2 : w95.cell? ⟨gb354, 2, none⟩ = some (.int .i64 0) := (blk_cell BK354.out 2).trans rfl; have hfz98_0 := blk_frozen BK354.out 0; have hfz98_1 := blk_frozen BK354.out 1; have hfz98_2 := blk_frozen BK354.out 2; have p355 : 0 ≤ (((rd_T44 l0_2 x9_4).f0) : Int) := of_decide_eq_true (by first | (with_reducible assumption) | assumption); have q355 : ((rd_T44 l0_2 x9_4).f0) < (x6_4.length : Int) := of_decide_eq_true (by first | (with_reducible assumption) | assumption); obtain ⟨ad355, e355, hx355_0⟩ := Kd.at_int (Kd.R_reads' HO_6.out).2.2 ((rd_T44 l0_2 x9_4).f0) p355 q355; obtain rfl : (⟨go80, 0, none⟩ : Addr) = ad355 := (by injection e355); (first | simp only [add_plain] at hx355_0 | simp only [add_at] at hx355_0 | simp only [Addr.add, Nat.zero_add] at hx355_0 | skip); have hn355_0 : (⟨go80, 0, none⟩ : Addr).block ≠ gb354 := Kd.own_blk (Kd.R_ne HO_6.out BK354.out (by decide)); have hn355_1 : (⟨go80, 0, none⟩ : Addr).block ≠ gb354 := Kd.own_blk (Kd.R_ne HO_6.out BK354.out (by decide)); have hn355_2 : (⟨go80, 0, none⟩ : Addr).block ≠ gb354 := Kd.own_blk (Kd.R_ne HO_6.out BK354.out (by decide)); replace hx355_0 := (cell_far (p := ⟨gb354, 0, none⟩) (by first | (rw [add_block]; exact hn355_0) | (show (Addr.add _ _).block ≠ _; rw [add_block]; exact hn355_0) | exact hn355_0) (.int .i64 ((rd_T44 l0_2 x9_4).f0))).trans hx355_0; replace hx355_0 := (cell_far (p := ⟨gb354, 1, none⟩) (by first | (rw [add_block]; exact hn355_1) | (show (Addr.add _ _).block ≠ _; rw [add_block]; exact hn355_1) | exact hn355_1) (.int .i64 ((rd_T44 l0_2 x9_4).f1))).trans hx355_0; replace hx355_0 := (cell_far (p := ⟨gb354, 2, none⟩) (by first | (rw [add_block]; exact hn355_2) | (show (Addr.add _ _).block ≠ _; rw [add_block]; exact hn355_2) | exact hn355_2) (.int .i64 ((rd_T44 l0_2 x9_4).f2))).trans hx355_0; clear hn355_0; clear hn355_1; clear hn355_2; replace p355 := eq_true p355; replace q355 := eq_true q355))
                  (try simp only [← hl6_4])
                  go_roundg k4
                  case measure => have := HJ2.out; have := HK2.out; have := HK3.out; have := HK4.out; omega
                  case rel => exact ⟨(x6_4), (wrap64 (x9_4 + 1)), (by first | rfl | (simp; done) | (simp [*]; done)), H', ⟨by have := HJ2.out; have := HK2.out; have := HK3.out; have := HK4.out; omega⟩, ⟨by (try simp only [hl6_3]); (try simp only [hl6_4]); (with_reducible repeat (first | apply Kd.R_alloc | apply Kd.R_drewN | apply Kd.R_drew)); exact Kd.R_mono (Kd.R_far (p := ⟨gb354, 2, none⟩) (Kd.R_far (p := ⟨gb354, 1, none⟩) (Kd.R_far (p := ⟨gb354, 0, none⟩) (Kd.R_types HO_6.out BK354.out (by decide)) (fun _ hk => hk.2) (.int .i64 ((rd_T44 l0_2 x9_4).f0))) (fun _ hk => hk.2) (.int .i64 ((rd_T44 l0_2 x9_4).f1))) (fun _ hk => hk.2) (.int .i64 ((rd_T44 l0_2 x9_4).f2))) (fun _ hk => trivial)⟩, ⟨by (try simp only [hl6_3]); (try simp only [hl6_4]); (with_reducible repeat (first | refine blk_drewN ?_ _ | refine blk_drew ?_ | refine blk_alloc ?_ _)); refine blk_far ?_ NB343_354.out _; (with_reducible repeat (first | refine blk_drewN ?_ _ | refine blk_drew ?_ | refine blk_alloc ?_ _)); refine blk_far ?_ NB343_354.out _; (with_reducible repeat (first | refine blk_drewN ?_ _ | refine blk_drew ?_ | refine blk_alloc ?_ _)); refine blk_far ?_ NB343_354.out _; (with_reducible repeat (first | refine blk_drewN ?_ _ | refine blk_drew ?_ | refine blk_alloc ?_ _)); exact BK343.out⟩, ⟨by (try simp only [hl6_3]); (try simp only [hl6_4]); (with_reducible repeat (first | refine blk_drewN ?_ _ | refine blk_drew ?_ | refine blk_alloc ?_ _)); refine blk_far ?_ NB344_354.out _; (with_reducible repeat (first | refine blk_drewN ?_ _ | refine blk_drew ?_ | refine blk_alloc ?_ _)); refine blk_far ?_ NB344_354.out _; (with_reducible repeat (first | refine blk_drewN ?_ _ | refine blk_drew ?_ | refine blk_alloc ?_ _)); refine blk_far ?_ NB344_354.out _; (with_reducible repeat (first | refine blk_drewN ?_ _ | refine blk_drew ?_ | refine blk_alloc ?_ _)); exact BK344.out⟩, ⟨sq_bs HB.out⟩⟩
                 ·rw [if_neg c92] at H
                  have c92b0 : decide ((rd x6_4 ((rd_T44 l0_2 x9_4).f0)) < 0) = false := decide_eq_false c92
                  clear c92
                  by_cases c99 : 0 ≤ ((rd_T44 l0_2 x9_4).f1)
                  ·rw [if_pos c99] at H
                   have c99b0 : decide (0 ≤ ((rd_T44 l0_2 x9_4).f1)) = true := decide_eq_true c99
                   clear c99
                   by_cases c100 : ((rd_T44 l0_2 x9_4).f1) < (l0_1.length : Int)
                   ·rw [if_pos c100] at H
                    have c100b0 : decide (((rd_T44 l0_2 x9_4).f1) < (l0_1.length : Int)) = true := decide_eq_true c100
                    have c100z0 := c100b0
                    (try rw [hl6_3] at c100z0)
                    have c100z1 := c100b0
                    (try rw [hl6_4] at c100z1)
                    clear c100
                    replace H := Option.bind_eq_some_iff.mp H
                    obtain ⟨t358, A1010, H⟩ := H
                    replace H : ((petrinetref45_Next.f k4 a1_0 l1_1 l1_2 (rd x6_4 ((rd_T44 l0_2 x9_4).f0)) t358).bind fun t359 => (if t359 < 0 then (some (([] : List Int), false)) else (if 0 ≤ ((rd_T44 l0_2 x9_4).f2) then (if ((rd_T44 l0_2 x9_4).f2) < (x6_4.length : Int) then (if (rd x6_4 ((rd_T44 l0_2 x9_4).f2)) ≥ 0 then (if (rd x6_4 ((rd_T44 l0_2 x9_4).f2)) = t359 then (petrinetref45_Iso.l2 k4 (x6_4.set (((rd_T44 l0_2 x9_4).f2) : Int).toNat t359) x8_3 (wrap64 (x9_4 + 1)) a0_0 l0_1 l0_2 a1_0 l1_1 l1_2) else (some (([] : List Int), false))) else (petrinetref45_Iso.l2 k4 (x6_4.set (((rd_T44 l0_2 x9_4).f2) : Int).toNat t359) x8_3 (wrap64 (x9_4 + 1)) a0_0 l0_1 l0_2 a1_0 l1_1 l1_2)) else (none)) else (none)))) = some (r1, r2) := H
                    have A101 := Aside0.mk A1010
                    clear A1010
                    replace H := Option.bind_eq_some_iff.mp H
                    obtain ⟨t359, A1020, H⟩ := H
                    replace H : (if t359 < 0 then (some (([] : List Int), false)) else (if 0 ≤ ((rd_T44 l0_2 x9_4).f2) then (if ((rd_T44 l0_2 x9_4).f2) < (x6_4.length : Int) then (if (rd x6_4 ((rd_T44 l0_2 x9_4).f2)) ≥ 0 then (if (rd x6_4 ((rd_T44 l0_2 x9_4).f2)) = t359 then (petrinetref45_Iso.l2 k4 (x6_4.set (((rd_T44 l0_2 x9_4).f2) : Int).toNat t359) x8_3 (wrap64 (x9_4 + 1)) a0_0 l0_1 l0_2 a1_0 l1_1 l1_2) else (some (([] : List Int), false))) else (petrinetref45_Iso.l2 k4 (x6_4.set (((rd_T44 l0_2 x9_4).f2) : Int).toNat t359) x8_3 (wrap64 (x9_4 + 1)) a0_0 l0_1 l0_2 a1_0 l1_1 l1_2)) else (none)) else (none))) = some (r1, r2) := H
                    have A102 := Aside0.mk A1020
                    clear A1020
                    by_cases c103 : t359 < 0
                    ·rw [if_pos c103] at H
                     have c103b0 : decide (t359 < 0) = true := decide_eq_true c103
                     clear c103
                     simp only [Option.some.injEq, Prod.mk.injEq] at H
                     obtain ⟨rfl, rfl⟩ := H
                     have hnb104 := NB343_344.out
                     have hnc104 := NB344_343.out
                     have hcz105_0 : wr.cell? ⟨gb343, 0, none⟩ = some (.int .i64 a0_0) := (blk_cell BK343.out 0).trans rfl
                     have hcz105_1 : wr.cell? ⟨gb343, 1, none⟩ = some (.slice A0_1 l0_1.length c0_1) := (blk_cell BK343.out 1).trans rfl
                     have hcz105_2 : wr.cell? ⟨gb343, 2, none⟩ = some (.slice A0_2 l0_2.length c0_2) := (blk_cell BK343.out 2).trans rfl
                     have hfz105_0 := blk_frozen BK343.out 0
                     have hfz105_1 := blk_frozen BK343.out 1
                     have hfz105_2 := blk_frozen BK343.out 2
                     have p353 : 0 ≤ (x9_4 : Int) := of_decide_eq_true (by first | (with_reducible assumption) | assumption)
                     have q353 : x9_4 < (l0_2.length : Int) := of_decide_eq_true (by first | (with_reducible assumption) | assumption)
                     have LQ353 := Aside0.mk q353
                     obtain ⟨ad353, e353, hx353_0, hx353_1, hx353_2⟩ := at_T44 HR0_2.out x9_4 p353 q353
                     cases e353
                     replace hx353_0 := (HB.out.cell (World.block_lt_of_cell? w _ hx353_0)).trans hx353_0
                     replace hx353_1 := (HB.out.cell (World.block_lt_of_cell? w _ hx353_1)).trans hx353_1
                     replace hx353_2 := (HB.out.cell (World.block_lt_of_cell? w _ hx353_2)).trans hx353_2
                     replace p353 := eq_true p353
                     replace q353 := eq_true q353
                     try go_wp2_with (first | ((with_reducible refine gate_dst (N := 10) rfl ?_); (try (refine gate_guard (by rfl) ?_; dsimp only)); refine sq_box 10 #[.int .i64 0, .int .i64 0, .int .i64 0] 44 ?_; intro gb354 hg w106 hbox hb; have n0_ := Aside0.mk (Kd.R_below (sq_kr HO_6.out) hb); have n1_ := Aside0.mk (blk_below (g := gb343) (o := .cells #[.int .i64 a0_0, .slice A0_1 l0_1.length c0_1, .slice (some ad353) l0_2.length c0_2] 25 (0, 0)) (sq_bk BK343.out) hb); have n2_ := Aside0.mk (blk_below (g := gb344) (o := .cells #[.int .i64 a1_0, .slice A1_1 l1_1.length c1_1, .slice A1_2 l1_2.length c1_2] 25 (0, 0)) (sq_bk BK344.out) hb); have n3_ := Aside0.mk (below_step (sq_bs HB.out) hb); have n4_ := Aside0.mk (hbox); have n5_ := Aside0.mk ((by rw [hg]; exact (below_size (sq_bs HB.out)) : w.heap.size ≤ gb354)); have n6_ := Aside0.mk ((by rw [hg]; exact (below_size (sq_bs HB.out)) : w.heap.size ≤ gb354)); have n7_ := Aside0.mk ((by rw [hg]; exact Nat.ne_of_lt (blk_lt (g := gb343) (o := .cells #[.int .i64 a0_0, .slice A0_1 l0_1.length c0_1, .slice (some ad353) l0_2.length c0_2] 25 (0, 0)) (sq_bk BK343.out)) : gb343 ≠ gb354)); have n8_ := Aside0.mk ((by rw [hg]; exact Nat.ne_of_gt (blk_lt (g := gb343) (o := .cells #[.int .i64 a0_0, .slice A0_1 l0_1.length c0_1, .slice (some ad353) l0_2.length c0_2] 25 (0, 0)) (sq_bk BK343.out)) : gb354 ≠ gb343)); have n9_ := Aside0.mk ((by rw [hg]; exact Nat.ne_of_lt (blk_lt (g := gb344) (o := .cells #[.int .i64 a1_0, .slice A1_1 l1_1.length c1_1, .slice A1_2 l1_2.length c1_2] 25 (0, 0)) (sq_bk BK344.out)) : gb344 ≠ gb354)); have n10_ := Aside0.mk ((by rw [hg]; exact Nat.ne_of_gt (blk_lt (g := gb344) (o := .cells #[.int .i64 a1_0, .slice A1_1 l1_1.length c1_1, .slice A1_2 l1_2.length c1_2] 25 (0, 0)) (sq_bk BK344.out)) : gb354 ≠ gb344)); clear HO_6; clear BK343; clear BK344; clear HB; have HO_6 := n0_; have BK343 := n1_; have BK344 := n2_; have HB := n3_; have BK354 := n4_; have GW354 := n5_; have GE354 := n6_; have NB343_354 := n7_; have NB354_343 := n8_; have NB344_354 := n9_; have NB354_344 := n10_; clear n0_ n1_ n2_ n3_ n4_ n5_ n6_ n7_ n8_ n9_ n10_; clear hb hbox hg; have hnb107 := NB354_343.out; have hnc107 := NB343_354.out; have hnb108 := NB354_344.out; have hnc108 := NB344_354.out; have hcz109_0 : w106.cell? ⟨gb354, 0, none⟩ = some (.int .i64 0) := (blk_cell BK354.out 0).trans rfl; have hcz109_1 : w106.cell? ⟨gb354, 1, none⟩ = some (.int .i64 0) := (blk_cell BK354.out 1).trans rfl; have hcz109_2 : w106.cell? ⟨gb354, 2, none⟩ = some (.int .i64 0) := (blk_cell BK354.out 2).trans rfl; have hfz109_0 := blk_frozen BK354.out 0; have hfz109_1 := blk_frozen BK354.out 1; have hfz109_2 := blk_frozen BK354.out 2; have p355 : 0 ≤ (((rd_T44 l0_2 x9_4).f0) : Int) := of_decide_eq_true (by first | (with_reducible assumption) | assumption); have q355 : ((rd_T44 l0_2 x9_4).f0) < (x6_4.length : Int) := of_decide_eq_true (by first | (with_reducible assumption) | assumption); obtain ⟨ad355, e355, hx355_0⟩ := Kd.at_int (Kd.R_reads' HO_6.out).2.2 ((rd_T44 l0_2 x9_4).f0) p355 q355; obtain rfl : (⟨go80, 0, none⟩ : Addr) = ad355 := (by injection e355); (first | simp only [add_plain] at hx355_0 | simp only [add_at] at hx355_0 | simp only [Addr.add, Nat.zero_add] at hx355_0 | skip); have hn355_0 : (⟨go80, 0, none⟩ : Addr).block ≠ gb354 := Kd.own_blk (Kd.R_ne HO_6.out BK354.out (by decide)); have hn355_1 : (⟨go80, 0, none⟩ : Addr).block ≠ gb354 := Kd.own_blk (Kd.R_ne HO_6.out BK354.out (by decide)); have hn355_2 : (⟨go80, 0, none⟩ : Addr).block ≠ gb354 := Kd.own_blk (Kd.R_ne HO_6.out BK354.out (by decide)); replace hx355_0 := (cell_far (p := ⟨gb354, 0, none⟩) (by first | (rw [add_block]; exact hn355_0) | (show (Addr.add _ _).block ≠ _; rw [add_block]; exact hn355_0) | exact hn355_0) (.int .i64 ((rd_T44 l0_2 x9_4).f0))).trans hx355_0; replace hx355_0 := (cell_far (p := ⟨gb354, 1, none⟩) (by first | (rw [add_block]; exact hn355_1) | (show (Addr.add _ _).block ≠ _; rw [add_block]; exact hn355_1) | exact hn355_1) (.int .i64 ((rd_T44 l0_2 x9_4).f1))).trans hx355_0; replace hx355_0 := (cell_far (p := ⟨gb354, 2, none⟩) (by first | (rw [add_block]; exact hn355_2) | (show (Addr.add _ _).block ≠ _; rw [add_block]; exact hn355_2) | exact hn355_2) (.int .i64 ((rd_T44 l0_2 x9_4).f2))).trans hx355_0; clear hn355_0; clear hn355_1; clear hn355_2; replace p355 := eq_true p355; replace q355 := eq_true q355))
                     have n0_ : Aside0 (Kd.R (Kd.int .i64) 3 (((w106.setCell ⟨gb354, 0, none⟩ (.int .i64 ((rd_T44 l0_2 x9_4).f0))).setCell ⟨gb354, 1, none⟩ (.int .i64 ((rd_T44 l0_2 x9_4).f1))).setCell ⟨gb354, 2, none⟩ (.int .i64 ((rd_T44 l0_2 x9_4).f2))) w.heap.size (fun _ => True) (.slice (some ⟨go80, 0, none⟩) x6_4.length co80) x6_4) := ⟨by (with_reducible repeat (first | apply Kd.R_alloc | apply Kd.R_drewN | apply Kd.R_drew)); exact Kd.R_mono (Kd.R_far (p := ⟨gb354, 2, none⟩) (Kd.R_far (p := ⟨gb354, 1, none⟩) (Kd.R_far (p := ⟨gb354, 0, none⟩) (Kd.R_types HO_6.out BK354.out (by decide)) (fun _ hk => hk.2) (.int .i64 ((rd_T44 l0_2 x9_4).f0))) (fun _ hk => hk.2) (.int .i64 ((rd_T44 l0_2 x9_4).f1))) (fun _ hk => hk.2) (.int .i64 ((rd_T44 l0_2 x9_4).f2))) (fun _ hk => trivial)⟩
                     have n1_ : Aside0 ((((w106.setCell ⟨gb354, 0, none⟩ (.int .i64 ((rd_T44 l0_2 x9_4).f0))).setCell ⟨gb354, 1, none⟩ (.int .i64 ((rd_T44 l0_2 x9_4).f1))).setCell ⟨gb354, 2, none⟩ (.int .i64 ((rd_T44 l0_2 x9_4).f2))).heap[gb343]? = some (.cells #[.int .i64 a0_0, .slice A0_1 l0_1.length c0_1, .slice (some ad353) l0_2.length c0_2] 25 (0, 0))) := ⟨by (with_reducible repeat (first | refine blk_drewN ?_ _ | refine blk_drew ?_ | refine blk_alloc ?_ _)); refine blk_far ?_ NB343_354.out _; (with_reducible repeat (first | refine blk_drewN ?_ _ | refine blk_drew ?_ | refine blk_alloc ?_ _)); refine blk_far ?_ NB343_354.out _; (with_reducible repeat (first | refine blk_drewN ?_ _ | refine blk_drew ?_ | refine blk_alloc ?_ _)); refine blk_far ?_ NB343_354.out _; (with_reducible repeat (first | refine blk_drewN ?_ _ | refine blk_drew ?_ | refine blk_alloc ?_ _)); exact BK343.out⟩
                     have n2_ : Aside0 ((((w106.setCell ⟨gb354, 0, none⟩ (.int .i64 ((rd_T44 l0_2 x9_4).f0))).setCell ⟨gb354, 1, none⟩ (.int .i64 ((rd_T44 l0_2 x9_4).f1))).setCell ⟨gb354, 2, none⟩ (.int .i64 ((rd_T44 l0_2 x9_4).f2))).heap[gb344]? = some (.cells #[.int .i64 a1_0, .slice A1_1 l1_1.length c1_1, .slice A1_2 l1_2.length c1_2] 25 (0, 0))) := ⟨by (with_reducible repeat (first | refine blk_drewN ?_ _ | refine blk_drew ?_ | refine blk_alloc ?_ _)); refine blk_far ?_ NB344_354.out _; (with_reducible repeat (first | refine blk_drewN ?_ _ | refine blk_drew ?_ | refine blk_alloc ?_ _)); refine blk_far ?_ NB344_354.out _; (with_reducible repeat (first | refine blk_drewN ?_ _ | refine blk_drew ?_ | refine blk_alloc ?_ _)); refine blk_far ?_ NB344_354.out _; (with_reducible repeat (first | refine blk_drewN ?_ _ | refine blk_drew ?_ | refine blk_alloc ?_ _)); exact BK344.out⟩
                     have n3_ : Aside0 ((((w106.setCell ⟨gb354, 0, none⟩ (.int .i64 ((rd_T44 l0_2 x9_4).f0))).setCell ⟨gb354, 1, none⟩ (.int .i64 ((rd_T44 l0_2 x9_4).f1))).setCell ⟨gb354, 2, none⟩ (.int .i64 ((rd_T44 l0_2 x9_4).f2))).heap[gb354]? = some (.cells #[.int .i64 ((rd_T44 l0_2 x9_4).f0), .int .i64 ((rd_T44 l0_2 x9_4).f1), .int .i64 ((rd_T44 l0_2 x9_4).f2)] 44 (0, 0))) := ⟨by (with_reducible repeat (first | refine blk_drewN ?_ _ | refine blk_drew ?_ | refine blk_alloc ?_ _)); refine blk_put (cs := #[.int .i64 ((rd_T44 l0_2 x9_4).f0), .int .i64 ((rd_T44 l0_2 x9_4).f1), .int .i64 0]) ?_ 2 _ rfl; (with_reducible repeat (first | refine blk_drewN ?_ _ | refine blk_drew ?_ | refine blk_alloc ?_ _)); refine blk_put (cs := #[.int .i64 ((rd_T44 l0_2 x9_4).f0), .int .i64 0, .int .i64 0]) ?_ 1 _ rfl; (with_reducible repeat (first | refine blk_drewN ?_ _ | refine blk_drew ?_ | refine blk_alloc ?_ _)); refine blk_put (cs := #[.int .i64 0, .int .i64 0, .int .i64 0]) ?_ 0 _ rfl; (with_reducible repeat (first | refine blk_drewN ?_ _ | refine blk_drew ?_ | refine blk_alloc ?_ _)); exact BK354.out⟩
                     have n4_ : Aside0 (Below w.heap.size w (((w106.setCell ⟨gb354, 0, none⟩ (.int .i64 ((rd_T44 l0_2 x9_4).f0))).setCell ⟨gb354, 1, none⟩ (.int .i64 ((rd_T44 l0_2 x9_4).f1))).setCell ⟨gb354, 2, none⟩ (.int .i64 ((rd_T44 l0_2 x9_4).f2)))) := ⟨sq_bs HB.out⟩
                     (try clear HO_6)
                     (try clear BK343)
                     (try clear BK344)
                     (try clear BK354)
                     (try clear HB)
                     generalize (((w106.setCell ⟨gb354, 0, none⟩ (.int .i64 ((rd_T44 l0_2 x9_4).f0))).setCell ⟨gb354, 1, none⟩ (.int .i64 ((rd_T44 l0_2 x9_4).f1))).setCell ⟨gb354, 2, none⟩ (.int .i64 ((rd_T44 l0_2 x9_4).f2))) = w110 at n0_ n1_ n2_ n3_ n4_ ⊢
                     have HO_6 := n0_
                     have BK343 := n1_
                     have BK344 := n2_
                     have BK354 := n3_
                     have HB := n4_
                     clear n0_ n1_ n2_ n3_ n4_
                     have n0_ := Aside0.mk (Kd.R_drew HO_6.out)
                     have n1_ := Aside0.mk (blk_drew BK343.out)
                     have n2_ := Aside0.mk (blk_drew BK344.out)
                     have n3_ := Aside0.mk (blk_drew BK354.out)
                     have n4_ := Aside0.mk (below_drew1 HB.out)
                     clear HO_6
                     clear BK343
                     clear BK344
                     clear BK354
                     clear HB
                     have HO_6 := n0_
                     have BK343 := n1_
                     have BK344 := n2_
                     have BK354 := n3_
                     have HB := n4_
                     clear n0_ n1_ n2_ n3_ n4_
                     have p356 : 0 ≤ (((rd_T44 l0_2 x9_4).f0) : Int) := of_decide_eq_true (by first | (with_reducible assumption) | assumption)
                     have q356 : ((rd_T44 l0_2 x9_4).f0) < (x6_4.length : Int) := of_decide_eq_true (by first | (with_reducible assumption) | assumption)
                     obtain ⟨ad356, e356, hx356_0⟩ := Kd.at_int (Kd.R_reads' HO_6.out).2.2 ((rd_T44 l0_2 x9_4).f0) p356 q356
                     obtain rfl : (⟨go80, 0, none⟩ : Addr) = ad356 := (by injection e356)
                     (first | simp only [add_plain] at hx356_0 | simp only [add_at] at hx356_0 | simp only [Addr.add, Nat.zero_add] at hx356_0 | skip)
                     replace p356 := eq_true p356
                     replace q356 := eq_true q356
                     have p357 : 0 ≤ (((rd_T44 l0_2 x9_4).f1) : Int) := of_decide_eq_true (by first | (with_reducible assumption) | assumption)
                     have q357 : ((rd_T44 l0_2 x9_4).f1) < (l0_1.length : Int) := of_decide_eq_true (by first | (with_reducible assumption) | assumption)
                     obtain ⟨ad357, e357, hx357_0⟩ := Kd.at_string HR0_1.out ((rd_T44 l0_2 x9_4).f1) p357 q357
                     have hw357_0 := hx357_0
                     cases e357
                     replace hx357_0 := (HB.out.cell (World.block_lt_of_cell? w _ hx357_0)).trans hx357_0
                     replace p357 := eq_true p357
                     replace q357 := eq_true q357
                     refine start_ (n := 17) (S := fun w' => w'.cell? ⟨gb344, 0, none⟩ = some (.int .i64 a1_0) ∧ w'.cell? ⟨gb344, 1, none⟩ = some (.slice A1_1 l1_1.length c1_1) ∧ w'.cell? ⟨gb344, 2, none⟩ = some (.slice A1_2 l1_2.length c1_2) ∧ w'.cell? ⟨gb354, 0, none⟩ = some (.int .i64 ((rd_T44 l0_2 x9_4).f0)) ∧ w'.cell? ⟨gb354, 1, none⟩ = some (.int .i64 ((rd_T44 l0_2 x9_4).f1)) ∧ w'.cell? ⟨gb354, 2, none⟩ = some (.int .i64 ((rd_T44 l0_2 x9_4).f2)) ∧ w'.cell? ⟨gb343, 0, none⟩ = some (.int .i64 a0_0) ∧ w'.cell? ⟨gb343, 1, none⟩ = some (.slice (some ad357) l0_1.length c0_1) ∧ w'.cell? ⟨gb343, 2, none⟩ = some (.slice (some ad353) l0_2.length c0_2) ∧ w'.cell? ⟨go80, (((rd_T44 l0_2 x9_4).f0)).toNat, none⟩ = some (.int .i64 (rd x6_4 ((rd_T44 l0_2 x9_4).f0))) ∧ w'.cell? (ad357.add (((rd_T44 l0_2 x9_4).f1)).toNat) = some (.string (rdOf ByteArray.empty l0_1 ((rd_T44 l0_2 x9_4).f1)))) (ds := []) #[false, false, false, false, false, false, false, false, false, false, false, false, false, false, false, false, false] (by kernel_rfl) rfl rfl ⟨(blk_cell BK344.out 0).trans rfl, (blk_cell BK344.out 1).trans rfl, (blk_cell BK344.out 2).trans rfl, (blk_cell BK354.out 0).trans rfl, (blk_cell BK354.out 1).trans rfl, (blk_cell BK354.out 2).trans rfl, (blk_cell BK343.out 0).trans rfl, (blk_cell BK343.out 1).trans rfl, (blk_cell BK343.out 2).trans rfl, hx356_0, ((HB.out.cell (World.block_lt_of_cell? w _ hw357_0)).trans hw357_0)⟩ (fun hHeld => ?_); refine with_tabW petrinetref45_Iso.tab17 petrinetref45_Iso.bits17 (fun HT_ HW_ => ?_)
                     generalize w110.drew = w111 at HO_6 BK343 BK344 BK354 HB hx356_0 hx357_0 hHeld ⊢
                     refine sq_p 1 94 (sqm 17 2) HT_.out ?_
                     refine sq_p 2 95 (sqm 17 6) HT_.out ?_
                     refine sq_p 6 99 (sqm 17 70) HT_.out ?_
                     refine sq_p 8 101 (sqm 17 326) HT_.out ?_
                     refine sq_p 10 103 (sqm 17 1350) HT_.out ?_
                     refine sq_t 0 93 (sqm 17 1351) HT_.out HW_.out hHeld ?_
                     refine sq_t 3 96 (sqm 17 1359) HT_.out HW_.out hHeld ?_
                     refine sq_p 4 97 (sqm 17 1375) HT_.out ?_
                     refine sq_t 5 98 (sqm 17 1407) HT_.out HW_.out hHeld ?_
                     refine sq_t 7 100 (sqm 17 1535) HT_.out HW_.out hHeld ?_
                     refine sq_t 9 102 (sqm 17 2047) HT_.out HW_.out hHeld ?_
                     refine sq_t 11 104 (sqm 17 4095) HT_.out HW_.out hHeld ?_
                     refine sq_p 12 105 (sqm 17 8191) HT_.out ?_
                     refine sq_t 13 106 (sqm 17 16383) HT_.out HW_.out hHeld ?_
                     refine one_ (i := 14) (N := some 107) (sqm 17 32767) rfl rfl (one_of HT_.out (by kernel_rfl)) (by decide) (fun K hK => ?_)
                     refine goes_ Try.func29 (by kernel_rfl) rfl #[.slice A1_1 l1_1.length c1_1, .string (rdOf ByteArray.empty l0_1 ((rd_T44 l0_2 x9_4).f1))] (by rfl) rfl rfl (by (try simp only [List.map_toArray, List.map_cons, List.map_nil]); first | done | rfl | (simp only [List.length_drop, List.length_take]; rfl)) ?_
                     with_reducible refine (petrinetref45_at.calls k4 _ _ l1_1 (rdOf ByteArray.empty l0_1 ((rd_T44 l0_2 x9_4).f1)) t358 _ ?side1 ?side2 A101.out).mono ?_
                     (case side1 => exact sq_kc ((Kd.C_below HR1_1.out HB.out)))
                     (case side2 => exact HC1_1.out)
                     rintro e w' ⟨rfl, ⟨nd, rfl⟩⟩
                     refine ⟨_, rfl, ?_⟩
                     refine hK.out _ _ ⟨(blk_cell BK344.out 0).trans rfl, (blk_cell BK344.out 1).trans rfl, (blk_cell BK344.out 2).trans rfl, (blk_cell BK354.out 0).trans rfl, (blk_cell BK354.out 1).trans rfl, (blk_cell BK354.out 2).trans rfl, (blk_cell BK343.out 0).trans rfl, (blk_cell BK343.out 1).trans rfl, (blk_cell BK343.out 2).trans rfl, hHeld.2.2.2.2.2.2.2.2.2.1, ((HB.out.cell (World.block_lt_of_cell? w _ hw357_0)).trans hw357_0)⟩ (fun hHeld => ?_)
                     clear hK K
                     refine norm_ (a' := ?_) ?_ ?_
                     rotate_left
                     ·show Act.put _ (some 107) _ = _
                      simp only [Act.put, List.setIfInBounds_toArray, List.set_cons_zero, List.set_cons_succ, i64_w, i32_w]
                      rfl
                     refine one_ (i := 15) (N := some 108) (sqm 17 65535) rfl rfl (one_of HT_.out (by kernel_rfl)) (by decide) (fun K hK => ?_)
                     refine goes_ Try.func17 (by kernel_rfl) rfl #[.agg #[.int .i64 a1_0, .slice A1_1 l1_1.length c1_1, .slice A1_2 l1_2.length c1_2], .int .i64 (rd x6_4 ((rd_T44 l0_2 x9_4).f0)), .int .i64 t358] (by rfl) rfl rfl (by (try simp only [List.map_toArray, List.map_cons, List.map_nil]); first | done | rfl | (simp only [List.length_drop, List.length_take]; rfl)) ?_
                     with_reducible refine (petrinetref45_Next.calls k4 a1_0 _ _ l1_1 _ _ l1_2 (rd x6_4 ((rd_T44 l0_2 x9_4).f0)) t358 t359 _ ?side1 ?side2 ?side3 ?side4 A102.out).mono ?_
                     (case side1 => exact sq_kc ((Kd.C_below HR1_1.out (sq_bs HB.out))))
                     (case side2 => exact HC1_1.out)
                     (case side3 => exact sq_kc ((Kd.C_below HR1_2.out (sq_bs HB.out))))
                     (case side4 => exact HC1_2.out)
                     rintro e w112 ⟨rfl, hb⟩
                     have HS9_ := (hb.cell (World.block_lt_of_cell? _ _ (hHeld.2.2.2.2.2.2.2.2.2.1))).trans (hHeld.2.2.2.2.2.2.2.2.2.1)
                     refine ⟨_, rfl, ?_⟩
                     have n0_ := Aside0.mk (Kd.R_below (sq_kr HO_6.out) hb)
                     have n1_ := Aside0.mk (blk_below (g := gb343) (o := .cells #[.int .i64 a0_0, .slice (some ad357) l0_1.length c0_1, .slice (some ad353) l0_2.length c0_2] 25 (0, 0)) (sq_bk BK343.out) hb)
                     have n2_ := Aside0.mk (blk_below (g := gb344) (o := .cells #[.int .i64 a1_0, .slice A1_1 l1_1.length c1_1, .slice A1_2 l1_2.length c1_2] 25 (0, 0)) (sq_bk BK344.out) hb)
                     have n3_ := Aside0.mk (blk_below (g := gb354) (o := .cells #[.int .i64 ((rd_T44 l0_2 x9_4).f0), .int .i64 ((rd_T44 l0_2 x9_4).f1), .int .i64 ((rd_T44 l0_2 x9_4).f2)] 44 (0, 0)) (sq_bk BK354.out) hb)
                     have n4_ := Aside0.mk (below_step (sq_bs HB.out) hb)
                     clear HO_6
                     clear BK343
                     clear BK344
                     clear BK354
                     clear HB
                     have HO_6 := n0_
                     have BK343 := n1_
                     have BK344 := n2_
                     have BK354 := n3_
                     have HB := n4_
                     clear n0_ n1_ n2_ n3_ n4_
                     (try clear hb)
                     (try clear hb2)
                     (try clear hk)
                     (try clear hi)
                     refine hK.out _ _ ⟨(blk_cell BK344.out 0).trans rfl, (blk_cell BK344.out 1).trans rfl, (blk_cell BK344.out 2).trans rfl, (blk_cell BK354.out 0).trans rfl, (blk_cell BK354.out 1).trans rfl, (blk_cell BK354.out 2).trans rfl, (blk_cell BK343.out 0).trans rfl, (blk_cell BK343.out 1).trans rfl, (blk_cell BK343.out 2).trans rfl, HS9_, ((HB.out.cell (World.block_lt_of_cell? w _ hw357_0)).trans hw357_0)⟩ (fun hHeld => ?_)
                     clear hK K
                     refine norm_ (a' := ?_) ?_ ?_
                     rotate_left
                     ·show Act.put _ (some 108) _ = _
                      simp only [Act.put, List.setIfInBounds_toArray, List.set_cons_zero, List.set_cons_succ, i64_w, i32_w]
                      rfl
                     refine sq_p 16 11 (sqm 17 131071) HT_.out ?_
                     refine done_ (done_of HT_.out (by kernel_rfl)) ?_
                     try go_wp2
                     go_ret2
                     exact ⟨_, by first | rfl | (simp [errW_none, errW_some] <;> rfl) | (simp [*, errW_none, errW_some] <;> rfl), by first | exact Kd.R_nil _ _ _ _ _ | exact Kd.N_nil _ _ _ _ _ | exact Kd.V_nil _ _ _ _ _ | exact Kd.Q_nil _ _ _ _ _ | exact Kd.S_nil _ _ _ _ _, sq_bs HB.out⟩
                    ·rw [if_neg c103] at H
                     have c103b0 : decide (t359 < 0) = false := decide_eq_false c103
                     clear c103
                     by_cases c113 : 0 ≤ ((rd_T44 l0_2 x9_4).f2)
                     ·rw [if_pos c113] at H
                      have c113b0 : decide (0 ≤ ((rd_T44 l0_2 x9_4).f2)) = true := decide_eq_true c113
                      clear c113
                      by_cases c114 : ((rd_T44 l0_2 x9_4).f2) < (x6_4.length : Int)
                      ·rw [if_pos c114] at H
                       have c114b0 : decide (((rd_T44 l0_2 x9_4).f2) < (x6_4.length : Int)) = true := decide_eq_true c114
                       have c114z0 := c114b0
                       (try rw [hl6_3] at c114z0)
                       have c114z1 := c114b0
                       (try rw [hl6_4] at c114z1)
                       clear c114
                       have HH_ := Aside0.mk H
                       clear H
                       have hnb118 := NB343_344.out
                       have hnc118 := NB344_343.out
                       have hcz119_0 : wr.cell? ⟨gb343, 0, none⟩ = some (.int .i64 a0_0) := (blk_cell BK343.out 0).trans rfl
                       have hcz119_1 : wr.cell? ⟨gb343, 1, none⟩ = some (.slice A0_1 l0_1.length c0_1) := (blk_cell BK343.out 1).trans rfl
                       have hcz119_2 : wr.cell? ⟨gb343, 2, none⟩ = some (.slice A0_2 l0_2.length c0_2) := (blk_cell BK343.out 2).trans rfl
                       have hfz119_0 := blk_frozen BK343.out 0
                       have hfz119_1 := blk_frozen BK343.out 1
                       have hfz119_2 := blk_frozen BK343.out 2
                       have p353 : 0 ≤ (x9_4 : Int) := of_decide_eq_true (by first | (with_reducible assumption) | assumption)
                       have q353 : x9_4 < (l0_2.length : Int) := of_decide_eq_true (by first | (with_reducible assumption) | assumption)
                       have LQ353 := Aside0.mk q353
                       obtain ⟨ad353, e353, hx353_0, hx353_1, hx353_2⟩ := at_T44 HR0_2.out x9_4 p353 q353
                       cases e353
                       replace hx353_0 := (HB.out.cell (World.block_lt_of_cell? w _ hx353_0)).trans hx353_0
                       replace hx353_1 := (HB.out.cell (World.block_lt_of_cell? w _ hx353_1)).trans hx353_1
                       replace hx353_2 := (HB.out.cell (World.block_lt_of_cell? w _ hx353_2)).trans hx353_2
                       replace p353 := eq_true p353
                       replace q353 := eq_true q353
                       have H := HH_.out
                       clear HH_
                       by_cases c115 : (rd x6_4 ((rd_T44 l0_2 x9_4).f2)) ≥ 0
                       ·rw [if_pos c115] at H
                        have c115b0 : decide (0 ≤ (rd x6_4 ((rd_T44 l0_2 x9_4).f2))) = true := decide_eq_true c115
                        clear c115
                        have HH_ := Aside0.mk H
                        clear H
                        try go_wp2_with (first | ((with_reducible refine gate_dst (N := 10) rfl ?_); (try (refine gate_guard (by rfl) ?_; dsimp only)); refine sq_box 10 #[.int .i64 0, .int .i64 0, .int .i64 0] 44 ?_; intro gb354 hg w120 hbox hb; have n0_ := Aside0.mk (Kd.R_below (sq_kr HO_6.out) hb); have n1_ := Aside0.mk (blk_below (g := gb343) (o := .cells #[.int .i64 a0_0, .slice A0_1 l0_1.length c0_1, .slice (some ad353) l0_2.length c0_2] 25 (0, 0)) (sq_bk BK343.out) hb); have n2_ := Aside0.mk (blk_below (g := gb344) (o := .cells #[.int .i64 a1_0, .slice A1_1 l1_1.length c1_1, .slice A1_2 l1_2.length c1_2] 25 (0, 0)) (sq_bk BK344.out) hb); have n3_ := Aside0.mk (below_step (sq_bs HB.out) hb); have n4_ := Aside0.mk (hbox); have n5_ := Aside0.mk ((by rw [hg]; exact (below_size (sq_bs HB.out)) : w.heap.size ≤ gb354)); have n6_ := Aside0.mk ((by rw [hg]; exact (below_size (sq_bs HB.out)) : w.heap.size ≤ gb354)); have n7_ := Aside0.mk ((by rw [hg]; exact Nat.ne_of_lt (blk_lt (g := gb343) (o := .cells #[.int .i64 a0_0, .slice A0_1 l0_1.length c0_1, .slice (some ad353) l0_2.length c0_2] 25 (0, 0)) (sq_bk BK343.out)) : gb343 ≠ gb354)); have n8_ := Aside0.mk ((by rw [hg]; exact Nat.ne_of_gt (blk_lt (g := gb343) (o := .cells #[.int .i64 a0_0, .slice A0_1 l0_1.length c0_1, .slice (some ad353) l0_2.length c0_2] 25 (0, 0)) (sq_bk BK343.out)) : gb354 ≠ gb343)); have n9_ := Aside0.mk ((by rw [hg]; exact Nat.ne_of_lt (blk_lt (g := gb344) (o := .cells #[.int .i64 a1_0, .slice A1_1 l1_1.length c1_1, .slice A1_2 l1_2.length c1_2] 25 (0, 0)) (sq_bk BK344.out)) : gb344 ≠ gb354)); have n10_ := Aside0.mk ((by rw [hg]; exact Nat.ne_of_gt (blk_lt (g := gb344) (o := .cells #[.int .i64 a1_0, .slice A1_1 l1_1.length c1_1, .slice A1_2 l1_2.length c1_2] 25 (0, 0)) (sq_bk BK344.out)) : gb354 ≠ gb344)); clear HO_6; clear BK343; clear BK344; clear HB; have HO_6 := n0_; have BK343 := n1_; have BK344 := n2_; have HB := n3_; have BK354 := n4_; have GW354 := n5_; have GE354 := n6_; have NB343_354 := n7_; have NB354_343 := n8_; have NB344_354 := n9_; have NB354_344 := n10_; clear n0_ n1_ n2_ n3_ n4_ n5_ n6_ n7_ n8_ n9_ n10_; clear hb hbox hg; have hnb121 := NB354_343.out; have hnc121 := NB343_354.out; have hnb122 := NB354_344.out; have hnc122 := NB344_354.out; have hcz123_0 : w120.cell? ⟨gb354, 0, none⟩ = some (.int .i64 0) := (blk_cell BK354.out 0).trans rfl; have hcz123_1 : w120.cell? ⟨gb354, 1, none⟩ = some (.int .i64 0) := (blk_cell BK354.out 1).trans rfl; have hcz123_2 : w120.cell? ⟨gb354, 2, none⟩ = some (.int .i64 0) := (blk_cell BK354.out 2).trans rfl; have hfz123_0 := blk_frozen BK354.out 0; have hfz123_1 := blk_frozen BK354.out 1; have hfz123_2 := blk_frozen BK354.out 2; have p355 : 0 ≤ (((rd_T44 l0_2 x9_4).f0) : Int) := of_decide_eq_true (by first | (with_reducible assumption) | assumption); have q355 : ((rd_T44 l0_2 x9_4).f0) < (x6_4.length : Int) := of_decide_eq_true (by first | (with_reducible assumption) | assumption); obtain ⟨ad355, e355, hx355_0⟩ := Kd.at_int (Kd.R_reads' HO_6.out).2.2 ((rd_T44 l0_2 x9_4).f0) p355 q355; obtain rfl : (⟨go80, 0, none⟩ : Addr) = ad355 := (by injection e355); (first | simp only [add_plain] at hx355_0 | simp only [add_at] at hx355_0 | simp only [Addr.add, Nat.zero_add] at hx355_0 | skip); have hn355_0 : (⟨go80, 0, none⟩ : Addr).block ≠ gb354 := Kd.own_blk (Kd.R_ne HO_6.out BK354.out (by decide)); have hn355_1 : (⟨go80, 0, none⟩ : Addr).block ≠ gb354 := Kd.own_blk (Kd.R_ne HO_6.out BK354.out (by decide)); have hn355_2 : (⟨go80, 0, none⟩ : Addr).block ≠ gb354 := Kd.own_blk (Kd.R_ne HO_6.out BK354.out (by decide)); replace hx355_0 := (cell_far (p := ⟨gb354, 0, none⟩) (by first | (rw [add_block]; exact hn355_0) | (show (Addr.add _ _).block ≠ _; rw [add_block]; exact hn355_0) | exact hn355_0) (.int .i64 ((rd_T44 l0_2 x9_4).f0))).trans hx355_0; replace hx355_0 := (cell_far (p := ⟨gb354, 1, none⟩) (by first | (rw [add_block]; exact hn355_1) | (show (Addr.add _ _).block ≠ _; rw [add_block]; exact hn355_1) | exact hn355_1) (.int .i64 ((rd_T44 l0_2 x9_4).f1))).trans hx355_0; replace hx355_0 := (cell_far (p := ⟨gb354, 2, none⟩) (by first | (rw [add_block]; exact hn355_2) | (show (Addr.add _ _).block ≠ _; rw [add_block]; exact hn355_2) | exact hn355_2) (.int .i64 ((rd_T44 l0_2 x9_4).f2))).trans hx355_0; clear hn355_0; clear hn355_1; clear hn355_2; replace p355 := eq_true p355; replace q355 := eq_true q355))
                        have n0_ : Aside0 (Kd.R (Kd.int .i64) 3 (((w120.setCell ⟨gb354, 0, none⟩ (.int .i64 ((rd_T44 l0_2 x9_4).f0))).setCell ⟨gb354, 1, none⟩ (.int .i64 ((rd_T44 l0_2 x9_4).f1))).setCell ⟨gb354, 2, none⟩ (.int .i64 ((rd_T44 l0_2 x9_4).f2))) w.heap.size (fun _ => True) (.slice (some ⟨go80, 0, none⟩) x6_4.length co80) x6_4) := ⟨by (with_reducible repeat (first | apply Kd.R_alloc | apply Kd.R_drewN | apply Kd.R_drew)); exact Kd.R_mono (Kd.R_far (p := ⟨gb354, 2, none⟩) (Kd.R_far (p := ⟨gb354, 1, none⟩) (Kd.R_far (p := ⟨gb354, 0, none⟩) (Kd.R_types HO_6.out BK354.out (by decide)) (fun _ hk => hk.2) (.int .i64 ((rd_T44 l0_2 x9_4).f0))) (fun _ hk => hk.2) (.int .i64 ((rd_T44 l0_2 x9_4).f1))) (fun _ hk => hk.2) (.int .i64 ((rd_T44 l0_2 x9_4).f2))) (fun _ hk => trivial)⟩
                        have n1_ : Aside0 ((((w120.setCell ⟨gb354, 0, none⟩ (.int .i64 ((rd_T44 l0_2 x9_4).f0))).setCell ⟨gb354, 1, none⟩ (.int .i64 ((rd_T44 l0_2 x9_4).f1))).setCell ⟨gb354, 2, none⟩ (.int .i64 ((rd_T44 l0_2 x9_4).f2))).heap[gb343]? = some (.cells #[.int .i64 a0_0, .slice A0_1 l0_1.length c0_1, .slice (some ad353) l0_2.length c0_2] 25 (0, 0))) := ⟨by (with_reducible repeat (first | refine blk_drewN ?_ _ | refine blk_drew ?_ | refine blk_alloc ?_ _)); refine blk_far ?_ NB343_354.out _; (with_reducible repeat (first | refine blk_drewN ?_ _ | refine blk_drew ?_ | refine blk_alloc ?_ _)); refine blk_far ?_ NB343_354.out _; (with_reducible repeat (first | refine blk_drewN ?_ _ | refine blk_drew ?_ | refine blk_alloc ?_ _)); refine blk_far ?_ NB343_354.out _; (with_reducible repeat (first | refine blk_drewN ?_ _ | refine blk_drew ?_ | refine blk_alloc ?_ _)); exact BK343.out⟩
                        have n2_ : Aside0 ((((w120.setCell ⟨gb354, 0, none⟩ (.int .i64 ((rd_T44 l0_2 x9_4).f0))).setCell ⟨gb354, 1, none⟩ (.int .i64 ((rd_T44 l0_2 x9_4).f1))).setCell ⟨gb354, 2, none⟩ (.int .i64 ((rd_T44 l0_2 x9_4).f2))).heap[gb344]? = some (.cells #[.int .i64 a1_0, .slice A1_1 l1_1.length c1_1, .slice A1_2 l1_2.length c1_2] 25 (0, 0))) := ⟨by (with_reducible repeat (first | refine blk_drewN ?_ _ | refine blk_drew ?_ | refine blk_alloc ?_ _)); refine blk_far ?_ NB344_354.out _; (with_reducible repeat (first | refine blk_drewN ?_ _ | refine blk_drew ?_ | refine blk_alloc ?_ _)); refine blk_far ?_ NB344_354.out _; (with_reducible repeat (first | refine blk_drewN ?_ _ | refine blk_drew ?_ | refine blk_alloc ?_ _)); refine blk_far ?_ NB344_354.out _; (with_reducible repeat (first | refine blk_drewN ?_ _ | refine blk_drew ?_ | refine blk_alloc ?_ _)); exact BK344.out⟩
                        have n3_ : Aside0 ((((w120.setCell ⟨gb354, 0, none⟩ (.int .i64 ((rd_T44 l0_2 x9_4).f0))).setCell ⟨gb354, 1, none⟩ (.int .i64 ((rd_T44 l0_2 x9_4).f1))).setCell ⟨gb354, 2, none⟩ (.int .i64 ((rd_T44 l0_2 x9_4).f2))).heap[gb354]? = some (.cells #[.int .i64 ((rd_T44 l0_2 x9_4).f0), .int .i64 ((rd_T44 l0_2 x9_4).f1), .int .i64 ((rd_T44 l0_2 x9_4).f2)] 44 (0, 0))) := ⟨by (with_reducible repeat (first | refine blk_drewN ?_ _ | refine blk_drew ?_ | refine blk_alloc ?_ _)); refine blk_put (cs := #[.int .i64 ((rd_T44 l0_2 x9_4).f0), .int .i64 ((rd_T44 l0_2 x9_4).f1), .int .i64 0]) ?_ 2 _ rfl; (with_reducible repeat (first | refine blk_drewN ?_ _ | refine blk_drew ?_ | refine blk_alloc ?_ _)); refine blk_put (cs := #[.int .i64 ((rd_T44 l0_2 x9_4).f0), .int .i64 0, .int .i64 0]) ?_ 1 _ rfl; (with_reducible repeat (first | refine blk_drewN ?_ _ | refine blk_drew ?_ | refine blk_alloc ?_ _)); refine blk_put (cs := #[.int .i64 0, .int .i64 0, .int .i64 0]) ?_ 0 _ rfl; (with_reducible repeat (first | refine blk_drewN ?_ _ | refine blk_drew ?_ | refine blk_alloc ?_ _)); exact BK354.out⟩
                        have n4_ : Aside0 (Below w.heap.size w (((w120.setCell ⟨gb354, 0, none⟩ (.int .i64 ((rd_T44 l0_2 x9_4).f0))).setCell ⟨gb354, 1, none⟩ (.int .i64 ((rd_T44 l0_2 x9_4).f1))).setCell ⟨gb354, 2, none⟩ (.int .i64 ((rd_T44 l0_2 x9_4).f2)))) := ⟨sq_bs HB.out⟩
                        (try clear HO_6)
                        (try clear BK343)
                        (try clear BK344)
                        (try clear BK354)
                        (try clear HB)
                        generalize (((w120.setCell ⟨gb354, 0, none⟩ (.int .i64 ((rd_T44 l0_2 x9_4).f0))).setCell ⟨gb354, 1, none⟩ (.int .i64 ((rd_T44 l0_2 x9_4).f1))).setCell ⟨gb354, 2, none⟩ (.int .i64 ((rd_T44 l0_2 x9_4).f2))) = w124 at n0_ n1_ n2_ n3_ n4_ ⊢
                        have HO_6 := n0_
                        have BK343 := n1_
                        have BK344 := n2_
                        have BK354 := n3_
                        have HB := n4_
                        clear n0_ n1_ n2_ n3_ n4_
                        have n0_ := Aside0.mk (Kd.R_drew HO_6.out)
                        have n1_ := Aside0.mk (blk_drew BK343.out)
                        have n2_ := Aside0.mk (blk_drew BK344.out)
                        have n3_ := Aside0.mk (blk_drew BK354.out)
                        have n4_ := Aside0.mk (below_drew1 HB.out)
                        clear HO_6
                        clear BK343
                        clear BK344
                        clear BK354
                        clear HB
                        have HO_6 := n0_
                        have BK343 := n1_
                        have BK344 := n2_
                        have BK354 := n3_
                        have HB := n4_
                        clear n0_ n1_ n2_ n3_ n4_
                        have p356 : 0 ≤ (((rd_T44 l0_2 x9_4).f0) : Int) := of_decide_eq_true (by first | (with_reducible assumption) | assumption)
                        have q356 : ((rd_T44 l0_2 x9_4).f0) < (x6_4.length : Int) := of_decide_eq_true (by first | (with_reducible assumption) | assumption)
                        obtain ⟨ad356, e356, hx356_0⟩ := Kd.at_int (Kd.R_reads' HO_6.out).2.2 ((rd_T44 l0_2 x9_4).f0) p356 q356
                        obtain rfl : (⟨go80, 0, none⟩ : Addr) = ad356 := (by injection e356)
                        (first | simp only [add_plain] at hx356_0 | simp only [add_at] at hx356_0 | simp only [Addr.add, Nat.zero_add] at hx356_0 | skip)
                        replace p356 := eq_true p356
                        replace q356 := eq_true q356
                        have p357 : 0 ≤ (((rd_T44 l0_2 x9_4).f1) : Int) := of_decide_eq_true (by first | (with_reducible assumption) | assumption)
                        have q357 : ((rd_T44 l0_2 x9_4).f1) < (l0_1.length : Int) := of_decide_eq_true (by first | (with_reducible assumption) | assumption)
                        obtain ⟨ad357, e357, hx357_0⟩ := Kd.at_string HR0_1.out ((rd_T44 l0_2 x9_4).f1) p357 q357
                        have hw357_0 := hx357_0
                        cases e357
                        replace hx357_0 := (HB.out.cell (World.block_lt_of_cell? w _ hx357_0)).trans hx357_0
                        replace p357 := eq_true p357
                        replace q357 := eq_true q357
                        refine start_ (n := 17) (S := fun w' => w'.cell? ⟨gb344, 0, none⟩ = some (.int .i64 a1_0) ∧ w'.cell? ⟨gb344, 1, none⟩ = some (.slice A1_1 l1_1.length c1_1) ∧ w'.cell? ⟨gb344, 2, none⟩ = some (.slice A1_2 l1_2.length c1_2) ∧ w'.cell? ⟨gb354, 0, none⟩ = some (.int .i64 ((rd_T44 l0_2 x9_4).f0)) ∧ w'.cell? ⟨gb354, 1, none⟩ = some (.int .i64 ((rd_T44 l0_2 x9_4).f1)) ∧ w'.cell? ⟨gb354, 2, none⟩ = some (.int .i64 ((rd_T44 l0_2 x9_4).f2)) ∧ w'.cell? ⟨gb343, 0, none⟩ = some (.int .i64 a0_0) ∧ w'.cell? ⟨gb343, 1, none⟩ = some (.slice (some ad357) l0_1.length c0_1) ∧ w'.cell? ⟨gb343, 2, none⟩ = some (.slice (some ad353) l0_2.length c0_2) ∧ w'.cell? ⟨go80, (((rd_T44 l0_2 x9_4).f0)).toNat, none⟩ = some (.int .i64 (rd x6_4 ((rd_T44 l0_2 x9_4).f0))) ∧ w'.cell? (ad357.add (((rd_T44 l0_2 x9_4).f1)).toNat) = some (.string (rdOf ByteArray.empty l0_1 ((rd_T44 l0_2 x9_4).f1)))) (ds := []) #[false, false, false, false, false, false, false, false, false, false, false, false, false, false, false, false, false] (by kernel_rfl) rfl rfl ⟨(blk_cell BK344.out 0).trans rfl, (blk_cell BK344.out 1).trans rfl, (blk_cell BK344.out 2).trans rfl, (blk_cell BK354.out 0).trans rfl, (blk_cell BK354.out 1).trans rfl, (blk_cell BK354.out 2).trans rfl, (blk_cell BK343.out 0).trans rfl, (blk_cell BK343.out 1).trans rfl, (blk_cell BK343.out 2).trans rfl, hx356_0, ((HB.out.cell (World.block_lt_of_cell? w _ hw357_0)).trans hw357_0)⟩ (fun hHeld => ?_); refine with_tabW petrinetref45_Iso.tab17 petrinetref45_Iso.bits17 (fun HT_ HW_ => ?_)
                        generalize w124.drew = w125 at HO_6 BK343 BK344 BK354 HB hx356_0 hx357_0 hHeld ⊢
                        refine sq_p 1 94 (sqm 17 2) HT_.out ?_
                        refine sq_p 2 95 (sqm 17 6) HT_.out ?_
                        refine sq_p 6 99 (sqm 17 70) HT_.out ?_
                        refine sq_p 8 101 (sqm 17 326) HT_.out ?_
                        refine sq_p 10 103 (sqm 17 1350) HT_.out ?_
                        refine sq_t 0 93 (sqm 17 1351) HT_.out HW_.out hHeld ?_
                        refine sq_t 3 96 (sqm 17 1359) HT_.out HW_.out hHeld ?_
                        refine sq_p 4 97 (sqm 17 1375) HT_.out ?_
                        refine sq_t 5 98 (sqm 17 1407) HT_.out HW_.out hHeld ?_
                        refine sq_t 7 100 (sqm 17 1535) HT_.out HW_.out hHeld ?_
                        refine sq_t 9 102 (sqm 17 2047) HT_.out HW_.out hHeld ?_
                        refine sq_t 11 104 (sqm 17 4095) HT_.out HW_.out hHeld ?_
                        refine sq_p 12 105 (sqm 17 8191) HT_.out ?_
                        refine sq_t 13 106 (sqm 17 16383) HT_.out HW_.out hHeld ?_
                        refine one_ (i := 14) (N := some 107) (sqm 17 32767) rfl rfl (one_of HT_.out (by kernel_rfl)) (by decide) (fun K hK => ?_)
                        refine goes_ Try.func29 (by kernel_rfl) rfl #[.slice A1_1 l1_1.length c1_1, .string (rdOf ByteArray.empty l0_1 ((rd_T44 l0_2 x9_4).f1))] (by rfl) rfl rfl (by (try simp only [List.map_toArray, List.map_cons, List.map_nil]); first | done | rfl | (simp only [List.length_drop, List.length_take]; rfl)) ?_
                        with_reducible refine (petrinetref45_at.calls k4 _ _ l1_1 (rdOf ByteArray.empty l0_1 ((rd_T44 l0_2 x9_4).f1)) t358 _ ?side1 ?side2 A101.out).mono ?_
                        (case side1 => exact sq_kc ((Kd.C_below HR1_1.out HB.out)))
                        (case side2 => exact HC1_1.out)
                        rintro e w' ⟨rfl, ⟨nd, rfl⟩⟩
                        refine ⟨_, rfl, ?_⟩
                        refine hK.out _ _ ⟨(blk_cell BK344.out 0).trans rfl, (blk_cell BK344.out 1).trans rfl, (blk_cell BK344.out 2).trans rfl, (blk_cell BK354.out 0).trans rfl, (blk_cell BK354.out 1).trans rfl, (blk_cell BK354.out 2).trans rfl, (blk_cell BK343.out 0).trans rfl, (blk_cell BK343.out 1).trans rfl, (blk_cell BK343.out 2).trans rfl, hHeld.2.2.2.2.2.2.2.2.2.1, ((HB.out.cell (World.block_lt_of_cell? w _ hw357_0)).trans hw357_0)⟩ (fun hHeld => ?_)
                        clear hK K
                        refine norm_ (a' := ?_) ?_ ?_
                        rotate_left
                        ·show Act.put _ (some 107) _ = _
                         simp only [Act.put, List.setIfInBounds_toArray, List.set_cons_zero, List.set_cons_succ, i64_w, i32_w]
                         rfl
                        refine one_ (i := 15) (N := some 108) (sqm 17 65535) rfl rfl (one_of HT_.out (by kernel_rfl)) (by decide) (fun K hK => ?_)
                        refine goes_ Try.func17 (by kernel_rfl) rfl #[.agg #[.int .i64 a1_0, .slice A1_1 l1_1.length c1_1, .slice A1_2 l1_2.length c1_2], .int .i64 (rd x6_4 ((rd_T44 l0_2 x9_4).f0)), .int .i64 t358] (by rfl) rfl rfl (by (try simp only [List.map_toArray, List.map_cons, List.map_nil]); first | done | rfl | (simp only [List.length_drop, List.length_take]; rfl)) ?_
                        with_reducible refine (petrinetref45_Next.calls k4 a1_0 _ _ l1_1 _ _ l1_2 (rd x6_4 ((rd_T44 l0_2 x9_4).f0)) t358 t359 _ ?side1 ?side2 ?side3 ?side4 A102.out).mono ?_
                        (case side1 => exact sq_kc ((Kd.C_below HR1_1.out (sq_bs HB.out))))
                        (case side2 => exact HC1_1.out)
                        (case side3 => exact sq_kc ((Kd.C_below HR1_2.out (sq_bs HB.out))))
                        (case side4 => exact HC1_2.out)
                        rintro e w126 ⟨rfl, hb⟩
                        have HS9_ := (hb.cell (World.block_lt_of_cell? _ _ (hHeld.2.2.2.2.2.2.2.2.2.1))).trans (hHeld.2.2.2.2.2.2.2.2.2.1)
                        refine ⟨_, rfl, ?_⟩
                        have n0_ := Aside0.mk (Kd.R_below (sq_kr HO_6.out) hb)
                        have n1_ := Aside0.mk (blk_below (g := gb343) (o := .cells #[.int .i64 a0_0, .slice (some ad357) l0_1.length c0_1, .slice (some ad353) l0_2.length c0_2] 25 (0, 0)) (sq_bk BK343.out) hb)
                        have n2_ := Aside0.mk (blk_below (g := gb344) (o := .cells #[.int .i64 a1_0, .slice A1_1 l1_1.length c1_1, .slice A1_2 l1_2.length c1_2] 25 (0, 0)) (sq_bk BK344.out) hb)
                        have n3_ := Aside0.mk (blk_below (g := gb354) (o := .cells #[.int .i64 ((rd_T44 l0_2 x9_4).f0), .int .i64 ((rd_T44 l0_2 x9_4).f1), .int .i64 ((rd_T44 l0_2 x9_4).f2)] 44 (0, 0)) (sq_bk BK354.out) hb)
                        have n4_ := Aside0.mk (below_step (sq_bs HB.out) hb)
                        clear HO_6
                        clear BK343
                        clear BK344
                        clear BK354
                        clear HB
                        have HO_6 := n0_
                        have BK343 := n1_
                        have BK344 := n2_
                        have BK354 := n3_
                        have HB := n4_
                        clear n0_ n1_ n2_ n3_ n4_
                        (try clear hb)
                        (try clear hb2)
                        (try clear hk)
                        (try clear hi)
                        refine hK.out _ _ ⟨(blk_cell BK344.out 0).trans rfl, (blk_cell BK344.out 1).trans rfl, (blk_cell BK344.out 2).trans rfl, (blk_cell BK354.out 0).trans rfl, (blk_cell BK354.out 1).trans rfl, (blk_cell BK354.out 2).trans rfl, (blk_cell BK343.out 0).trans rfl, (blk_cell BK343.out 1).trans rfl, (blk_cell BK343.out 2).trans rfl, HS9_, ((HB.out.cell (World.block_lt_of_cell? w _ hw357_0)).trans hw357_0)⟩ (fun hHeld => ?_)
                        clear hK K
                        refine norm_ (a' := ?_) ?_ ?_
                        rotate_left
                        ·show Act.put _ (some 108) _ = _
                         simp only [Act.put, List.setIfInBounds_toArray, List.set_cons_zero, List.set_cons_succ, i64_w, i32_w]
                         rfl
                        refine sq_p 16 11 (sqm 17 131071) HT_.out ?_
                        refine done_ (done_of HT_.out (by kernel_rfl)) ?_
                        have hcz127_0 : w126.cell? ⟨gb354, 0, none⟩ = some (.int .i64 ((rd_T44 l0_2 x9_4).f0)) := (blk_cell BK354.out 0).trans rfl
                        have hcz127_1 : w126.cell? ⟨gb354, 1, none⟩ = some (.int .i64 ((rd_T44 l0_2 x9_4).f1)) := (blk_cell BK354.out 1).trans rfl
                        have hcz127_2 : w126.cell? ⟨gb354, 2, none⟩ = some (.int .i64 ((rd_T44 l0_2 x9_4).f2)) := (blk_cell BK354.out 2).trans rfl
                        have hfz127_0 := blk_frozen BK354.out 0
                        have hfz127_1 := blk_frozen BK354.out 1
                        have hfz127_2 := blk_frozen BK354.out 2
                        have p360 : 0 ≤ (((rd_T44 l0_2 x9_4).f2) : Int) := of_decide_eq_true (by first | (with_reducible assumption) | assumption)
                        have q360 : ((rd_T44 l0_2 x9_4).f2) < (x6_4.length : Int) := of_decide_eq_true (by first | (with_reducible assumption) | assumption)
                        obtain ⟨ad360, e360, hx360_0⟩ := Kd.at_int (Kd.R_reads' HO_6.out).2.2 ((rd_T44 l0_2 x9_4).f2) p360 q360
                        obtain rfl : (⟨go80, 0, none⟩ : Addr) = ad360 := (by injection e360)
                        (first | simp only [add_plain] at hx360_0 | simp only [add_at] at hx360_0 | simp only [Addr.add, Nat.zero_add] at hx360_0 | skip)
                        replace p360 := eq_true p360
                        replace q360 := eq_true q360
                        have p361 : 0 ≤ (((rd_T44 l0_2 x9_4).f2) : Int) := of_decide_eq_true (by first | (with_reducible assumption) | assumption)
                        have q361 : ((rd_T44 l0_2 x9_4).f2) < (x6_4.length : Int) := of_decide_eq_true (by first | (with_reducible assumption) | assumption)
                        obtain ⟨ad361, e361, hx361_0⟩ := Kd.at_int (Kd.R_reads' HO_6.out).2.2 ((rd_T44 l0_2 x9_4).f2) p361 q361
                        obtain rfl : (⟨go80, 0, none⟩ : Addr) = ad361 := (by injection e361)
                        (first | simp only [add_plain] at hx361_0 | simp only [add_at] at hx361_0 | simp only [Addr.add, Nat.zero_add] at hx361_0 | skip)
                        replace p361 := eq_true p361
                        replace q361 := eq_true q361
                        have H := HH_.out
                        clear HH_
                        by_cases c116 : (rd x6_4 ((rd_T44 l0_2 x9_4).f2)) = t359
                        ·rw [if_pos c116] at H
                         have c116b0 : ((rd x6_4 ((rd_T44 l0_2 x9_4).f2)) == t359) = true := beq_iff_eq.mpr c116
                         have c116b1 : ((rd x6_4 ((rd_T44 l0_2 x9_4).f2)) != t359) = false := bne_eq_false_iff_eq.mpr c116
                         clear c116
                         obtain ⟨y362, hy362⟩ : ∃ y_ : List Int, y_ = (x6_4.set (((rd_T44 l0_2 x9_4).f2) : Int).toNat t359) := ⟨_, rfl⟩
                         replace H : (petrinetref45_Iso.l2 k4 y362 x8_3 (wrap64 (x9_4 + 1)) a0_0 l0_1 l0_2 a1_0 l1_1 l1_2) = some (r1, r2) := by first | (rw [hy362]; with_reducible exact H) | (have H2_ := (Option.bind_some _ _).symm.trans H; rw [hy362]; with_reducible exact H2_) | (have H2_ := (Option.bind_some _ _).symm.trans H; with_reducible exact H2_) | with_reducible exact H | (rw [hy362]; exact H) | exact H
                         have Ny362 := Aside0.mk hy362
                         clear hy362
                         have H' := Aside0.mk H
                         clear H
                         try simp only [c116b0, c116b1]
                         have p117 : 0 ≤ (((rd_T44 l0_2 x9_4).f2) : Int) := of_decide_eq_true (by first | (with_reducible assumption) | assumption)
                         have q117 : (((rd_T44 l0_2 x9_4).f2) : Int) < ((x6_4.length : Int) : Int) := of_decide_eq_true (by first | (with_reducible assumption) | assumption)
                         obtain ⟨hx117_0, hf117_0⟩ := Kd.R_celln 0 HO_6.out (((rd_T44 l0_2 x9_4).f2) : Int) p117 q117
                         replace p117 := eq_true p117
                         replace q117 := eq_true q117
                         obtain ⟨hy128_, hz128_⟩ := Kd.R_celln 0 HO_6.out (((rd_T44 l0_2 x9_4).f2) : Int) (of_decide_eq_true (by first | (with_reducible assumption) | assumption)) (of_decide_eq_true (by first | (with_reducible assumption) | assumption))
                         have HP128 := Kd.R_putg HO_6.out (((rd_T44 l0_2 x9_4).f2) : Int) t359
                         try go_wp2_with (first | ((with_reducible refine gate_store (t := 3) (p := 132) rfl ?_); refine store_event (t := 3) (p := 132) (v := ?vo_w129) (w1 := (w126.setCell ⟨go80, (((rd_T44 l0_2 x9_4).f2) : Int).toNat, none⟩ (.int .i64 t359))) ?hg ?ho ?hn ?hr ?_; (case ho => rfl); (case hg => rfl); (case hn => rfl); (case hr => first | (go_simp; done) | (go_simp; rfl)); intro w129 hw; have hg : w126.grownBy w129 (some go80) := (by rw [hw]; exact HP128.2); have hp_ : Kd.R (Kd.int .i64) 3 w129 w.heap.size (fun _ => True) (.slice (some ⟨go80, 0, none⟩) x6_4.length co80) y362 := (by rw [hw, Ny362.out]; exact HP128.1); clear HP128; have n0_ := Aside0.mk (hp_); have n1_ := Aside0.mk (blk_grown (g := gb343) (o := .cells #[.int .i64 a0_0, .slice (some ad357) l0_1.length c0_1, .slice (some ad353) l0_2.length c0_2] 25 (0, 0)) (sq_bk BK343.out) hg (Kd.R_ne HO_6.out BK343.out (by decide))); have n2_ := Aside0.mk (blk_grown (g := gb344) (o := .cells #[.int .i64 a1_0, .slice A1_1 l1_1.length c1_1, .slice A1_2 l1_2.length c1_2] 25 (0, 0)) (sq_bk BK344.out) hg (Kd.R_ne HO_6.out BK344.out (by decide))); have n3_ := Aside0.mk (blk_grown (g := gb354) (o := .cells #[.int .i64 ((rd_T44 l0_2 x9_4).f0), .int .i64 ((rd_T44 l0_2 x9_4).f1), .int .i64 ((rd_T44 l0_2 x9_4).f2)] 44 (0, 0)) (sq_bk BK354.out) hg (Kd.R_ne HO_6.out BK354.out (by decide))); have n4_ := Aside0.mk ((by rw [hw]; exact below_set (HB.out) GB80.out : Below w.heap.size w w129)); clear HO_6; clear BK343; clear BK344; clear BK354; clear HB; have HO_6 := n0_; have BK343 := n1_; have BK344 := n2_; have BK354 := n3_; have HB := n4_; clear n0_ n1_ n2_ n3_ n4_; clear hg hw hp_))
                         (try simp only [← hl6_4])
                         go_roundg k4
                         case measure => have := HJ2.out; have := HK2.out; have := HK3.out; have := HK4.out; omega
                         case rel => exact ⟨(y362), (wrap64 (x9_4 + 1)), (by first | rfl | (simp; done) | (simp [*]; done)), H', ⟨by have := HJ2.out; have := HK2.out; have := HK3.out; have := HK4.out; omega⟩, ⟨by (try simp only [hl6_3]); (try simp only [hl6_4]); (with_reducible repeat (first | apply Kd.R_alloc | apply Kd.R_drewN | apply Kd.R_drew)); exact HO_6.out⟩, ⟨by (try simp only [hl6_3]); (try simp only [hl6_4]); (with_reducible repeat (first | refine blk_drewN ?_ _ | refine blk_drew ?_ | refine blk_alloc ?_ _)); exact BK343.out⟩, ⟨by (try simp only [hl6_3]); (try simp only [hl6_4]); (with_reducible repeat (first | refine blk_drewN ?_ _ | refine blk_drew ?_ | refine blk_alloc ?_ _)); exact BK344.out⟩, ⟨sq_bs HB.out⟩⟩
                        ·rw [if_neg c116] at H
                         have c116b0 : ((rd x6_4 ((rd_T44 l0_2 x9_4).f2)) == t359) = false := beq_eq_false_iff_ne.mpr c116
                         have c116b1 : ((rd x6_4 ((rd_T44 l0_2 x9_4).f2)) != t359) = true := bne_iff_ne.mpr c116
                         simp only [Option.some.injEq, Prod.mk.injEq] at H
                         obtain ⟨rfl, rfl⟩ := H
                         try simp only [c116b0, c116b1]
                         try go_wp2
                         go_ret2
                         exact ⟨_, by first | rfl | (simp [errW_none, errW_some] <;> rfl) | (simp [*, errW_none, errW_some] <;> rfl), by first | exact Kd.R_nil _ _ _ _ _ | exact Kd.N_nil _ _ _ _ _ | exact Kd.V_nil _ _ _ _ _ | exact Kd.Q_nil _ _ _ _ _ | exact Kd.S_nil _ _ _ _ _, sq_bs HB.out⟩
                       ·rw [if_neg c115] at H
                        have c115b0 : decide (0 ≤ (rd x6_4 ((rd_T44 l0_2 x9_4).f2))) = false := decide_eq_false c115
                        clear c115
                        obtain ⟨y363, hy363⟩ : ∃ y_ : List Int, y_ = (x6_4.set (((rd_T44 l0_2 x9_4).f2) : Int).toNat t359) := ⟨_, rfl⟩
                        replace H : (petrinetref45_Iso.l2 k4 y363 x8_3 (wrap64 (x9_4 + 1)) a0_0 l0_1 l0_2 a1_0 l1_1 l1_2) = some (r1, r2) := by first | (rw [hy363]; with_reducible exact H) | (have H2_ := (Option.bind_some _ _).symm.trans H; rw [hy363]; with_reducible exact H2_) | (have H2_ := (Option.bind_some _ _).symm.trans H; with_reducible exact H2_) | with_reducible exact H | (rw [hy363]; exact H) | exact H
                        have Ny363 := Aside0.mk hy363
                        clear hy363
                        have H' := Aside0.mk H
                        clear H
                        try go_wp2_with (first | ((with_reducible refine gate_dst (N := 10) rfl ?_); (try (refine gate_guard (by rfl) ?_; dsimp only)); refine sq_box 10 #[.int .i64 0, .int .i64 0, .int .i64 0] 44 ?_; intro gb354 hg w143 hbox hb; have n0_ := Aside0.mk (Kd.R_below (sq_kr HO_6.out) hb); have n1_ := Aside0.mk (blk_below (g := gb343) (o := .cells #[.int .i64 a0_0, .slice A0_1 l0_1.length c0_1, .slice (some ad353) l0_2.length c0_2] 25 (0, 0)) (sq_bk BK343.out) hb); have n2_ := Aside0.mk (blk_below (g := gb344) (o := .cells #[.int .i64 a1_0, .slice A1_1 l1_1.length c1_1, .slice A1_2 l1_2.length c1_2] 25 (0, 0)) (sq_bk BK344.out) hb); have n3_ := Aside0.mk (below_step (sq_bs HB.out) hb); have n4_ := Aside0.mk (hbox); have n5_ := Aside0.mk ((by rw [hg]; exact (below_size (sq_bs HB.out)) : w.heap.size ≤ gb354)); have n6_ := Aside0.mk ((by rw [hg]; exact (below_size (sq_bs HB.out)) : w.heap.size ≤ gb354)); have n7_ := Aside0.mk ((by rw [hg]; exact Nat.ne_of_lt (blk_lt (g := gb343) (o := .cells #[.int .i64 a0_0, .slice A0_1 l0_1.length c0_1, .slice (some ad353) l0_2.length c0_2] 25 (0, 0)) (sq_bk BK343.out)) : gb343 ≠ gb354)); have n8_ := Aside0.mk ((by rw [hg]; exact Nat.ne_of_gt (blk_lt (g := gb343) (o := .cells #[.int .i64 a0_0, .slice A0_1 l0_1.length c0_1, .slice (some ad353) l0_2.length c0_2] 25 (0, 0)) (sq_bk BK343.out)) : gb354 ≠ gb343)); have n9_ := Aside0.mk ((by rw [hg]; exact Nat.ne_of_lt (blk_lt (g := gb344) (o := .cells #[.int .i64 a1_0, .slice A1_1 l1_1.length c1_1, .slice A1_2 l1_2.length c1_2] 25 (0, 0)) (sq_bk BK344.out)) : gb344 ≠ gb354)); have n10_ := Aside0.mk ((by rw [hg]; exact Nat.ne_of_gt (blk_lt (g := gb344) (o := .cells #[.int .i64 a1_0, .slice A1_1 l1_1.length c1_1, .slice A1_2 l1_2.length c1_2] 25 (0, 0)) (sq_bk BK344.out)) : gb354 ≠ gb344)); clear HO_6; clear BK343; clear BK344; clear HB; have HO_6 := n0_; have BK343 := n1_; have BK344 := n2_; have HB := n3_; have BK354 := n4_; have GW354 := n5_; have GE354 := n6_; have NB343_354 := n7_; have NB354_343 := n8_; have NB344_354 := n9_; have NB354_344 := n10_; clear n0_ n1_ n2_ n3_ n4_ n5_ n6_ n7_ n8_ n9_ n10_; clear hb hbox hg; have hnb144 := NB354_343.out; have hnc144 := NB343_354.out; have hnb145 := NB354_344.out; have hnc145 := NB344_354.out; have hcz146_0 : w143.cell? ⟨gb354, 0, none⟩ = some (.int .i64 0) := (blk_cell BK354.out 0).trans rfl; have hcz146_1 : w143.cell? ⟨gb354, 1, none⟩ = some (.int .i64 0) := (blk_cell BK354.out 1).trans rfl; have hcz146_2 : w143.cell? ⟨gb354, 2, none⟩ = some (.int .i64 0) := (blk_cell BK354.out 2).trans rfl; have hfz146_0 := blk_frozen BK354.out 0; have hfz146_1 := blk_frozen BK354.out 1; have hfz146_2 := blk_frozen BK354.out 2; have p355 : 0 ≤ (((rd_T44 l0_2 x9_4).f0) : Int) := of_decide_eq_true (by first | (with_reducible assumption) | assumption); have q355 : ((rd_T44 l0_2 x9_4).f0) < (x6_4.length : Int) := of_decide_eq_true (by first | (with_reducible assumption) | assumption); obtain ⟨ad355, e355, hx355_0⟩ := Kd.at_int (Kd.R_reads' HO_6.out).2.2 ((rd_T44 l0_2 x9_4).f0) p355 q355; obtain rfl : (⟨go80, 0, none⟩ : Addr) = ad355 := (by injection e355); (first | simp only [add_plain] at hx355_0 | simp only [add_at] at hx355_0 | simp only [Addr.add, Nat.zero_add] at hx355_0 | skip); have hn355_0 : (⟨go80, 0, none⟩ : Addr).block ≠ gb354 := Kd.own_blk (Kd.R_ne HO_6.out BK354.out (by decide)); have hn355_1 : (⟨go80, 0, none⟩ : Addr).block ≠ gb354 := Kd.own_blk (Kd.R_ne HO_6.out BK354.out (by decide)); have hn355_2 : (⟨go80, 0, none⟩ : Addr).block ≠ gb354 := Kd.own_blk (Kd.R_ne HO_6.out BK354.out (by decide)); replace hx355_0 := (cell_far (p := ⟨gb354, 0, none⟩) (by first | (rw [add_block]; exact hn355_0) | (show (Addr.add _ _).block ≠ _; rw [add_block]; exact hn355_0) | exact hn355_0) (.int .i64 ((rd_T44 l0_2 x9_4).f0))).trans hx355_0; replace hx355_0 := (cell_far (p := ⟨gb354, 1, none⟩) (by first | (rw [add_block]; exact hn355_1) | (show (Addr.add _ _).block ≠ _; rw [add_block]; exact hn355_1) | exact hn355_1) (.int .i64 ((rd_T44 l0_2 x9_4).f1))).trans hx355_0; replace hx355_0 := (cell_far (p := ⟨gb354, 2, none⟩) (by first | (rw [add_block]; exact hn355_2) | (show (Addr.add _ _).block ≠ _; rw [add_block]; exact hn355_2) | exact hn355_2) (.int .i64 ((rd_T44 l0_2 x9_4).f2))).trans hx355_0; clear hn355_0; clear hn355_1; clear hn355_2; replace p355 := eq_true p355; replace q355 := eq_true q355))
                        have n0_ : Aside0 (Kd.R (Kd.int .i64) 3 (((w143.setCell ⟨gb354, 0, none⟩ (.int .i64 ((rd_T44 l0_2 x9_4).f0))).setCell ⟨gb354, 1, none⟩ (.int .i64 ((rd_T44 l0_2 x9_4).f1))).setCell ⟨gb354, 2, none⟩ (.int .i64 ((rd_T44 l0_2 x9_4).f2))) w.heap.size (fun _ => True) (.slice (some ⟨go80, 0, none⟩) x6_4.length co80) x6_4) := ⟨by (with_reducible repeat (first | apply Kd.R_alloc | apply Kd.R_drewN | apply Kd.R_drew)); exact Kd.R_mono (Kd.R_far (p := ⟨gb354, 2, none⟩) (Kd.R_far (p := ⟨gb354, 1, none⟩) (Kd.R_far (p := ⟨gb354, 0, none⟩) (Kd.R_types HO_6.out BK354.out (by decide)) (fun _ hk => hk.2) (.int .i64 ((rd_T44 l0_2 x9_4).f0))) (fun _ hk => hk.2) (.int .i64 ((rd_T44 l0_2 x9_4).f1))) (fun _ hk => hk.2) (.int .i64 ((rd_T44 l0_2 x9_4).f2))) (fun _ hk => trivial)⟩
                        have n1_ : Aside0 ((((w143.setCell ⟨gb354, 0, none⟩ (.int .i64 ((rd_T44 l0_2 x9_4).f0))).setCell ⟨gb354, 1, none⟩ (.int .i64 ((rd_T44 l0_2 x9_4).f1))).setCell ⟨gb354, 2, none⟩ (.int .i64 ((rd_T44 l0_2 x9_4).f2))).heap[gb343]? = some (.cells #[.int .i64 a0_0, .slice A0_1 l0_1.length c0_1, .slice (some ad353) l0_2.length c0_2] 25 (0, 0))) := ⟨by (with_reducible repeat (first | refine blk_drewN ?_ _ | refine blk_drew ?_ | refine blk_alloc ?_ _)); refine blk_far ?_ NB343_354.out _; (with_reducible repeat (first | refine blk_drewN ?_ _ | refine blk_drew ?_ | refine blk_alloc ?_ _)); refine blk_far ?_ NB343_354.out _; (with_reducible repeat (first | refine blk_drewN ?_ _ | refine blk_drew ?_ | refine blk_alloc ?_ _)); refine blk_far ?_ NB343_354.out _; (with_reducible repeat (first | refine blk_drewN ?_ _ | refine blk_drew ?_ | refine blk_alloc ?_ _)); exact BK343.out⟩
                        have n2_ : Aside0 ((((w143.setCell ⟨gb354, 0, none⟩ (.int .i64 ((rd_T44 l0_2 x9_4).f0))).setCell ⟨gb354, 1, none⟩ (.int .i64 ((rd_T44 l0_2 x9_4).f1))).setCell ⟨gb354, 2, none⟩ (.int .i64 ((rd_T44 l0_2 x9_4).f2))).heap[gb344]? = some (.cells #[.int .i64 a1_0, .slice A1_1 l1_1.length c1_1, .slice A1_2 l1_2.length c1_2] 25 (0, 0))) := ⟨by (with_reducible repeat (first | refine blk_drewN ?_ _ | refine blk_drew ?_ | refine blk_alloc ?_ _)); refine blk_far ?_ NB344_354.out _; (with_reducible repeat (first | refine blk_drewN ?_ _ | refine blk_drew ?_ | refine blk_alloc ?_ _)); refine blk_far ?_ NB344_354.out _; (with_reducible repeat (first | refine blk_drewN ?_ _ | refine blk_drew ?_ | refine blk_alloc ?_ _)); refine blk_far ?_ NB344_354.out _; (with_reducible repeat (first | refine blk_drewN ?_ _ | refine blk_drew ?_ | refine blk_alloc ?_ _)); exact BK344.out⟩
                        have n3_ : Aside0 ((((w143.setCell ⟨gb354, 0, none⟩ (.int .i64 ((rd_T44 l0_2 x9_4).f0))).setCell ⟨gb354, 1, none⟩ (.int .i64 ((rd_T44 l0_2 x9_4).f1))).setCell ⟨gb354, 2, none⟩ (.int .i64 ((rd_T44 l0_2 x9_4).f2))).heap[gb354]? = some (.cells #[.int .i64 ((rd_T44 l0_2 x9_4).f0), .int .i64 ((rd_T44 l0_2 x9_4).f1), .int .i64 ((rd_T44 l0_2 x9_4).f2)] 44 (0, 0))) := ⟨by (with_reducible repeat (first | refine blk_drewN ?_ _ | refine blk_drew ?_ | refine blk_alloc ?_ _)); refine blk_put (cs := #[.int .i64 ((rd_T44 l0_2 x9_4).f0), .int .i64 ((rd_T44 l0_2 x9_4).f1), .int .i64 0]) ?_ 2 _ rfl; (with_reducible repeat (first | refine blk_drewN ?_ _ | refine blk_drew ?_ | refine blk_alloc ?_ _)); refine blk_put (cs := #[.int .i64 ((rd_T44 l0_2 x9_4).f0), .int .i64 0, .int .i64 0]) ?_ 1 _ rfl; (with_reducible repeat (first | refine blk_drewN ?_ _ | refine blk_drew ?_ | refine blk_alloc ?_ _)); refine blk_put (cs := #[.int .i64 0, .int .i64 0, .int .i64 0]) ?_ 0 _ rfl; (with_reducible repeat (first | refine blk_drewN ?_ _ | refine blk_drew ?_ | refine blk_alloc ?_ _)); exact BK354.out⟩
                        have n4_ : Aside0 (Below w.heap.size w (((w143.setCell ⟨gb354, 0, none⟩ (.int .i64 ((rd_T44 l0_2 x9_4).f0))).setCell ⟨gb354, 1, none⟩ (.int .i64 ((rd_T44 l0_2 x9_4).f1))).setCell ⟨gb354, 2, none⟩ (.int .i64 ((rd_T44 l0_2 x9_4).f2)))) := ⟨sq_bs HB.out⟩
                        (try clear HO_6)
                        (try clear BK343)
                        (try clear BK344)
                        (try clear BK354)
                        (try clear HB)
                        generalize (((w143.setCell ⟨gb354, 0, none⟩ (.int .i64 ((rd_T44 l0_2 x9_4).f0))).setCell ⟨gb354, 1, none⟩ (.int .i64 ((rd_T44 l0_2 x9_4).f1))).setCell ⟨gb354, 2, none⟩ (.int .i64 ((rd_T44 l0_2 x9_4).f2))) = w147 at n0_ n1_ n2_ n3_ n4_ ⊢
                        have HO_6 := n0_
                        have BK343 := n1_
                        have BK344 := n2_
                        have BK354 := n3_
                        have HB := n4_
                        clear n0_ n1_ n2_ n3_ n4_
                        have n0_ := Aside0.mk (Kd.R_drew HO_6.out)
                        have n1_ := Aside0.mk (blk_drew BK343.out)
                        have n2_ := Aside0.mk (blk_drew BK344.out)
                        have n3_ := Aside0.mk (blk_drew BK354.out)
                        have n4_ := Aside0.mk (below_drew1 HB.out)
                        clear HO_6
                        clear BK343
                        clear BK344
                        clear BK354
                        clear HB
                        have HO_6 := n0_
                        have BK343 := n1_
                        have BK344 := n2_
                        have BK354 := n3_
                        have HB := n4_
                        clear n0_ n1_ n2_ n3_ n4_
                        have p356 : 0 ≤ (((rd_T44 l0_2 x9_4).f0) : Int) := of_decide_eq_true (by first | (with_reducible assumption) | assumption)
                        have q356 : ((rd_T44 l0_2 x9_4).f0) < (x6_4.length : Int) := of_decide_eq_true (by first | (with_reducible assumption) | assumption)
                        obtain ⟨ad356, e356, hx356_0⟩ := Kd.at_int (Kd.R_reads' HO_6.out).2.2 ((rd_T44 l0_2 x9_4).f0) p356 q356
                        obtain rfl : (⟨go80, 0, none⟩ : Addr) = ad356 := (by injection e356)
                        (first | simp only [add_plain] at hx356_0 | simp only [add_at] at hx356_0 | simp only [Addr.add, Nat.zero_add] at hx356_0 | skip)
                        replace p356 := eq_true p356
                        replace q356 := eq_true q356
                        have p357 : 0 ≤ (((rd_T44 l0_2 x9_4).f1) : Int) := of_decide_eq_true (by first | (with_reducible assumption) | assumption)
                        have q357 : ((rd_T44 l0_2 x9_4).f1) < (l0_1.length : Int) := of_decide_eq_true (by first | (with_reducible assumption) | assumption)
                        obtain ⟨ad357, e357, hx357_0⟩ := Kd.at_string HR0_1.out ((rd_T44 l0_2 x9_4).f1) p357 q357
                        have hw357_0 := hx357_0
                        cases e357
                        replace hx357_0 := (HB.out.cell (World.block_lt_of_cell? w _ hx357_0)).trans hx357_0
                        replace p357 := eq_true p357
                        replace q357 := eq_true q357
                        refine start_ (n := 17) (S := fun w' => w'.cell? ⟨gb344, 0, none⟩ = some (.int .i64 a1_0) ∧ w'.cell? ⟨gb344, 1, none⟩ = some (.slice A1_1 l1_1.length c1_1) ∧ w'.cell? ⟨gb344, 2, none⟩ = some (.slice A1_2 l1_2.length c1_2) ∧ w'.cell? ⟨gb354, 0, none⟩ = some (.int .i64 ((rd_T44 l0_2 x9_4).f0)) ∧ w'.cell? ⟨gb354, 1, none⟩ = some (.int .i64 ((rd_T44 l0_2 x9_4).f1)) ∧ w'.cell? ⟨gb354, 2, none⟩ = some (.int .i64 ((rd_T44 l0_2 x9_4).f2)) ∧ w'.cell? ⟨gb343, 0, none⟩ = some (.int .i64 a0_0) ∧ w'.cell? ⟨gb343, 1, none⟩ = some (.slice (some ad357) l0_1.length c0_1) ∧ w'.cell? ⟨gb343, 2, none⟩ = some (.slice (some ad353) l0_2.length c0_2) ∧ w'.cell? ⟨go80, (((rd_T44 l0_2 x9_4).f0)).toNat, none⟩ = some (.int .i64 (rd x6_4 ((rd_T44 l0_2 x9_4).f0))) ∧ w'.cell? (ad357.add (((rd_T44 l0_2 x9_4).f1)).toNat) = some (.string (rdOf ByteArray.empty l0_1 ((rd_T44 l0_2 x9_4).f1)))) (ds := []) #[false, false, false, false, false, false, false, false, false, false, false, false, false, false, false, false, false] (by kernel_rfl) rfl rfl ⟨(blk_cell BK344.out 0).trans rfl, (blk_cell BK344.out 1).trans rfl, (blk_cell BK344.out 2).trans rfl, (blk_cell BK354.out 0).trans rfl, (blk_cell BK354.out 1).trans rfl, (blk_cell BK354.out 2).trans rfl, (blk_cell BK343.out 0).trans rfl, (blk_cell BK343.out 1).trans rfl, (blk_cell BK343.out 2).trans rfl, hx356_0, ((HB.out.cell (World.block_lt_of_cell? w _ hw357_0)).trans hw357_0)⟩ (fun hHeld => ?_); refine with_tabW petrinetref45_Iso.tab17 petrinetref45_Iso.bits17 (fun HT_ HW_ => ?_)
                        generalize w147.drew = w148 at HO_6 BK343 BK344 BK354 HB hx356_0 hx357_0 hHeld ⊢
                        refine sq_p 1 94 (sqm 17 2) HT_.out ?_
                        refine sq_p 2 95 (sqm 17 6) HT_.out ?_
                        refine sq_p 6 99 (sqm 17 70) HT_.out ?_
                        refine sq_p 8 101 (sqm 17 326) HT_.out ?_
                        refine sq_p 10 103 (sqm 17 1350) HT_.out ?_
                        refine sq_t 0 93 (sqm 17 1351) HT_.out HW_.out hHeld ?_
                        refine sq_t 3 96 (sqm 17 1359) HT_.out HW_.out hHeld ?_
                        refine sq_p 4 97 (sqm 17 1375) HT_.out ?_
                        refine sq_t 5 98 (sqm 17 1407) HT_.out HW_.out hHeld ?_
                        refine sq_t 7 100 (sqm 17 1535) HT_.out HW_.out hHeld ?_
                        refine sq_t 9 102 (sqm 17 2047) HT_.out HW_.out hHeld ?_
                        refine sq_t 11 104 (sqm 17 4095) HT_.out HW_.out hHeld ?_
                        refine sq_p 12 105 (sqm 17 8191) HT_.out ?_
                        refine sq_t 13 106 (sqm 17 16383) HT_.out HW_.out hHeld ?_
                        refine one_ (i := 14) (N := some 107) (sqm 17 32767) rfl rfl (one_of HT_.out (by kernel_rfl)) (by decide) (fun K hK => ?_)
                        refine goes_ Try.func29 (by kernel_rfl) rfl #[.slice A1_1 l1_1.length c1_1, .string (rdOf ByteArray.empty l0_1 ((rd_T44 l0_2 x9_4).f1))] (by rfl) rfl rfl (by (try simp only [List.map_toArray, List.map_cons, List.map_nil]); first | done | rfl | (simp only [List.length_drop, List.length_take]; rfl)) ?_
                        with_reducible refine (petrinetref45_at.calls k4 _ _ l1_1 (rdOf ByteArray.empty l0_1 ((rd_T44 l0_2 x9_4).f1)) t358 _ ?side1 ?side2 A101.out).mono ?_
                        (case side1 => exact sq_kc ((Kd.C_below HR1_1.out HB.out)))
                        (case side2 => exact HC1_1.out)
                        rintro e w' ⟨rfl, ⟨nd, rfl⟩⟩
                        refine ⟨_, rfl, ?_⟩
                        refine hK.out _ _ ⟨(blk_cell BK344.out 0).trans rfl, (blk_cell BK344.out 1).trans rfl, (blk_cell BK344.out 2).trans rfl, (blk_cell BK354.out 0).trans rfl, (blk_cell BK354.out 1).trans rfl, (blk_cell BK354.out 2).trans rfl, (blk_cell BK343.out 0).trans rfl, (blk_cell BK343.out 1).trans rfl, (blk_cell BK343.out 2).trans rfl, hHeld.2.2.2.2.2.2.2.2.2.1, ((HB.out.cell (World.block_lt_of_cell? w _ hw357_0)).trans hw357_0)⟩ (fun hHeld => ?_)
                        clear hK K
                        refine norm_ (a' := ?_) ?_ ?_
                        rotate_left
                        ·show Act.put _ (some 107) _ = _
                         simp only [Act.put, List.setIfInBounds_toArray, List.set_cons_zero, List.set_cons_succ, i64_w, i32_w]
                         rfl
                        refine one_ (i := 15) (N := some 108) (sqm 17 65535) rfl rfl (one_of HT_.out (by kernel_rfl)) (by decide) (fun K hK => ?_)
                        refine goes_ Try.func17 (by kernel_rfl) rfl #[.agg #[.int .i64 a1_0, .slice A1_1 l1_1.length c1_1, .slice A1_2 l1_2.length c1_2], .int .i64 (rd x6_4 ((rd_T44 l0_2 x9_4).f0)), .int .i64 t358] (by rfl) rfl rfl (by (try simp only [List.map_toArray, List.map_cons, List.map_nil]); first | done | rfl | (simp only [List.length_drop, List.length_take]; rfl)) ?_
                        with_reducible refine (petrinetref45_Next.calls k4 a1_0 _ _ l1_1 _ _ l1_2 (rd x6_4 ((rd_T44 l0_2 x9_4).f0)) t358 t359 _ ?side1 ?side2 ?side3 ?side4 A102.out).mono ?_
                        (case side1 => exact sq_kc ((Kd.C_below HR1_1.out (sq_bs HB.out))))
                        (case side2 => exact HC1_1.out)
                        (case side3 => exact sq_kc ((Kd.C_below HR1_2.out (sq_bs HB.out))))
                        (case side4 => exact HC1_2.out)
                        rintro e w149 ⟨rfl, hb⟩
                        have HS9_ := (hb.cell (World.block_lt_of_cell? _ _ (hHeld.2.2.2.2.2.2.2.2.2.1))).trans (hHeld.2.2.2.2.2.2.2.2.2.1)
                        refine ⟨_, rfl, ?_⟩
                        have n0_ := Aside0.mk (Kd.R_below (sq_kr HO_6.out) hb)
                        have n1_ := Aside0.mk (blk_below (g := gb343) (o := .cells #[.int .i64 a0_0, .slice (some ad357) l0_1.length c0_1, .slice (some ad353) l0_2.length c0_2] 25 (0, 0)) (sq_bk BK343.out) hb)
                        have n2_ := Aside0.mk (blk_below (g := gb344) (o := .cells #[.int .i64 a1_0, .slice A1_1 l1_1.length c1_1, .slice A1_2 l1_2.length c1_2] 25 (0, 0)) (sq_bk BK344.out) hb)
                        have n3_ := Aside0.mk (blk_below (g := gb354) (o := .cells #[.int .i64 ((rd_T44 l0_2 x9_4).f0), .int .i64 ((rd_T44 l0_2 x9_4).f1), .int .i64 ((rd_T44 l0_2 x9_4).f2)] 44 (0, 0)) (sq_bk BK354.out) hb)
                        have n4_ := Aside0.mk (below_step (sq_bs HB.out) hb)
                        clear HO_6
                        clear BK343
                        clear BK344
                        clear BK354
                        clear HB
                        have HO_6 := n0_
                        have BK343 := n1_
                        have BK344 := n2_
                        have BK354 := n3_
                        have HB := n4_
                        clear n0_ n1_ n2_ n3_ n4_
                        (try clear hb)
                        (try clear hb2)
                        (try clear hk)
                        (try clear hi)
                        refine hK.out _ _ ⟨(blk_cell BK344.out 0).trans rfl, (blk_cell BK344.out 1).trans rfl, (blk_cell BK344.out 2).trans rfl, (blk_cell BK354.out 0).trans rfl, (blk_cell BK354.out 1).trans rfl, (blk_cell BK354.out 2).trans rfl, (blk_cell BK343.out 0).trans rfl, (blk_cell BK343.out 1).trans rfl, (blk_cell BK343.out 2).trans rfl, HS9_, ((HB.out.cell (World.block_lt_of_cell? w _ hw357_0)).trans hw357_0)⟩ (fun hHeld => ?_)
                        clear hK K
                        refine norm_ (a' := ?_) ?_ ?_
                        rotate_left
                        ·show Act.put _ (some 108) _ = _
                         simp only [Act.put, List.setIfInBounds_toArray, List.set_cons_zero, List.set_cons_succ, i64_w, i32_w]
                         rfl
                        refine sq_p 16 11 (sqm 17 131071) HT_.out ?_
                        refine done_ (done_of HT_.out (by kernel_rfl)) ?_
                        have hcz150_0 : w149.cell? ⟨gb354, 0, none⟩ = some (.int .i64 ((rd_T44 l0_2 x9_4).f0)) := (blk_cell BK354.out 0).trans rfl
                        have hcz150_1 : w149.cell? ⟨gb354, 1, none⟩ = some (.int .i64 ((rd_T44 l0_2 x9_4).f1)) := (blk_cell BK354.out 1).trans rfl
                        have hcz150_2 : w149.cell? ⟨gb354, 2, none⟩ = some (.int .i64 ((rd_T44 l0_2 x9_4).f2)) := (blk_cell BK354.out 2).trans rfl
                        have hfz150_0 := blk_frozen BK354.out 0
                        have hfz150_1 := blk_frozen BK354.out 1
                        have hfz150_2 := blk_frozen BK354.out 2
                        have p360 : 0 ≤ (((rd_T44 l0_2 x9_4).f2) : Int) := of_decide_eq_true (by first | (with_reducible assumption) | assumption)
                        have q360 : ((rd_T44 l0_2 x9_4).f2) < (x6_4.length : Int) := of_decide_eq_true (by first | (with_reducible assumption) | assumption)
                        obtain ⟨ad360, e360, hx360_0⟩ := Kd.at_int (Kd.R_reads' HO_6.out).2.2 ((rd_T44 l0_2 x9_4).f2) p360 q360
                        obtain rfl : (⟨go80, 0, none⟩ : Addr) = ad360 := (by injection e360)
                        (first | simp only [add_plain] at hx360_0 | simp only [add_at] at hx360_0 | simp only [Addr.add, Nat.zero_add] at hx360_0 | skip)
                        replace p360 := eq_true p360
                        replace q360 := eq_true q360
                        have p140 : 0 ≤ (((rd_T44 l0_2 x9_4).f2) : Int) := of_decide_eq_true (by first | (with_reducible assumption) | assumption)
                        have q140 : (((rd_T44 l0_2 x9_4).f2) : Int) < ((x6_4.length : Int) : Int) := of_decide_eq_true (by first | (with_reducible assumption) | assumption)
                        obtain ⟨hx140_0, hf140_0⟩ := Kd.R_celln 0 HO_6.out (((rd_T44 l0_2 x9_4).f2) : Int) p140 q140
                        replace p140 := eq_true p140
                        replace q140 := eq_true q140
                        obtain ⟨hy151_, hz151_⟩ := Kd.R_celln 0 HO_6.out (((rd_T44 l0_2 x9_4).f2) : Int) (of_decide_eq_true (by first | (with_reducible assumption) | assumption)) (of_decide_eq_true (by first | (with_reducible assumption) | assumption))
                        have HP151 := Kd.R_putg HO_6.out (((rd_T44 l0_2 x9_4).f2) : Int) t359
                        try go_wp2_with (first | ((with_reducible refine gate_store (t := 3) (p := 132) rfl ?_); refine store_event (t := 3) (p := 132) (v := ?vo_w152) (w1 := (w149.setCell ⟨go80, (((rd_T44 l0_2 x9_4).f2) : Int).toNat, none⟩ (.int .i64 t359))) ?hg ?ho ?hn ?hr ?_; (case ho => rfl); (case hg => rfl); (case hn => rfl); (case hr => first | (go_simp; done) | (go_simp; rfl)); intro w152 hw; have hg : w149.grownBy w152 (some go80) := (by rw [hw]; exact HP151.2); have hp_ : Kd.R (Kd.int .i64) 3 w152 w.heap.size (fun _ => True) (.slice (some ⟨go80, 0, none⟩) x6_4.length co80) y363 := (by rw [hw, Ny363.out]; exact HP151.1); clear HP151; have n0_ := Aside0.mk (hp_); have n1_ := Aside0.mk (blk_grown (g := gb343) (o := .cells #[.int .i64 a0_0, .slice (some ad357) l0_1.length c0_1, .slice (some ad353) l0_2.length c0_2] 25 (0, 0)) (sq_bk BK343.out) hg (Kd.R_ne HO_6.out BK343.out (by decide))); have n2_ := Aside0.mk (blk_grown (g := gb344) (o := .cells #[.int .i64 a1_0, .slice A1_1 l1_1.length c1_1, .slice A1_2 l1_2.length c1_2] 25 (0, 0)) (sq_bk BK344.out) hg (Kd.R_ne HO_6.out BK344.out (by decide))); have n3_ := Aside0.mk (blk_grown (g := gb354) (o := .cells #[.int .i64 ((rd_T44 l0_2 x9_4).f0), .int .i64 ((rd_T44 l0_2 x9_4).f1), .int .i64 ((rd_T44 l0_2 x9_4).f2)] 44 (0, 0)) (sq_bk BK354.out) hg (Kd.R_ne HO_6.out BK354.out (by decide))); have n4_ := Aside0.mk ((by rw [hw]; exact below_set (HB.out) GB80.out : Below w.heap.size w w152)); clear HO_6; clear BK343; clear BK344; clear BK354; clear HB; have HO_6 := n0_; have BK343 := n1_; have BK344 := n2_; have BK354 := n3_; have HB := n4_; clear n0_ n1_ n2_ n3_ n4_; clear hg hw hp_))
                        (try simp only [← hl6_4])
                        go_roundg k4
                        case measure => have := HJ2.out; have := HK2.out; have := HK3.out; have := HK4.out; omega
                        case rel => exact ⟨(y363), (wrap64 (x9_4 + 1)), (by first | rfl | (simp; done) | (simp [*]; done)), H', ⟨by have := HJ2.out; have := HK2.out; have := HK3.out; have := HK4.out; omega⟩, ⟨by (try simp only [hl6_3]); (try simp only [hl6_4]); (with_reducible repeat (first | apply Kd.R_alloc | apply Kd.R_drewN | apply Kd.R_drew)); exact HO_6.out⟩, ⟨by (try simp only [hl6_3]); (try simp only [hl6_4]); (with_reducible repeat (first | refine blk_drewN ?_ _ | refine blk_drew ?_ | refine blk_alloc ?_ _)); exact BK343.out⟩, ⟨by (try simp only [hl6_3]); (try simp only [hl6_4]); (with_reducible repeat (first | refine blk_drewN ?_ _ | refine blk_drew ?_ | refine blk_alloc ?_ _)); exact BK344.out⟩, ⟨sq_bs HB.out⟩⟩
                      ·rw [if_neg c114] at H
                       exact absurd H (by simp)
                     ·rw [if_neg c113] at H
                      exact absurd H (by simp)
                   ·rw [if_neg c100] at H
                    exact absurd H (by simp)
                  ·rw [if_neg c99] at H
                   exact absurd H (by simp)
                ·rw [if_neg c91] at H
                 exact absurd H (by simp)
               ·rw [if_neg c90] at H
                exact absurd H (by simp)
              ·rw [if_neg c89] at H
               exact absurd H (by simp)
             ·rw [if_neg c88] at H
              have c88b0 : decide (x9_4 < (l0_2.length : Int)) = false := decide_eq_false c88
              have c88z0 := c88b0
              (try rw [hl6_3] at c88z0)
              have c88z1 := c88b0
              (try rw [hl6_4] at c88z1)
              clear c88
              have H' := Aside0.mk H
              clear H
              have hnb153 := NB343_344.out
              have hnc153 := NB344_343.out
              have hcz154_0 : wr.cell? ⟨gb343, 0, none⟩ = some (.int .i64 a0_0) := (blk_cell BK343.out 0).trans rfl
              have hcz154_1 : wr.cell? ⟨gb343, 1, none⟩ = some (.slice A0_1 l0_1.length c0_1) := (blk_cell BK343.out 1).trans rfl
              have hcz154_2 : wr.cell? ⟨gb343, 2, none⟩ = some (.slice A0_2 l0_2.length c0_2) := (blk_cell BK343.out 2).trans rfl
              have hfz154_0 := blk_frozen BK343.out 0
              have hfz154_1 := blk_frozen BK343.out 1
              have hfz154_2 := blk_frozen BK343.out 2
              go_wp2
              (try simp only [← hl6_3, ← hl6_4])
              go_roundg k4
              case measure => have := HJ2.out; have := HK2.out; have := HK3.out; have := HK4.out; omega
              case rel => exact ⟨(x6_4), (wrap64 (x8_3 + 1)), (by first | rfl | (simp; done) | (simp [*]; done)), H', ⟨by have := HJ2.out; have := HK2.out; have := HK3.out; have := HK4.out; omega⟩, ⟨by (try simp only [hl6_3]); (try simp only [hl6_4]); (with_reducible repeat (first | apply Kd.R_alloc | apply Kd.R_drewN | apply Kd.R_drew)); exact HO_6.out⟩, ⟨by (try simp only [hl6_3]); (try simp only [hl6_4]); (with_reducible repeat (first | refine blk_drewN ?_ _ | refine blk_drew ?_ | refine blk_alloc ?_ _)); exact BK343.out⟩, ⟨by (try simp only [hl6_3]); (try simp only [hl6_4]); (with_reducible repeat (first | refine blk_drewN ?_ _ | refine blk_drew ?_ | refine blk_alloc ?_ _)); exact BK344.out⟩, ⟨sq_bs HB.out⟩⟩
          ·rw [if_neg c85] at H
           have c85b0 : decide (x8_3 < a0_0) = false := decide_eq_false c85
           clear c85
           by_cases c155 : 0 ≤ a0_0
           ·rw [if_pos c155] at H
            have c155b0 := eq_true c155
            have c155b1 : decide (0 ≤ a0_0) = true := decide_eq_true c155
            clear c155
            by_cases c156 : (a0_0 : Int).toNat ≤ 281474976710656
            ·rw [if_pos c156] at H
             have c156b0 := eq_true c156
             have c156b1 : decide ((a0_0 : Int).toNat ≤ 281474976710656) = true := decide_eq_true c156
             clear c156
             obtain ⟨y364, hy364⟩ : ∃ y_ : List Bool, y_ = (List.replicate (a0_0 : Int).toNat false) := ⟨_, rfl⟩
             replace H : (petrinetref45_Iso.l3 k3 x6_3 y364 0 a0_0 l0_1 l0_2 a1_0 l1_1 l1_2) = some (r1, r2) := by first | (rw [hy364]; with_reducible exact H) | (have H2_ := (Option.bind_some _ _).symm.trans H; rw [hy364]; with_reducible exact H2_) | (have H2_ := (Option.bind_some _ _).symm.trans H; with_reducible exact H2_) | with_reducible exact H | (rw [hy364]; exact H) | exact H
             have Ny364 := Aside0.mk hy364
             clear hy364
             have H' := Aside0.mk H
             clear H
             have hnb157 := NB343_344.out
             have hnc157 := NB344_343.out
             have hcz158_0 : wr.cell? ⟨gb343, 0, none⟩ = some (.int .i64 a0_0) := (blk_cell BK343.out 0).trans rfl
             have hcz158_1 : wr.cell? ⟨gb343, 1, none⟩ = some (.slice A0_1 l0_1.length c0_1) := (blk_cell BK343.out 1).trans rfl
             have hcz158_2 : wr.cell? ⟨gb343, 2, none⟩ = some (.slice A0_2 l0_2.length c0_2) := (blk_cell BK343.out 2).trans rfl
             have hfz158_0 := blk_frozen BK343.out 0
             have hfz158_1 := blk_frozen BK343.out 1
             have hfz158_2 := blk_frozen BK343.out 2
             go_wp2_with (first | ((with_reducible refine gate_dst (N := 135) rfl ?_); (try (refine gate_guard (by rfl) ?_; dsimp only)); refine Kd.R_make Kd.bool _ 4 rfl (N := 135) rfl 50 _ _ rfl a0_0 rfl rfl Try.underlying50 (.bool false) 1 info4 rfl (by decide) (by omega) false (ok := fun _ => True) (okp := fun _ => True) rfl (fun _ hk => hk) trivial (of_decide_eq_true (by first | (with_reducible assumption) | assumption)) (Nat.le_trans (Nat.mul_le_mul_right _ (of_decide_eq_true (by first | (with_reducible assumption) | assumption) : a0_0.toNat ≤ 281474976710656)) (by omega)) (Below.refl _ _) (Nat.le_refl _) ?_; intro v365 w159 ho160 hb hg_ hnew_; clear hg_ hnew_; (first | rw [← Ny364.out] at ho160 | (simp only [Int.reduceToNat] at ho160; rw [← Ny364.out] at ho160)); have n0_ := Aside0.mk (Kd.R_below (sq_kr HO_6.out) hb); have n1_ := Aside0.mk (Kd.R_lower ho160 (below_size (sq_bs HB.out))); have n2_ := Aside0.mk (blk_below (g := gb343) (o := .cells #[.int .i64 a0_0, .slice A0_1 l0_1.length c0_1, .slice A0_2 l0_2.length c0_2] 25 (0, 0)) (sq_bk BK343.out) hb); have n3_ := Aside0.mk (blk_below (g := gb344) (o := .cells #[.int .i64 a1_0, .slice A1_1 l1_1.length c1_1, .slice A1_2 l1_2.length c1_2] 25 (0, 0)) (sq_bk BK344.out) hb); have n4_ := Aside0.mk (below_step (sq_bs HB.out) hb); clear HO_6; clear BK343; clear BK344; clear HB; have HO_6 := n0_; have HO366 := n1_; have BK343 := n2_; have BK344 := n3_; have HB := n4_; clear n0_ n1_ n2_ n3_ n4_; clear hb ho160))
             go_loopg [13] k3 (fun kq v13 w' => ∃ (x12_4 : List Bool) (x13_4 : Int), v13 = .int .i64 x13_4 ∧ Aside0 (petrinetref45_Iso.l3 kq x6_3 x12_4 x13_4 a0_0 l0_1 l0_2 a1_0 l1_1 l1_2 = some (r1, r2)) ∧ Aside0 (kq ≤ k3) ∧ Aside0 (Kd.R (Kd.int .i64) 3 w' w.heap.size (fun _ => True) (.slice (some ⟨go80, 0, none⟩) x6_3.length co80) x6_3) ∧ Aside0 (Kd.R Kd.bool 4 w' w.heap.size (fun _ => True) v365 x12_4) ∧ Aside0 (w'.heap[gb343]? = some (.cells #[.int .i64 a0_0, (.slice A0_1 l0_1.length c0_1), (.slice A0_2 l0_2.length c0_2)] 25 (0, 0))) ∧ Aside0 (w'.heap[gb344]? = some (.cells #[.int .i64 a1_0, (.slice A1_1 l1_1.length c1_1), (.slice A1_2 l1_2.length c1_2)] 25 (0, 0))) ∧ Aside0 (Below w.heap.size w w'))
             case atStart => exact ⟨(y364), (0), (by first | rfl | (simp; done) | (simp [*]; done)), H', ⟨Nat.le_refl _⟩, ⟨by (try simp only [hl6_3]); (with_reducible repeat (first | apply Kd.R_alloc | apply Kd.R_drewN | apply Kd.R_drew)); exact HO_6.out⟩, ⟨by (try simp only [hl6_3]); (with_reducible repeat (first | apply Kd.R_alloc | apply Kd.R_drewN | apply Kd.R_drew)); exact HO366.out⟩, ⟨by (try simp only [hl6_3]); (with_reducible repeat (first | refine blk_drewN ?_ _ | refine blk_drew ?_ | refine blk_alloc ?_ _)); exact BK343.out⟩, ⟨by (try simp only [hl6_3]); (with_reducible repeat (first | refine blk_drewN ?_ _ | refine blk_drew ?_ | refine blk_alloc ?_ _)); exact BK344.out⟩, ⟨sq_bs HB.out⟩⟩
             case round =>
              clear H'
              try clear c85b0
              try clear c155b0
              try clear c155b1
              try clear c156b0
              try clear c156b1
              try clear hcz158_0
              try clear hcz158_1
              try clear hcz158_2
              try clear hfz158_0
              try clear hfz158_1
              try clear hfz158_2
              obtain ⟨x12_4, x13_4, rfl, HA, HK4, HO_6, HO_12, BK343, BK344, HB⟩ := hrel
              cases gk with
              | zero => exact absurd HA.out (by simp [petrinetref45_Iso.l3])
              | succ k4 =>
               have H := HA.out
               clear HA
               simp only [petrinetref45_Iso.l3] at H
               by_cases c161 : x13_4 < a0_0
               ·rw [if_pos c161] at H
                have c161b0 : decide (x13_4 < a0_0) = true := decide_eq_true c161
                clear c161
                by_cases c162 : 0 ≤ x13_4
                ·rw [if_pos c162] at H
                 have c162b0 : decide (0 ≤ x13_4) = true := decide_eq_true c162
                 clear c162
                 by_cases c163 : x13_4 < (x6_3.length : Int)
                 ·rw [if_pos c163] at H
                  have c163b0 : decide (x13_4 < (x6_3.length : Int)) = true := decide_eq_true c163
                  have c163z0 := c163b0
                  (try rw [hl6_3] at c163z0)
                  clear c163
                  by_cases c164 : (rd x6_3 x13_4) < 0
                  ·rw [if_pos c164] at H
                   have c164b0 : decide ((rd x6_3 x13_4) < 0) = true := decide_eq_true c164
                   clear c164
                   simp only [Option.some.injEq, Prod.mk.injEq] at H
                   obtain ⟨rfl, rfl⟩ := H
                   have hnb165 := NB343_344.out
                   have hnc165 := NB344_343.out
                   have hcz166_0 : wr.cell? ⟨gb343, 0, none⟩ = some (.int .i64 a0_0) := (blk_cell BK343.out 0).trans rfl
                   have hcz166_1 : wr.cell? ⟨gb343, 1, none⟩ = some (.slice A0_1 l0_1.length c0_1) := (blk_cell BK343.out 1).trans rfl
                   have hcz166_2 : wr.cell? ⟨gb343, 2, none⟩ = some (.slice A0_2 l0_2.length c0_2) := (blk_cell BK343.out 2).trans rfl
                   have hfz166_0 := blk_frozen BK343.out 0
                   have hfz166_1 := blk_frozen BK343.out 1
                   have hfz166_2 := blk_frozen BK343.out 2
                   have p367 : 0 ≤ (x13_4 : Int) := of_decide_eq_true (by first | (with_reducible assumption) | assumption)
                   have q367 : x13_4 < (x6_3.length : Int) := of_decide_eq_true (by first | (with_reducible assumption) | assumption)
                   have LQ367 := Aside0.mk q367
                   obtain ⟨ad367, e367, hx367_0⟩ := Kd.at_int (Kd.R_reads' HO_6.out).2.2 x13_4 p367 q367
                   obtain rfl : (⟨go80, 0, none⟩ : Addr) = ad367 := (by injection e367)
                   (first | simp only [add_plain] at hx367_0 | simp only [add_at] at hx367_0 | simp only [Addr.add, Nat.zero_add] at hx367_0 | skip)
                   replace p367 := eq_true p367
                   replace q367 := eq_true q367
                   go_wp2
                   go_ret2
                   exact ⟨_, by first | rfl | (simp [errW_none, errW_some] <;> rfl) | (simp [*, errW_none, errW_some] <;> rfl), by first | exact Kd.R_nil _ _ _ _ _ | exact Kd.N_nil _ _ _ _ _ | exact Kd.V_nil _ _ _ _ _ | exact Kd.Q_nil _ _ _ _ _ | exact Kd.S_nil _ _ _ _ _, sq_bs HB.out⟩
                  ·rw [if_neg c164] at H
                   have c164b0 : decide ((rd x6_3 x13_4) < 0) = false := decide_eq_false c164
                   clear c164
                   by_cases c167 : 0 ≤ (rd x6_3 x13_4)
                   ·rw [if_pos c167] at H
                    have c167b0 : decide (0 ≤ (rd x6_3 x13_4)) = true := decide_eq_true c167
                    clear c167
                    by_cases c168 : (rd x6_3 x13_4) < (x12_4.length : Int)
                    ·rw [if_pos c168] at H
                     have c168b0 : decide ((rd x6_3 x13_4) < (x12_4.length : Int)) = true := decide_eq_true c168
                     have c168z0 := c168b0
                     (try rw [hl6_3] at c168z0)
                     clear c168
                     obtain ⟨bq169, hbq169⟩ : ∃ b_ : Bool, b_ = (rdOf false x12_4 (rd x6_3 x13_4)) := ⟨_, rfl⟩
                     replace H : (if bq169 = true then (some (([] : List Int), false)) else (petrinetref45_Iso.l3 k4 x6_3 (x12_4.set ((rd x6_3 x13_4) : Int).toNat true) (wrap64 (x13_4 + 1)) a0_0 l0_1 l0_2 a1_0 l1_1 l1_2)) = some (r1, r2) := by rw [← hbq169] at H; exact H
                     have Nbq169 := Aside0.mk hbq169
                     clear hbq169
                     by_cases c170 : bq169 = true
                     ·subst c170
                      have H1 : (some (([] : List Int), false)) = some (r1, r2) := by rw [if_pos rfl] at H; exact H
                      clear H
                      have H := H1
                      clear H1
                      simp only [Option.some.injEq, Prod.mk.injEq] at H
                      obtain ⟨rfl, rfl⟩ := H
                      have hnb171 := NB343_344.out
                      have hnc171 := NB344_343.out
                      have hcz172_0 : wr.cell? ⟨gb343, 0, none⟩ = some (.int .i64 a0_0) := (blk_cell BK343.out 0).trans rfl
                      have hcz172_1 : wr.cell? ⟨gb343, 1, none⟩ = some (.slice A0_1 l0_1.length c0_1) := (blk_cell BK343.out 1).trans rfl
                      have hcz172_2 : wr.cell? ⟨gb343, 2, none⟩ = some (.slice A0_2 l0_2.length c0_2) := (blk_cell BK343.out 2).trans rfl
                      have hfz172_0 := blk_frozen BK343.out 0
                      have hfz172_1 := blk_frozen BK343.out 1
                      have hfz172_2 := blk_frozen BK343.out 2
                      have p367 : 0 ≤ (x13_4 : Int) := of_decide_eq_true (by first | (with_reducible assumption) | assumption)
                      have q367 : x13_4 < (x6_3.length : Int) := of_decide_eq_true (by first | (with_reducible assumption) | assumption)
                      have LQ367 := Aside0.mk q367
                      obtain ⟨ad367, e367, hx367_0⟩ := Kd.at_int (Kd.R_reads' HO_6.out).2.2 x13_4 p367 q367
                      obtain rfl : (⟨go80, 0, none⟩ : Addr) = ad367 := (by injection e367)
                      (first | simp only [add_plain] at hx367_0 | simp only [add_at] at hx367_0 | simp only [Addr.add, Nat.zero_add] at hx367_0 | skip)
                      replace p367 := eq_true p367
                      replace q367 := eq_true q367
                      have p368 : 0 ≤ (x13_4 : Int) := of_decide_eq_true (by first | (with_reducible assumption) | assumption)
                      have q368 : x13_4 < (x6_3.length : Int) := of_decide_eq_true (by first | (with_reducible assumption) | assumption)
                      have LQ368 := Aside0.mk q368
                      obtain ⟨ad368, e368, hx368_0⟩ := Kd.at_int (Kd.R_reads' HO_6.out).2.2 x13_4 p368 q368
                      obtain rfl : (⟨go80, 0, none⟩ : Addr) = ad368 := (by injection e368)
                      (first | simp only [add_plain] at hx368_0 | simp only [add_at] at hx368_0 | simp only [Addr.add, Nat.zero_add] at hx368_0 | skip)
                      replace p368 := eq_true p368
                      replace q368 := eq_true q368
                      obtain ⟨Ao173, co173, eo173⟩ := Kd.R_slice HO_12.out
                      subst eo173
                      have p369 : 0 ≤ ((rd x6_3 x13_4) : Int) := of_decide_eq_true (by first | (with_reducible assumption) | assumption)
                      have q369 : (rd x6_3 x13_4) < (x12_4.length : Int) := of_decide_eq_true (by first | (with_reducible assumption) | assumption)
                      obtain ⟨ad369, e369, hx369_0⟩ := Kd.at_bool (Kd.R_reads' HO_12.out).2.2 (rd x6_3 x13_4) p369 q369
                      (try rw [← Nbq169.out] at hx369_0)
                      cases e369
                      replace p369 := eq_true p369
                      replace q369 := eq_true q369
                      go_wp2
                      go_ret2
                      exact ⟨_, by first | rfl | (simp [errW_none, errW_some] <;> rfl) | (simp [*, errW_none, errW_some] <;> rfl), by first | exact Kd.R_nil _ _ _ _ _ | exact Kd.N_nil _ _ _ _ _ | exact Kd.V_nil _ _ _ _ _ | exact Kd.Q_nil _ _ _ _ _ | exact Kd.S_nil _ _ _ _ _, sq_bs HB.out⟩
                     ·replace c170 := Bool.eq_false_iff.mpr c170
                      subst c170
                      have H1 : (petrinetref45_Iso.l3 k4 x6_3 (x12_4.set ((rd x6_3 x13_4) : Int).toNat true) (wrap64 (x13_4 + 1)) a0_0 l0_1 l0_2 a1_0 l1_1 l1_2) = some (r1, r2) := by rw [if_neg (show ¬ (false = true) by decide)] at H; exact H
                      clear H
                      have H := H1
                      clear H1
                      obtain ⟨y371, hy371⟩ : ∃ y_ : List Bool, y_ = (x12_4.set ((rd x6_3 x13_4) : Int).toNat true) := ⟨_, rfl⟩
                      replace H : (petrinetref45_Iso.l3 k4 x6_3 y371 (wrap64 (x13_4 + 1)) a0_0 l0_1 l0_2 a1_0 l1_1 l1_2) = some (r1, r2) := by first | (rw [hy371]; with_reducible exact H) | (have H2_ := (Option.bind_some _ _).symm.trans H; rw [hy371]; with_reducible exact H2_) | (have H2_ := (Option.bind_some _ _).symm.trans H; with_reducible exact H2_) | with_reducible exact H | (rw [hy371]; exact H) | exact H
                      have Ny371 := Aside0.mk hy371
                      clear hy371
                      have H' := Aside0.mk H
                      clear H
                      have hnb175 := NB343_344.out
                      have hnc175 := NB344_343.out
                      have hcz176_0 : wr.cell? ⟨gb343, 0, none⟩ = some (.int .i64 a0_0) := (blk_cell BK343.out 0).trans rfl
                      have hcz176_1 : wr.cell? ⟨gb343, 1, none⟩ = some (.slice A0_1 l0_1.length c0_1) := (blk_cell BK343.out 1).trans rfl
                      have hcz176_2 : wr.cell? ⟨gb343, 2, none⟩ = some (.slice A0_2 l0_2.length c0_2) := (blk_cell BK343.out 2).trans rfl
                      have hfz176_0 := blk_frozen BK343.out 0
                      have hfz176_1 := blk_frozen BK343.out 1
                      have hfz176_2 := blk_frozen BK343.out 2
                      have p367 : 0 ≤ (x13_4 : Int) := of_decide_eq_true (by first | (with_reducible assumption) | assumption)
                      have q367 : x13_4 < (x6_3.length : Int) := of_decide_eq_true (by first | (with_reducible assumption) | assumption)
                      have LQ367 := Aside0.mk q367
                      obtain ⟨ad367, e367, hx367_0⟩ := Kd.at_int (Kd.R_reads' HO_6.out).2.2 x13_4 p367 q367
                      obtain rfl : (⟨go80, 0, none⟩ : Addr) = ad367 := (by injection e367)
                      (first | simp only [add_plain] at hx367_0 | simp only [add_at] at hx367_0 | simp only [Addr.add, Nat.zero_add] at hx367_0 | skip)
                      replace p367 := eq_true p367
                      replace q367 := eq_true q367
                      have p368 : 0 ≤ (x13_4 : Int) := of_decide_eq_true (by first | (with_reducible assumption) | assumption)
                      have q368 : x13_4 < (x6_3.length : Int) := of_decide_eq_true (by first | (with_reducible assumption) | assumption)
                      have LQ368 := Aside0.mk q368
                      obtain ⟨ad368, e368, hx368_0⟩ := Kd.at_int (Kd.R_reads' HO_6.out).2.2 x13_4 p368 q368
                      obtain rfl : (⟨go80, 0, none⟩ : Addr) = ad368 := (by injection e368)
                      (first | simp only [add_plain] at hx368_0 | simp only [add_at] at hx368_0 | simp only [Addr.add, Nat.zero_add] at hx368_0 | skip)
                      replace p368 := eq_true p368
                      replace q368 := eq_true q368
                      obtain ⟨Ao177, co177, eo177⟩ := Kd.R_slice HO_12.out
                      subst eo177
                      have p369 : 0 ≤ ((rd x6_3 x13_4) : Int) := of_decide_eq_true (by first | (with_reducible assumption) | assumption)
                      have q369 : (rd x6_3 x13_4) < (x12_4.length : Int) := of_decide_eq_true (by first | (with_reducible assumption) | assumption)
                      obtain ⟨ad369, e369, hx369_0⟩ := Kd.at_bool (Kd.R_reads' HO_12.out).2.2 (rd x6_3 x13_4) p369 q369
                      (try rw [← Nbq169.out] at hx369_0)
                      cases e369
                      replace p369 := eq_true p369
                      replace q369 := eq_true q369
                      have p370 : 0 ≤ (x13_4 : Int) := of_decide_eq_true (by first | (with_reducible assumption) | assumption)
                      have q370 : x13_4 < (x6_3.length : Int) := of_decide_eq_true (by first | (with_reducible assumption) | assumption)
                      have LQ370 := Aside0.mk q370
                      obtain ⟨ad370, e370, hx370_0⟩ := Kd.at_int (Kd.R_reads' HO_6.out).2.2 x13_4 p370 q370
                      obtain rfl : (⟨go80, 0, none⟩ : Addr) = ad370 := (by injection e370)
                      (first | simp only [add_plain] at hx370_0 | simp only [add_at] at hx370_0 | simp only [Addr.add, Nat.zero_add] at hx370_0 | skip)
                      replace p370 := eq_true p370
                      replace q370 := eq_true q370
                      have p174 : 0 ≤ ((rd x6_3 x13_4) : Int) := of_decide_eq_true (by first | (with_reducible assumption) | assumption)
                      have q174 : ((rd x6_3 x13_4) : Int) < ((x12_4.length : Int) : Int) := of_decide_eq_true (by first | (with_reducible assumption) | assumption)
                      obtain ⟨go174, co174, eo174, gb174, gl174, cl174, HG174⟩ := Kd.R_form HO_12.out (by omega)
                      (first | cases eo174 | (injection eo174 with ea_ en_ ec_; (first | subst ea_ | (injection ea_ with ea_; subst ea_)); subst ec_; clear en_))
                      have GB174 := Aside0.mk gb174
                      have GG174 := Aside0.mk HG174
                      clear gb174 gl174 HG174
                      (first | simp only [add_plain] at hx369_0 | skip)
                      obtain ⟨hx174_0, hf174_0⟩ := Kd.R_celln false HO_12.out ((rd x6_3 x13_4) : Int) p174 q174
                      replace p174 := eq_true p174
                      replace q174 := eq_true q174
                      have HP178 := Kd.R_putg HO_12.out ((rd x6_3 x13_4) : Int) true
                      go_wp2_with (first | ((with_reducible refine gate_store (t := 4) (p := 161) rfl ?_); refine store_event (t := 4) (p := 161) (v := ?vo_w179) (w1 := (wr.setCell ⟨go174, ((rd x6_3 x13_4) : Int).toNat, none⟩ (.bool true))) ?hg ?ho ?hn ?hr ?_; (case ho => rfl); (case hg => rfl); (case hn => rfl); (case hr => first | (go_simp; done) | (go_simp; rfl)); intro w179 hw; have hg : wr.grownBy w179 (some go174) := (by rw [hw]; exact HP178.2); have hp_ : Kd.R Kd.bool 4 w179 w.heap.size (fun _ => True) (.slice (some ⟨go174, 0, none⟩) x12_4.length co177) y371 := (by rw [hw, Ny371.out]; exact HP178.1); clear HP178; have n0_ := Aside0.mk (Kd.R_over' (v := (.slice (some ⟨go174, 0, none⟩) x12_4.length co177)) (sq_kr HO_6.out) (Kd.R_typed HO_12.out) (by decide) hg); have n1_ := Aside0.mk (hp_); have n2_ := Aside0.mk (blk_grown (g := gb343) (o := .cells #[.int .i64 a0_0, .slice A0_1 l0_1.length c0_1, .slice A0_2 l0_2.length c0_2] 25 (0, 0)) (sq_bk BK343.out) hg (Kd.R_ne HO_12.out BK343.out (by decide))); have n3_ := Aside0.mk (blk_grown (g := gb344) (o := .cells #[.int .i64 a1_0, .slice A1_1 l1_1.length c1_1, .slice A1_2 l1_2.length c1_2] 25 (0, 0)) (sq_bk BK344.out) hg (Kd.R_ne HO_12.out BK344.out (by decide))); have n4_ := Aside0.mk ((by rw [hw]; exact below_set (HB.out) GB174.out : Below w.heap.size w w179)); clear HO_6; clear HO_12; clear BK343; clear BK344; clear HB; have HO_6 := n0_; have HO_12 := n1_; have BK343 := n2_; have BK344 := n3_; have HB := n4_; clear n0_ n1_ n2_ n3_ n4_; clear hg hw hp_))
                      go_roundg k4
                      case measure => have := HJ2.out; have := HK2.out; have := HK3.out; have := HK4.out; omega
                      case rel => exact ⟨(y371), (wrap64 (x13_4 + 1)), (by first | rfl | (simp; done) | (simp [*]; done)), H', ⟨by have := HJ2.out; have := HK2.out; have := HK3.out; have := HK4.out; omega⟩, ⟨by (try simp only [hl6_3]); (with_reducible repeat (first | apply Kd.R_alloc | apply Kd.R_drewN | apply Kd.R_drew)); exact HO_6.out⟩, ⟨by (try simp only [hl6_3]); (with_reducible repeat (first | apply Kd.R_alloc | apply Kd.R_drewN | apply Kd.R_drew)); exact HO_12.out⟩, ⟨by (try simp only [hl6_3]); (with_reducible repeat (first | refine blk_drewN ?_ _ | refine blk_drew ?_ | refine blk_alloc ?_ _)); exact BK343.out⟩, ⟨by (try simp only [hl6_3]); (with_reducible repeat (first | refine blk_drewN ?_ _ | refine blk_drew ?_ | refine blk_alloc ?_ _)); exact BK344.out⟩, ⟨sq_bs HB.out⟩⟩
                    ·rw [if_neg c168] at H
                     exact absurd H (by simp)
                   ·rw [if_neg c167] at H
                    exact absurd H (by simp)
                 ·rw [if_neg c163] at H
                  exact absurd H (by simp)
                ·rw [if_neg c162] at H
                 exact absurd H (by simp)
               ·rw [if_neg c161] at H
                have c161b0 : decide (x13_4 < a0_0) = false := decide_eq_false c161
                clear c161
                have H' := Aside0.mk H
                clear H
                have hnb180 := NB343_344.out
                have hnc180 := NB344_343.out
                have hcz181_0 : wr.cell? ⟨gb343, 0, none⟩ = some (.int .i64 a0_0) := (blk_cell BK343.out 0).trans rfl
                have hcz181_1 : wr.cell? ⟨gb343, 1, none⟩ = some (.slice A0_1 l0_1.length c0_1) := (blk_cell BK343.out 1).trans rfl
                have hcz181_2 : wr.cell? ⟨gb343, 2, none⟩ = some (.slice A0_2 l0_2.length c0_2) := (blk_cell BK343.out 2).trans rfl
                have hfz181_0 := blk_frozen BK343.out 0
                have hfz181_1 := blk_frozen BK343.out 1
                have hfz181_2 := blk_frozen BK343.out 2
                go_wp2
                go_loopg [14] k4 (fun kq v14 w' => ∃ (x14_5 : Int), v14 = .int .i64 x14_5 ∧ Aside0 (petrinetref45_Iso.l4 kq x6_3 x14_5 a0_0 l0_1 l0_2 a1_0 l1_1 l1_2 = some (r1, r2)) ∧ Aside0 (kq ≤ k4) ∧ Aside0 (Kd.R (Kd.int .i64) 3 w' w.heap.size (fun _ => True) (.slice (some ⟨go80, 0, none⟩) x6_3.length co80) x6_3) ∧ Aside0 (w'.heap[gb343]? = some (.cells #[.int .i64 a0_0, (.slice A0_1 l0_1.length c0_1), (.slice A0_2 l0_2.length c0_2)] 25 (0, 0))) ∧ Aside0 (w'.heap[gb344]? = some (.cells #[.int .i64 a1_0, (.slice A1_1 l1_1.length c1_1), (.slice A1_2 l1_2.length c1_2)] 25 (0, 0))) ∧ Aside0 (Below w.heap.size w w'))
                case atStart => exact ⟨(0), (by first | rfl | (simp; done) | (simp [*]; done)), H', ⟨Nat.le_refl _⟩, ⟨by (try simp only [hl6_3]); (with_reducible repeat (first | apply Kd.R_alloc | apply Kd.R_drewN | apply Kd.R_drew)); exact HO_6.out⟩, ⟨by (try simp only [hl6_3]); (with_reducible repeat (first | refine blk_drewN ?_ _ | refine blk_drew ?_ | refine blk_alloc ?_ _)); exact BK343.out⟩, ⟨by (try simp only [hl6_3]); (with_reducible repeat (first | refine blk_drewN ?_ _ | refine blk_drew ?_ | refine blk_alloc ?_ _)); exact BK344.out⟩, ⟨sq_bs HB.out⟩⟩
                case round =>
                 clear H'
                 try clear c161b0
                 try clear hcz181_0
                 try clear hcz181_1
                 try clear hcz181_2
                 try clear hfz181_0
                 try clear hfz181_1
                 try clear hfz181_2
                 obtain ⟨x14_5, rfl, HA, HK5, HO_6, BK343, BK344, HB⟩ := hrel
                 cases gk with
                 | zero => exact absurd HA.out (by simp [petrinetref45_Iso.l4])
                 | succ k5 =>
                  have H := HA.out
                  clear HA
                  simp only [petrinetref45_Iso.l4] at H
                  by_cases c182 : x14_5 < (l0_1.length : Int)
                  ·rw [if_pos c182] at H
                   have c182b0 : decide (x14_5 < (l0_1.length : Int)) = true := decide_eq_true c182
                   have c182z0 := c182b0
                   (try rw [hl6_3] at c182z0)
                   clear c182
                   by_cases c183 : 0 ≤ x14_5
                   ·rw [if_pos c183] at H
                    have c183b0 : decide (0 ≤ x14_5) = true := decide_eq_true c183
                    clear c183
                    replace H := Option.bind_eq_some_iff.mp H
                    obtain ⟨t373, A1840, H⟩ := H
                    replace H : (if t373 < 0 then (some (([] : List Int), false)) else (petrinetref45_Iso.l4 k5 x6_3 (wrap64 (x14_5 + 1)) a0_0 l0_1 l0_2 a1_0 l1_1 l1_2)) = some (r1, r2) := H
                    have A184 := Aside0.mk A1840
                    clear A1840
                    have HH_ := Aside0.mk H
                    clear H
                    have hnb186 := NB343_344.out
                    have hnc186 := NB344_343.out
                    have hcz187_0 : wr.cell? ⟨gb343, 0, none⟩ = some (.int .i64 a0_0) := (blk_cell BK343.out 0).trans rfl
                    have hcz187_1 : wr.cell? ⟨gb343, 1, none⟩ = some (.slice A0_1 l0_1.length c0_1) := (blk_cell BK343.out 1).trans rfl
                    have hcz187_2 : wr.cell? ⟨gb343, 2, none⟩ = some (.slice A0_2 l0_2.length c0_2) := (blk_cell BK343.out 2).trans rfl
                    have hfz187_0 := blk_frozen BK343.out 0
                    have hfz187_1 := blk_frozen BK343.out 1
                    have hfz187_2 := blk_frozen BK343.out 2
                    try go_wp2
                    have n0_ := Aside0.mk (Kd.R_drew HO_6.out)
                    have n1_ := Aside0.mk (blk_drew BK343.out)
                    have n2_ := Aside0.mk (blk_drew BK344.out)
                    have n3_ := Aside0.mk (below_drew1 HB.out)
                    clear HO_6
                    clear BK343
                    clear BK344
                    clear HB
                    have HO_6 := n0_
                    have BK343 := n1_
                    have BK344 := n2_
                    have HB := n3_
                    clear n0_ n1_ n2_ n3_
                    have p372 : 0 ≤ (x14_5 : Int) := of_decide_eq_true (by first | (with_reducible assumption) | assumption)
                    have q372 : x14_5 < (l0_1.length : Int) := of_decide_eq_true (by first | (with_reducible assumption) | assumption)
                    have LQ372 := Aside0.mk q372
                    obtain ⟨ad372, e372, hx372_0⟩ := Kd.at_string HR0_1.out x14_5 p372 q372
                    have hw372_0 := hx372_0
                    cases e372
                    replace hx372_0 := (HB.out.cell (World.block_lt_of_cell? w _ hx372_0)).trans hx372_0
                    replace p372 := eq_true p372
                    replace q372 := eq_true q372
                    refine start_ (n := 9) (S := fun w' => w'.cell? ⟨gb344, 0, none⟩ = some (.int .i64 a1_0) ∧ w'.cell? ⟨gb344, 1, none⟩ = some (.slice A1_1 l1_1.length c1_1) ∧ w'.cell? ⟨gb344, 2, none⟩ = some (.slice A1_2 l1_2.length c1_2) ∧ w'.cell? ⟨gb343, 0, none⟩ = some (.int .i64 a0_0) ∧ w'.cell? ⟨gb343, 1, none⟩ = some (.slice (some ad372) l0_1.length c0_1) ∧ w'.cell? ⟨gb343, 2, none⟩ = some (.slice A0_2 l0_2.length c0_2) ∧ w'.cell? (ad372.add (x14_5).toNat) = some (.string (rdOf ByteArray.empty l0_1 x14_5))) (ds := []) #[false, false, false, false, false, false, false, false, false] (by kernel_rfl) rfl rfl ⟨(blk_cell BK344.out 0).trans rfl, (blk_cell BK344.out 1).trans rfl, (blk_cell BK344.out 2).trans rfl, (blk_cell BK343.out 0).trans rfl, (blk_cell BK343.out 1).trans rfl, (blk_cell BK343.out 2).trans rfl, ((HB.out.cell (World.block_lt_of_cell? w _ hw372_0)).trans hw372_0)⟩ (fun hHeld => ?_); refine with_tabW petrinetref45_Iso.tab31 petrinetref45_Iso.bits31 (fun HT_ HW_ => ?_)
                    generalize wr.drew = w188 at HO_6 BK343 BK344 HB hx372_0 hHeld ⊢
                    refine sq_p 0 169 (sqm 9 1) HT_.out ?_
                    refine sq_p 2 171 (sqm 9 5) HT_.out ?_
                    refine sq_p 4 173 (sqm 9 21) HT_.out ?_
                    refine sq_t 1 170 (sqm 9 23) HT_.out HW_.out hHeld ?_
                    refine sq_t 3 172 (sqm 9 31) HT_.out HW_.out hHeld ?_
                    refine sq_p 5 174 (sqm 9 63) HT_.out ?_
                    refine sq_t 6 175 (sqm 9 127) HT_.out HW_.out hHeld ?_
                    refine one_ (i := 7) (N := some 176) (sqm 9 255) rfl rfl (one_of HT_.out (by kernel_rfl)) (by decide) (fun K hK => ?_)
                    refine goes_ Try.func29 (by kernel_rfl) rfl #[.slice A1_1 l1_1.length c1_1, .string (rdOf ByteArray.empty l0_1 x14_5)] (by rfl) rfl rfl (by (try simp only [List.map_toArray, List.map_cons, List.map_nil]); first | done | rfl | (simp only [List.length_drop, List.length_take]; rfl)) ?_
                    with_reducible refine (petrinetref45_at.calls k5 _ _ l1_1 (rdOf ByteArray.empty l0_1 x14_5) t373 _ ?side1 ?side2 A184.out).mono ?_
                    (case side1 => exact sq_kc ((Kd.C_below HR1_1.out HB.out)))
                    (case side2 => exact HC1_1.out)
                    rintro e w' ⟨rfl, ⟨nd, rfl⟩⟩
                    refine ⟨_, rfl, ?_⟩
                    refine hK.out _ _ ⟨(blk_cell BK344.out 0).trans rfl, (blk_cell BK344.out 1).trans rfl, (blk_cell BK344.out 2).trans rfl, (blk_cell BK343.out 0).trans rfl, (blk_cell BK343.out 1).trans rfl, (blk_cell BK343.out 2).trans rfl, ((HB.out.cell (World.block_lt_of_cell? w _ hw372_0)).trans hw372_0)⟩ (fun hHeld => ?_)
                    clear hK K
                    refine norm_ (a' := ?_) ?_ ?_
                    rotate_left
                    ·show Act.put _ (some 176) _ = _
                     simp only [Act.put, List.setIfInBounds_toArray, List.set_cons_zero, List.set_cons_succ, i64_w, i32_w]
                     rfl
                    refine sq_p 8 177 (sqm 9 511) HT_.out ?_
                    refine done_ (done_of HT_.out (by kernel_rfl)) ?_
                    have H := HH_.out
                    clear HH_
                    by_cases c185 : t373 < 0
                    ·rw [if_pos c185] at H
                     have c185b0 : decide (t373 < 0) = true := decide_eq_true c185
                     clear c185
                     simp only [Option.some.injEq, Prod.mk.injEq] at H
                     obtain ⟨rfl, rfl⟩ := H
                     try simp only [c185b0]
                     try go_wp2
                     go_ret2
                     exact ⟨_, by first | rfl | (simp [errW_none, errW_some] <;> rfl) | (simp [*, errW_none, errW_some] <;> rfl), by first | exact Kd.R_nil _ _ _ _ _ | exact Kd.N_nil _ _ _ _ _ | exact Kd.V_nil _ _ _ _ _ | exact Kd.Q_nil _ _ _ _ _ | exact Kd.S_nil _ _ _ _ _, sq_bs HB.out⟩
                    ·rw [if_neg c185] at H
                     have c185b0 : decide (t373 < 0) = false := decide_eq_false c185
                     clear c185
                     have H' := Aside0.mk H
                     clear H
                     try simp only [c185b0]
                     try go_wp2
                     go_roundg k5
                     case measure => have := HJ2.out; have := HK2.out; have := HK3.out; have := HK4.out; have := HK5.out; omega
                     case rel => exact ⟨(wrap64 (x14_5 + 1)), (by first | rfl | (simp; done) | (simp [*]; done)), H', ⟨by have := HJ2.out; have := HK2.out; have := HK3.out; have := HK4.out; have := HK5.out; omega⟩, ⟨by (try simp only [hl6_3]); (with_reducible repeat (first | apply Kd.R_alloc | apply Kd.R_drewN | apply Kd.R_drew)); exact HO_6.out⟩, ⟨by (try simp only [hl6_3]); (with_reducible repeat (first | refine blk_drewN ?_ _ | refine blk_drew ?_ | refine blk_alloc ?_ _)); exact BK343.out⟩, ⟨by (try simp only [hl6_3]); (with_reducible repeat (first | refine blk_drewN ?_ _ | refine blk_drew ?_ | refine blk_alloc ?_ _)); exact BK344.out⟩, ⟨sq_bs HB.out⟩⟩
                   ·rw [if_neg c183] at H
                    exact absurd H (by simp)
                  ·rw [if_neg c182] at H
                   have c182b0 : decide (x14_5 < (l0_1.length : Int)) = false := decide_eq_false c182
                   have c182z0 := c182b0
                   (try rw [hl6_3] at c182z0)
                   clear c182
                   simp only [Option.some.injEq, Prod.mk.injEq] at H
                   obtain ⟨rfl, rfl⟩ := H
                   have hnb192 := NB343_344.out
                   have hnc192 := NB344_343.out
                   have hcz193_0 : wr.cell? ⟨gb343, 0, none⟩ = some (.int .i64 a0_0) := (blk_cell BK343.out 0).trans rfl
                   have hcz193_1 : wr.cell? ⟨gb343, 1, none⟩ = some (.slice A0_1 l0_1.length c0_1) := (blk_cell BK343.out 1).trans rfl
                   have hcz193_2 : wr.cell? ⟨gb343, 2, none⟩ = some (.slice A0_2 l0_2.length c0_2) := (blk_cell BK343.out 2).trans rfl
                   have hfz193_0 := blk_frozen BK343.out 0
                   have hfz193_1 := blk_frozen BK343.out 1
                   have hfz193_2 := blk_frozen BK343.out 2
                   go_wp2
                   go_ret2
                   exact ⟨_, by first | rfl | (simp [errW_none, errW_some] <;> rfl) | (simp [*, errW_none, errW_some] <;> rfl), sq_kr HO_6.out, sq_bs HB.out⟩
            ·rw [if_neg c156] at H
             exact absurd H (by simp)
           ·rw [if_neg c155] at H
            exact absurd H (by simp)
       ·rw [if_neg c79] at H
        exact absurd H (by simp)
end Go.Proofs.Ytcnliampiibpbaa.PAll
