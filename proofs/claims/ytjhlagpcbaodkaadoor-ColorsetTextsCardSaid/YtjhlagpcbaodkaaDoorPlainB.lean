/- Plain laws over the printed functions: what each comes to. No condition but the ones written. -/
import Derived.Test.YtjhlagpcbaodkaaDoorPlainA
namespace Go.Proofs.YtjhlagpcbaodkaaDoor.Plain
open Go Go.RowKit Go.Proofs.YtjhlagpcbaodkaaDoor.PAll Go.Proofs.YtjhlagpcbaodkaaDoorW.PrintWords Go.Proofs.YtjhlagpcbaodkaaDoorW.PrintLast Go.Proofs.YtjhlagpcbaodkaaDoorW.PrintMore
set_option linter.unusedVariables false
/-! ### the example -/
theorem itoa1 : Lib.itoa 1 = [49] := by simp [Lib.itoa, Lib.decDigits]
theorem itoa2 : Lib.itoa 2 = [50] := by simp [Lib.itoa, Lib.decDigits]
theorem sItoa1 : strconv_Itoa.f 1 = some (⟨#[49]⟩ : ByteArray) := by unfold strconv_Itoa.f; rw [if_pos (by omega), itoa1]
theorem sItoa2 : strconv_Itoa.f 2 = some (⟨#[50]⟩ : ByteArray) := by unfold strconv_Itoa.f; rw [if_pos (by omega), itoa2]
theorem exCheck : colorset_Check.f (⟨#[99]⟩ : ByteArray) [(⟨#[97]⟩ : ByteArray), (⟨#[98]⟩ : ByteArray)] = some 0 := by decide
theorem w01 : wrap64 (0 + 1) = 1 := by unfold wrap64; omega
theorem w12 : wrap64 (1 + 1) = 2 := by unfold wrap64; omega
theorem exValid (k : Nat) (hk : 10 ≤ k) : colorset_valid.f k [[2, 1]] = some true := by
  unfold colorset_valid.f
  obtain ⟨k, rfl⟩ := fuel (show 0 < k by omega)
  simp only [colorset_valid.l0]
  rw [if_pos (by decide), if_pos (by decide), if_pos (by decide), show rd_L5 [[2, 1]] 0 = [2, 1] from rfl]
  obtain ⟨k, rfl⟩ := fuel (show 0 < k by omega)
  simp only [colorset_valid.l1]
  rw [if_pos (by decide), if_pos (by decide), if_pos (by decide), if_neg (by decide), if_neg (by decide), w01]
  obtain ⟨k, rfl⟩ := fuel (show 0 < k by omega)
  simp only [colorset_valid.l1]
  rw [if_pos (by decide), if_pos (by decide), if_pos (by decide), if_neg (by decide), if_neg (by decide), w12]
  obtain ⟨k, rfl⟩ := fuel (show 0 < k by omega)
  simp only [colorset_valid.l1]
  rw [if_neg (by decide), w01]
  obtain ⟨k, rfl⟩ := fuel (show 0 < k by omega)
  simp only [colorset_valid.l0]
  rw [if_neg (by decide)]
theorem exShift : colorset_Shift.f (⟨#[99]⟩ : ByteArray) [(⟨#[97]⟩ : ByteArray), (⟨#[98]⟩ : ByteArray)] 0 (-1) = some 1 := by
  unfold colorset_Shift.f wrap64
  decide
theorem exText (k : Nat) (hk : 20 ≤ k) : colorset_Text.f k (⟨#[99]⟩ : ByteArray) [(⟨#[97]⟩ : ByteArray), (⟨#[98]⟩ : ByteArray)] [2, 1] = some (⟨#[50, 39, 97, 32, 43, 32, 49, 39, 98]⟩ : ByteArray) := by
  unfold colorset_Text.f
  rw [exCheck, Option.bind_some, if_pos rfl, if_pos (by simp), exValid k (by omega), Option.bind_some]
  obtain ⟨k, rfl⟩ := fuel (show 0 < k by omega)
  simp only [colorset_Text.j0]
  rw [if_neg (by simp)]
  obtain ⟨k, rfl⟩ := fuel (show 0 < k by omega)
  simp only [colorset_Text.l0]
  rw [if_pos (by decide), if_pos (by decide), if_pos (by decide), if_neg (by decide), if_pos (by simp [Lib.toList_data]), show rd [2, 1] 0 = 2 from rfl, sItoa2, Option.bind_some, if_pos (by decide), if_pos (by decide), if_pos (by decide), if_pos (by decide), w01]
  obtain ⟨k, rfl⟩ := fuel (show 0 < k by omega)
  simp only [colorset_Text.l0]
  rw [if_pos (by decide), if_pos (by decide), if_pos (by decide), if_neg (by decide), if_neg (by rw [Lib.toList_data]; simp [rdOf]), if_pos (by decide), show rd [2, 1] 1 = 1 from rfl, sItoa1, Option.bind_some, if_pos (by decide), if_pos (by decide), if_pos (by decide), if_pos (by decide), w12]
  obtain ⟨k, rfl⟩ := fuel (show 0 < k by omega)
  simp only [colorset_Text.l0]
  rw [if_neg (by decide)]
  rw [if_neg (by rw [Lib.toList_data]; simp [rdOf])]
  refine congrArg some (Num.str_ext ?_)
  first | decide | simp [rdOf]
theorem ex_is (k : Nat) (hk : 40 ≤ k) : petrinetlaw39_exampleHolds.f k = some true := by
  unfold petrinetlaw39_exampleHolds.f
  rw [Option.bind_some, exText k (by omega), Option.bind_some, if_pos (by rw [Lib.toList_data]), exShift]
  rfl
end Go.Proofs.YtjhlagpcbaodkaaDoor.Plain
