/- Plain laws over the printed functions: what each comes to. No condition but the ones written. -/
import Derived.Test.YtjfgmfajniacdaaDoorPlainD
import Derived.Test.YtjfgmfajniacdaaDoorPlainE
namespace Go.Proofs.YtjfgmfajniacdaaDoor.Plain
open Go Go.RowKit Go.Proofs.YtjfgmfajniacdaaDoor.PAll Go.Proofs.YtjfgmfajniacdaaDoorW.PrintWords Go.Proofs.YtjfgmfajniacdaaDoorW.PrintLast Go.Proofs.YtjfgmfajniacdaaDoorW.PrintMore
set_option linter.unusedVariables false
/-! ### alive -/
theorem mparse_mk (p : List UInt8) (hp : p.length ≤ 1000000) (k : Nat) (hk : 2 * p.length + 300 ≤ k) : marking_Parse.f k (mk p) = some (parseM p) := by
  have := mparse_is (mk p) (by rw [mk_size]; exact hp) k (by rw [mk_size]; exact hk)
  rw [this, mk_data]
theorem alive_is (k : Nat) (hk : 2000 ≤ k) : petrinetlaw04_alive.f k = some true := by
  unfold petrinetlaw04_alive.f
  rw [show (⟨#[48, 49]⟩ : ByteArray) = mk [48, 49] from rfl, show (⟨#[49, 44, 48, 44, 50]⟩ : ByteArray) = mk [49, 44, 48, 44, 50] from rfl]
  rw [mparse_mk _ (by simp) k (by simp; omega), mparse_mk _ (by simp) k (by simp; omega), parse01, parseM_good good102, Option.bind_some, Option.bind_some, if_pos rfl, if_pos rfl]
  rw [same_is _ _ (by simp) k (by simp; omega), Option.bind_some, if_pos (by simp), text_is _ (by simp) (fun x hx => by simp at hx; unfold I64; omega) k (by simp; omega), Option.bind_some, text102, if_pos (by rw [Lib.toList_data, mk_data])]
  rw [Max_is _ _ (by simp) k (by simp; omega), Option.bind_some, same_is _ _ (by simp [zipG]) k (by simp [zipG]; omega), Option.bind_some]
  decide
theorem parseM_len (s : List UInt8) : (parseM s).1.length ≤ 24 := by
  rcases parseM_cases s with ⟨m, hm, e⟩ | ⟨_, e⟩
  · rw [e]; exact hm.1
  · rw [e]; simp
end Go.Proofs.YtjfgmfajniacdaaDoor.Plain
