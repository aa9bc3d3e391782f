/- Plain laws over the printed functions: what each comes to. No condition but the ones written. -/
import Derived.Test.YtoobmfofkeaibaaDoorPlainB
import Derived.Test.YtoobmfofkeaibaaDoorPAllx5
namespace Go.Proofs.YtoobmfofkeaibaaDoor.Plain
open Go Go.RowKit Go.Proofs.YtoobmfofkeaibaaDoor.PAll Go.Proofs.YtoobmfofkeaibaaDoorW.PrintWords Go.Proofs.YtoobmfofkeaibaaDoorW.PrintLast Go.Proofs.YtoobmfofkeaibaaDoorW.PrintMore
set_option linter.unusedVariables false
/-! ### the examples, and three laws -/
theorem itoa1 : Lib.itoa 1 = [49] := by simp [Lib.itoa, Lib.decDigits]
theorem itoa2 : Lib.itoa 2 = [50] := by simp [Lib.itoa, Lib.decDigits]
theorem ex_acc : accW [1, 0, 2] [1, 1, 2] = [1, -1, 2] := by decide
theorem ex_text : textW [1, -1, 2] = [49, 44, 119, 44, 50] := by
  rw [textW_cons (by simp)]
  simp [pieceW, itoa1, itoa2, Num.joinB]
theorem ex_is (k : Nat) (hk : 2000 ≤ k) : petrinetlaw05_exampleHolds.f k = some true := by
  unfold petrinetlaw05_exampleHolds.f
  rw [acc_is _ _ (by simp) (by simp) k (by simp; omega), ex_acc, Option.bind_some, otext_is _ (by simp) (fun x hx => by simp at hx; unfold I64; omega) k (by simp; omega), Option.bind_some, ex_text, if_pos (by rw [Lib.toList_data, mk_data])]
  rw [ocov_is _ _ (by simp) (by simp) k (by simp; omega), ocov_is _ _ (by simp) (by simp) k (by simp; omega), Option.bind_some, if_pos (by decide), Option.bind_some]
  decide
theorem orders_law (k : Nat) (a b : List Int) (ha : a.length ≤ 17592186044416) (hb : b.length ≤ 17592186044416) (hk : 3 * a.length + 3 * b.length + 3000 ≤ k) : petrinetlaw05_OmegaOrders.f k a b = some true := by
  unfold petrinetlaw05_OmegaOrders.f
  have hA := ex_is k (by omega)
  have hl := accW_len a b
  rw [oleq_is a b ha hb k (by omega) (by omega), wleq_is a b ha hb k (by omega) (by omega), ocov_is a b ha hb k (by omega), wcov_is a b ha hb k (by omega), acc_is a b ha hb k (by omega), wacc_is a b ha hb k (by omega)]
  simp only [Option.bind_some]
  rw [if_pos (by simp), if_pos (by simp), same_is _ _ (by omega) k (by omega), Option.bind_some, if_pos (by simp), hA]; rfl
theorem acc_j0 (k : Nat) (a b : List Int) (ha : a.length ≤ 17592186044416) (hb : b.length ≤ 17592186044416) (hk : 3 * a.length + 3 * b.length + 3000 ≤ k) : petrinetlaw05_OmegaAccelerates.j0 (k + 1) a b false = some true := by
  have hA := ex_is k (by omega)
  simp only [petrinetlaw05_OmegaAccelerates.j0]
  rw [if_neg (by simp), acc_is b b hb hb k (by omega), acc_is a a ha ha k (by omega), accW_same, accW_same, Option.bind_some, same_is b b (by omega) k (by omega), Option.bind_some, if_pos (by simp), Option.bind_some, same_is a a (by omega) k (by omega), Option.bind_some, if_pos (by simp), hA]; rfl
theorem accelerates_law (k : Nat) (a b m : List Int) (ha : a.length ≤ 17592186044416) (hb : b.length ≤ 17592186044416) (hm : m.length ≤ 17592186044416) (hk : 3 * a.length + 3 * b.length + 3 * m.length + 3000 ≤ k) : petrinetlaw05_OmegaAccelerates.f (k + 1) a b m = some true := by
  have hA := ex_is (k + 1) (by omega)
  have hJ := acc_j0 k a b ha hb (by omega)
  unfold petrinetlaw05_OmegaAccelerates.f
  have hl := accW_len a b
  rw [oleq_is a b ha hb _ (by omega) (by omega), acc_is a b ha hb _ (by omega), Option.bind_some]
  by_cases h : leqW a b = true
  · rw [if_pos h, Option.bind_some, oleq_is b _ hb (by omega) _ (by omega) (by omega), Option.bind_some, if_pos (accW_ge h), oleq_is a _ ha (by omega) _ (by omega) (by omega), Option.bind_some, if_pos (leqW_trans h (accW_ge h)), ocov_is a m ha hm _ (by omega), ocov_is b m hb hm _ (by omega), ocov_is _ m (by omega) hm _ (by omega)]
    simp only [Option.bind_some]
    by_cases c : coversW a m = true
    · rw [if_pos c, covers_up (leqW_trans h (accW_ge h)) c]; exact hJ
    · rw [if_neg c]
      by_cases d : coversW b m = true
      · rw [if_pos d, covers_up (accW_ge h) d]; exact hJ
      · rw [if_neg d]; exact hJ
  · rw [if_neg h, hA]; rfl
theorem ofin_l (l : List Int) (hl : l.length ≤ 17592186044416) (n : Nat) : ∀ (k i : Nat) (out : List Int), l.length - i = n → i ≤ l.length → out.length ≤ i → n < k → omega_Finite.l0 k out l (l.length : Int) (i : Int) = some (out ++ finI i (l.drop i)) := by
  induction n with
  | zero =>
    intro k i out hn hi ho hk
    obtain ⟨k, rfl⟩ := fuel hk
    simp only [omega_Finite.l0]
    rw [if_neg (by omega), drop_end l i (by omega), finI, List.append_nil]
  | succ n ih =>
    intro k i out hn hi ho hk
    obtain ⟨k, rfl⟩ := fuel hk
    have h1 : i < l.length := by omega
    simp only [omega_Finite.l0]
    rw [if_pos (by omega), if_pos (by omega), if_pos (by omega), rd_get l i h1, drop_cons l i h1, finI, wrap_succ i (by omega)]
    by_cases e : l[i] = -1
    · rw [if_pos e, if_pos e, ih k (i + 1) out (by omega) (by omega) (by omega) (by omega)]
    · rw [if_neg e, if_neg e, if_pos (by omega), ih k (i + 1) _ (by omega) (by omega) (by simp; omega) (by omega)]; simp
theorem ofin_is (l : List Int) (hl : l.length ≤ 17592186044416) (k : Nat) (hk : l.length < k) : omega_Finite.f k l = some (finI 0 l) := by
  unfold omega_Finite.f
  have := ofin_l l hl _ k 0 [] rfl (by omega) (by simp) hk
  simpa using this
theorem valids_law (k : Nat) (hk : 3000 ≤ k) (l : List Int) (n : Int) (hin : AllI l) : petrinetlaw05_OmegaValids.f k l n = some true := by
  unfold petrinetlaw05_OmegaValids.f
  have hA := ex_is k (by omega)
  by_cases h : (l.length : Int) > 200
  · rw [if_pos h, hA]; rfl
  · rw [if_neg h]
    have hf := finI_len l 0
    rw [ovalid_is l n (by omega) k (by omega), wvalid_is l n (by omega) k (by omega), ofin_is l (by omega) k (by omega), rfin_is l (by omega) k (by omega), otext_is l (by omega) hin k (by omega), wtext_is l (by omega) hin k (by omega)]
    simp only [Option.bind_some]
    rw [if_pos (by simp), same_is _ _ (by omega) k (by omega), Option.bind_some, if_pos (by simp), if_pos trivial, hA]; rfl
theorem len_of {n : Nat} (h : n * 8 ≤ 140737488351232) : n ≤ 17592186044416 := by omega
theorem OmegaOrders_pure : petrinetlaw05_OmegaOrders.Pure := fun a b _ h1 _ _ h2 _ => ⟨_, orders_law _ a b (len_of h1) (len_of h2) (Nat.le_refl _)⟩
theorem OmegaAccelerates_pure : petrinetlaw05_OmegaAccelerates.Pure := fun a b m _ h1 _ _ h2 _ _ h3 _ => ⟨_, accelerates_law _ a b m (len_of h1) (len_of h2) (len_of h3) (Nat.le_refl _)⟩
theorem OmegaValids_pure : petrinetlaw05_OmegaValids.Pure := fun l n _ _ hl _ => ⟨3000, valids_law 3000 (Nat.le_refl _) l n (allI_of hl)⟩
end Go.Proofs.YtoobmfofkeaibaaDoor.Plain
