/- Plain laws over the printed functions: what each comes to. No condition but the ones written. -/
import Derived.Test.YtdkfnhcegafliaaDoorPlainB
import Derived.Test.YtdkfnhcegafliaaDoorPAlllFracParses
namespace Go.Proofs.YtdkfnhcegafliaaDoor.Plain
open Go Go.RowKit Go.Proofs.YtdkfnhcegafliaaDoor.PAll Go.Proofs.YtdkfnhcegafliaaDoorW.PrintWords Go.Proofs.YtdkfnhcegafliaaDoorW.PrintLast Go.Proofs.YtdkfnhcegafliaaDoorW.PrintMore
set_option linter.unusedVariables false
/-! ### the law of Parse -/
theorem no_mark (a b : Int) (h : okF a b = true) : textL a b ≠ [63] := by
  intro g
  have hm : (63 : UInt8) ∈ textL a b := by rw [g]; simp
  have h63 : ∀ n, (63 : UInt8) ∉ Lib.itoa n := fun n => Num.itoa_notin n 63 (.inr (by decide)) (by decide)
  rcases text_cases h with ⟨_, t1, _⟩ | ⟨_, t1⟩
  · rw [t1] at hm; exact h63 a hm
  · rw [t1, List.mem_append, List.mem_cons] at hm
    rcases hm with hm | hm | hm
    · exact h63 a hm
    · exact absurd hm (by decide)
    · exact h63 b hm
theorem textL_len {a b : Int} (ha : I64 a) (hb : I64 b) : (textL a b).length ≤ 50 := by
  have l1 := itoa21 ha
  have l2 := itoa21 hb
  unfold textL
  split
  · split
    · omega
    · simp; omega
  · simp
theorem FracParses_pure (s : ByteArray) (ws : s.size ≤ 140737488351232) (a : Int) (wa : (Lit.int .i64 a).wf = true) (b : Int) (wb : (Lit.int .i64 b).wf = true) : ∃ k, petrinetlaw02_FracParses.f k s a b = some true := ⟨20000000000000000001, by
  have ha := i64_of wa
  have hb := i64_of wb
  have h2 := abs_lt hb
  have hsz := size_data s
  obtain ⟨R, e1, f1⟩ := pparse_spec s.data.toList (by omega) 20000000000000000001 (by omega)
  obtain ⟨R', e2, f2⟩ := rparse_spec s.data.toList (by omega) 20000000000000000001 (by omega)
  rw [mk_self] at e1 e2
  obtain rfl := fspec_unique f1 f2
  have hq : ∀ k, 19000000000000000000 ≤ k → petrinetlaw02_FracParses.j0 k false a b = some true := by
    intro k hk
    obtain ⟨k, rfl⟩ := fuel (show 0 < k by omega)
    simp only [petrinetlaw02_FracParses.j0]
    have hl := textL_len ha hb
    obtain ⟨Q, g1, g2⟩ := pparse_spec (textL a b) (by omega) k (by omega)
    rw [if_neg (by simp), ptext_is a b ha hb k (by omega), Option.bind_some, g1, Option.bind_some, pvalid_is a b ha hb k (by omega), Option.bind_some, ex02 k (by omega)]
    by_cases c : okF a b = true
    · have hQ : Q = (a, b, 0) := fspec_unique g2 (.inl ⟨a, b, ha, hb, c, rfl, rfl⟩)
      subst hQ
      rw [if_pos c, if_pos (by simp), if_pos rfl]; rfl
    · have hQ : Q = (0, 0, 11) := by
        refine fspec_unique g2 (.inr ⟨fun x y hx hy hxy ht => ?_, rfl⟩)
        have : textL a b = [63] := by unfold textL; rw [if_neg c]
        rw [this] at ht
        exact no_mark x y hxy ht
      subst hQ
      rw [if_neg c, if_pos rfl, if_pos (by simp)]; rfl
  unfold petrinetlaw02_FracParses.f
  rw [e1, e2, Option.bind_some, Option.bind_some, if_neg (by simp)]
  have hne : (R.2.2 != R.2.2) = false := by simp
  rw [hne]
  exact hq _ (by omega)⟩
end Go.Proofs.YtdkfnhcegafliaaDoor.Plain
