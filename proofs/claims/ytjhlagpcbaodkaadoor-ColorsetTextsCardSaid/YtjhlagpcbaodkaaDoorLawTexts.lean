/- Plain laws over the printed functions: what each comes to. No condition but the ones written. -/
import Derived.Test.YtjhlagpcbaodkaaDoorPlainF
import Derived.Test.YtjhlagpcbaodkaaDoorPlainS
import Derived.Test.YtjhlagpcbaodkaaDoorPAlllColorsetTexts
namespace Go.Proofs.YtjhlagpcbaodkaaDoor.Plain
open Go Go.RowKit Go.Proofs.YtjhlagpcbaodkaaDoor.PAll Go.Proofs.YtjhlagpcbaodkaaDoorW.PrintWords Go.Proofs.YtjhlagpcbaodkaaDoorW.PrintLast Go.Proofs.YtjhlagpcbaodkaaDoorW.PrintMore
set_option linter.unusedVariables false
theorem txF_len (l : List ByteArray) (ok : NamesOk l) (a : List Int) : ∀ (j : Nat) (out : List UInt8), a.length + j = l.length → inB a = true → (txF out a ((vls l).drop j)).length ≤ out.length + 100 * a.length := by
  have hv := vls_len l
  induction a with
  | nil => intro j out _ _; simp [txF]
  | cons x xs ih =>
    intro j out hal hb
    simp only [List.length_cons] at hal ⊢
    have hj : j < l.length := by omega
    rw [inB_cons, Bool.and_eq_true, decide_eq_true_iff] at hb
    have hnm := name_bytes _ (ok.nm j hj)
    have hz := itoa_len (n := x) (by unfold I64; omega)
    have hsz : l[j].data.toList.length ≤ 16 := by rw [← size_data]; exact hnm.1
    rw [drop_cons (vls l) j (by omega), txF, vls_get l j hj]
    by_cases h0 : x = 0
    · rw [if_pos h0]; have := ih (j + 1) out (by omega) hb.2; omega
    · rw [if_neg h0]
      have := ih (j + 1) ((if out = [] then [] else out ++ [32, 43, 32]) ++ trm x l[j].data.toList) (by omega) hb.2
      have h2 : ((if out = [] then [] else out ++ [32, 43, 32]) ++ trm x l[j].data.toList).length ≤ out.length + 100 := by
        unfold trm; split <;> simp <;> omega
      omega
theorem textV_len (c : ByteArray) (l : List ByteArray) (a : List Int) : (textV c l a).length ≤ 2000 := by
  unfold textV
  by_cases h : ckV c l = 0
  · rw [if_pos h]
    have ok := namesOk_of h
    have h12 := ok.hi
    by_cases g : okA l a = true
    · rw [if_pos g]
      obtain ⟨hal, hb⟩ := (okA_iff l a).mp g
      have := txF_len l ok a 0 [] (by omega) hb
      rw [List.drop_zero] at this
      unfold finT
      split
      · simp
      · simp at this; omega
    · rw [if_neg g]; simp
  · rw [if_neg h]; simp
theorem ColorsetTexts_pure (c : ByteArray) (_ : c.size ≤ maxLen) (l : List ByteArray) (_ : l.length ≤ maxLen) (_ : ∀ z ∈ l, z.size ≤ maxLen) (a : List Int) (ya : a.length * 8 ≤ 140737488351232) (_ : ∀ z ∈ a, (Lit.int .i64 z).wf = true) : ∃ k, petrinetlaw39_ColorsetTexts.f k c l a = some true := ⟨6000000, by
  unfold petrinetlaw39_ColorsetTexts.f
  simp only [petrinetlaw39_ColorsetTexts.j0]
  rw [large_is, Option.bind_some]
  by_cases h : l.length > 40
  · rw [decide_eq_true h, if_pos rfl, if_pos trivial, ex_is _ (by omega)]; rfl
  · rw [decide_eq_false h, if_neg (by simp)]
    by_cases g : (a.length : Int) > 60
    · rw [decide_eq_true g, if_pos rfl, ex_is _ (by omega)]; rfl
    · rw [decide_eq_false g, if_neg (by simp), ex_is _ (by omega), ptext_is c l a _ (by omega), rtext_is c l (by omega) a (by omega) _ (by omega), Option.bind_some, Option.bind_some, if_pos rfl]
      have hlen := textV_len c l a
      obtain ⟨R, h1, h2⟩ := pparse_spec c l (textV c l a) (by omega) 5999999 (by omega)
      rw [h1, Option.bind_some, Lib.toList_data, mk_data]
      by_cases e : textV c l a = []
      · rw [if_pos e]
        rw [e] at h2
        rcases h2 with ⟨h0, rfl⟩ | ⟨h0, b, hb, ht, rfl⟩ | ⟨h0, hn, rfl⟩
        · rw [if_neg h0, if_pos (by simp)]; rfl
        · exact absurd ht (txtA_ne l b)
        · rw [if_neg (by simp), if_pos (by simp)]; rfl
      · rw [if_neg e]
        have h0 : ckV c l = 0 := by
          by_cases q : ckV c l = 0
          · exact q
          · exact absurd (by unfold textV; rw [if_neg q]) e
        obtain ⟨k1, k2⟩ := textV_some h0 e rfl
        have hR : R = (a, 0) := pspec_unique (by omega) h2 (.inr (.inl ⟨h0, a, k1, k2, rfl⟩))
        subst hR
        rw [same_is a a (by omega) _ (by omega), Option.bind_some, decide_eq_true rfl, if_pos rfl, if_pos rfl]; rfl⟩
end Go.Proofs.YtjhlagpcbaodkaaDoor.Plain
