/- Plain laws over the printed functions: what each comes to. No condition but the ones written. -/
import Derived.Test.YtoobmfofkeaibaaDoorMaxC
import Derived.Test.YtoobmfofkeaibaaDoorPMaxx2
import Derived.Test.YtoobmfofkeaibaaDoorPMaxlOmegaMaximals
namespace Go.Proofs.YtoobmfofkeaibaaDoor.Plain
open Go Go.RowKit Go.Proofs.YtoobmfofkeaibaaDoor.PMax Go.Proofs.YtoobmfofkeaibaaDoorW.PrintWords Go.Proofs.YtoobmfofkeaibaaDoorW.PrintLast Go.Proofs.YtoobmfofkeaibaaDoorW.PrintMore
set_option linter.unusedVariables false
/-! ### the law OmegaMaximals -/
theorem lists_l (L : List (List Int)) (hL : L.length ≤ 1000) (hf : Fits L) (n : Nat) : ∀ i : Nat, L.length - i = n → i ≤ L.length → Ev (fun k => petrinetref04_Lists.l0 k L L (i : Int)) true := by
  induction n with
  | zero => intro i hn hi; exact Ev.step (fun k => by rw [petrinetref04_Lists.l0, if_neg (by omega)]) (Ev.now _)
  | succ n ih =>
    intro i hn hi
    have h1 : i < L.length := by omega
    refine Ev.step (fun k => by rw [petrinetref04_Lists.l0, if_pos (by omega), if_pos (by omega), if_pos (by omega), rdL_get L i h1, wrap_succ i (by omega)]) (Ev.bind (same_ev _ _ (hf.at i h1)) ?_)
    simp only [decide_true, if_true]
    exact ih (i + 1) (by omega) (by omega)
theorem lists_ev (L : List (List Int)) (hL : L.length ≤ 1000) (hf : Fits L) : Ev (fun k => petrinetref04_Lists.f k L L) true := by
  unfold petrinetref04_Lists.f
  exact Ev.congr (fun k => if_pos rfl) (lists_l L hL hf _ 0 rfl (by omega))
theorem OmegaMaximals_ev (l : List (List Int)) (hf : Fits l) : Ev (fun k => petrinetlaw05_OmegaMaximals.f k l) true := by
  unfold petrinetlaw05_OmegaMaximals.f
  by_cases c : (l.length : Int) > 60
  · exact Ev.congr (fun k => by rw [if_pos c]) ex_some
  · have hc := conF_len l []
    have hl := fold_len (conF [] l) (conF [] l) []
    simp only [List.length_nil, Nat.zero_add] at hc hl
    have hfo : Fits ((conF [] l).foldl (stepO (conF [] l)) []) := fun x hx => by
      rcases conF_mem l [] x (List.mem_of_mem_take (((maxO_inv l hf).mem x).1 hx).1) with q | q
      · cases q
      · exact hf x q
    refine Ev.congr (fun k => by rw [if_neg c]) (Ev.bind (omax_ev l (by omega) hf) (Ev.bind (wmax_ev l (by omega) hf) (Ev.bind (lists_ev _ (by omega) hfo) ?_)))
    simp only [if_true]
    exact ex_some
theorem OmegaMaximals_pure (l0 : List (List Int)) (_m0 : l0.length * 24 ≤ reachBytes) (w0 : ∀ z ∈ l0, z.length * 8 ≤ reachBytes ∧ ∀ x ∈ z, (Lit.int .i64 x).wf = true) : ∃ k, petrinetlaw05_OmegaMaximals.f k l0 = some true :=
  Ev.rounds (OmegaMaximals_ev l0 (fun z hz => by have h := (w0 z hz).1; unfold reachBytes at h; omega))
end Go.Proofs.YtoobmfofkeaibaaDoor.Plain
