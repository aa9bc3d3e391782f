/- Plain laws over the printed functions: what each comes to. No condition but the ones written. -/
import Derived.Test.YtcnliampiibpbaaPlainB
import Derived.Test.YtcnliampiibpbaaPAllx18
import Derived.Test.YtcnliampiibpbaaPAllx10
import Derived.Test.YtcnliampiibpbaaPAllx2
namespace Go.Proofs.Ytcnliampiibpbaa.Plain
open Go Go.RowKit Go.Proofs.Ytcnliampiibpbaa.PAll Go.Proofs.YtcnliampiibpbaaW.PrintWords Go.Proofs.YtcnliampiibpbaaW.PrintLast Go.Proofs.YtcnliampiibpbaaW.PrintMore
set_option linter.unusedVariables false
/-! ### Next, few, alive -/
theorem Ev.from_ {α : Type} {g : Nat → Option α} {r : α} (K : Nat) (h : ∀ k, K ≤ k → g k = some r) : Ev g r := ⟨K, h⟩
theorem rdT_get (l : List S44) (i : Nat) (h : i < l.length) : rd_T44 l (i : Int) = l[i] := by
  unfold rd_T44; rw [Int.toNat_natCast, List.getD_eq_getElem?_getD, List.getElem?_eq_getElem h]; rfl
def vaB (a : Int) (l : List ByteArray) (l2 : List S44) : Bool := (ckS a l l2).1 == 0
theorem scheck_ev (a : Int) (l : List ByteArray) (l2 : List S44) (hl : l2.length ≤ 1000000) : Ev (fun k => system_Check.f k a l l2) (ckS a l l2) := ⟨3000000, fun k hk => sck_is a l l2 hl k hk⟩
theorem rcheck_ev (a : Int) (l : List ByteArray) (l2 : List S44) (hl : l2.length ≤ 1000000) : Ev (fun k => petrinetref45_Check.f k a l l2) (ckS a l l2) := ⟨3000000, fun k hk => rck_is a l l2 hl k hk⟩
theorem svalid_ev (a : Int) (l : List ByteArray) (l2 : List S44) (hl : l2.length ≤ 1000000) : Ev (fun k => system_valid.f k a l l2) (vaB a l l2) := by
  unfold system_valid.f
  exact Ev.bind (scheck_ev a l l2 hl) (Ev.now _)
theorem rvalid_ev (a : Int) (l : List ByteArray) (l2 : List S44) (hl : l2.length ≤ 1000000) : Ev (fun k => petrinetref45_Valid.f k a l l2) (vaB a l l2) := by
  unfold petrinetref45_Valid.f
  exact Ev.bind (rcheck_ev a l l2 hl) (Ev.now _)
def nxL (s e : Int) : List S44 → Int
  | [] => -1
  | x :: r => if x.f0 = s ∧ x.f1 = e then x.f2 else nxL s e r
theorem snext_l0 (s e : Int) (l2 : List S44) (hl : l2.length ≤ 1000000) (n : Nat) : ∀ (i : Nat), l2.length - i = n → i ≤ l2.length → Ev (fun k => system_next.l0 k s e l2 (l2.length : Int) (i : Int)) (nxL s e (l2.drop i)) := by
  induction n with
  | zero =>
    intro i hn hi
    refine Ev.step (f := fun _ => some (nxL s e (l2.drop i))) (fun k => ?_) (Ev.now _)
    rw [system_next.l0, if_neg (by omega), drop_end _ i (by omega), nxL]
  | succ n ih =>
    intro i hn hi
    have h : i < l2.length := by omega
    by_cases c : l2[i].f0 = s ∧ l2[i].f1 = e
    · refine Ev.step (f := fun _ => some (nxL s e (l2.drop i))) (fun k => ?_) (Ev.now _)
      rw [system_next.l0, if_pos (by omega), if_pos (by omega), if_pos (by omega), rdT_get l2 i h, if_pos c.1, if_pos c.2, drop_cons l2 i h, nxL, if_pos c]
    · refine Ev.step (f := fun k => system_next.l0 k s e l2 (l2.length : Int) ((i + 1 : Nat) : Int)) (fun k => ?_) ?_
      · rw [system_next.l0, if_pos (by omega), if_pos (by omega), if_pos (by omega), rdT_get l2 i h, wrap_succ i (by omega)]
        by_cases c0 : l2[i].f0 = s
        · rw [if_pos c0, if_neg (fun q => c ⟨c0, q⟩)]
        · rw [if_neg c0]
      · rw [drop_cons l2 i h, nxL, if_neg c]
        exact ih (i + 1) (by omega) (by omega)
theorem snext_ev (s e a : Int) (l : List ByteArray) (l2 : List S44) (hl : l2.length ≤ 1000000) : Ev (fun k => system_next.f k a l l2 s e) (nxL s e l2) := by
  unfold system_next.f
  simpa using snext_l0 s e l2 hl _ 0 rfl (by omega)
theorem rnext_l0 (s e a : Int) (l : List ByteArray) (l2 : List S44) (hl : l2.length ≤ 1000000) (n : Nat) : ∀ (i : Nat), l2.length - i = n → i ≤ l2.length → Ev (fun k => petrinetref45_Next.l0 k s e (i : Int) a l l2) (nxL s e (l2.drop i)) := by
  induction n with
  | zero =>
    intro i hn hi
    refine Ev.step (f := fun _ => some (nxL s e (l2.drop i))) (fun k => ?_) (Ev.now _)
    rw [petrinetref45_Next.l0, if_neg (by omega), drop_end _ i (by omega), nxL]
  | succ n ih =>
    intro i hn hi
    have h : i < l2.length := by omega
    by_cases c : l2[i].f0 = s ∧ l2[i].f1 = e
    · refine Ev.step (f := fun _ => some (nxL s e (l2.drop i))) (fun k => ?_) (Ev.now _)
      rw [petrinetref45_Next.l0, if_pos (by omega), if_pos (by omega), rdT_get l2 i h, if_pos c.1, if_pos c.2, drop_cons l2 i h, nxL, if_pos c]
    · refine Ev.step (f := fun k => petrinetref45_Next.l0 k s e ((i + 1 : Nat) : Int) a l l2) (fun k => ?_) ?_
      · rw [petrinetref45_Next.l0, if_pos (by omega), if_pos (by omega), rdT_get l2 i h, wrap_succ i (by omega)]
        by_cases c0 : l2[i].f0 = s
        · rw [if_pos c0, if_neg (fun q => c ⟨c0, q⟩)]
        · rw [if_neg c0]
      · rw [drop_cons l2 i h, nxL, if_neg c]
        exact ih (i + 1) (by omega) (by omega)
/-- What Next comes to. -/
def nxS (a : Int) (l : List ByteArray) (l2 : List S44) (s e : Int) : Int := if vaB a l l2 = true then nxL s e l2 else -1
theorem sNext_ev (s e a : Int) (l : List ByteArray) (l2 : List S44) (hl : l2.length ≤ 1000000) : Ev (fun k => system_Next.f k a l l2 s e) (nxS a l l2 s e) := by
  unfold system_Next.f nxS
  refine Ev.bind (svalid_ev a l l2 hl) ?_
  by_cases c : vaB a l l2 = true
  · simp only [if_pos c]
    exact Ev.bind (snext_ev s e a l l2 hl) (Ev.now _)
  · simp only [if_neg c]
    exact Ev.now _
theorem rNext_ev (s e a : Int) (l : List ByteArray) (l2 : List S44) (hl : l2.length ≤ 1000000) : Ev (fun k => petrinetref45_Next.f k a l l2 s e) (nxS a l l2 s e) := by
  unfold petrinetref45_Next.f nxS
  refine Ev.bind (rvalid_ev a l l2 hl) ?_
  by_cases c : vaB a l l2 = true
  · simp only [if_pos c]
    simpa using rnext_l0 s e a l l2 hl _ 0 rfl (by omega)
  · simp only [if_neg c]
    exact Ev.now _
/-- What 'few' tells. -/
def FewP (a : Int) (l : List ByteArray) (l2 : List S44) : Prop := (a ≤ 12 ∨ a > 200) ∧ l.length ≤ 66 ∧ l2.length ≤ 40 ∧ ∀ x ∈ l, x.size ≤ 40
theorem few_l (a : Int) (l : List ByteArray) (l2 : List S44) (n : Nat) : ∀ (i : Nat), 67 - i = n → i ≤ 67 → i ≤ l.length → (∀ j (h : j < l.length), j < i → l[j].size ≤ 40) → ∃ b, Ev (fun k => petrinetlaw45_few.l0 k (i : Int) a l l2) b ∧ (b = true → FewP a l l2) := by
  have fin : ∀ i : Nat, (i = l.length ∨ 67 ≤ i) → i ≤ l.length → (∀ j (h : j < l.length), j < i → l[j].size ≤ 40) → ∃ b, Ev (fun k => petrinetlaw45_few.j1 k (i : Int) false a l l2) b ∧ (b = true → FewP a l l2) := by
    intro i hi hil hall
    by_cases c : (a ≤ 12 ∨ a > 200) ∧ l.length ≤ 66
    · refine ⟨decide ((l2.length : Int) ≤ 40), Ev.step (f := fun _ => some (decide ((l2.length : Int) ≤ 40))) (fun k => ?_) (Ev.now _), fun h => ⟨c.1, c.2, by have := of_decide_eq_true h; omega, fun x hx => ?_⟩⟩
      · rw [petrinetlaw45_few.j1, if_neg (by simp)]
        rcases c.1 with h | h
        · rw [if_pos h, if_pos (by omega)]
        · rw [if_neg (by omega), if_pos h, if_pos (by omega)]
      · obtain ⟨j, hj, rfl⟩ := List.getElem_of_mem hx
        exact hall j hj (by omega)
    · refine ⟨false, Ev.step (f := fun _ => some false) (fun k => ?_) (Ev.now _), fun h => by simp at h⟩
      rw [petrinetlaw45_few.j1, if_neg (by simp)]
      by_cases h : a ≤ 12
      · rw [if_pos h, if_neg (fun q => c ⟨.inl h, by omega⟩)]
      · rw [if_neg h]
        by_cases g : a > 200
        · rw [if_pos g, if_neg (fun q => c ⟨.inr g, by omega⟩)]
        · rw [if_neg g]
  induction n with
  | zero =>
    intro i hn hi hil hall
    obtain ⟨b, h1, h2⟩ := fin i (by omega) hil hall
    refine ⟨b, Ev.step (f := fun k => petrinetlaw45_few.j1 k (i : Int) false a l l2) (fun k => ?_) h1, h2⟩
    rw [petrinetlaw45_few.l0]
    by_cases c : (i : Int) < (l.length : Int)
    · rw [if_pos c, decide_eq_false (by omega)]
    · rw [if_neg c]
  | succ n ih =>
    intro i hn hi hil hall
    by_cases c : i < l.length
    · by_cases g : l[i].size ≤ 40
      · obtain ⟨b, h1, h2⟩ := ih (i + 1) (by omega) (by omega) (by omega) (fun j h hj => by
          by_cases e : j = i
          · subst e; exact g
          · exact hall j h (by omega))
        refine ⟨b, Ev.step (f := fun k => petrinetlaw45_few.j1 k (i : Int) true a l l2) (fun k => ?_) (Ev.step (f := fun k => petrinetlaw45_few.l0 k ((i + 1 : Nat) : Int) a l l2) (fun k => ?_) h1), h2⟩
        · rw [petrinetlaw45_few.l0, if_pos (by omega), decide_eq_true (by omega)]
        · rw [petrinetlaw45_few.j1, if_pos rfl, if_pos (by omega), if_pos (by omega), rdOf_get _ l i c, if_neg (by omega), wrap_succ i (by omega)]
      · refine ⟨false, Ev.step (f := fun k => petrinetlaw45_few.j1 k (i : Int) true a l l2) (fun k => ?_) (Ev.step (f := fun _ => some false) (fun k => ?_) (Ev.now _)), fun h => by simp at h⟩
        · rw [petrinetlaw45_few.l0, if_pos (by omega), decide_eq_true (by omega)]
        · rw [petrinetlaw45_few.j1, if_pos rfl, if_pos (by omega), if_pos (by omega), rdOf_get _ l i c, if_pos (by omega)]
    · obtain ⟨b, h1, h2⟩ := fin i (by omega) hil hall
      refine ⟨b, Ev.step (f := fun k => petrinetlaw45_few.j1 k (i : Int) false a l l2) (fun k => ?_) h1, h2⟩
      rw [petrinetlaw45_few.l0, if_neg (by omega)]
theorem few_ev (a : Int) (l : List ByteArray) (l2 : List S44) : ∃ b, Ev (fun k => petrinetlaw45_few.f k a l l2) b ∧ (b = true → FewP a l l2) := by
  unfold petrinetlaw45_few.f
  exact few_l a l l2 _ 0 rfl (by omega) (by omega) (fun j _ h => by omega)
set_option maxRecDepth 100000 in
theorem alive_200 : petrinetlaw45_alive.f 200 = some true := by decide +kernel
theorem alive_ev : Ev (fun k => petrinetlaw45_alive.f k) true := Ev.of petrinetlaw45_alive.mono alive_200
end Go.Proofs.Ytcnliampiibpbaa.Plain
