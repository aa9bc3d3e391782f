/- From what a row says of a slice that came in to what the printed contracts ask: its elements read one by one. No condition but the ones written. -/
import Derived.Test.YtoobmfofkeaibaaDoorWWords
import Derived.ChangeArms
import Derived.SliceStrings
import Derived.OpenShut
import Derived.WideShapes
namespace Go.Proofs.YtoobmfofkeaibaaDoor.Opens
open Go Go.RowKit Go.ChangeShapes Go.WideShapes Go.Proofs.YtoobmfofkeaibaaDoorW.PrintWords
theorem cells_cell {w : World} {base n : Nat} {a : Addr} {cs : List Value} (h : w.cells? base a n = some cs) : cs.length = n ∧ ∀ i u, cs[i]? = some u → w.cell? (a.add i) = some u := by
  unfold World.cells? at h
  split at h
  · have hl := mapM_some_length h
    rw [List.length_range] at hl
    refine ⟨hl, fun i u hu => ?_⟩
    have hi : i < n := by have := (List.getElem?_eq_some_iff.1 hu).1; omega
    have := mapM_some_get h i i (by simp [hi])
    rw [this]; exact hu
  · simp at h
theorem slice_C {H : Type} {enc : TypeId × Value → H} {P : Program} {w : World} {base fuel : Nat} {spare : Nat → Bool} {held : Bool} {α : Type} (d : Kd α) (wf : α → Prop) {t e : TypeId} {cs : List Value} {x : DataW H × List MemPlace}
    (ht : P.underlying t = some (.slice e)) (hc : P.cellsOf e = d.sz) (hE : ∀ (n : Nat) cs y, DataW.trod enc P w base spare held n e cs = some y → ∃ z, d.K w z cs ∧ wf z)
    (h : DataW.trod enc P w base spare held fuel t cs = some x) :
    ∃ A cap xs, cs = [.slice A xs.length cap] ∧ xs.length ≤ cap ∧ xs.length ≤ maxLen ∧ d.C w A xs.length xs ∧ ∀ z ∈ xs, wf z := by
  rcases DataW.trod_slice ht h with ⟨rfl, _⟩ | ⟨a, len, cap, elems, rest, n, _, rfl, _, hb, hl, hm, hlen, hel, _, _⟩
  · exact ⟨none, 0, [], rfl, Nat.le_refl _, Nat.zero_le _, ⟨rfl, by simp, fun h => absurd h (by simp)⟩, fun z hz => by simp at hz⟩
  · have each : ∀ i, i < len → ∃ z cs', w.cells? base (a.add (i * d.sz)) d.sz = some cs' ∧ d.K w z cs' ∧ wf z := by
      intro i hi
      have h1 := hel i hi
      rw [List.getElem?_eq_getElem (by omega : i < elems.length), Option.bind_eq_some_iff] at h1
      obtain ⟨cs', h2, h3⟩ := h1
      obtain ⟨z, hz, hw⟩ := hE n cs' _ h3
      rw [hc] at h2
      exact ⟨z, cs', h2, hz, hw⟩
    let f : Fin len → α := fun i => (each i.1 i.2).choose
    have hf : ∀ i : Fin len, ∃ cs', w.cells? base (a.add (i.1 * d.sz)) d.sz = some cs' ∧ d.K w (f i) cs' ∧ wf (f i) := fun i => (each i.1 i.2).choose_spec
    have hxl : (List.ofFn f).length = len := List.length_ofFn
    refine ⟨some a, cap, List.ofFn f, by rw [hxl], by omega, by omega, ?_, ?_⟩
    · refine ⟨rfl, by rw [hxl]; unfold maxLen at hm; omega, fun _ => ⟨a, rfl, fun j p hj => ?_⟩⟩
      have hj' : j < len := by have := (List.getElem?_eq_some_iff.1 hj).1; omega
      rw [List.getElem?_eq_getElem (by omega), List.getElem_ofFn] at hj
      obtain ⟨cs', h1, h2, _⟩ := hf ⟨j, hj'⟩
      obtain ⟨h3, h4⟩ := cells_cell h1
      have hp : f ⟨j, hj'⟩ = p := Option.some.inj hj
      rw [hp] at h2
      refine ⟨cs', h3, h2, fun i u hu => ?_⟩
      rw [← Addr.add_add]
      exact h4 i u hu
    · intro z hz
      obtain ⟨i, rfl⟩ := List.mem_ofFn.1 hz
      obtain ⟨_, _, _, h3⟩ := hf i
      exact h3
section
variable {H : Type} {enc : TypeId × Value → H} {P : Program} {w : World} {base : Nat} {spare : Nat → Bool} {held : Bool}
theorem opn_int {k : IntKind} {e : TypeId} (h : P.underlying e = some (.int k)) : ∀ (n : Nat) (cs : List Value) (y : DataW H × List MemPlace), DataW.trod enc P w base spare held n e cs = some y → ∃ z : Int, (Kd.int k).K w z cs ∧ (Lit.int k z).wf = true := by
  intro n cs y hy
  obtain ⟨z, h1, _, h3⟩ := DataW.trod_int h hy
  exact ⟨z, h1, h3⟩
theorem opn_string {e : TypeId} (h : P.underlying e = some .string) : ∀ (n : Nat) (cs : List Value) (y : DataW H × List MemPlace), DataW.trod enc P w base spare held n e cs = some y → ∃ z : ByteArray, Kd.string.K w z cs ∧ z.size ≤ maxLen := by
  intro n cs y hy
  obtain ⟨z, h1, _, h3⟩ := DataW.trod_string h hy
  exact ⟨z, h1, h3⟩
theorem opn_bool {e : TypeId} (h : P.underlying e = some .bool) : ∀ (n : Nat) (cs : List Value) (y : DataW H × List MemPlace), DataW.trod enc P w base spare held n e cs = some y → ∃ z : Bool, Kd.bool.K w z cs ∧ True := by
  intro n cs y hy
  obtain ⟨z, h1, _⟩ := DataW.trod_bool h hy
  exact ⟨z, h1, trivial⟩
theorem opn_slice {α : Type} (d : Kd α) (wf : α → Prop) {t e : TypeId} (ht : P.underlying t = some (.slice e)) (hc : P.cellsOf e = d.sz) (hE : ∀ (n : Nat) (cs : List Value) (y : DataW H × List MemPlace), DataW.trod enc P w base spare held n e cs = some y → ∃ z, d.K w z cs ∧ wf z) :
    ∀ (n : Nat) (cs : List Value) (y : DataW H × List MemPlace), DataW.trod enc P w base spare held n t cs = some y → ∃ z, (Kd.slice e d).K w z cs ∧ (z.length ≤ maxLen ∧ ∀ x ∈ z, wf x) := by
  intro n cs y hy
  obtain ⟨A, cap, xs, h1, h2, h3, h4, h5⟩ := slice_C d wf ht hc hE hy
  exact ⟨xs, ⟨A, cap, h1, h2, h4⟩, h3, h5⟩
theorem okWide_array {r : Reach} {b0 : Nat} {m : Nat} {e t : TypeId} {v : Value} (ht : P.underlying t = some (.array m e)) (h : Value.okWide P w r b0 t v) : ∃ cs, v = .agg cs ∧ cs.size = P.cellsOf t := by
  simp only [Value.okWide, ht] at h
  obtain ⟨cs, h1, h2, _⟩ := h
  exact ⟨cs, h1, h2⟩
theorem open_arr2 {r : Reach} {b0 : Nat} {t e : TypeId} {v : Value} {d : DataW H} {p : List MemPlace} (ht : P.underlying t = some (.array 2 e)) (hC : P.cellsOf t = 2 ∧ P.cellsOf e = 1) (hv : Value.okWide P w r b0 t v) (h : DataW.Trod enc P w base spare held t v d p) :
    ∃ (v0 v1 : Value) (y0 y1 : DataW H × List MemPlace) (n : Nat), v = .agg #[v0, v1] ∧ DataW.trod enc P w base spare held n e [v0] = some y0 ∧ DataW.trod enc P w base spare held n e [v1] = some y1 := by
  obtain ⟨cs, rfl, hsz⟩ := okWide_array ht hv
  obtain ⟨l⟩ := cs
  obtain ⟨fuel, hf⟩ := h
  obtain ⟨xs, m, _, _, hl, hx, he⟩ := DataW.trod_array ht hf
  match l, (show l.length = 2 by rw [hC.1] at hsz; simpa using hsz) with
  | [c0, c1], _ =>
    match xs, hx with
    | [y0, y1], _ =>
      have h0 := he 0 (by omega)
      have h1 := he 1 (by omega)
      rw [hC.2] at h0 h1
      exact ⟨c0, c1, y0, y1, m, rfl, by simpa [Value.cells] using h0, by simpa [Value.cells] using h1⟩
end
/-! ### structs, field by field -/
/-- Each cell row that reads at type t is of kind d. -/
def Opn {H : Type} (enc : TypeId × Value → H) (P : Program) (w : World) (base : Nat) (spare : Nat → Bool) (held : Bool) {α : Type} (t : TypeId) (d : Kd α) (wf : α → Prop) : Prop :=
  ∀ (n : Nat) (cs : List Value) (y : DataW H × List MemPlace), DataW.trod enc P w base spare held n t cs = some y → ∃ z, d.K w z cs ∧ wf z
/-- The fields from the offset off on, read together. -/
def FOpn {H : Type} (enc : TypeId × Value → H) (P : Program) (w : World) (base : Nat) (spare : Nat → Bool) (held : Bool) {α : Type} (fs : List Field) (off : Nat) (d : Kd α) (wf : α → Prop) : Prop :=
  ∀ (n : Nat) (cs : List Value), cs.length = off + d.sz → (∀ f ∈ fs, ∃ y, DataW.trod enc P w base spare held n f.type ((cs.drop f.offset).take (P.cellsOf f.type)) = some y) → ∃ z, d.K w z (cs.drop off) ∧ wf z
section
variable {H : Type} {enc : TypeId × Value → H} {P : Program} {w : World} {base : Nat} {spare : Nat → Bool} {held : Bool}
theorem fone {α : Type} {f : Field} {off : Nat} {d : Kd α} {wf : α → Prop} (ho : f.offset = off) (hc : P.cellsOf f.type = d.sz) (hE : Opn enc P w base spare held f.type d wf) : FOpn enc P w base spare held [f] off d wf := by
  intro n cs hl hf
  obtain ⟨y, hy⟩ := hf f (List.mem_singleton.2 rfl)
  rw [ho, hc, List.take_of_length_le (by rw [List.length_drop]; omega)] at hy
  exact hE n _ y hy
theorem fcons {α β : Type} {f : Field} {fs : List Field} {off : Nat} {d : Kd α} {d' : Kd β} {wf : α → Prop} {wf' : β → Prop} (ho : f.offset = off) (hc : P.cellsOf f.type = d.sz) (hE : Opn enc P w base spare held f.type d wf)
    (hr : FOpn enc P w base spare held fs (off + d.sz) d' wf') : FOpn enc P w base spare held (f :: fs) off (Kd.pair d d') (fun p => wf p.1 ∧ wf' p.2) := by
  intro n cs hl hf
  obtain ⟨y, hy⟩ := hf f (List.mem_cons_self)
  rw [ho, hc] at hy
  obtain ⟨z, hz, hw⟩ := hE n _ y hy
  obtain ⟨z', hz', hw'⟩ := hr n cs (by have h2 : (Kd.pair d d').sz = d.sz + d'.sz := rfl; omega) (fun g hg => hf g (List.mem_cons_of_mem _ hg))
  refine ⟨(z, z'), ⟨(cs.drop off).take d.sz, cs.drop (off + d.sz), ?_, hz, hz'⟩, hw, hw'⟩
  rw [← List.drop_drop, List.take_append_drop]
theorem opn_struct {α β : Type} {t : TypeId} {fs : List Field} {d : Kd α} {wf : α → Prop} (f : β → α) (g : α → β) (hfg : ∀ p, f (g p) = p) (ht : P.underlying t = some (.struct ⟨fs⟩)) (hc : P.cellsOf t = d.sz) (h : FOpn enc P w base spare held fs 0 d wf) :
    Opn enc P w base spare held t (Kd.iso d f) (fun z => wf (f z)) := by
  intro n cs y hy
  obtain ⟨xs, m, _, _, hl, hx, he⟩ := DataW.trod_struct ht hy
  have hl' : cs.length = 0 + d.sz := by omega
  obtain ⟨z, hz, hw⟩ := h m cs hl' (fun q hq => by
    obtain ⟨i, hi, rfl⟩ := List.getElem_of_mem hq
    have h1 := he i fs[i] (by simp)
    have hi' : i < xs.length := by rw [hx]; exact hi
    rw [List.getElem?_eq_getElem hi'] at h1
    exact ⟨_, h1⟩)
  rw [List.drop_zero] at hz
  exact ⟨g z, by show d.K w (f (g z)) cs; rw [hfg]; exact hz, by show wf (f (g z)); rw [hfg]; exact hw⟩
end
/-! ### with what the sizes tell -/
theorem weightsAll_mem {H : Type} {P : Program} {e : TypeId} : ∀ {l : List (DataW H)} {i : Nat} {d : DataW H}, l[i]? = some d → ∀ q ∈ d.weights P e, q ∈ DataW.weightsAll P e l
  | [], i, d, h => by simp at h
  | a :: l, 0, d, h => fun q hq => by
    rw [List.getElem?_cons_zero, Option.some.injEq] at h
    subst h
    simp only [DataW.weightsAll, List.mem_append]
    exact .inl hq
  | a :: l, i + 1, d, h => fun q hq => by
    rw [List.getElem?_cons_succ] at h
    simp only [DataW.weightsAll, List.mem_append]
    exact .inr (weightsAll_mem h q hq)
theorem slice_CW {H : Type} {enc : TypeId × Value → H} {P : Program} {w : World} {base fuel : Nat} {spare : Nat → Bool} {held : Bool} {α : Type} (B nb : Nat) (d : Kd α) (wf : α → Prop) {t e : TypeId} {cs : List Value} {x : DataW H × List MemPlace}
    (ht : P.underlying t = some (.slice e)) (hc : P.cellsOf e = d.sz) (hnb : P.bytesOf e = nb) (hE : ∀ (n : Nat) (cs : List Value) (y : DataW H × List MemPlace), DataW.trod enc P w base spare held n e cs = some y → (∀ q ∈ y.1.weights P e, q ≤ B) → ∃ z, d.K w z cs ∧ wf z)
    (h : DataW.trod enc P w base spare held fuel t cs = some x) (hs : ∀ q ∈ x.1.weights P t, q ≤ B) :
    ∃ A cap xs, cs = [.slice A xs.length cap] ∧ xs.length ≤ cap ∧ xs.length * nb ≤ B ∧ d.C w A xs.length xs ∧ ∀ z ∈ xs, wf z := by
  rcases DataW.trod_slice ht h with ⟨rfl, _⟩ | ⟨a, len, cap, elems, rest, n, _, rfl, hx, hb, hl, hm, hlen, hel, _, _⟩
  · exact ⟨none, 0, [], rfl, Nat.le_refl _, by simp, ⟨rfl, by simp, fun h => absurd h (by simp)⟩, fun z hz => by simp at hz⟩
  · have hw1 : (elems.length + rest.length) * P.bytesOf e ≤ B := hs _ (by rw [hx]; simp [DataW.weights, ht])
    have hw2 : ∀ (i : Nat) (y : DataW H × List MemPlace), elems[i]? = some y → ∀ q ∈ y.1.weights P e, q ≤ B := fun i y hy q hq => hs q (by
      rw [hx]
      simp only [DataW.weights, ht, List.mem_cons, List.mem_append]
      exact .inr (.inl (weightsAll_mem (i := i) (d := y.1) (by rw [List.getElem?_map, hy]; rfl) q hq)))
    have each : ∀ i, i < len → ∃ z cs', w.cells? base (a.add (i * d.sz)) d.sz = some cs' ∧ d.K w z cs' ∧ wf z := by
      intro i hi
      have h1 := hel i hi
      have h0 : elems[i]? = some (elems[i]'(by omega)) := List.getElem?_eq_getElem (by omega)
      rw [h0, Option.bind_eq_some_iff] at h1
      obtain ⟨cs', h2, h3⟩ := h1
      obtain ⟨z, hz, hw⟩ := hE n cs' _ h3 (hw2 i _ h0)
      rw [hc] at h2
      exact ⟨z, cs', h2, hz, hw⟩
    let f : Fin len → α := fun i => (each i.1 i.2).choose
    have hf : ∀ i : Fin len, ∃ cs', w.cells? base (a.add (i.1 * d.sz)) d.sz = some cs' ∧ d.K w (f i) cs' ∧ wf (f i) := fun i => (each i.1 i.2).choose_spec
    have hxl : (List.ofFn f).length = len := List.length_ofFn
    refine ⟨some a, cap, List.ofFn f, by rw [hxl], by omega, ?_, ?_, ?_⟩
    · rw [hxl, ← hnb, ← hlen]
      exact Nat.le_trans (Nat.mul_le_mul_right _ (Nat.le_add_right _ _)) hw1
    · refine ⟨rfl, by rw [hxl]; unfold maxLen at hm; omega, fun _ => ⟨a, rfl, fun j p hj => ?_⟩⟩
      have hj' : j < len := by have := (List.getElem?_eq_some_iff.1 hj).1; omega
      rw [List.getElem?_eq_getElem (by omega), List.getElem_ofFn] at hj
      obtain ⟨cs', h1, h2, _⟩ := hf ⟨j, hj'⟩
      obtain ⟨h3, h4⟩ := cells_cell h1
      have hp : f ⟨j, hj'⟩ = p := Option.some.inj hj
      rw [hp] at h2
      refine ⟨cs', h3, h2, fun i u hu => ?_⟩
      rw [← Addr.add_add]
      exact h4 i u hu
    · intro z hz
      obtain ⟨i, rfl⟩ := List.mem_ofFn.1 hz
      obtain ⟨_, _, _, h3⟩ := hf i
      exact h3
theorem opn_intsW {H : Type} {enc : TypeId × Value → H} {P : Program} {w : World} {base : Nat} {spare : Nat → Bool} {held : Bool} (B nb : Nat) {k : IntKind} {t e : TypeId} (ht : P.underlying t = some (.slice e)) (he : P.underlying e = some (.int k)) (hc : P.cellsOf e = 1) (hnb : P.bytesOf e = nb) :
    ∀ (n : Nat) (cs : List Value) (y : DataW H × List MemPlace), DataW.trod enc P w base spare held n t cs = some y → (∀ q ∈ y.1.weights P t, q ≤ B) → ∃ z : List Int, (Kd.slice e (Kd.int k)).K w z cs ∧ (z.length * nb ≤ B ∧ ∀ x ∈ z, (Lit.int k x).wf = true) := by
  intro n cs y hy hs
  obtain ⟨A, cap, xs, h1, h2, h3, h4, h5⟩ := slice_CW B nb (Kd.int k) (fun z => (Lit.int k z).wf = true) ht hc hnb (fun n cs y h _ => opn_int he n cs y h) hy hs
  exact ⟨xs, ⟨A, cap, h1, h2, h4⟩, h3, h5⟩
end Go.Proofs.YtoobmfofkeaibaaDoor.Opens
