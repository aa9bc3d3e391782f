/- From what a row says of a slice that came in to what the printed contracts ask: its elements read one by one. No condition but the ones written. -/
import Derived.Test.YtcnliampiibpbaaDoorV0
import Derived.ChangeArms
import Derived.SliceStrings
import Derived.OpenShut
import Derived.WideShapes
namespace Go.Proofs.YtcnliampiibpbaaDoor.Opens
open Go Go.RowKit Go.ChangeShapes Go.WideShapes Go.Proofs.YtcnliampiibpbaaDoorW.PrintWords
theorem cells_cell {w : World} {base n : Nat} {a : Addr} {cs : List Value} (h : w.cells? base a n = some cs) : cs.length = n ∧ ∀ i u, cs[i]? = some u → w.cell? (a.add i) = some u := by
  unfold World.cells? at h
  split at h
  · have hl := mapM_some_length h
    rw [List.length_range] at hl
    refine ⟨hl, fun i u hu => ?_⟩
    have hi : i < n := by have := (List.getElem?_eq_some_iff.1 hu).1; omega
    have := mapM_some_get h i i (by simp [hi])
    rw [this]; exact hu
  · simp at h
theorem slice_C {H : Type} {enc : TypeId × Value → H} {P : Program} {w : World} {base fuel : Nat} {spare : Nat → Bool} {held : Bool} {α : Type} (d : Kd α) (wf : α → Prop) {t e : TypeId} {cs : List Value} {x : DataW H × List MemPlace}
    (ht : P.underlying t = some (.slice e)) (hc : P.cellsOf e = d.sz) (hE : ∀ (n : Nat) cs y, DataW.trod enc P w base spare held n e cs = some y → ∃ z, d.K w z cs ∧ wf z)
    (h : DataW.trod enc P w base spare held fuel t cs = some x) :
    ∃ A cap xs, cs = [.slice A xs.length cap] ∧ xs.length ≤ cap ∧ xs.length ≤ maxLen ∧ d.C w A xs.length xs ∧ ∀ z ∈ xs, wf z := by
  rcases DataW.trod_slice ht h with ⟨rfl, _⟩ | ⟨a, len, cap, elems, rest, n, _, rfl, _, hb, hl, hm, hlen, hel, _, _⟩
  · exact ⟨none, 0, [], rfl, Nat.le_refl _, Nat.zero_le _, ⟨rfl, by simp, fun h => absurd h (by simp)⟩, fun z hz => by simp at hz⟩
  · have each : ∀ i, i < len → ∃ z cs', w.cells? base (a.add (i * d.sz)) d.sz = some cs' ∧ d.K w z cs' ∧ wf z := by
      intro i hi
      have h1 := hel i hi
      rw [List.getElem?_eq_getElem (by omega : i < elems.length), Option.bind_eq_some_iff] at h1
      obtain ⟨cs', h2, h3⟩ := h1
      obtain ⟨z, hz, hw⟩ := hE n cs' _ h3
      rw [hc] at h2
      exact ⟨z, cs', h2, hz, hw⟩
    let f : Fin len → α := fun i => (each i.1 i.2).choose
    have hf : ∀ i : Fin len, ∃ cs', w.cells? base (a.add (i.1 * d.sz)) d.sz = some cs' ∧ d.K w (f i) cs' ∧ wf (f i) := fun i => (each i.1 i.2).choose_spec
    have hxl : (List.ofFn f).length = len := List.length_ofFn
    refine ⟨some a, cap, List.ofFn f, by rw [hxl], by omega, by omega, ?_, ?_⟩
    · refine ⟨rfl, by rw [hxl]; unfold maxLen at hm; omega, fun _ => ⟨a, rfl, fun j p hj => ?_⟩⟩
      have hj' : j < len := by have := (List.getElem?_eq_some_iff.1 hj).1; omega
      rw [List.getElem?_eq_getElem (by omega), List.getElem_ofFn] at hj
      obtain ⟨cs', h1, h2, _⟩ := hf ⟨j, hj'⟩
      obtain ⟨h3, h4⟩ := cells_cell h1
      have hp : f ⟨j, hj'⟩ = p := Option.some.inj hj
      rw [hp] at h2
      refine ⟨cs', h3, h2, fun i u hu => ?_⟩
      rw [← Addr.add_add]
      exact h4 i u hu
    · intro z hz
      obtain ⟨i, rfl⟩ := List.mem_ofFn.1 hz
      obtain ⟨_, _, _, h3⟩ := hf i
      exact h3
section
variable {H : Type} {enc : TypeId × Value → H} {P : Program} {w : World} {base : Nat} {spare : Nat → Bool} {held : Bool}
theorem opn_int {k : IntKind} {e : TypeId} (h : P.underlying e = some (.int k)) : ∀ (n : Nat) (cs : List Value) (y : DataW H × List MemPlace), DataW.trod enc P w base spare held n e cs = some y → ∃ z : Int, (Kd.int k).K w z cs ∧ (Lit.int k z).wf = true := by
  intro n cs y hy
  obtain ⟨z, h1, _, h3⟩ := DataW.trod_int h hy
  exact ⟨z, h1, h3⟩
theorem opn_string {e : TypeId} (h : P.underlying e = some .string) : ∀ (n : Nat) (cs : List Value) (y : DataW H × List MemPlace), DataW.trod enc P w base spare held n e cs = some y → ∃ z : ByteArray, Kd.string.K w z cs ∧ z.size ≤ maxLen := by
  intro n cs y hy
  obtain ⟨z, h1, _, h3⟩ := DataW.trod_string h hy
  exact ⟨z, h1, h3⟩
end
/-! ### structs, field by field -/
/-- Each cell row that reads at type t is of kind d. -/
def Opn {H : Type} (enc : TypeId × Value → H) (P : Program) (w : World) (base : Nat) (spare : Nat → Bool) (held : Bool) {α : Type} (t : TypeId) (d : Kd α) (wf : α → Prop) : Prop :=
  ∀ (n : Nat) (cs : List Value) (y : DataW H × List MemPlace), DataW.trod enc P w base spare held n t cs = some y → ∃ z, d.K w z cs ∧ wf z
/-- The fields from the offset off on, read together. -/
def FOpn {H : Type} (enc : TypeId × Value → H) (P : Program) (w : World) (base : Nat) (spare : Nat → Bool) (held : Bool) {α : Type} (fs : List Field) (off : Nat) (d : Kd α) (wf : α → Prop) : Prop :=
  ∀ (n : Nat) (cs : List Value), cs.length = off + d.sz → (∀ f ∈ fs, ∃ y, DataW.trod enc P w base spare held n f.type ((cs.drop f.offset).take (P.cellsOf f.type)) = some y) → ∃ z, d.K w z (cs.drop off) ∧ wf z
section
variable {H : Type} {enc : TypeId × Value → H} {P : Program} {w : World} {base : Nat} {spare : Nat → Bool} {held : Bool}
theorem fone {α : Type} {f : Field} {off : Nat} {d : Kd α} {wf : α → Prop} (ho : f.offset = off) (hc : P.cellsOf f.type = d.sz) (hE : Opn enc P w base spare held f.type d wf) : FOpn enc P w base spare held [f] off d wf := by
  intro n cs hl hf
  obtain ⟨y, hy⟩ := hf f (List.mem_singleton.2 rfl)
  rw [ho, hc, List.take_of_length_le (by rw [List.length_drop]; omega)] at hy
  exact hE n _ y hy
theorem fcons {α β : Type} {f : Field} {fs : List Field} {off : Nat} {d : Kd α} {d' : Kd β} {wf : α → Prop} {wf' : β → Prop} (ho : f.offset = off) (hc : P.cellsOf f.type = d.sz) (hE : Opn enc P w base spare held f.type d wf)
    (hr : FOpn enc P w base spare held fs (off + d.sz) d' wf') : FOpn enc P w base spare held (f :: fs) off (Kd.pair d d') (fun p => wf p.1 ∧ wf' p.2) := by
  intro n cs hl hf
  obtain ⟨y, hy⟩ := hf f (List.mem_cons_self)
  rw [ho, hc] at hy
  obtain ⟨z, hz, hw⟩ := hE n _ y hy
  obtain ⟨z', hz', hw'⟩ := hr n cs (by have h2 : (Kd.pair d d').sz = d.sz + d'.sz := rfl; omega) (fun g hg => hf g (List.mem_cons_of_mem _ hg))
  refine ⟨(z, z'), ⟨(cs.drop off).take d.sz, cs.drop (off + d.sz), ?_, hz, hz'⟩, hw, hw'⟩
  rw [← List.drop_drop, List.take_append_drop]
theorem opn_struct {α β : Type} {t : TypeId} {fs : List Field} {d : Kd α} {wf : α → Prop} (f : β → α) (g : α → β) (hfg : ∀ p, f (g p) = p) (ht : P.underlying t = some (.struct ⟨fs⟩)) (hc : P.cellsOf t = d.sz) (h : FOpn enc P w base spare held fs 0 d wf) :
    Opn enc P w base spare held t (Kd.iso d f) (fun z => wf (f z)) := by
  intro n cs y hy
  obtain ⟨xs, m, _, _, hl, hx, he⟩ := DataW.trod_struct ht hy
  have hl' : cs.length = 0 + d.sz := by omega
  obtain ⟨z, hz, hw⟩ := h m cs hl' (fun q hq => by
    obtain ⟨i, hi, rfl⟩ := List.getElem_of_mem hq
    have h1 := he i fs[i] (by simp)
    have hi' : i < xs.length := by rw [hx]; exact hi
    rw [List.getElem?_eq_getElem hi'] at h1
    exact ⟨_, h1⟩)
  rw [List.drop_zero] at hz
  exact ⟨g z, by show d.K w (f (g z)) cs; rw [hfg]; exact hz, by show wf (f (g z)); rw [hfg]; exact hw⟩
end
end Go.Proofs.YtcnliampiibpbaaDoor.Opens
