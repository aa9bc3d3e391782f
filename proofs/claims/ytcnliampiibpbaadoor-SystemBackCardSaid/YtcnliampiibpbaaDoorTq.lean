/- Shorter words for the printed walks: each is a printed word together with its usual side proofs. No condition but the ones written. -/
import Derived.Test.YtcnliampiibpbaaDoorSq
namespace Go.Proofs.YtcnliampiibpbaaDoor
open Go Go.RowKit Go.Proofs.YtcnliampiibpbaaDoorW.PrintWords Go.Proofs.YtcnliampiibpbaaDoorW.PrintLast Go.Proofs.YtcnliampiibpbaaDoorW.PrintMore
section
variable {w W0 W W1 : World} {g : Nat} {o : Obj}
theorem tq_k (h : Aside0 (W0.heap[g]? = some o)) (hb : Below W.heap.size W W1) (l : Below W0.heap.size W0 W := by repeat (first | (with_reducible first | exact Below.refl _ _ | apply below_alloc | apply pw_below_drewN | apply below_drew1) | exact Below.refl _ _)) : Aside0 (W1.heap[g]? = some o) := ⟨blk_below (blk_below h.out l) hb⟩
theorem tq_s (h : Aside0 (Below w.heap.size w W0)) (hb : Below W.heap.size W W1) (l : SqStep w.heap.size W0 W := by repeat (first | (with_reducible first | exact SqStep.refl _ _ | apply SqStep.alloc | apply SqStep.drewN | apply SqStep.drew | (refine SqStep.set ?_ (by assumption))) | exact SqStep.refl _ _)) : Aside0 (Below w.heap.size w W1) := ⟨below_step (l w rfl h.out) hb⟩
theorem tq_w (h : Aside0 (Below w.heap.size w W0)) (hg : g = W.heap.size) (l : SqStep w.heap.size W0 W := by repeat (first | (with_reducible first | exact SqStep.refl _ _ | apply SqStep.alloc | apply SqStep.drewN | apply SqStep.drew | (refine SqStep.set ?_ (by assumption))) | exact SqStep.refl _ _)) : Aside0 (w.heap.size ≤ g) := ⟨hg ▸ below_size (l w rfl h.out)⟩
theorem tq_nl {g' : Nat} (h : Aside0 (W0.heap[g]? = some o)) (hg : g' = W.heap.size) (l : Below W0.heap.size W0 W := by repeat (first | (with_reducible first | exact Below.refl _ _ | apply below_alloc | apply pw_below_drewN | apply below_drew1) | exact Below.refl _ _)) : Aside0 (g ≠ g') := ⟨hg ▸ Nat.ne_of_lt (blk_lt (blk_below h.out l))⟩
theorem tq_ng {g' : Nat} (h : Aside0 (W0.heap[g]? = some o)) (hg : g' = W.heap.size) (l : Below W0.heap.size W0 W := by repeat (first | (with_reducible first | exact Below.refl _ _ | apply below_alloc | apply pw_below_drewN | apply below_drew1) | exact Below.refl _ _)) : Aside0 (g' ≠ g) := ⟨hg ▸ Nat.ne_of_gt (blk_lt (blk_below h.out l))⟩
theorem tq_r {α : Type} {d : Kd α} {e : TypeId} {base : Nat} {ok : Nat → Prop} {v : Value} {xs : List α} (h : Aside0 (d.R e W0 base ok v xs)) (hb : Below W.heap.size W W1) (l : Below W0.heap.size W0 W := by repeat (first | (with_reducible first | exact Below.refl _ _ | apply below_alloc | apply pw_below_drewN | apply below_drew1) | exact Below.refl _ _)) : Aside0 (d.R e W1 base ok v xs) := ⟨Kd.R_below (Kd.R_below h.out l) hb⟩
theorem tq_c {α : Type} {d : Kd α} {A : Option Addr} {n : Nat} {xs : List α} (h : Aside0 (d.C w A n xs)) (hb : Aside0 (Below w.heap.size w W0)) (l : Below W0.heap.size W0 W := by repeat (first | (with_reducible first | exact Below.refl _ _ | apply below_alloc | apply pw_below_drewN | apply below_drew1) | exact Below.refl _ _)) : d.C W A n xs := Kd.C_below (Kd.C_below h.out hb.out) l
theorem tq_gr {row : Option Nat} (h : Aside0 (W0.heap[g]? = some o)) (hg : W.grownBy W1 row) (hne : some g ≠ row) (l : Below W0.heap.size W0 W := by repeat (first | (with_reducible first | exact Below.refl _ _ | apply below_alloc | apply pw_below_drewN | apply below_drew1) | exact Below.refl _ _)) : Aside0 (W1.heap[g]? = some o) := ⟨blk_grown (blk_below h.out l) hg hne⟩
theorem tq_hx {a : Addr} {v : Value} (h : Aside0 (Below w.heap.size w W)) (x : w.cell? a = some v) : W.cell? a = some v := (h.out.cell (World.block_lt_of_cell? w _ x)).trans x
/-- From W0 to W by new blocks and draws. -/
def TqPeel (W0 W : World) : Prop := Below W0.heap.size W0 W
theorem TqPeel.refl (W : World) : TqPeel W W := Below.refl _ _
theorem TqPeel.alloc (h : TqPeel W0 W) (o : Obj) : TqPeel W0 (W.alloc o) := below_alloc h o
theorem TqPeel.drewN (h : TqPeel W0 W) (n : Nat) : TqPeel W0 (W.drewN n) := pw_below_drewN h n
theorem TqPeel.drew (h : TqPeel W0 W) : TqPeel W0 W.drew := below_drew1 h
theorem tq_b (h : W0.heap[g]? = some o) (l : TqPeel W0 W := by (with_reducible repeat (first | apply TqPeel.drewN | apply TqPeel.drew | apply TqPeel.alloc)); exact TqPeel.refl _) : W.heap[g]? = some o := blk_below h l
end
section
variable {w : World} {g : Nat} {t : TypeId} {a b c d : Value} {cs : Array Value}
theorem tq_q {v : Value} (h : Aside0 (w.heap[g]? = some (.cells cs t (0, 0)))) (i : Nat) (e : cs[i]? = some v := by rfl) : w.cell? ⟨g, i, none⟩ = some v := (blk_cell h.out i).trans e
theorem tq_p3 (h : w.heap[g]? = some (.cells #[a, b, c] t (0, 0))) : w.cell? ⟨g, 0, none⟩ = some a ∧ w.cell? ⟨g, 1, none⟩ = some b ∧ w.cell? ⟨g, 2, none⟩ = some c := ⟨tq_q ⟨h⟩ 0, tq_q ⟨h⟩ 1, tq_q ⟨h⟩ 2⟩
theorem tq_2 (h : Aside0 (w.heap[g]? = some (.cells #[a, b] t (0, 0)))) : w.cell? ⟨g, 0, none⟩ = some a ∧ w.cell? ⟨g, 1, none⟩ = some b ∧ w.frozen? ⟨g, 0, none⟩ = false ∧ w.frozen? ⟨g, 1, none⟩ = false := ⟨tq_q h 0, tq_q h 1, blk_frozen h.out 0, blk_frozen h.out 1⟩
theorem tq_3 (h : Aside0 (w.heap[g]? = some (.cells #[a, b, c] t (0, 0)))) : w.cell? ⟨g, 0, none⟩ = some a ∧ w.cell? ⟨g, 1, none⟩ = some b ∧ w.cell? ⟨g, 2, none⟩ = some c ∧ w.frozen? ⟨g, 0, none⟩ = false ∧ w.frozen? ⟨g, 1, none⟩ = false ∧ w.frozen? ⟨g, 2, none⟩ = false := ⟨tq_q h 0, tq_q h 1, tq_q h 2, blk_frozen h.out 0, blk_frozen h.out 1, blk_frozen h.out 2⟩
end
section
variable {α β : Type} {c : Prop} [Decidable c] {t e : Option α} {r : Option α} {s : α} {G : Prop}
theorem tq_i (k : c → t = some s → G) (h : (if c then t else none) = some s) : G := by
  by_cases i : c
  · exact k i (by rw [if_pos i] at h; exact h)
  · rw [if_neg i] at h; cases h
theorem tq_i1 (k : decide c = true → t = some s → G) (h : (if c then t else none) = some s) : G := tq_i (fun i => k (decide_eq_true i)) h
theorem tq_ie (k : c = True → decide c = true → t = some s → G) (h : (if c then t else none) = some s) : G := tq_i (fun i => k (eq_true i) (decide_eq_true i)) h
theorem tq_rr (k : c → t = r → G) (l : ¬ c → e = r → G) (h : (if c then t else e) = r) : G := by
  by_cases i : c
  · exact k i (by rw [if_pos i] at h; exact h)
  · exact l i (by rw [if_neg i] at h; exact h)
theorem tq_dd (k : decide c = true → t = r → G) (l : decide c = false → e = r → G) (h : (if c then t else e) = r) : G := tq_rr (fun i => k (decide_eq_true i)) (fun i => l (decide_eq_false i)) h
theorem tq_t (h : (if true = true then t else e) = r) : t = r := by rw [if_pos rfl] at h; exact h
theorem tq_f (h : (if false = true then t else e) = r) : e = r := by rw [if_neg (by decide)] at h; exact h
theorem tq_o {x : Option β} {f : β → Option α} (k : ∀ t, Aside0 (x = some t) → f t = some s → G) (h : x.bind f = some s) : G := by
  obtain ⟨t, a, h⟩ := Option.bind_eq_some_iff.mp h
  exact k t ⟨a⟩ h
theorem tq_y {x : β} {f : β → Option α} (k : ∀ y, Aside0 (y = x) → f y = some s → G) (h : (some x).bind f = some s) : G := k x ⟨rfl⟩ h
theorem tq_e [BEq α] [LawfulBEq α] {a b : α} (i : a = b) : (a == b) = true ∧ (a != b) = false := ⟨beq_iff_eq.mpr i, bne_eq_false_iff_eq.mpr i⟩
theorem tq_n [BEq α] [LawfulBEq α] {a b : α} (i : ¬ a = b) : (a == b) = false ∧ (a != b) = true := ⟨beq_eq_false_iff_ne.mpr i, bne_iff_ne.mpr i⟩
theorem tq_v {P Q : Prop} (q : Q) (p : P := by first | rfl | (simp [errW_none, errW_some] <;> rfl) | (simp [*, errW_none, errW_some] <;> rfl)) : P ∧ Q := ⟨p, q⟩
theorem tq_u {P Q : Prop} (q : Q) (p : P := by first | exact Kd.R_nil _ _ _ _ _ | exact Kd.N_nil _ _ _ _ _ | exact Kd.V_nil _ _ _ _ _ | exact Kd.Q_nil _ _ _ _ _ | exact Kd.S_nil _ _ _ _ _) : P ∧ Q := ⟨p, q⟩
theorem tq_z {P : Prop} (p : P := by first | rfl | (simp; done) | (simp [*]; done)) : P := p
end
end Go.Proofs.YtcnliampiibpbaaDoor
