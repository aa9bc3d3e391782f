/- 'copy(out, xs)' as a step of a walk, out a row of whole numbers that the call itself made: behind it the row reads 'cpy out xs'. No condition but the ones written. -/
import Derived.Test.YtcnliampiibpbaaV0
import Derived.Laws.CopyOwn
namespace Go.Proofs.Ytcnliampiibpbaa.CopyW
open Go Go.RowKit Go.Proofs.YtcnliampiibpbaaW.PrintWords
/-- The first numbers are those of the other list. -/
def cpy (d s : List Int) : List Int := s.take d.length ++ d.drop s.length
theorem copy_own {P : Program} {w0 W : World} (base : Nat) {ops : Array Oper} {rest : List Oper} {o : Oper} {a : Act} {Q : Exit → Act → World → Prop} {k : IntKind} (hgd : o.guard = none) (s x : Operand) (t e : TypeId)
    (ho : o.op = .call { callee := .builtin .copy, args := #[s, x], argTypes := #[t, t] }) (ht : P.underlying t = some (.slice e)) (hsz : (P.info? e).map (·.size) = some 1)
    (v : Value) (xs ys : List Int) (A : Option Addr) (m c : Nat) (ok : Nat → Prop) (hs : a.eval s = v) (hx : a.eval x = .slice A m c)
    (HO : (Kd.int k).R e W base ok v xs) (HR : (Kd.int k).C W A m ys) (HB : Below base w0 W)
    (h : ∀ w1, (Kd.int k).R e w1 base ok v (cpy xs ys) → Below base w0 w1 → wpList P ops Q rest (a.put o.dst (goInt (Nat.min m xs.length))) w1) :
    wpList P ops Q (o :: rest) a W := by
  have hm : ys.length = m := HR.1
  have hok := HO.1
  have hown := Kd.own_of_R HO
  have hlen : (encs (Value.int k) xs).length = xs.length := by unfold encs; rw [List.length_map]
  rcases hown.2 with ⟨rfl, hn⟩ | ⟨g, cap, cur, rfl, hg, hh, hnc, hcm, hcs, hcur⟩
  · obtain rfl : xs = [] := List.eq_nil_of_length_eq_zero hn
    refine wpList_copy_nothing hgd s x t t ho e ht hsz none A 0 0 m c hs hx (Nat.min_zero _) ?_
    have := h W (by simpa [cpy] using HO) HB
    simpa [Nat.min_def] using this
  · have hcs' : ((ys.take xs.length).map (Value.int k)).length = Nat.min m xs.length := by
      rw [List.length_map, List.length_take, hm, Nat.min_comm]
    have hcl0 : cur.toList.length = cap := by simpa using hcs
    refine wpList_copy_splice hgd s x t t ho e ht hsz (some ⟨g, 0, none⟩) A xs.length cap m c hs hx g 0 cur.toList e (by simpa using hh) ((ys.take xs.length).map (Value.int k)) hcs' ?_ ?_ ?_ base w0 HB hg ?_
    · intro h0
      refine ⟨rfl, ?_⟩
      rw [hcs'] at h0
      obtain ⟨ad, rfl, hc⟩ := HR.2.2 (by have := Nat.min_le_left m xs.length; show 0 < m; exact Nat.lt_of_lt_of_le h0 this)
      refine ⟨ad, rfl, fun j u hj => ?_⟩
      rw [List.getElem?_map, List.getElem?_take] at hj
      split at hj
      · obtain ⟨p, hp, rfl⟩ := Option.map_eq_some_iff.1 hj
        obtain ⟨cc, _, hcc, hce⟩ := hc j p hp
        have hcc' : cc = [Value.int k p] := hcc
        subst hcc'
        have := hce 0 (Value.int k p) rfl
        have e1 : (Kd.int k).sz = 1 := rfl
        rw [e1, Nat.mul_one, Nat.add_zero] at this
        exact this
      · simp at hj
    · rw [hcs', hcl0, Nat.zero_add]
      exact Nat.le_trans (Nat.min_le_right _ _) hnc
    · intro u hu
      obtain ⟨p, _, rfl⟩ := List.mem_map.1 hu
      rfl
    · intro w1 HG hb
      have HG' : w1.heap[g]? = some (.cells (splice cur.toList 0 ((ys.take xs.length).map (Value.int k))).toArray e (0, 0)) := HG
      rw [hcs']
      have hcl : (cpy xs ys).length = xs.length := by
        unfold cpy; rw [List.length_append, List.length_take, List.length_drop]; omega
      refine h w1 (Kd.R_of_own ⟨?_, .inr ⟨g, cap, _, ?_, hg, HG', ?_, hcm, ?_, ?_⟩⟩ hok) hb
      · unfold encs; rw [List.length_map, Nat.mul_one]
      · rw [hcl]
      · rw [hcl]; exact hnc
      · rw [List.size_toArray, length_splice]
        · rw [hcl0, Nat.mul_one]
        · rw [hcs', hcl0, Nat.zero_add]; exact Nat.le_trans (Nat.min_le_right _ _) hnc
      · rw [hcl, Nat.mul_one]
        have hc2 : cur.toList.take xs.length = xs.map (Value.int k) := by rw [Nat.mul_one] at hcur; exact hcur
        unfold splice encs cpy
        simp only [List.take_zero, List.nil_append, Nat.zero_add, List.map_append]
        rw [List.take_append, List.length_map, List.length_take, List.take_of_length_le (by rw [List.length_map, List.length_take]; omega)]
        congr 1
        by_cases hy : ys.length ≤ xs.length
        · rw [Nat.min_eq_right hy, List.take_drop, show ys.length + (xs.length - ys.length) = xs.length by omega, hc2, List.map_drop]
        · rw [Nat.min_eq_left (by omega), Nat.sub_self, List.take_zero, List.drop_eq_nil_of_le (by omega)]; rfl
end Go.Proofs.Ytcnliampiibpbaa.CopyW
namespace Go.Proofs.YtcnliampiibpbaaW.PrintWords
open Go Go.RowKit
section
variable {P : Program} {ops : Array Oper} {rest : List Oper} {o : Oper} {a : Act} {Q : Exit → Act → World → Prop} {W : World}
/-- The operation is a call of a function that a place holds. -/
theorem gate_calleeV (_f : FuncId) {u : Tmp} {as : Array Operand} {ts : Array TypeId} (_ho : o.op = .call { callee := .value (.tmp u), args := as, argTypes := ts }) (h : wpList P ops Q (o :: rest) a W) : wpList P ops Q (o :: rest) a W := h
/-- A call of a function that a place holds, nothing bound to it, in a plain region. -/
theorem goesV_ {oi : Oper} {w : World} (N : Option Tmp) (hd : oi.dst = N) (hg : oi.guard = none) {f : FuncId} {fn : Func} {u : Tmp} {as : Array Operand} {ts : Array TypeId} (hf : P.funcs[f]? = some fn) (hname : (fn.name == "runtime.NumGoroutine") = false) (hb : fn.body.isSome = true) (args : Array Value)
    (hop : oi.op = .call { callee := .value (.tmp u), args := as, argTypes := ts }) (hargs : as.map a.eval = args)
    (h : Calls P f args w fun e w' => ∃ v, e = .returned v ∧ wpList P ops Q rest (a.put N v) w') (hu : a.eval (.tmp u) = a.eval (.func f) := by rfl) : wpList P ops Q (oi :: rest) a w := by
  refine wpList_plain hg fun K hK => ?_
  have he := PrintLast.enters_ hf hname hb args w
  have hrun : (execOp a.eval oi).run P w = .ok (.enter f args) w := by
    unfold execOp
    have hu' : a.eval (.tmp u) = .func (.func f) #[] #[] := hu
    simp [hop, resolve, Deferred.ofValue, invoke, hu', hargs, he]
  unfold Oper.wp
  rw [hrun, Oper.upon_enter]
  refine h.mono fun e w'' hh => ?_
  obtain ⟨v, rfl, hk⟩ := hh
  subst hd
  exact hK _ _ hk
end
end Go.Proofs.YtcnliampiibpbaaW.PrintWords
/-! ### Short words for steps that the printed texts take often -/
namespace Go.Proofs.Ytcnliampiibpbaa
open Go Go.RowKit Go.Proofs.YtcnliampiibpbaaW.PrintWords
theorem sq_far {w : World} {a : Addr} {v : Value} {g : Nat} (h : w.cell? a = some v) (hg : w.heap.size ≤ g) : a.block ≠ g := Nat.ne_of_lt (Nat.lt_of_lt_of_le (World.block_lt_of_cell? _ _ h) hg)
theorem sq_bl {w W0 W : World} (h : Below w.heap.size w W0) (l : Below W0.heap.size W0 W := by first | (with_reducible exact Below.refl _ _) | (repeat (first | (with_reducible first | exact Below.refl _ _ | apply below_alloc | apply pw_below_drewN | apply below_drew1) | exact Below.refl _ _))) : Below w.heap.size w W := below_step h l
/-- From W0 to W by new blocks, draws, and stores into blocks from n on. -/
def SqStep (n : Nat) (W0 W : World) : Prop := ∀ w : World, n = w.heap.size → Below w.heap.size w W0 → Below w.heap.size w W
theorem SqStep.refl (n : Nat) (W : World) : SqStep n W W := fun _ _ h => h
theorem SqStep.alloc {n : Nat} {W0 W : World} (h : SqStep n W0 W) (o : Obj) : SqStep n W0 (W.alloc o) := fun w e k => below_alloc (h w e k) o
theorem SqStep.drewN {n : Nat} {W0 W : World} (h : SqStep n W0 W) (m : Nat) : SqStep n W0 (W.drewN m) := fun w e k => pw_below_drewN (h w e k) m
theorem SqStep.drew {n : Nat} {W0 W : World} (h : SqStep n W0 W) : SqStep n W0 W.drew := fun w e k => below_drew1 (h w e k)
theorem SqStep.set {n : Nat} {W0 W : World} {g j : Nat} {v : Value} (h : SqStep n W0 W) (hg : Aside0 (n ≤ g)) : SqStep n W0 (W.setCell ⟨g, j, none⟩ v) := fun w e k => below_set (h w e k) (e ▸ hg.out)
theorem sq_bs {w W0 W : World} (h : Below w.heap.size w W0) (l : SqStep w.heap.size W0 W := by repeat (first | (with_reducible first | exact SqStep.refl _ _ | apply SqStep.alloc | apply SqStep.drewN | apply SqStep.drew | (refine SqStep.set ?_ (by assumption))) | exact SqStep.refl _ _)) : Below w.heap.size w W := l w rfl h
theorem sq_bk {g : Nat} {o : Obj} {W0 W : World} (h : W0.heap[g]? = some o) (l : Below W0.heap.size W0 W := by repeat (first | (with_reducible first | exact Below.refl _ _ | apply below_alloc | apply pw_below_drewN | apply below_drew1) | exact Below.refl _ _)) : W.heap[g]? = some o := blk_below h l
theorem sq_kr {α : Type} {d : Kd α} {e : TypeId} {base : Nat} {ok : Nat → Prop} {v : Value} {xs : List α} {W0 W : World} (h : d.R e W0 base ok v xs) (l : Below W0.heap.size W0 W := by repeat (first | (with_reducible first | exact Below.refl _ _ | apply below_alloc | apply pw_below_drewN | apply below_drew1) | exact Below.refl _ _)) : d.R e W base ok v xs := Kd.R_below h l
theorem sq_kc {α : Type} {d : Kd α} {A : Option Addr} {n : Nat} {xs : List α} {W0 W : World} (h : d.C W0 A n xs) (l : Below W0.heap.size W0 W := by repeat (first | (with_reducible first | exact Below.refl _ _ | apply below_alloc | apply pw_below_drewN | apply below_drew1) | exact Below.refl _ _)) : d.C W A n xs := Kd.C_below h l
end Go.Proofs.Ytcnliampiibpbaa
