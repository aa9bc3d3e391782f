/- 'copy(out, xs)' as a step of a walk, out a row of whole numbers that the call itself made: behind it the row reads 'cpy out xs'. No condition but the ones written. -/
import Derived.Test.YtoobmfofkeaibaaDoorWLast
import Derived.Test.YtoobmfofkeaibaaDoorWWords
import Derived.Laws.CopyOwn
namespace Go.Proofs.YtoobmfofkeaibaaDoor.CopyW
open Go Go.RowKit Go.Proofs.YtoobmfofkeaibaaDoorW.PrintWords
/-- The first numbers are those of the other list. -/
def cpy (d s : List Int) : List Int := s.take d.length ++ d.drop s.length
theorem grown_refl (w : World) (row : Option Nat) : w.grownBy w row := ⟨rfl, rfl, rfl, Nat.le_refl _, fun _ _ _ => rfl⟩
theorem grown_setRow (w : World) (g : Nat) (cs : Array Value) : w.grownBy (w.setRow g cs) (some g) := ⟨rfl, rfl, rfl, by rw [setRow_size]; exact Nat.le_refl _, fun k _ hne => setRow_other w g k cs (fun e => hne (by rw [e]))⟩
theorem wpList_copy_spliceG {P : Program} {w : World} {ops : Array Oper} {rest : List Oper} {o : Oper} {a : Act} {Q : Exit → Act → World → Prop} (hgd : o.guard = none) (d s : Operand) (dT sT : TypeId)
    (ho : o.op = .call { callee := .builtin .copy, args := #[d, s], argTypes := #[dT, sT] }) (elem : TypeId) (hu : P.underlying dT = some (.slice elem)) (hsz : (P.info? elem).map (·.size) = some 1)
    (dp sp : Option Addr) (dLen dCap sLen sCap : Nat) (hd : a.eval d = .slice dp dLen dCap) (hs : a.eval s = .slice sp sLen sCap)
    (g off : Nat) (cur : List Value) (t : TypeId) (hg : w.heap[g]? = some (.cells cur.toArray t (0, 0))) (cs : List Value) (hn : cs.length = Nat.min sLen dLen)
    (hpos : 0 < cs.length → dp = some ⟨g, off, none⟩ ∧ ∃ ad, sp = some ad ∧ ∀ j v, cs[j]? = some v → w.cell? (ad.add j) = some v)
    (hfit : off + cs.length ≤ cur.length) (h1 : ∀ v ∈ cs, v.oneCell' = true) (B : Nat) (w0 : World) (hb : Below B w0 w) (hBg : B ≤ g)
    (h : ∀ w', Hid (w'.heap[g]? = some (.cells (splice cur off cs).toArray t (0, 0))) → Below B w0 w' → w.grownBy w' (some g) → wpList P ops Q rest (a.put o.dst (goInt cs.length)) w') :
    wpList P ops Q (o :: rest) a w := by
  by_cases h0 : cs.length = 0
  · obtain rfl : cs = [] := List.eq_nil_of_length_eq_zero h0
    refine wpList_copy_nothing hgd d s dT sT ho elem hu hsz dp sp dLen dCap sLen sCap hd hs (by simpa using hn.symm) ?_
    exact h w (show _ = _ by simpa [splice] using hg) hb (grown_refl _ _)
  · obtain ⟨rfl, ad, rfl, hsrc⟩ := hpos (by omega)
    refine wpList_copy_own hgd d s dT sT ho elem hu hsz g off dLen dCap ad sLen sCap hd hs cur.toArray t hg cs hn hsrc (by simpa using hfit) h1 ?_
    exact h _ (show _ = _ by simpa [splice] using setRow_heap w g _ _ t _ hg) (below_setRow hb hBg _) (grown_setRow _ _ _)
theorem copy_own {P : Program} {w0 W : World} (base : Nat) {ops : Array Oper} {rest : List Oper} {o : Oper} {a : Act} {Q : Exit → Act → World → Prop} {k : IntKind} (hgd : o.guard = none) (s x : Operand) (t e : TypeId)
    (ho : o.op = .call { callee := .builtin .copy, args := #[s, x], argTypes := #[t, t] }) (ht : P.underlying t = some (.slice e)) (hsz : (P.info? e).map (·.size) = some 1)
    (v : Value) (xs ys : List Int) (A : Option Addr) (m c : Nat) (ok : Nat → Prop) (hs : a.eval s = v) (hx : a.eval x = .slice A m c)
    (HO : (Kd.int k).R e W base ok v xs) (HR : (Kd.int k).C W A m ys) (HB : Below base w0 W)
    (h : ∀ w1, (Kd.int k).R e w1 base ok v (cpy xs ys) → Below base w0 w1 → W.grownBy w1 v.ownBlock → (v.ownBlock = v.ownBlock ∨ ∃ b, v.ownBlock = some b ∧ W.heap.size ≤ b) → wpList P ops Q rest (a.put o.dst (goInt (Nat.min m xs.length))) w1) :
    wpList P ops Q (o :: rest) a W := by
  have hm : ys.length = m := HR.1
  have hok := HO.1
  have hown := Kd.own_of_R HO
  have hlen : (encs (Value.int k) xs).length = xs.length := by unfold encs; rw [List.length_map]
  rcases hown.2 with ⟨rfl, hn⟩ | ⟨g, cap, cur, rfl, hg, hh, hnc, hcm, hcs, hcur⟩
  · obtain rfl : xs = [] := List.eq_nil_of_length_eq_zero hn
    refine wpList_copy_nothing hgd s x t t ho e ht hsz none A 0 0 m c hs hx (Nat.min_zero _) ?_
    have := h W (by simpa [cpy] using HO) HB (grown_refl _ _) (.inl rfl)
    simpa [Nat.min_def] using this
  · have hcs' : ((ys.take xs.length).map (Value.int k)).length = Nat.min m xs.length := by
      rw [List.length_map, List.length_take, hm, Nat.min_comm]
    have hcl0 : cur.toList.length = cap := by simpa using hcs
    refine wpList_copy_spliceG hgd s x t t ho e ht hsz (some ⟨g, 0, none⟩) A xs.length cap m c hs hx g 0 cur.toList e (by simpa using hh) ((ys.take xs.length).map (Value.int k)) hcs' ?_ ?_ ?_ base w0 HB hg ?_
    · intro h0
      refine ⟨rfl, ?_⟩
      rw [hcs'] at h0
      obtain ⟨ad, rfl, hc⟩ := HR.2.2 (by have := Nat.min_le_left m xs.length; show 0 < m; exact Nat.lt_of_lt_of_le h0 this)
      refine ⟨ad, rfl, fun j u hj => ?_⟩
      rw [List.getElem?_map, List.getElem?_take] at hj
      split at hj
      · obtain ⟨p, hp, rfl⟩ := Option.map_eq_some_iff.1 hj
        obtain ⟨cc, _, hcc, hce⟩ := hc j p hp
        have hcc' : cc = [Value.int k p] := hcc
        subst hcc'
        have := hce 0 (Value.int k p) rfl
        have e1 : (Kd.int k).sz = 1 := rfl
        rw [e1, Nat.mul_one, Nat.add_zero] at this
        exact this
      · simp at hj
    · rw [hcs', hcl0, Nat.zero_add]
      exact Nat.le_trans (Nat.min_le_right _ _) hnc
    · intro u hu
      obtain ⟨p, _, rfl⟩ := List.mem_map.1 hu
      rfl
    · intro w1 HG hb hgr
      have HG' : w1.heap[g]? = some (.cells (splice cur.toList 0 ((ys.take xs.length).map (Value.int k))).toArray e (0, 0)) := HG
      rw [hcs']
      have hcl : (cpy xs ys).length = xs.length := by
        unfold cpy; rw [List.length_append, List.length_take, List.length_drop]; omega
      refine h w1 (Kd.R_of_own ⟨?_, .inr ⟨g, cap, _, ?_, hg, HG', ?_, hcm, ?_, ?_⟩⟩ hok) hb hgr (.inl rfl)
      · unfold encs; rw [List.length_map, Nat.mul_one]
      · rw [hcl]
      · rw [hcl]; exact hnc
      · rw [List.size_toArray, length_splice]
        · rw [hcl0, Nat.mul_one]
        · rw [hcs', hcl0, Nat.zero_add]; exact Nat.le_trans (Nat.min_le_right _ _) hnc
      · rw [hcl, Nat.mul_one]
        have hc2 : cur.toList.take xs.length = xs.map (Value.int k) := by rw [Nat.mul_one] at hcur; exact hcur
        unfold splice encs cpy
        simp only [List.take_zero, List.nil_append, Nat.zero_add, List.map_append]
        rw [List.take_append, List.length_map, List.length_take, List.take_of_length_le (by rw [List.length_map, List.length_take]; omega)]
        congr 1
        by_cases hy : ys.length ≤ xs.length
        · rw [Nat.min_eq_right hy, List.take_drop, show ys.length + (xs.length - ys.length) = xs.length by omega, hc2, List.map_drop]
        · rw [Nat.min_eq_left (by omega), Nat.sub_self, List.take_zero, List.drop_eq_nil_of_le (by omega)]; rfl
end Go.Proofs.YtoobmfofkeaibaaDoor.CopyW
namespace Go.Proofs.YtoobmfofkeaibaaDoorW.PrintWords
open Go Go.RowKit
section
variable {P : Program} {ops : Array Oper} {rest : List Oper} {o : Oper} {a : Act} {Q : Exit → Act → World → Prop} {W : World}
/-- The operation is a call of a function that a place holds. -/
theorem gate_calleeV (_f : FuncId) {u : Tmp} {as : Array Operand} {ts : Array TypeId} (_ho : o.op = .call { callee := .value (.tmp u), args := as, argTypes := ts }) (h : wpList P ops Q (o :: rest) a W) : wpList P ops Q (o :: rest) a W := h
/-- A call of a function that a place holds, nothing bound to it, in a plain region. -/
theorem goesV_ {oi : Oper} {w : World} (N : Option Tmp) (hd : oi.dst = N) (hg : oi.guard = none) {f : FuncId} {fn : Func} {u : Tmp} {as : Array Operand} {ts : Array TypeId} (hf : P.funcs[f]? = some fn) (hname : (fn.name == "runtime.NumGoroutine") = false) (hb : fn.body.isSome = true) (args : Array Value)
    (hop : oi.op = .call { callee := .value (.tmp u), args := as, argTypes := ts }) (hargs : as.map a.eval = args)
    (h : Calls P f args w fun e w' => ∃ v, e = .returned v ∧ wpList P ops Q rest (a.put N v) w') (hu : a.eval (.tmp u) = a.eval (.func f) := by rfl) : wpList P ops Q (oi :: rest) a w := by
  refine wpList_plain hg fun K hK => ?_
  have he := PrintLast.enters_ hf hname hb args w
  have hrun : (execOp a.eval oi).run P w = .ok (.enter f args) w := by
    unfold execOp
    have hu' : a.eval (.tmp u) = .func (.func f) #[] #[] := hu
    simp [hop, resolve, Deferred.ofValue, invoke, hu', hargs, he]
  unfold Oper.wp
  rw [hrun, Oper.upon_enter]
  refine h.mono fun e w'' hh => ?_
  obtain ⟨v, rfl, hk⟩ := hh
  subst hd
  exact hK _ _ hk
end
end Go.Proofs.YtoobmfofkeaibaaDoorW.PrintWords
namespace Go.Proofs.YtoobmfofkeaibaaDoorW.PrintWords.Kd
open Go Go.RowKit Go.Proofs.YtoobmfofkeaibaaDoorW.PrintWords
/-- make([]T, 0, n): a row without elements, in a block of its own. -/
theorem R_make0 {α : Type} {P : Program} {ops : Array Oper} {rest : List Oper} {o : Oper} {a : Act} {Q : Exit → Act → World → Prop} (d : Kd α) {w0 W : World} (base e : Nat) (hgd : o.guard = none) {N : Tmp} (_hd : o.dst = some N) (t : TypeId) (x y : Operand) (ho : o.op = .makeSlice t x y) (n : Int) (hx : a.eval x = .int .i64 0) (hy : a.eval y = .int .i64 n)
    (ht : P.underlying t = some (.slice e)) (z : Value) (bytes : Nat) (hinfo : (P.info? e).map (fun i => (i.zero, i.size, i.bytes)) = some (some z, d.sz, bytes)) (hz : z.cells.size = d.sz) (hs0 : 0 < d.sz) (hb0 : 0 < bytes)
    (z0 : α) {ok okp : Nat → Prop} (hzero : d.M W base okp z0 z.cells.toList) (hok : ∀ k, okp k → ok k) (hfresh : ok W.heap.size) (h0 : 0 ≤ n) (hl : n.toNat * bytes ≤ 281474976710656) (HB : Below base w0 W) (hbase : base ≤ W.heap.size)
    (h : ∀ v1 w1, d.R e w1 base ok v1 (List.replicate 0 z0) → Below base w0 w1 → W.grownBy w1 none → (∃ b, v1.ownBlock = some b ∧ W.heap.size ≤ b) → wpList P ops Q rest (a.put o.dst v1) w1) : wpList P ops Q (o :: rest) a W := by
  obtain ⟨m, rfl⟩ := Int.eq_ofNat_of_zero_le h0
  simp only [Int.toNat_natCast] at hl
  obtain ⟨i0, hi, hzz⟩ := Option.map_eq_some_iff.1 hinfo
  simp only [Prod.mk.injEq] at hzz
  obtain ⟨hz0, hz1, hz2⟩ := hzz
  have hm : m ≤ 281474976710656 := Nat.le_trans (Nat.le_mul_of_pos_right _ hb0) hl
  have hr := run_make (P := P) W t e i0 z ht hi hz0 .i64 .i64 0 (m : Int) (Int.le_refl _) (by omega)
    (by
      have h3 : ((i0.bytes * m : Nat) : Int) ≤ 281474976710656 := by rw [hz2, Nat.mul_comm]; omega
      rwa [Int.natCast_mul] at h3) (by omega)
  simp only [Int.toNat_natCast] at hr
  rw [hz1] at hr
  have hrep := reps_made (R := d.M W base okp) hz hs0 hzero m
  have full : d.R e (W.alloc (.cells (madeCells z.cells (m * d.sz)).toList.toArray e)) base ok (.slice (some ⟨W.heap.size, 0, none⟩) (List.replicate m z0).length (List.replicate m z0).length) (List.replicate m z0) := by
    refine ⟨fun k hk => ?_, (madeCells z.cells (m * d.sz)).toList, ?_, ?_⟩
    · have : W.heap.size = k := by simpa [Value.ownBlock] using hk
      subst this
      exact hfresh
    · have h2 := World.ownsRow_lit (base := base) (e := e) (size := d.sz) W (madeCells z.cells (m * d.sz)).toList.toArray (List.replicate m z0).length hbase (by simp [maxLen]; omega) (by simpa using hrep.1)
      simpa using h2
    · refine hrep.imp_ (fun p c hp => d.M_mono (fun k hk => ⟨hok k hk.1, fun he => ?_⟩) (M_below (d.M_bound hp) (below_alloc (Below.refl _ _) _)))
      have h3 : k = W.heap.size := by simpa [Value.ownBlock] using he
      have := hk.2.2.1
      omega
  have part := R_take full (Nat.zero_le _)
  simp only [List.length_replicate, List.take_zero] at part
  have hrun : (execOp a.eval o).run P W = .ok (.value (.slice (some ⟨W.heap.size, 0, none⟩) 0 m)) (W.alloc (.cells (madeCells z.cells (m * d.sz)).toList.toArray e)) := by
    simp [execOp, ho, hx, hy, hr]
  exact event_run hgd hrun (h _ _ part (HB.alloc hbase _) (World.grownBy_alloc W _ none) ⟨W.heap.size, by simp [Value.ownBlock], Nat.le_refl _⟩)
end Go.Proofs.YtoobmfofkeaibaaDoorW.PrintWords.Kd
