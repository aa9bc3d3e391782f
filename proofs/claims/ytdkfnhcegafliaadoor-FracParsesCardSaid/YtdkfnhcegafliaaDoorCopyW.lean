/- 'copy(out, xs)' as a step of a walk, out a row of whole numbers that the call itself made: behind it the row reads 'cpy out xs'. No condition but the ones written. -/
import Derived.Test.YtdkfnhcegafliaaDoorWWords
import Derived.Laws.CopyOwn
namespace Go.Proofs.YtdkfnhcegafliaaDoor.CopyW
open Go Go.RowKit Go.Proofs.YtdkfnhcegafliaaDoorW.PrintWords
/-- The first numbers are those of the other list. -/
def cpy (d s : List Int) : List Int := s.take d.length ++ d.drop s.length
theorem copy_own {P : Program} {w0 W : World} (base : Nat) {ops : Array Oper} {rest : List Oper} {o : Oper} {a : Act} {Q : Exit → Act → World → Prop} {k : IntKind} (hgd : o.guard = none) (s x : Operand) (t e : TypeId)
    (ho : o.op = .call { callee := .builtin .copy, args := #[s, x], argTypes := #[t, t] }) (ht : P.underlying t = some (.slice e)) (hsz : (P.info? e).map (·.size) = some 1)
    (v : Value) (xs ys : List Int) (A : Option Addr) (m c : Nat) (ok : Nat → Prop) (hs : a.eval s = v) (hx : a.eval x = .slice A m c)
    (HO : (Kd.int k).R e W base ok v xs) (HR : (Kd.int k).C W A m ys) (HB : Below base w0 W)
    (h : ∀ w1, (Kd.int k).R e w1 base ok v (cpy xs ys) → Below base w0 w1 → wpList P ops Q rest (a.put o.dst (goInt (Nat.min m xs.length))) w1) :
    wpList P ops Q (o :: rest) a W := by
  have hm : ys.length = m := HR.1
  have hok := HO.1
  have hown := Kd.own_of_R HO
  have hlen : (encs (Value.int k) xs).length = xs.length := by unfold encs; rw [List.length_map]
  rcases hown.2 with ⟨rfl, hn⟩ | ⟨g, cap, cur, rfl, hg, hh, hnc, hcm, hcs, hcur⟩
  · obtain rfl : xs = [] := List.eq_nil_of_length_eq_zero hn
    refine wpList_copy_nothing hgd s x t t ho e ht hsz none A 0 0 m c hs hx (Nat.min_zero _) ?_
    have := h W (by simpa [cpy] using HO) HB
    simpa [Nat.min_def] using this
  · have hcs' : ((ys.take xs.length).map (Value.int k)).length = Nat.min m xs.length := by
      rw [List.length_map, List.length_take, hm, Nat.min_comm]
    have hcl0 : cur.toList.length = cap := by simpa using hcs
    refine wpList_copy_splice hgd s x t t ho e ht hsz (some ⟨g, 0, none⟩) A xs.length cap m c hs hx g 0 cur.toList e (by simpa using hh) ((ys.take xs.length).map (Value.int k)) hcs' ?_ ?_ ?_ base w0 HB hg ?_
    · intro h0
      refine ⟨rfl, ?_⟩
      rw [hcs'] at h0
      obtain ⟨ad, rfl, hc⟩ := HR.2.2 (by have := Nat.min_le_left m xs.length; show 0 < m; exact Nat.lt_of_lt_of_le h0 this)
      refine ⟨ad, rfl, fun j u hj => ?_⟩
      rw [List.getElem?_map, List.getElem?_take] at hj
      split at hj
      · obtain ⟨p, hp, rfl⟩ := Option.map_eq_some_iff.1 hj
        obtain ⟨cc, _, hcc, hce⟩ := hc j p hp
        have hcc' : cc = [Value.int k p] := hcc
        subst hcc'
        have := hce 0 (Value.int k p) rfl
        have e1 : (Kd.int k).sz = 1 := rfl
        rw [e1, Nat.mul_one, Nat.add_zero] at this
        exact this
      · simp at hj
    · rw [hcs', hcl0, Nat.zero_add]
      exact Nat.le_trans (Nat.min_le_right _ _) hnc
    · intro u hu
      obtain ⟨p, _, rfl⟩ := List.mem_map.1 hu
      rfl
    · intro w1 HG hb
      have HG' : w1.heap[g]? = some (.cells (splice cur.toList 0 ((ys.take xs.length).map (Value.int k))).toArray e (0, 0)) := HG
      rw [hcs']
      have hcl : (cpy xs ys).length = xs.length := by
        unfold cpy; rw [List.length_append, List.length_take, List.length_drop]; omega
      refine h w1 (Kd.R_of_own ⟨?_, .inr ⟨g, cap, _, ?_, hg, HG', ?_, hcm, ?_, ?_⟩⟩ hok) hb
      · unfold encs; rw [List.length_map, Nat.mul_one]
      · rw [hcl]
      · rw [hcl]; exact hnc
      · rw [List.size_toArray, length_splice]
        · rw [hcl0, Nat.mul_one]
        · rw [hcs', hcl0, Nat.zero_add]; exact Nat.le_trans (Nat.min_le_right _ _) hnc
      · rw [hcl, Nat.mul_one]
        have hc2 : cur.toList.take xs.length = xs.map (Value.int k) := by rw [Nat.mul_one] at hcur; exact hcur
        unfold splice encs cpy
        simp only [List.take_zero, List.nil_append, Nat.zero_add, List.map_append]
        rw [List.take_append, List.length_map, List.length_take, List.take_of_length_le (by rw [List.length_map, List.length_take]; omega)]
        congr 1
        by_cases hy : ys.length ≤ xs.length
        · rw [Nat.min_eq_right hy, List.take_drop, show ys.length + (xs.length - ys.length) = xs.length by omega, hc2, List.map_drop]
        · rw [Nat.min_eq_left (by omega), Nat.sub_self, List.take_zero, List.drop_eq_nil_of_le (by omega)]; rfl
end Go.Proofs.YtdkfnhcegafliaaDoor.CopyW
