/- 'copy(out[i+1:], out[i:])' on a row of rows of the call's own, as a step of a region that draws, and a call of a method value. No condition but the ones written. -/
import Derived.Test.YtoobmfofkeaibaaDoorCopyW
import Derived.Test.YtoobmfofkeaibaaDoorWNEv
namespace Go.Proofs.YtoobmfofkeaibaaDoorW.PrintWords
open Go Go.RowKit Go.Proofs.YtoobmfofkeaibaaDoorW.PrintWords
/-- A row whose part from i on is copied one place further: its last element goes. -/
def shv {α : Type} (L : List α) (i : Nat) : List α := L.take (i + 1) ++ (L.drop i).take (L.length - (i + 1))
theorem shv_length {α : Type} (L : List α) (i : Nat) (h : i < L.length) : (shv L i).length = L.length := by simp [shv]; omega
theorem shv_len_of {α : Type} {L M : List α} {x : Int} (h : M = shv L x.toNat) (hq : x < ((M.length : Nat) : Int)) (h1 : 0 < L.length) : M.length = L.length := by
  by_cases h2 : x.toNat < L.length
  · rw [h]; exact shv_length _ _ h2
  · rw [h] at hq
    simp [shv] at hq
    omega
theorem shv_map {α β : Type} (f : α → β) (L : List α) (i : Nat) : shv (L.map f) i = (shv L i).map f := by simp [shv, List.map_take, List.map_drop]
theorem shv_get {α : Type} (L : List α) (i j : Nat) (h : i < L.length) : (shv L i)[j]? = if j < L.length then L[if j ≤ i then j else j - 1]? else none := by
  unfold shv
  rw [List.getElem?_append]
  have hl : (L.take (i + 1)).length = i + 1 := by simp; omega
  rw [hl]
  by_cases h1 : j < i + 1
  · rw [if_pos h1, if_pos (by omega), if_pos (by omega), List.getElem?_take, if_pos h1]
  · rw [if_neg h1, List.getElem?_take]
    by_cases h2 : j < L.length
    · rw [if_pos (by omega), if_pos h2, if_neg (by omega), List.getElem?_drop]
      congr 1; omega
    · rw [if_neg (by omega), if_neg h2]
theorem CopyW_grown_refl (w : World) (row : Option Nat) : w.grownBy w row := ⟨rfl, rfl, rfl, Nat.le_refl _, fun _ _ _ => rfl⟩
theorem CopyW_grown_setRow (w : World) (g : Nat) (cs : Array Value) : w.grownBy (w.setRow g cs) (some g) := ⟨rfl, rfl, rfl, by rw [setRow_size]; exact Nat.le_refl _, fun k _ hne => setRow_other w g k cs (fun e => hne (by rw [e]))⟩
section
variable {P : Program} {ops : Array Oper} {rest : List Oper} {o : Oper} {a : Act} {Q : Exit → Act → World → Prop} {W : World}
/-- A call of a function that a place holds, with what is bound ahead of the arguments, in a plain region. -/
theorem goesM_ {oi : Oper} {w : World} (N : Option Tmp) (hd : oi.dst = N) (hg : oi.guard = none) {f : FuncId} {fn : Func} {u : Tmp} {as_ : Array Operand} {ts : Array TypeId} (first : Array Value) (hf : P.funcs[f]? = some fn) (hname : (fn.name == "runtime.NumGoroutine") = false) (hb : fn.body.isSome = true) (args all : Array Value)
    (hop : oi.op = .call { callee := .value (.tmp u), args := as_, argTypes := ts }) (hargs : as_.map a.eval = args) (hall : first ++ args = all) (hu : a.eval (.tmp u) = .func (.func f) first #[])
    (h : Calls P f all w fun e w' => ∃ v, e = .returned v ∧ wpList P ops Q rest (a.put N v) w') : wpList P ops Q (oi :: rest) a w := by
  subst hall
  refine wpList_plain hg fun K hK => ?_
  have he := PrintLast.enters_ hf hname hb (first ++ args) w
  have hrun : (execOp a.eval oi).run P w = .ok (.enter f (first ++ args)) w := by
    unfold execOp
    simp [hop, resolve, Deferred.ofValue, invoke, hu, hargs, he]
  unfold Oper.wp
  rw [hrun, Oper.upon_enter]
  refine h.mono fun e w'' hh => ?_
  obtain ⟨v, rfl, hk⟩ := hh
  subst hd
  exact hK _ _ hk
end
namespace Kd
theorem raw_inner {e base : Nat} {ok : Nat → Prop} {w : World} {v : Value} {rows : List (List Value)} (h : (raw 1).R e w base ok v rows) : ∃ inner : List Value, w.ownsRow base e 1 v inner.length inner ∧ rows = inner.map (fun u => [u]) ∧ ∀ u ∈ inner, u.oneCell' = true := by
  obtain ⟨_, inner, ho, hr⟩ := h
  have hsz : (raw 1).sz = 1 := rfl
  have hl : inner.length = rows.length := by have := hr.1; rw [hsz, Nat.mul_one] at this; exact this
  have hrows : rows = inner.map (fun u => [u]) := by
    apply List.ext_getElem?
    intro j
    rcases Nat.lt_or_ge j rows.length with hj | hj
    · have h2 := hr.2 j _ (List.getElem?_eq_getElem hj)
      obtain ⟨h3, h4, h5⟩ := h2
      rw [hsz, Nat.mul_one] at h3
      rw [List.getElem?_map, List.getElem?_eq_getElem hj, List.getElem?_eq_getElem (by omega), ← h3]
      simp only [Option.map_some, Option.some.injEq]
      rw [List.drop_eq_getElem_cons (by omega)]
      rfl
    · rw [List.getElem?_eq_none hj, List.getElem?_map, List.getElem?_eq_none (by omega)]; rfl
  refine ⟨inner, ?_, hrows, fun u hu => ?_⟩
  · rw [hl]; exact ho
  · obtain ⟨j, hj, rfl⟩ := List.getElem_of_mem hu
    have h2 := hr.2 j _ (List.getElem?_eq_getElem (by omega))
    obtain ⟨h3, h4, h5⟩ := h2
    refine h5 _ ?_
    rw [hsz, Nat.mul_one, List.drop_eq_getElem_cons hj]
    exact List.mem_cons_self
theorem raw_of_inner {e base : Nat} {ok : Nat → Prop} {w : World} {v : Value} {inner : List Value} (h : w.ownsRow base e 1 v inner.length inner) (h1 : ∀ u ∈ inner, u.oneCell' = true) (hok : ∀ k, v.ownBlock = some k → ok k) : (raw 1).R e w base ok v (inner.map (fun u => [u])) := by
  refine ⟨hok, inner, by rw [List.length_map]; exact h, by rw [List.length_map]; exact (Nat.mul_one _).symm, fun j p hj => ?_⟩
  rw [List.getElem?_map] at hj
  obtain ⟨u, hu, rfl⟩ := Option.map_eq_some_iff.1 hj
  obtain ⟨hjl, rfl⟩ := List.getElem?_eq_some_iff.1 hu
  have e1 : List.take (raw 1).sz (List.drop (j * (raw 1).sz) inner) = [inner[j]] := by
    show List.take 1 (List.drop (j * 1) inner) = _
    rw [Nat.mul_one, List.drop_eq_getElem_cons hjl]; rfl
  rw [e1]
  refine ⟨rfl, rfl, fun x hx => ?_⟩
  · obtain rfl := List.mem_singleton.1 hx
    exact h1 _ (List.getElem_mem hjl)
/-- What copy(out[i+1:], out[i:]) does to a row of rows: the cells, and what may be said behind it. -/
theorem N_shift {α : Type} {d : Kd α} (hd : d.sz = 1) {e base g n c : Nat} {ok : Nat → Prop} {w : World} {ys : List α} (h : N d e w base ok (.slice (some ⟨g, 0, none⟩) n c) ys) (i : Nat) (hi : i < n) :
    ∃ inner cur : List Value, n = ys.length ∧ n ≤ c ∧ base ≤ g ∧ w.heap[g]? = some (.cells cur.toArray e (0, 0)) ∧ cur.length = c ∧ inner.length = n ∧ (∀ u ∈ inner, u.oneCell' = true) ∧ (∀ j u, inner[j]? = some u → w.cell? ⟨g, j, none⟩ = some u) ∧
      ∀ w1 : World, w1.heap[g]? = some (.cells (splice cur (i + 1) ((inner.drop i).take (n - (i + 1)))).toArray e (0, 0)) → w.grownBy w1 (some g) → N d e w1 base ok (.slice (some ⟨g, 0, none⟩) n c) (shv ys i) := by
  obtain ⟨h0, rows, hl, hR, hf⟩ := h
  rw [hd] at hR
  obtain ⟨inner, ho, hrows, h1⟩ := raw_inner hR
  have hil : inner.length = ys.length := by rw [← hl, hrows, List.length_map]
  rcases ho.2 with ⟨he, _⟩ | ⟨g', cap, cur, he, hg, hh, hnc, hcm, hcs, hcur⟩
  · cases he
  · injection he with e1 e2 e3
    injection e1 with e1
    injection e1 with e1
    subst e1; subst e2; subst e3
    have hcl : cur.toList.length = c := by simpa using hcs
    have hcur' : cur.toList.take inner.length = inner := by simpa using hcur
    refine ⟨inner, cur.toList, hil, hnc, hg, by simpa using hh, hcl, rfl, h1, fun j u hj => ?_, fun w1 hw hgr => ?_⟩
    · have hj2 : cur.toList[j]? = some u := by
        rw [← hcur', List.getElem?_take] at hj
        split at hj
        · exact hj
        · cases hj
      rw [cell_of_row w g j cur e (0, 0) hh]
      simpa using hj2
    · have hlen : (shv inner i).length = inner.length := shv_length _ _ hi
      have hcsl : ((inner.drop i).take (inner.length - (i + 1))).length = inner.length - (i + 1) := by simp; omega
      have hsp : (splice cur.toList (i + 1) ((inner.drop i).take (inner.length - (i + 1)))).take inner.length = shv inner i := by
        have hx : cur.toList.take (i + 1) = inner.take (i + 1) := by
          have h3 := congrArg (List.take (i + 1)) hcur'
          rw [List.take_take, Nat.min_eq_left (by omega)] at h3
          exact h3
        have hxl : (inner.take (i + 1)).length = i + 1 := by rw [List.length_take]; omega
        unfold splice shv
        rw [hx, ← List.append_assoc]
        exact List.take_left' (by rw [List.length_append, hxl, hcsl]; omega)
      refine ⟨h0, (shv inner i).map (fun u => [u]), by rw [List.length_map, hlen, hil, shv_length _ _ (by omega)], ?_, fun j x cc hx hc => ?_⟩
      · rw [hd]
        refine raw_of_inner ⟨?_, .inr ⟨g, c, _, by rw [hlen], hg, hw, by rw [hlen]; exact hnc, hcm, ?_, ?_⟩⟩ (fun u hu => ?_) (fun k hk => hk.symm)
        · rw [Nat.mul_one]
        · rw [List.size_toArray, length_splice _ _ _ (by rw [hcsl]; omega), Nat.mul_one]; exact hcl
        · rw [hlen, Nat.mul_one]; exact hsp
        · unfold shv at hu
          rcases List.mem_append.1 hu with hu | hu
          · exact h1 u (List.mem_of_mem_take hu)
          · exact h1 u (List.mem_of_mem_drop (List.mem_of_mem_take hu))
      · rw [shv_get _ _ _ (by omega)] at hx
        rw [List.getElem?_map, shv_get _ _ _ hi, ] at hc
        split at hx
        · rw [if_pos (by omega)] at hc
          rw [← List.getElem?_map, ← hrows] at hc
          exact FK_step (hf _ x cc hx hc) (fun k hk hlt => hgr.block k hlt (fun e' => hk.2 e'))
        · cases hx
/-- copy(out[i+1:], out[i:]), out a row of rows of the call's own, as one step of a region that draws. -/
theorem step_copy_shift {α : Type} {P : Program} {ops : Array Oper} {o : Oper} {a : Act} {w w0 : World} {K : Act → World → Prop} {Q : Exit → Act → World → Prop} {E : Prop} (d : Kd α) (hd : d.sz = 1) (hgd : o.guard = none) (dO sO : Operand) (t : TypeId)
    (ho : o.op = .call { callee := .builtin .copy, args := #[dO, sO], argTypes := #[t, t] }) (elem : TypeId) (hu : P.underlying t = some (.slice elem)) (hsz : (P.info? elem).map (·.size) = some 1)
    {e base g n c : Nat} {ok : Nat → Prop} {ys : List α} (HN : N d e w base ok (.slice (some ⟨g, 0, none⟩) n c) ys) (i : Nat) (hi : i < n) {dp sp : Option Addr} {dLen dCap sLen sCap : Nat}
    (hdv : a.eval dO = .slice dp dLen dCap) (hsv : a.eval sO = .slice sp sLen sCap) (hdl : dLen = n - (i + 1)) (hsl : sLen = n - i) (hdp : 0 < n - (i + 1) → dp = some ⟨g, i + 1, none⟩) (hsp : 0 < n - (i + 1) → sp = some ⟨g, i, none⟩) (HB : Below base w0 w)
    (h : ∀ w', N d e w' base ok (.slice (some ⟨g, 0, none⟩) n c) (shv ys i) → Below base w0 w' → w.grownBy w' (Value.slice (some ⟨g, 0, none⟩) n c).ownBlock → ((Value.slice (some ⟨g, 0, none⟩) n c).ownBlock = (Value.slice (some ⟨g, 0, none⟩) n c).ownBlock ∨ ∃ b, (Value.slice (some ⟨g, 0, none⟩) n c).ownBlock = some b ∧ w.heap.size ≤ b) → K (a.put o.dst (goInt ((n - (i + 1) : Nat) : Int))) w') :
    if Region.wanted o (yielded ops a.tmps) = true then Oper.wp P o a w K Q else E := by
  obtain ⟨inner, cur, hny, hnc, hbg, hh, hcl, hil, h1, hcell, hk⟩ := N_shift hd HN i hi
  have hcsl : ((inner.drop i).take (n - (i + 1))).length = n - (i + 1) := by simp; omega
  have hw : Region.wanted o (yielded ops a.tmps) = true := by simp [Region.wanted, hgd]
  rw [if_pos hw]
  by_cases h0 : n - (i + 1) = 0
  · have hrun := run_copy_none (P := P) w t t o.type elem dp sp dLen dCap sLen sCap hu hsz (by rw [hdl, h0]; exact Nat.min_zero _)
    unfold Oper.wp
    simp [execOp, ho, resolve, invoke, builtin, hdv, hsv, hrun, Result.andThen]
    have h2 : (inner.drop i).take (n - (i + 1)) = [] := List.eq_nil_of_length_eq_zero (by rw [hcsl, h0])
    have h3 := h w (hk w (by rw [h2]; simpa [splice] using hh) (CopyW_grown_refl _ _)) HB (CopyW_grown_refl _ _) (.inl rfl)
    rw [h0] at h3
    exact h3
  · obtain rfl := hdp (by omega)
    obtain rfl := hsp (by omega)
    obtain ⟨cs, hcs⟩ : ∃ cs, cs = (inner.drop i).take (n - (i + 1)) := ⟨_, rfl⟩
    rw [← hcs] at hcsl
    rw [← hcs] at hk
    have h' : ∀ w', N d e w' base ok (.slice (some ⟨g, 0, none⟩) n c) (shv ys i) → Below base w0 w' → w.grownBy w' (some g) → K (a.put o.dst (goInt cs.length)) w' := by rw [hcsl]; exact fun w' x y z => h w' x y z (.inl rfl)
    have hrun := run_copy_row (P := P) w t t o.type elem g (i + 1) dLen dCap ⟨g, i, none⟩ sLen sCap cur.toArray e cs hu hsz hh (by rw [hcsl, hdl, hsl]; show _ = min _ _; omega) (fun j u hj => by
      rw [hcs, List.getElem?_take] at hj
      split at hj
      · rw [List.getElem?_drop] at hj
        rw [Addr.add_lit]
        exact hcell _ u hj
      · cases hj) (by rw [hcsl]; simp; omega) (fun u hu2 => h1 u (by rw [hcs] at hu2; exact List.mem_of_mem_drop (List.mem_of_mem_take hu2)))
    unfold Oper.wp
    simp [execOp, ho, resolve, invoke, builtin, hdv, hsv, hrun, Result.andThen]
    exact h' _ (hk _ (show _ = _ by simpa [splice] using setRow_heap w g _ _ e _ hh) (CopyW_grown_setRow _ _ _)) (below_setRow HB hbg _) (CopyW_grown_setRow _ _ _)
end Kd
end Go.Proofs.YtoobmfofkeaibaaDoorW.PrintWords
