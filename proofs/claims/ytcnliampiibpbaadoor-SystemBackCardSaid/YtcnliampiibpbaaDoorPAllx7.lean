/- Lean functions for Go functions, each with the proof that the call returns what it says; printed by wip/tools/myprint.py. -/
-- squeezed
-- tight
import Derived.Test.YtcnliampiibpbaaDoorTq
import Derived.Test.YtcnliampiibpbaaDoorPAllx0
namespace Go.Proofs.YtcnliampiibpbaaDoor.PAll
open Go.RowKit Go.Proofs.YtcnliampiibpbaaDoorW.PrintWords Go.Proofs.YtcnliampiibpbaaDoorW.PrintLast Go.Proofs.YtcnliampiibpbaaDoorW.PrintMore
attribute [local go_sem] Instr.field asAgg max2_int min2_int max_two min_two max_three min_three max_four min_four   -- for this text's walks alone
set_option linter.unusedVariables false
set_option linter.unusedSimpArgs false

/-! ### digraph_inside: function 43 -/
def digraph_inside.f (l0 : List (List Int)) (a1 : Int) : Option (Bool) := if a1 ≥ 0 then (some (decide (a1 < (l0.length : Int)))) else (some false)
set_option maxHeartbeats 8000000 in
set_option maxRecDepth 100000 in
theorem digraph_inside.calls (A0 : Option Addr) (c0 : Nat) (l0 : List (List Int)) (a1 : Int) (r : Bool) (w : World) (hr0 : Kd.C (Kd.slice 3 (Kd.int .i64)) w A0 l0.length l0) (hc0 : l0.length ≤ c0) (h : digraph_inside.f l0 a1 = some r) :
  Calls Tryd.prog 43 #[.slice A0 l0.length c0, .int .i64 a1] w fun e w' => e = .returned (.bool r) ∧ Drawn0 w w' := by
 have hv30 := Tryd.underlying30; have HR0 := Aside0.mk hr0; have HC0 := Aside0.mk hc0; clear hr0 hc0; have H : (if a1 ≥ 0 then (some (decide (a1 < (l0.length : Int)))) else (some false)) = some r := h; clear h; revert H; refine tq_rr (fun c3 H => ?_) (fun c3 H => ?_); rotate_left
 ·have c3b0 : decide (0 ≤ a1) = false := decide_eq_false c3; clear c3; obtain rfl := Option.some.inj H
  go_enter Tryd.func43, Tryd.ntmps43
  go_wp2
  go_ret
  exact ⟨by first | rfl | (simp; done) | (simp [*]; done), by repeat (first | exact Drawn0.refl _ | apply Drawn0.step)⟩
 have c3b0 : decide (0 ≤ a1) = true := decide_eq_true c3; clear c3; obtain rfl := Option.some.inj H
 go_enter Tryd.func43, Tryd.ntmps43
 go_wp2
 go_ret
 exact ⟨by first | rfl | (simp; done) | (simp [*]; done), by repeat (first | exact Drawn0.refl _ | apply Drawn0.step)⟩
-- NOT PRINTED: function 42 (digraph_Reach_1)
/-! ### digraph_Reach: function 31 -/
-- INFO 3
-- INFO 4
/-! ### digraph.Reach: what the literal 'visit' does, what the whole comes to -/
/-- One vertex is visited: marked and kept for later, if it is a vertex that was not marked. -/
def rvis (g : List (List Int)) (out : List Bool) (todo : List Int) (v : Int) : Option (List Bool × List Int) :=
 if 0 ≤ v ∧ v < (g.length : Int) then (if v < (out.length : Int) then (if rdOf false out v = true then some (out, todo) else (if todo.length < 17592186044415 then some (out.set v.toNat true, todo ++ [v]) else none)) else none) else some (out, todo)
/-- The world while Reach runs: the three variables that the literal shares with it. -/
structure RS (w0 w : World) (pg po pt : Nat) (A0 : Option Addr) (c0 : Nat) (l0 : List (List Int)) (vo vt : Value) (out : List Bool) (todo : List Int) : Prop where
 below : Below w0.heap.size w0 w
 hg : w.heap[pg]? = some (.cells #[.slice A0 l0.length c0] 55 (0, 0))
 ho : w.heap[po]? = some (.cells #[vo] 53 (0, 0))
 ht : w.heap[pt]? = some (.cells #[vt] 37 (0, 0))
 lg : w0.heap.size ≤ pg
 lo : w0.heap.size ≤ po
 lt : w0.heap.size ≤ pt
 ro : Kd.bool.R 4 w w0.heap.size (fun _ => True) vo out
 rt : (Kd.int .i64).R 3 w w0.heap.size (fun _ => True) vt todo
theorem R_grown_types {α : Type} {d : Kd α} {e base : Nat} {ok : Nat → Prop} {w w1 : World} {v : Value} {xs : List α} (h : d.R e w base ok v xs) {row : Option Nat} (hg : w.grownBy w1 row) (hrow : ∀ k, row = some k → ∃ cells t, w.heap[k]? = some (.cells cells t (0, 0)) ∧ ∀ q, q ∈ e :: d.E → q ≠ t) : d.R e w1 base ok v xs :=
 Kd.R_mono (Kd.R_grown (Kd.R_bound h) hg (fun k hk e => by
  obtain ⟨_, _, _, q, hq, cells', hc⟩ := hk
  obtain ⟨cells, t, hb, ht⟩ := hrow k e.symm
  rw [hc] at hb
  injection hb with hb
  injection hb with _ hb
  exact ht q hq hb)) (fun _ hk => hk.1)
theorem RS.drawn {w0 w w1 : World} {pg po pt : Nat} {A0 : Option Addr} {c0 : Nat} {l0 : List (List Int)} {vo vt : Value} {out : List Bool} {todo : List Int} (h : RS w0 w pg po pt A0 c0 l0 vo vt out todo) (hd : Drawn0 w w1) : RS w0 w1 pg po pt A0 c0 l0 vo vt out todo := by
 obtain ⟨n, rfl⟩ := hd
 exact ⟨pw_below_drewN h.below n, h.hg, h.ho, h.ht, h.lg, h.lo, h.lt, Kd.R_drewN h.ro n, Kd.R_drewN h.rt n⟩
theorem RS.ne {w0 w : World} {pg po pt : Nat} {A0 : Option Addr} {c0 : Nat} {l0 : List (List Int)} {vo vt : Value} {out : List Bool} {todo : List Int} (h : RS w0 w pg po pt A0 c0 l0 vo vt out todo) : pg ≠ po ∧ pg ≠ pt ∧ po ≠ pt ∧ some pg ≠ vt.ownBlock ∧ some po ≠ vt.ownBlock ∧ some pt ≠ vt.ownBlock ∧ some pg ≠ vo.ownBlock ∧ some po ≠ vo.ownBlock ∧ some pt ≠ vo.ownBlock :=
 ⟨blk_ne h.hg h.ho (by decide), blk_ne h.hg h.ht (by decide), blk_ne h.ho h.ht (by decide), Kd.R_ne h.rt h.hg (by decide), Kd.R_ne h.rt h.ho (by decide), Kd.R_ne h.rt h.ht (by decide), Kd.R_ne h.ro h.hg (by decide), Kd.R_ne h.ro h.ho (by decide), Kd.R_ne h.ro h.ht (by decide)⟩
theorem RS.pushed {w0 w7 w8 : World} {pg po pt go co : Nat} {A0 : Option Addr} {c0 : Nat} {l0 : List (List Int)} {vt vt' : Value} {out : List Bool} {todo : List Int} {v : Int} (h : RS w0 w7 pg po pt A0 c0 l0 (.slice (some ⟨go, 0, none⟩) out.length co) vt out todo)
  (hr : (Kd.int .i64).R 3 w8 w0.heap.size (fun _ => True) vt' (todo ++ [v])) (hb : Below w0.heap.size w0 w8) (hg : (w7.setCell ⟨go, v.toNat, none⟩ (.bool true)).grownBy w8 vt.ownBlock) :
  RS w0 (w8.setCell ⟨pt, 0, none⟩ vt') pg po pt A0 c0 l0 (.slice (some ⟨go, 0, none⟩) (out.set v.toNat true).length co) vt' (out.set v.toNat true) (todo ++ [v]) := by
 obtain ⟨n1, n2, n3, n4, n5, n6, n7, n8, n9⟩ := h.ne
 have m7 : pg ≠ go := fun e => n7 (by rw [e]; rfl)
 have m8 : po ≠ go := fun e => n8 (by rw [e]; rfl)
 have m9 : pt ≠ go := fun e => n9 (by rw [e]; rfl)
 have g1 : (w7.setCell ⟨go, v.toNat, none⟩ (.bool true)).heap[pg]? = _ := (Below.heap_setCell w7 ⟨go, v.toNat, none⟩ (.bool true) pg m7).trans h.hg
 have g2 : (w7.setCell ⟨go, v.toNat, none⟩ (.bool true)).heap[po]? = _ := (Below.heap_setCell w7 ⟨go, v.toNat, none⟩ (.bool true) po m8).trans h.ho
 have g3 : (w7.setCell ⟨go, v.toNat, none⟩ (.bool true)).heap[pt]? = _ := (Below.heap_setCell w7 ⟨go, v.toNat, none⟩ (.bool true) pt m9).trans h.ht
 have k1 := blk_grown g1 hg n4
 have k2 := blk_grown g2 hg n5
 have k3 := blk_grown g3 hg n6
 have hrow : ∀ k, vt.ownBlock = some k → ∃ cells t, (w7.setCell ⟨go, v.toNat, none⟩ (.bool true)).heap[k]? = some (.cells cells t (0, 0)) ∧ ∀ q, q ∈ 4 :: Kd.bool.E → q ≠ t := by
  intro k hk
  obtain ⟨inner, ho⟩ := Kd.R_own h.rt
  obtain ⟨cells, hc⟩ := own_typed ho k hk
  obtain ⟨inner', ho'⟩ := Kd.R_own h.ro
  obtain ⟨cells', hc'⟩ := own_typed ho' go rfl
  have hne : k ≠ go := blk_ne hc hc' (by decide)
  exact ⟨cells, 3, (Below.heap_setCell w7 ⟨go, v.toNat, none⟩ (.bool true) k hne).trans hc, by intro q hq; simp [Kd.bool, Kd.scalar] at hq; subst hq; decide⟩
 have r1 := (Kd.R_put h.ro v true).1
 have r2 := R_grown_types r1 hg hrow
 have r3 := Kd.R_set r2 k3 (by decide) 0 vt'
 refine ⟨below_set hb h.lt, (Below.heap_setCell w8 ⟨pt, 0, none⟩ vt' pg n2).trans k1, (Below.heap_setCell w8 ⟨pt, 0, none⟩ vt' po n3).trans (by rw [List.length_set]; exact k2), blk_put k3 0 vt' rfl, h.lg, h.lo, h.lt, ?_, Kd.R_set hr k3 (by decide) 0 vt'⟩
 rw [List.length_set]
 exact r3
set_option maxHeartbeats 4000000 in
set_option maxRecDepth 1000000 in
theorem Reach_lit.calls (v : Int) (w0 w : World) (pg po pt : Nat) (A0 : Option Addr) (c0 : Nat) (l0 : List (List Int)) (vo vt : Value) (out out' : List Bool) (todo todo' : List Int) (hr0 : Kd.C (Kd.slice 3 (Kd.int .i64)) w0 A0 l0.length l0) (hc0 : l0.length ≤ c0)
  (hs : RS w0 w pg po pt A0 c0 l0 vo vt out todo) (h : rvis l0 out todo v = some (out', todo')) :
  Calls Tryd.prog 42 #[.int .i64 v, .pointer (some ⟨pg, 0, none⟩), .pointer (some ⟨po, 0, none⟩), .pointer (some ⟨pt, 0, none⟩)] w fun e w' => e = .returned (.tuple #[]) ∧ ∃ vt', RS w0 w' pg po pt A0 c0 l0 vo vt' out' todo' := by
 have hv30 := Tryd.underlying30; have HR := Aside0.mk hr0; have HC := Aside0.mk hc0; have HS := Aside0.mk hs; have hne := hs.ne; obtain ⟨n1, n2, n3, n4, n5, n6, n7, n8, n9⟩ := hne; have hz1 : w.cell? ⟨pg, 0, none⟩ = some (.slice A0 l0.length c0) := (blk_cell hs.hg 0).trans rfl; have hC : Kd.C (Kd.slice 3 (Kd.int .i64)) w A0 l0.length l0 := Kd.C_below hr0 hs.below; have HCw := Aside0.mk hC
 unfold rvis at h
 by_cases c1 : 0 ≤ v ∧ v < (l0.length : Int)
 rotate_left
 ·rw [if_neg c1] at h; obtain ⟨rfl, rfl⟩ := Prod.mk.inj (Option.some.inj h); have hin : digraph_inside.f l0 v = some false := by
   unfold digraph_inside.f
   by_cases g : v ≥ 0
   rotate_left
   ·rw [if_neg g]
   rw [if_pos g, decide_eq_false (fun q => c1 ⟨g, q⟩)]
  clear hs hr0 hc0 hC
  go_enter Tryd.func42, Tryd.ntmps42
  go_wp2_with (first | ((with_reducible refine gate_callee (f := 43) rfl ?_); refine goesL_ _ rfl rfl Tryd.func43 (by kernel_rfl) rfl #[.slice A0 l0.length c0, .int .i64 v] rfl (by (try simp only [List.map_toArray, List.map_cons, List.map_nil]); first | done | rfl) ?_; refine (digraph_inside.calls A0 c0 l0 v false _ HCw.out HC.out hin).mono ?_; rintro e w7 ⟨rfl, hd7⟩; refine ⟨_, rfl, ?_⟩; have HS7 := Aside0.mk (HS.out.drawn hd7)))
  (try simp only [Exit.inBlock, Exit.then])
  refine bodyPost_end (results_none rfl _ _ _) rfl ?_
  exact ⟨rfl, _, HS7.out⟩
 rw [if_pos c1] at h; have hin : digraph_inside.f l0 v = some true := by unfold digraph_inside.f; rw [if_pos c1.1, decide_eq_true c1.2]
 by_cases c2 : v < (out.length : Int)
 rotate_left
 ·rw [if_neg c2] at h; simp at h
 rw [if_pos c2] at h; obtain ⟨go, co, rfl, hgb, hgl, cells, hgc⟩ := Kd.R_form hs.ro (by omega); obtain ⟨hx, hfz⟩ := Kd.R_cell false hs.ro v c1.1 (by omega); have p1 := eq_true c1.1; have q1 := eq_true c2; have d1 : decide (0 ≤ v) = true := decide_eq_true c1.1; have d2 : decide (v < (out.length : Int)) = true := decide_eq_true c2; clear hr0 hc0 hC
 by_cases c3 : rdOf false out v = true
 ·rw [if_pos c3] at h; obtain ⟨rfl, rfl⟩ := Prod.mk.inj (Option.some.inj h); rw [c3] at hx; clear hs
  go_enter Tryd.func42, Tryd.ntmps42
  go_wp2_with (first | ((with_reducible refine gate_callee (f := 43) rfl ?_); refine goesL_ _ rfl rfl Tryd.func43 (by kernel_rfl) rfl #[.slice A0 l0.length c0, .int .i64 v] rfl (by (try simp only [List.map_toArray, List.map_cons, List.map_nil]); first | done | rfl) ?_; refine (digraph_inside.calls A0 c0 l0 v true _ HCw.out HC.out hin).mono ?_; rintro e w7 ⟨rfl, hd7⟩; refine ⟨_, rfl, ?_⟩; have HS7 := Aside0.mk (HS.out.drawn hd7); have hz2 : w7.cell? ⟨po, 0, none⟩ = some (.slice (some ⟨go, 0, none⟩) out.length co) := (blk_cell HS7.out.ho 0).trans rfl; have hx7 := (Kd.R_cell false HS7.out.ro v c1.1 (by omega)).1; rw [c3] at hx7))
  (try simp only [Exit.inBlock, Exit.then])
  refine bodyPost_end (results_none rfl _ _ _) rfl ?_
  exact ⟨rfl, _, HS7.out⟩
 rw [if_neg c3] at h
 by_cases c4 : todo.length < 17592186044415
 rotate_left
 ·rw [if_neg c4] at h; simp at h
 rw [if_pos c4] at h; obtain ⟨rfl, rfl⟩ := Prod.mk.inj (Option.some.inj h); have c3' : rdOf false out v = false := Bool.eq_false_iff.mpr c3; rw [c3'] at hx; clear hs; have m9 : pt ≠ go := fun e => n9 (by rw [e]; rfl)
 go_enter Tryd.func42, Tryd.ntmps42
 go_wp2_with (first | ((with_reducible refine gate_callee (f := 43) rfl ?_); refine goesL_ _ rfl rfl Tryd.func43 (by kernel_rfl) rfl #[.slice A0 l0.length c0, .int .i64 v] rfl (by (try simp only [List.map_toArray, List.map_cons, List.map_nil]); first | done | rfl) ?_; refine (digraph_inside.calls A0 c0 l0 v true _ HCw.out HC.out hin).mono ?_; rintro e w7 ⟨rfl, hd7⟩; refine ⟨_, rfl, ?_⟩; have HS7 := Aside0.mk (HS.out.drawn hd7); have hz2 : w7.cell? ⟨po, 0, none⟩ = some (.slice (some ⟨go, 0, none⟩) out.length co) := (blk_cell HS7.out.ho 0).trans rfl; have hx7 := (Kd.R_cell false HS7.out.ro v c1.1 (by omega)).1; have hf7 := (Kd.R_cell false HS7.out.ro v c1.1 (by omega)).2; rw [c3'] at hx7; obtain ⟨cs7, hgt7⟩ : ∃ cells, w7.heap[go]? = some (.cells cells 4 (0, 0)) := (by obtain ⟨inner, ho⟩ := Kd.R_own HS7.out.ro; exact own_typed ho go rfl); have hg3 : (w7.setCell ⟨go, v.toNat, none⟩ (.bool true)).heap[pt]? = some (.cells #[vt] 37 (0, 0)) := (Below.heap_setCell w7 ⟨go, v.toNat, none⟩ (.bool true) pt m9).trans HS7.out.ht; have hz3 : (w7.setCell ⟨go, v.toNat, none⟩ (.bool true)).cell? ⟨pt, 0, none⟩ = some vt := (blk_cell hg3 0).trans rfl) | ((with_reducible refine gate_builtin (b := .append) (xs := #[.tmp 18, .tmp 20]) rfl ?_); at_builtin; refine Kd.R_append (Kd.int .i64) (w0 := w0) w0.heap.size rfl (.tmp 18) (.tmp 20) 37 3 (.int .i64 0) 8 rfl Tryd.underlying37 info3 rfl (by decide) (by omega) vt todo v [.int .i64 v] (fun _ => True) (fun _ => False) rfl ?aX ?aP (fun _ hk => hk.elim) ?aF ?aO ?aB ?aS ?aL ?_; (case aX => (show Value.slice (some ⟨w7.heap.size, 0, none⟩) 1 1 = Value.slice (some ⟨(w7.setCell ⟨go, v.toNat, none⟩ (.bool true)).heap.size, 0, none⟩) 1 1; simp)); (case aP => exact rfl); (case aB => exact below_set HS7.out.below hgb); (case aF => exact (fun _ _ => trivial)); (case aO => exact Kd.R_set HS7.out.rt hgt7 (by decide) v.toNat (.bool true)); (case aS => rw [World.size_setCell]; exact below_size HS7.out.below); (case aL => omega); intro vt' w8 hr8 hb8 hg8 hat8; obtain ⟨At8, ct8, rfl⟩ := Kd.R_slice hr8; have HF := Aside0.mk (RS.pushed HS7.out hr8 hb8 hg8); have hp8 : w8.heap[pt]? = some (.cells #[vt] 37 (0, 0)) := blk_grown hg3 hg8 n6; have hzp : w8.cell? ⟨pt, 0, none⟩ = some vt := (blk_cell hp8 0).trans rfl; have hzf := blk_frozen hp8 0))
 (try simp only [Exit.inBlock, Exit.then])
 refine bodyPost_end (results_none rfl _ _ _) rfl ?_; have hf := HF.out; rw [List.length_set, List.length_append, List.length_singleton] at hf
 exact ⟨rfl, _, hf⟩
theorem at_rows {w : World} {A : Option Addr} {n e : Nat} {xs : List (List Int)} (h : Kd.C (Kd.slice e (Kd.int .i64)) w A n xs) (i : Nat) (hi : i < xs.length) : ∃ ad B c, A = some ad ∧ w.cell? (ad.add i) = some (.slice B (xs[i]'hi).length c) ∧ (xs[i]'hi).length ≤ c ∧ Kd.C (Kd.int .i64) w B (xs[i]'hi).length (xs[i]'hi) := by
 obtain ⟨hn, _, hr⟩ := h
 obtain ⟨a, rfl, hq⟩ := hr (by omega)
 obtain ⟨cs, _, ⟨B, c, rfl, hc, hC⟩, hcell⟩ := hq i (xs[i]'hi) (List.getElem?_eq_getElem hi)
 refine ⟨a, B, c, rfl, ?_, hc, hC⟩
 have := hcell 0 _ rfl
 simpa [Kd.slice, Addr.add_zero'] using this
def rall (g : List (List Int)) : List Int → List Bool → List Int → Option (List Bool × List Int)
 | [], o, t => some (o, t)
 | v :: vs, o, t => (rvis g o t v).bind fun p => rall g vs p.1 p.2
def digraph_Reach.l0 : Nat → List (List Int) → List Bool → List Int → Option (List Bool)
 | 0, _, _, _ => none
 | k + 1, g, o, t => if t.length = 0 then some o else (if 0 ≤ rd t ((t.length : Int) - 1) ∧ (rd t ((t.length : Int) - 1)).toNat < g.length then (rall g (g.getD (rd t ((t.length : Int) - 1)).toNat []) o (t.take (t.length - 1))).bind fun p => digraph_Reach.l0 k g p.1 p.2 else none)
def digraph_Reach.f (k : Nat) (l0 : List (List Int)) (l1 : List Int) : Option (List Bool) := if l0.length ≤ 140737488355328 then (rall l0 l1 (List.replicate l0.length false) []).bind fun p => digraph_Reach.l0 k l0 p.1 p.2 else none
theorem digraph_Reach.mono_l : ∀ k g o t, LeO (digraph_Reach.l0 k g o t) (digraph_Reach.l0 (k + 1) g o t)
 | 0 => fun _ _ _ r h => by simp [digraph_Reach.l0] at h
 | k + 1 => fun g o t => by
  have ih := digraph_Reach.mono_l k
  rw [digraph_Reach.l0, digraph_Reach.l0]
  split
  ·exact LeO.refl _
  ·split
   ·exact LeO.bind (LeO.refl _) (fun p => ih _ _ _)
   ·exact LeO.none _
theorem digraph_Reach.mono : ∀ a0 a1 k, LeO (digraph_Reach.f k a0 a1) (digraph_Reach.f (k + 1) a0 a1) := by
 intro a0 a1 k
 unfold digraph_Reach.f
 split
 ·exact LeO.bind (LeO.refl _) (fun p => digraph_Reach.mono_l k _ _ _)
 ·exact LeO.refl _
/-- A call of a literal with what is bound to it, in a plain region. -/
theorem goesC_ {P : Program} {ops : Array Oper} {rest : List Oper} {a : Act} {Q : Exit → Act → World → Prop} {oi : Oper} {w : World} (N : Option Tmp) (hd : oi.dst = N) (hg : oi.guard = none) {f : FuncId} {fn : Func} {u : Tmp} {as_ : Array Operand} {ts : Array TypeId} (captured : Array Value) (hf : P.funcs[f]? = some fn) (hname : (fn.name == "runtime.NumGoroutine") = false) (hb : fn.body.isSome = true) (args all : Array Value)
  (hop : oi.op = .call { callee := .value (.tmp u), args := as_, argTypes := ts }) (hargs : as_.map a.eval = args) (hall : args ++ captured = all) (hu : a.eval (.tmp u) = .func (.func f) #[] captured)
  (h : Calls P f all w fun e w' => ∃ v, e = .returned v ∧ wpList P ops Q rest (a.put N v) w') : wpList P ops Q (oi :: rest) a w := by
 subst hall
 refine wpList_plain hg fun K hK => ?_
 have he := enters_ hf hname hb (args ++ captured) w
 have hrun : (execOp a.eval oi).run P w = .ok (.enter f (args ++ captured)) w := by
  unfold execOp
  simp [hop, resolve, Deferred.ofValue, invoke, hu, hargs, he]
 unfold Oper.wp
 rw [hrun, Oper.upon_enter]
 refine h.mono fun e w'' hh => ?_
 obtain ⟨v, rfl, hk⟩ := hh
 subst hd
 exact hK _ _ hk
theorem RS.start {w w1 w2 w3 w5 : World} {pg po pt : Nat} {A0 Ao : Option Addr} {c0 co n : Nat} {l0 : List (List Int)} (hpg : pg = w.heap.size) (g1 : w1.heap[pg]? = some (.cells #[.slice A0 l0.length c0] 55 (0, 0))) (b1 : Below w.heap.size w w1)
  (r2 : Kd.bool.R 4 w2 w1.heap.size (fun _ => True) (.slice Ao n co) (List.replicate l0.length false)) (b2 : Below w1.heap.size w1 w2) (hpo : po = w2.heap.size) (g3 : w3.heap[po]? = some (.cells #[.slice none 0 0] 53 (0, 0))) (b3 : Below w2.heap.size w2 w3)
  (hpt : pt = (w3.setCell ⟨po, 0, none⟩ (.slice Ao n co)).heap.size) (g5 : w5.heap[pt]? = some (.cells #[.slice none 0 0] 37 (0, 0))) (b5 : Below (w3.setCell ⟨po, 0, none⟩ (.slice Ao n co)).heap.size (w3.setCell ⟨po, 0, none⟩ (.slice Ao n co)) w5) :
  RS w w5 pg po pt A0 c0 l0 (.slice Ao n co) (.slice none 0 0) (List.replicate l0.length false) [] := by
 have s1 := b1.size
 have s2 := b2.size
 have s3 := b3.size
 have s4 : (w3.setCell ⟨po, 0, none⟩ (.slice Ao n co)).heap.size = w3.heap.size := World.size_setCell _ _ _
 have k2 := blk_below g1 b2
 have k3 := blk_below k2 b3
 have hne : pg ≠ po := blk_ne k3 g3 (by decide)
 have k4 : (w3.setCell ⟨po, 0, none⟩ (.slice Ao n co)).heap[pg]? = _ := (Below.heap_setCell w3 ⟨po, 0, none⟩ (.slice Ao n co) pg hne).trans k3
 have q4 := blk_put g3 0 (.slice Ao n co) (cs' := #[.slice Ao n co]) rfl
 have r3 := Kd.R_below r2 b3
 have r4 := Kd.R_set r3 g3 (by decide) 0 (.slice Ao n co)
 have r5 := Kd.R_lower (Kd.R_below r4 b5) s1
 exact ⟨below_step (below_set (below_step (below_step b1 b2) b3) (by omega)) b5, blk_below k4 b5, blk_below q4 b5, g5, by omega, by omega, by omega, r5, Kd.R_nil _ _ _ _ _⟩
theorem RS.popped {w0 w : World} {pg po pt : Nat} {A0 At : Option Addr} {c0 ct n : Nat} {l0 : List (List Int)} {vo : Value} {out : List Bool} {todo : List Int} (h : RS w0 w pg po pt A0 c0 l0 vo (.slice At n ct) out todo) (m : Nat) (hm : m ≤ todo.length) :
  RS w0 (w.setCell ⟨pt, 0, none⟩ (.slice At m ct)) pg po pt A0 c0 l0 vo (.slice At m ct) out (todo.take m) := by
 obtain ⟨n1, n2, n3, n4, n5, n6, n7, n8, n9⟩ := h.ne
 exact ⟨below_set h.below h.lt, (Below.heap_setCell w ⟨pt, 0, none⟩ _ pg n2).trans h.hg, (Below.heap_setCell w ⟨pt, 0, none⟩ _ po n3).trans h.ho, blk_put h.ht 0 _ rfl, h.lg, h.lo, h.lt, Kd.R_set h.ro h.ht (by decide) 0 _, Kd.R_set (Kd.R_take h.rt hm) h.ht (by decide) 0 _⟩
theorem meas_lt (n i : Nat) (h : i < n) : n - (intOf (.int .i64 ((i + 1 : Nat) : Int))).toNat < n - (intOf (.int .i64 (i : Int))).toNat := by
 simp only [intOf]; omega
set_option maxHeartbeats 4000000 in
set_option maxRecDepth 1000000 in
theorem digraph_Reach.calls (k : Nat) (A0 : Option Addr) (c0 : Nat) (l0 : List (List Int)) (A1 : Option Addr) (c1 : Nat) (l1 : List Int) (r : List Bool) (w : World) (hr0 : Kd.C (Kd.slice 3 (Kd.int .i64)) w A0 l0.length l0) (hc0 : l0.length ≤ c0) (hr1 : Kd.C (Kd.int .i64) w A1 l1.length l1) (hc1 : l1.length ≤ c1) (h : digraph_Reach.f k l0 l1 = some r) :
  Calls Tryd.prog 31 #[.slice A0 l0.length c0, .slice A1 l1.length c1] w fun e w' => ∃ v0_ : Value, e = .returned (v0_) ∧ Kd.R Kd.bool 4 w' w.heap.size (fun _ => True) v0_ r ∧ Below w.heap.size w w' := by
 have hv30 := Tryd.underlying30; have HR0 := Aside0.mk hr0; have HC0 := Aside0.mk hc0; have HR1 := Aside0.mk hr1
 unfold digraph_Reach.f at h
 by_cases c1 : l0.length ≤ 140737488355328
 rotate_left
 ·rw [if_neg c1] at h; simp at h
 rw [if_pos c1] at h; have H := Aside0.mk h; clear h hr0 hc0 hr1 hc1
 go_enter Tryd.func31, Tryd.ntmps31
 go_wp2_with (first | ((with_reducible refine gate_dst (N := 2) rfl ?_); refine sq_box 2 #[.slice A0 l0.length c0] 55 ?_; intro pg hpg0 w1 hbox10 hb10; have hpg := Aside0.mk hpg0; have hb1 := Aside0.mk hb10; have hbox1 := Aside0.mk hbox10; clear hpg0 hb10 hbox10; have hz1 : w1.cell? ⟨pg, 0, none⟩ = some (.slice A0 l0.length c0) := tq_q hbox1 0) | ((with_reducible refine gate_dst (N := 15) rfl ?_); refine Kd.R_make Kd.bool _ 4 rfl (N := 15) rfl 53 _ _ rfl (l0.length : Int) rfl rfl Tryd.underlying53 (.bool false) 1 info4 rfl (by decide) (by omega) false (ok := fun _ => True) (okp := fun _ => True) rfl (fun _ hk => hk) trivial (by omega) (by omega) (Below.refl _ _) (Nat.le_refl _) ?_; intro vo w2 ho2 hb2 hg2 hn2; obtain ⟨Ao, co, rfl⟩ := Kd.R_slice ho2; simp only [Int.toNat_natCast, List.length_replicate] at ho2; have HO2 := Aside0.mk ho2; have HB2 := Aside0.mk hb2; clear ho2 hb2 hg2 hn2; have hz2 : w2.cell? ⟨pg, 0, none⟩ = some (.slice A0 l0.length c0) := (blk_cell (blk_below hbox1.out HB2.out) 0).trans rfl) | ((with_reducible refine gate_dst (N := 5) rfl ?_); refine sq_box 5 #[.slice none 0 0] 53 ?_; intro po hpo0 w3 hbox30 hb30; have hpo := Aside0.mk hpo0; have hb3 := Aside0.mk hb30; have hbox3 := Aside0.mk hbox30; clear hpo0 hb30 hbox30; have hz3 : w3.cell? ⟨po, 0, none⟩ = some (.slice none 0 0) := tq_q hbox3 0; have hf3 := blk_frozen hbox3.out 0) | ((with_reducible refine gate_dst (N := 6) rfl ?_); refine sq_box 6 #[.slice none 0 0] 37 ?_; intro pt hpt w5 hbox5 hb5; have HS := Aside0.mk (RS.start hpg.out hbox1.out hb1.out HO2.out HB2.out hpo.out hbox3.out hb3.out hpt hbox5 hb5); clear hpt hbox5 hb5))
 go_loopw [19] (fun n w' => ∃ (i : Nat) (vt : Value) (o : List Bool) (t : List Int), n = .int .i64 i ∧ i ≤ l1.length ∧ Aside0 (RS w w' pg po pt A0 c0 l0 (.slice Ao l0.length co) vt o t) ∧ Aside0 (((rall l0 (l1.drop i) o t).bind fun p => digraph_Reach.l0 k l0 p.1 p.2) = some r)) (fun n _ => l1.length - (intOf n).toNat)
 case atStart => exact ⟨0, _, _, _, rfl, Nat.zero_le _, HS, H⟩
 case round =>
  clear H HS; obtain ⟨i, vt, o, t, rfl, hi, HS1, H1⟩ := hrel
  by_cases hlt : i < l1.length
  ·have h1 := H1.out; rw [List.drop_eq_getElem_cons hlt, rall, Option.bind_assoc] at h1; obtain ⟨⟨o', t'⟩, hv, h2⟩ := Option.bind_eq_some_iff.mp h1; have H2 := Aside0.mk h2; have HV := Aside0.mk hv; clear h1 h2 hv H1; obtain ⟨ad, e1, hx⟩ := Kd.at_int HR1.out (i : Int) (by omega) (by omega); obtain rfl : A1 = some ad := e1; have hrd : rd l1 (i : Int) = l1[i] := by unfold rd; rw [Int.toNat_natCast, List.getD_eq_getElem?_getD, List.getElem?_eq_getElem hlt]; rfl
   rw [hrd, Int.toNat_natCast] at hx; have hxr : wr.cell? (ad.add i) = some (.int .i64 l1[i]) := (HS1.out.below.cell (World.block_lt_of_cell? _ _ hx)).trans hx; clear hx hrd; have d1 : decide ((i : Int) < (l1.length : Int)) = true := decide_eq_true (by omega)
   go_wp2_with (first | ((with_reducible refine gate_calleeV 42 rfl ?_); refine goesC_ _ rfl rfl #[.pointer (some ⟨pg, 0, none⟩), .pointer (some ⟨po, 0, none⟩), .pointer (some ⟨pt, 0, none⟩)] Tryd.func42 (by kernel_rfl) rfl #[.int .i64 l1[i]] #[.int .i64 l1[i], .pointer (some ⟨pg, 0, none⟩), .pointer (some ⟨po, 0, none⟩), .pointer (some ⟨pt, 0, none⟩)] rfl (by (try simp only [List.map_toArray, List.map_cons, List.map_nil]); first | done | rfl) rfl rfl ?_; refine (Reach_lit.calls l1[i] w _ pg po pt A0 c0 l0 (.slice Ao l0.length co) vt o o' t t' HR0.out HC0.out HS1.out HV.out).mono ?_; rintro e w7 ⟨rfl, vt7, hs7⟩; refine ⟨_, rfl, ?_⟩; have HS7 := Aside0.mk hs7; clear hs7))
   have hb1 := HR1.out.2.1; have hw : wrap64 ((i : Int) + 1) = ((i + 1 : Nat) : Int) := by unfold wrap64; omega
   exact ⟨⟨i + 1, vt7, o', t', by rw [hw], by omega, HS7, H2⟩, by rw [hw]; simp [intOf]; omega⟩
  have h1 := H1.out; rw [List.drop_eq_nil_of_le (by omega), rall, Option.bind_some] at h1; have H2 := Aside0.mk h1; clear h1 H1; have d1 : decide ((i : Int) < (l1.length : Int)) = false := decide_eq_false (by omega)
  go_wp2
  go_loopg [] k (fun kq w' => ∃ (vt : Value) (o : List Bool) (t : List Int), Aside0 (digraph_Reach.l0 kq l0 o t = some r) ∧ Aside0 (kq ≤ k) ∧ Aside0 (RS w w' pg po pt A0 c0 l0 (.slice Ao l0.length co) vt o t))
  case atStart => exact ⟨vt, o, t, H2, ⟨Nat.le_refl _⟩, HS1⟩
  case round =>
   clear H2 HS1; obtain ⟨vt2, o2, t2, HA, HK, HS2⟩ := hrel
   cases gk with
   | zero => exact absurd HA.out (by simp [digraph_Reach.l0])
   | succ k1 =>
    have h := HA.out; clear HA; rw [digraph_Reach.l0] at h; obtain ⟨At, ct, rfl, hct, _⟩ := Kd.R_reads HS2.out.rt; have hzt : wr.cell? ⟨pt, 0, none⟩ = some (.slice At t2.length ct) := (blk_cell HS2.out.ht 0).trans rfl
    by_cases c2 : t2.length = 0
    ·rw [if_pos c2] at h; obtain rfl := Option.some.inj h; have hzo : wr.cell? ⟨po, 0, none⟩ = some (.slice Ao l0.length co) := (blk_cell HS2.out.ho 0).trans rfl; have d2 : decide ((0 : Int) < (t2.length : Int)) = false := decide_eq_false (by omega); have d3 : decide ((t2.length : Int) > 0) = false := decide_eq_false (by omega); have d4 : decide (0 < t2.length) = false := decide_eq_false (by omega)
     go_wp2
     go_ret
     exact ⟨_, rfl, HS2.out.ro, HS2.out.below⟩
    rw [if_neg c2] at h; have hlen : t2.length ≤ 9223372036854775807 := by
     obtain ⟨A', c', _, _, hC⟩ := Kd.R_reads HS2.out.rt
     exact hC.2.1
    have hj : wrap64 ((t2.length : Int) - 1) = (t2.length : Int) - 1 := by unfold wrap64; omega
    by_cases c3 : 0 ≤ rd t2 ((t2.length : Int) - 1) ∧ (rd t2 ((t2.length : Int) - 1)).toNat < l0.length
    rotate_left
    ·rw [if_neg c3] at h; simp at h
    rw [if_pos c3] at h; rw [← hj] at h c3; obtain ⟨⟨o3, t3⟩, hv, h2⟩ := Option.bind_eq_some_iff.mp h; have H2 := Aside0.mk h2; have HV := Aside0.mk hv; clear h2 hv h; obtain ⟨gt, cg, e5, _, _, _⟩ := Kd.R_form HS2.out.rt (by omega); obtain ⟨rfl, rfl⟩ : At = some ⟨gt, 0, none⟩ ∧ ct = cg := by injection e5 with e5 _ e6; exact ⟨e5, e6⟩
    clear e5; have j0 : 0 ≤ wrap64 ((t2.length : Int) - 1) := by omega
    have j1 : wrap64 ((t2.length : Int) - 1) < (t2.length : Int) := by omega
    have j2 : (wrap64 ((t2.length : Int) - 1)).toNat = t2.length - 1 := by omega
    have hxj := (Kd.R_cell (0 : Int) HS2.out.rt (wrap64 ((t2.length : Int) - 1)) j0 j1).1; have hxv : wr.cell? ⟨gt, (wrap64 ((t2.length : Int) - 1)).toNat, none⟩ = some (.int .i64 (rd t2 (wrap64 ((t2.length : Int) - 1)))) := hxj; rw [j2] at hxv; clear hxj; obtain ⟨v0, v1⟩ := c3; have hpop := RS.popped HS2.out (t2.length - 1) (by omega); have HP := Aside0.mk hpop; have hzg : (wr.setCell ⟨pt, 0, none⟩ (.slice (some ⟨gt, 0, none⟩) (t2.length - 1) ct)).cell? ⟨pg, 0, none⟩ = some (.slice A0 l0.length c0) := (blk_cell hpop.hg 0).trans rfl; obtain ⟨ag, Bg, cB, e7, hxg, hcB, hCB⟩ := at_rows HR0.out (rd t2 (wrap64 ((t2.length : Int) - 1))).toNat v1; obtain rfl : A0 = some ag := e7; have hxg2 := (hpop.below.cell (World.block_lt_of_cell? _ _ hxg)).trans hxg; have hfp := blk_frozen HS2.out.ht 0
    generalize hvv : rd t2 (wrap64 ((t2.length : Int) - 1)) = v at *
    have hgd : l0.getD v.toNat [] = l0[v.toNat] := by rw [List.getD_eq_getElem?_getD, List.getElem?_eq_getElem v1]; rfl
    rw [hgd] at HV
    generalize hrow : l0[v.toNat] = row at *
    have HCB := Aside0.mk hCB; clear hpop hxg hCB hcB; have d0 : decide ((0 : Int) < (t2.length : Int)) = true := decide_eq_true (by omega); have d1 : decide ((t2.length : Int) > 0) = true := decide_eq_true (by omega); have d2 : decide (0 < t2.length) = true := decide_eq_true (by omega); have f0 : (0 ≤ (t2.length : Int) - 1) = True := eq_true (by omega); have f1 : ((t2.length : Int) - 1 < (t2.length : Int)) = True := eq_true (by omega); have f2 : ((t2.length : Int) - 1 ≤ (ct : Int)) = True := eq_true (by omega); have f3 : (0 ≤ v) = True := eq_true v0; have f4 : (v < (l0.length : Int)) = True := eq_true (by omega); clear j0 j1 v0 d1
    go_wp2
    go_loopw [46] (fun n w' => ∃ (i : Nat) (vt : Value) (o : List Bool) (t : List Int), n = .int .i64 i ∧ i ≤ row.length ∧ Aside0 (RS w w' pg po pt (some ag) c0 l0 (.slice Ao l0.length co) vt o t) ∧ Aside0 (rall l0 (row.drop i) o t = some (o3, t3))) (fun n _ => row.length - (intOf n).toNat)
    case atStart => exact ⟨0, _, _, _, rfl, Nat.zero_le _, HP, HV⟩
    case round =>
     clear HV HP; obtain ⟨i2, vt4, o4, t4, rfl, hi2, HS4, H4⟩ := hrel
     by_cases hlt2 : i2 < row.length
     rotate_left
     ·have h1 := H4.out; rw [List.drop_eq_nil_of_le (by omega), rall] at h1; obtain ⟨rfl, rfl⟩ := Prod.mk.inj (Option.some.inj h1); clear h1 H4; have d1 : decide ((i2 : Int) < (row.length : Int)) = false := decide_eq_false (by omega)
      go_wp2
      go_roundg k1
      case measure => exact Nat.lt_succ_self _
      case rel => exact ⟨vt4, o4, t4, H2, ⟨by have := HK.out; omega⟩, HS4⟩
     have h1 := H4.out; rw [List.drop_eq_getElem_cons hlt2, rall] at h1; obtain ⟨⟨o5, t5⟩, hv, h2⟩ := Option.bind_eq_some_iff.mp h1; have H5 := Aside0.mk h2; have HV := Aside0.mk hv; clear h1 h2 hv H4; obtain ⟨ad, e1, hx⟩ := Kd.at_int HCB.out (i2 : Int) (by omega) (by omega); obtain rfl : Bg = some ad := e1; have hrd : rd row (i2 : Int) = row[i2] := by unfold rd; rw [Int.toNat_natCast, List.getD_eq_getElem?_getD, List.getElem?_eq_getElem hlt2]; rfl
     rw [hrd, Int.toNat_natCast] at hx; have hxr : wr.cell? (ad.add i2) = some (.int .i64 row[i2]) := (HS4.out.below.cell (World.block_lt_of_cell? _ _ hx)).trans hx; clear hx hrd; have d1 : decide ((i2 : Int) < (row.length : Int)) = true := decide_eq_true (by omega)
     go_wp2_with (first | ((with_reducible refine gate_calleeV 42 rfl ?_); refine goesC_ _ rfl rfl #[.pointer (some ⟨pg, 0, none⟩), .pointer (some ⟨po, 0, none⟩), .pointer (some ⟨pt, 0, none⟩)] Tryd.func42 (by kernel_rfl) rfl #[.int .i64 row[i2]] #[.int .i64 row[i2], .pointer (some ⟨pg, 0, none⟩), .pointer (some ⟨po, 0, none⟩), .pointer (some ⟨pt, 0, none⟩)] rfl (by (try simp only [List.map_toArray, List.map_cons, List.map_nil]); first | done | rfl) rfl rfl ?_; refine (Reach_lit.calls row[i2] w _ pg po pt (some ag) c0 l0 (.slice Ao l0.length co) vt4 o4 o5 t4 t5 HR0.out HC0.out HS4.out HV.out).mono ?_; rintro e w7 ⟨rfl, vt7, hs7⟩; refine ⟨_, rfl, ?_⟩; have HS7 := Aside0.mk hs7; clear hs7))
     have hb1 := HCB.out.2.1; have hw : wrap64 ((i2 : Int) + 1) = ((i2 + 1 : Nat) : Int) := by unfold wrap64; omega
     exact ⟨⟨i2 + 1, vt7, o5, t5, by rw [hw], hlt2, HS7, H5⟩, by rw [hw]; exact meas_lt _ _ hlt2⟩
end Go.Proofs.YtcnliampiibpbaaDoor.PAll
