/- Lean functions for the Go functions of this seat, each with the proof that the call returns what the Lean function says; or the row of a law, over such a function. Printed by a program of ours (wip/tools/myprint.py), with hand-written texts where that one cannot. No condition but the ones written. -/
import Derived.Test.YtjhlagpcbaodkaaDoorPSumx0
namespace Go.Proofs.YtjhlagpcbaodkaaDoor.PSum
open Go.RowKit Go.Proofs.YtjhlagpcbaodkaaDoorW.PrintWords Go.Proofs.YtjhlagpcbaodkaaDoorW.PrintLast Go.Proofs.YtjhlagpcbaodkaaDoorW.PrintMore
attribute [local go_sem] max2_int min2_int max_two min_two max_three min_three max_four min_four   -- for this text's walks alone
set_option linter.unusedVariables false
set_option linter.unusedSimpArgs false

/-- What a listed package-level variable holds: strconv's table of powers of ten. -/
structure LaidW (w : World) : Prop where
  low : 0 < w.heap.size
  tab : Lib.TabIs Tryd.prog w "internal/strconv.uint64pow10" .u64 Lib.pow10Tab
theorem laid_g0 : Tryd.prog.globalNamed "internal/strconv.uint64pow10" = some 0 := by kernel_rfl
theorem LaidW.below {w W : World} (h : LaidW w) (hb : Below w.heap.size w W) : LaidW W := by
  have hs := hb.size
  have hl := h.low
  exact ⟨by omega, var?_below hb laid_g0 (by omega) h.tab⟩

/-! ### colorset_Shift: function 18 -/
def colorset_Shift.f (a0_0 : ByteArray) (l0_1 : List ByteArray) (a1 : Int) (a2 : Int) : Option (Int) := if a1 < 0 then (some (-1)) else (if a1 ≥ (l0_1.length : Int) then (some (-1)) else (if (l0_1.length : Int) = 0 then (none) else (some (Int.tmod (wrap64 ((Int.tmod (wrap64 (a1 + (Int.tmod a2 (l0_1.length : Int)))) (l0_1.length : Int)) + (l0_1.length : Int))) (l0_1.length : Int)))))
set_option maxHeartbeats 8000000 in
set_option maxRecDepth 100000 in
theorem colorset_Shift.calls (a0_0 : ByteArray) (A0_1 : Option Addr) (c0_1 : Nat) (l0_1 : List ByteArray) (a1 : Int) (a2 : Int) (r : Int) (w : World) (hr0_1 : Kd.C Kd.string w A0_1 l0_1.length l0_1) (hc0_1 : l0_1.length ≤ c0_1) (h : colorset_Shift.f a0_0 l0_1 a1 a2 = some r) :
    Calls Tryd.prog 18 #[.agg #[.string a0_0, .slice A0_1 l0_1.length c0_1], .int .i64 a1, .int .i64 a2] w fun e w' => e = .returned (.int .i64 r) ∧ Below w.heap.size w w' := by
  have hu26 := Tryd.underlying26
  have HR0_1 := Aside0.mk hr0_1
  have HC0_1 := Aside0.mk hc0_1
  clear hr0_1 hc0_1
  have HB := Aside0.mk (Below.refl w.heap.size w)
  have H : (if a1 < 0 then (some (-1)) else (if a1 ≥ (l0_1.length : Int) then (some (-1)) else (if (l0_1.length : Int) = 0 then (none) else (some (Int.tmod (wrap64 ((Int.tmod (wrap64 (a1 + (Int.tmod a2 (l0_1.length : Int)))) (l0_1.length : Int)) + (l0_1.length : Int))) (l0_1.length : Int)))))) = some r := h
  clear h
  by_cases c4 : a1 < 0
  · rw [if_pos c4] at H
    have c4b0 : decide (a1 < 0) = true := decide_eq_true c4
    clear c4
    obtain rfl := Option.some.inj H
    go_enter Tryd.func18, Tryd.ntmps18
    go_wp2_with (first | ((with_reducible refine gate_dst (N := 3) rfl ?_); refine box_event ?hg (N := 3) ?hd (cs := #[.string a0_0, .slice A0_1 l0_1.length c0_1]) (t := 26) ?hr ?_; (case hd => rfl); (case hg => rfl); (case hr => first | (go_simp; done) | (go_simp; rfl)); intro gb101 hg w5 hbox hb; have n0_ := Aside0.mk (below_step (by repeat (first | (with_reducible first | exact HB.out | apply below_alloc | apply pw_below_drewN | apply below_drew1) | exact HB.out)) hb); have n1_ := Aside0.mk (hbox); have n2_ := Aside0.mk ((by rw [hg]; exact (below_size (by repeat (first | (with_reducible first | exact HB.out | apply below_alloc | apply pw_below_drewN | apply below_drew1) | exact HB.out))) : w.heap.size ≤ gb101)); have n3_ := Aside0.mk ((by rw [hg]; exact (below_size (by repeat (first | (with_reducible first | exact HB.out | apply below_alloc | apply pw_below_drewN | apply below_drew1) | exact HB.out))) : w.heap.size ≤ gb101)); clear HB; have HB := n0_; have BK101 := n1_; have GW101 := n2_; have GE101 := n3_; clear n0_ n1_ n2_ n3_; clear hb hbox hg; have hcz6_0 : w5.cell? ⟨gb101, 0, none⟩ = some (.string a0_0) := (blk_cell BK101.out 0).trans rfl; have hcz6_1 : w5.cell? ⟨gb101, 1, none⟩ = some (.slice A0_1 l0_1.length c0_1) := (blk_cell BK101.out 1).trans rfl; have hfz6_0 := blk_frozen BK101.out 0; have hfz6_1 := blk_frozen BK101.out 1))
    go_ret
    exact ⟨by first | rfl | (simp [errW_none, errW_some] <;> rfl) | (simp [*, errW_none, errW_some] <;> rfl), by repeat (first | (with_reducible first | exact HB.out | apply below_alloc | apply pw_below_drewN | apply below_drew1 | refine below_set ?_ GE101.out) | exact HB.out)⟩
  · rw [if_neg c4] at H
    have c4b0 : decide (a1 < 0) = false := decide_eq_false c4
    clear c4
    by_cases c7 : a1 ≥ (l0_1.length : Int)
    · rw [if_pos c7] at H
      have c7b0 : decide ((l0_1.length : Int) ≤ a1) = true := decide_eq_true c7
      clear c7
      obtain rfl := Option.some.inj H
      go_enter Tryd.func18, Tryd.ntmps18
      go_wp2_with (first | ((with_reducible refine gate_dst (N := 3) rfl ?_); refine box_event ?hg (N := 3) ?hd (cs := #[.string a0_0, .slice A0_1 l0_1.length c0_1]) (t := 26) ?hr ?_; (case hd => rfl); (case hg => rfl); (case hr => first | (go_simp; done) | (go_simp; rfl)); intro gb101 hg w8 hbox hb; have n0_ := Aside0.mk (below_step (by repeat (first | (with_reducible first | exact HB.out | apply below_alloc | apply pw_below_drewN | apply below_drew1) | exact HB.out)) hb); have n1_ := Aside0.mk (hbox); have n2_ := Aside0.mk ((by rw [hg]; exact (below_size (by repeat (first | (with_reducible first | exact HB.out | apply below_alloc | apply pw_below_drewN | apply below_drew1) | exact HB.out))) : w.heap.size ≤ gb101)); have n3_ := Aside0.mk ((by rw [hg]; exact (below_size (by repeat (first | (with_reducible first | exact HB.out | apply below_alloc | apply pw_below_drewN | apply below_drew1) | exact HB.out))) : w.heap.size ≤ gb101)); clear HB; have HB := n0_; have BK101 := n1_; have GW101 := n2_; have GE101 := n3_; clear n0_ n1_ n2_ n3_; clear hb hbox hg; have hcz9_0 : w8.cell? ⟨gb101, 0, none⟩ = some (.string a0_0) := (blk_cell BK101.out 0).trans rfl; have hcz9_1 : w8.cell? ⟨gb101, 1, none⟩ = some (.slice A0_1 l0_1.length c0_1) := (blk_cell BK101.out 1).trans rfl; have hfz9_0 := blk_frozen BK101.out 0; have hfz9_1 := blk_frozen BK101.out 1))
      go_ret
      exact ⟨by first | rfl | (simp [errW_none, errW_some] <;> rfl) | (simp [*, errW_none, errW_some] <;> rfl), by repeat (first | (with_reducible first | exact HB.out | apply below_alloc | apply pw_below_drewN | apply below_drew1 | refine below_set ?_ GE101.out) | exact HB.out)⟩
    · rw [if_neg c7] at H
      have c7b0 : decide ((l0_1.length : Int) ≤ a1) = false := decide_eq_false c7
      clear c7
      by_cases c10 : (l0_1.length : Int) = 0
      · rw [if_pos c10] at H
        exact absurd H (by simp)
      · rw [if_neg c10] at H
        have c10b0 : ((l0_1.length : Int) == 0) = false := beq_eq_false_iff_ne.mpr c10
        have c10b1 : ((l0_1.length : Int) != 0) = true := bne_iff_ne.mpr c10
        have c10b2 : ¬ (l0_1 = []) := fun h_ => c10 (by rw [h_]; rfl)
        obtain rfl := Option.some.inj H
        go_enter Tryd.func18, Tryd.ntmps18
        go_wp2_with (first | ((with_reducible refine gate_dst (N := 3) rfl ?_); refine box_event ?hg (N := 3) ?hd (cs := #[.string a0_0, .slice A0_1 l0_1.length c0_1]) (t := 26) ?hr ?_; (case hd => rfl); (case hg => rfl); (case hr => first | (go_simp; done) | (go_simp; rfl)); intro gb101 hg w11 hbox hb; have n0_ := Aside0.mk (below_step (by repeat (first | (with_reducible first | exact HB.out | apply below_alloc | apply pw_below_drewN | apply below_drew1) | exact HB.out)) hb); have n1_ := Aside0.mk (hbox); have n2_ := Aside0.mk ((by rw [hg]; exact (below_size (by repeat (first | (with_reducible first | exact HB.out | apply below_alloc | apply pw_below_drewN | apply below_drew1) | exact HB.out))) : w.heap.size ≤ gb101)); have n3_ := Aside0.mk ((by rw [hg]; exact (below_size (by repeat (first | (with_reducible first | exact HB.out | apply below_alloc | apply pw_below_drewN | apply below_drew1) | exact HB.out))) : w.heap.size ≤ gb101)); clear HB; have HB := n0_; have BK101 := n1_; have GW101 := n2_; have GE101 := n3_; clear n0_ n1_ n2_ n3_; clear hb hbox hg; have hcz12_0 : w11.cell? ⟨gb101, 0, none⟩ = some (.string a0_0) := (blk_cell BK101.out 0).trans rfl; have hcz12_1 : w11.cell? ⟨gb101, 1, none⟩ = some (.slice A0_1 l0_1.length c0_1) := (blk_cell BK101.out 1).trans rfl; have hfz12_0 := blk_frozen BK101.out 0; have hfz12_1 := blk_frozen BK101.out 1))
        go_ret
        exact ⟨by first | rfl | (simp [errW_none, errW_some] <;> rfl) | (simp [*, errW_none, errW_some] <;> rfl), by repeat (first | (with_reducible first | exact HB.out | apply below_alloc | apply pw_below_drewN | apply below_drew1 | refine below_set ?_ GE101.out) | exact HB.out)⟩

/-! ### colorset_Name: function 10 -/
/-- May the byte stand at a place of a name: a small letter or '_' anywhere; a digit or '.' behind the first. -/
def nmByte (c i : Nat) : Bool := (decide (97 ≤ c ∧ c ≤ 122) || decide (c = 95)) || (decide (i ≠ 0) && (decide (48 ≤ c ∧ c ≤ 57) || decide (c = 46)))
def nmFrom (s : ByteArray) : Nat → Nat → Bool
  | 0, _ => true
  | n + 1, pos => if h : pos < s.size then (nmByte (s[pos]'h).toNat pos && nmFrom s n (pos + 1)) else true
def colorset_Name.f (a0 : ByteArray) : Option Bool := some (decide (1 ≤ a0.size ∧ a0.size ≤ 16) && nmFrom a0 a0.size 0)
theorem nm_round (s : ByteArray) (pos : Nat) (hp : pos < s.size) : ∃ c d : Nat, Utf8.decode s pos = (c, d) ∧
    (nmByte c pos = true → d = 1 ∧ nmFrom s (s.size - pos) pos = nmFrom s (s.size - (pos + 1)) (pos + 1)) ∧ (nmByte c pos = false → nmFrom s (s.size - pos) pos = false) := by
  have e : s.size - pos = (s.size - (pos + 1)) + 1 := by omega
  by_cases ha : (s[pos]'hp).toNat < 128
  · refine ⟨(s[pos]'hp).toNat, 1, decode_ascii s pos hp ha, fun h => ⟨rfl, ?_⟩, fun h => ?_⟩
    · rw [e, nmFrom, dif_pos hp, h, Bool.true_and]
    · rw [e, nmFrom, dif_pos hp, h, Bool.false_and]
  · have hd := decode_high s pos hp (by omega)
    refine ⟨(Utf8.decode s pos).1, (Utf8.decode s pos).2, rfl, fun h => ?_, fun _ => ?_⟩
    · unfold nmByte at h; simp at h; omega
    · have hb : nmByte (s[pos]'hp).toNat pos = false := by unfold nmByte; simp; omega
      rw [e, nmFrom, dif_pos hp, hb, Bool.false_and]
set_option maxHeartbeats 4000000 in
set_option maxRecDepth 1000000 in
theorem colorset_Name.calls (a0 : ByteArray) (r : Bool) (w : World) (h : colorset_Name.f a0 = some r) :
    Calls Tryd.prog 10 #[.string a0] w fun e w' => e = .returned (.bool r) ∧ Below w.heap.size w w' := by
  obtain rfl := Option.some.inj h
  clear h
  go_enter Tryd.func10, Tryd.ntmps10
  by_cases h1 : 1 ≤ a0.size ∧ a0.size ≤ 16
  · have t1 : ((a0.size : Int) < 1) = False := by simp; omega
    have t2 : ((a0.size : Int) > 16) = False := by simp; omega
    go_wp2
    go_loopw [2] (fun n w' => ∃ pos : Nat, n = .bool false ∧ w' = w.iter a0 pos ∧ pos ≤ a0.size ∧ nmFrom a0 (a0.size - pos) pos = nmFrom a0 a0.size 0) (fun _ w' => a0.size - w'.iterPos w.heap.size)
    case atStart => exact ⟨0, rfl, rfl, by omega, rfl⟩
    case round =>
      obtain ⟨pos, rfl, rfl, hle, hc⟩ := hrel
      by_cases hp : pos < a0.size
      · obtain ⟨c, d, hdec, hK1, hK2⟩ := nm_round a0 pos hp
        have hnx : ∀ ty, (Instr.next (.pointer (some ⟨w.heap.size, 0, none⟩)) true ty).run Tryd.prog (w.iter a0 pos) = .ok (.tuple #[.bool true, .int .i64 pos, .int .i32 c]) (w.iter a0 (pos + d)) := fun ty => by
          rw [run_next_any w a0 pos ty hp, hdec]
        clear hdec
        go_wp2
        all_goals first
          | (have hb : nmByte c pos = true := by (clear hK1 hK2 hc hnx t1 t2; unfold nmByte; first | (simp_all; done) | (simp_all; omega) | grind)
             obtain ⟨rfl, hk⟩ := hK1 hb
             refine ⟨⟨pos + 1, rfl, ?_, by omega, by rw [← hc, hk]⟩, ?_⟩
             · first | rfl | (congr 1; omega)
             · simp; omega)
          | (have hb : nmByte c pos = false := by (clear hK1 hK2 hc hnx t1 t2; unfold nmByte; first | (simp_all; done) | (simp_all; omega) | grind)
             go_ret
             have hf := hK2 hb
             rw [hc] at hf
             rw [hf]
             exact ⟨by simp, below_alloc (Below.refl _ _) _⟩)
      · have hnx : ∀ ty, (Instr.next (.pointer (some ⟨w.heap.size, 0, none⟩)) true ty).run Tryd.prog (w.iter a0 pos) = _ := fun ty => run_next_end w a0 pos ty hp
        go_wp2
        go_ret
        have e : pos = a0.size := by omega
        subst e
        rw [← hc, Nat.sub_self]
        exact ⟨by simp [nmFrom, h1], below_alloc (Below.refl _ _) _⟩
  · by_cases h2 : a0.size < 1
    · have t1 : ((a0.size : Int) < 1) = True := by simp; omega
      go_wp2
      go_ret
      exact ⟨by rw [decide_eq_false h1]; rfl, Below.refl _ _⟩
    · have t1 : ((a0.size : Int) < 1) = False := by simp; omega
      have t2 : ((a0.size : Int) > 16) = True := by simp; omega
      go_wp2
      go_ret
      exact ⟨by rw [decide_eq_false h1]; rfl, Below.refl _ _⟩


/-! ### colorset_Check: function 14 -/
def nmB (s : ByteArray) : Bool := decide (1 ≤ s.size ∧ s.size ≤ 16) && nmFrom s s.size 0
/-- From value i on: a value that is no name, one that was there before. -/
def ckFrom (ss : List ByteArray) : Nat → Nat → Int
  | 0, _ => 0
  | n + 1, i => if nmB (ss.getD i ByteArray.empty) = true then (if (ss.take i).any (fun t => decide (t.data.toList = (ss.getD i ByteArray.empty).data.toList)) = true then 6 else ckFrom ss n (i + 1)) else 5
def colorset_Check.f (a0_0 : ByteArray) (l0_1 : List ByteArray) : Option Int := some (if nmB a0_0 = true then (if l0_1.length < 1 then 2 else if l0_1.length > 12 then 2 else ckFrom l0_1 l0_1.length 0) else 5)
def ckKey (s : ByteArray) : Lit := .string s.data.toList
def ckMap (ss : List ByteArray) : Nat → DataW Unit
  | 0 => .map []
  | k + 1 => (ckMap ss k).put (ckKey (ss.getD k ByteArray.empty)) (.lit (.int .i64 k))
theorem ckMap_is (ss : List ByteArray) : ∀ k, Go.Maps.IsMap (ckMap ss k)
  | 0 => Go.Maps.isMap_empty
  | k + 1 => (ckMap_is ss k).put _ _
theorem ckMap_has (ss : List ByteArray) (s : ByteArray) : ∀ k, k ≤ ss.length → Maps.has (ckMap ss k) (ckKey s) = (ss.take k).any (fun t => decide (t.data.toList = s.data.toList))
  | 0, _ => by simp [ckMap, Maps.has]
  | k + 1, h => by
    have ih := ckMap_has ss s k (by omega)
    have hg : ss.getD k ByteArray.empty = ss[k]'(by omega) := by rw [List.getD_eq_getElem?_getD, List.getElem?_eq_getElem (by omega)]; rfl
    rw [ckMap, List.take_succ_eq_append_getElem (by omega), List.any_append, hg]
    by_cases e : (ss[k]'(by omega)).data.toList = s.data.toList
    · have h2 : ckKey (ss[k]'(by omega)) = ckKey s := by unfold ckKey; rw [e]
      have hk : WideAt.IsKeyLit (ckKey s) := by unfold ckKey WideAt.IsKeyLit; trivial
      rw [h2, Go.Maps.has_put_same (ckMap_is ss k) hk, List.any_cons, decide_eq_true e, Bool.true_or, Bool.or_true]
    · rw [Go.Maps.has_put_other (by unfold ckKey; intro g; injection g with g; exact e g.symm), ih, List.any_cons, decide_eq_false e, List.any_nil, Bool.or_false, Bool.or_false]
theorem ckLaw : Go.Maps.Keyed Tryd.prog 9 := Go.Maps.string_keyed Tryd.underlying9
theorem ckZero (w : World) : (zeroValue 3).run Tryd.prog w = .ok (.int .i64 0) w := by kernel_rfl
theorem grown_of_below {w w' : World} (h : Below w.heap.size w w') (row : Option Nat) : w.grownBy w' row := ⟨h.os, h.tape, h.output, h.size, fun k hk _ => h.block k hk⟩
set_option maxHeartbeats 4000000 in
set_option maxRecDepth 1000000 in
theorem colorset_Check.calls (a0_0 : ByteArray) (A0_1 : Option Addr) (c0_1 : Nat) (l0_1 : List ByteArray) (r : Int) (w : World) (hr0_1 : Kd.C Kd.string w A0_1 l0_1.length l0_1) (hc0_1 : l0_1.length ≤ c0_1) (h : colorset_Check.f a0_0 l0_1 = some r) :
    Calls Tryd.prog 14 #[.agg #[.string a0_0, .slice A0_1 l0_1.length c0_1]] w fun e w' => e = .returned (.int .i64 r) ∧ Below w.heap.size w w' := by
  have HR := Aside0.mk (Option.some.inj h)
  clear h
  have hmm := @run_makeMap Tryd.prog
  have hu := Tryd.underlying26
  cases hn : nmB a0_0 with
  | false =>
    go_enter Tryd.func14, Tryd.ntmps14
    go_wp2_with (first | ((with_reducible refine gate_callee (f := 10) rfl ?_); refine goesL_ _ rfl rfl Tryd.func10 (by kernel_rfl) rfl #[.string a0_0] rfl (by (try simp only [List.map_toArray, List.map_cons, List.map_nil]); first | done | rfl) ?_; refine (colorset_Name.calls a0_0 false _ (congrArg some hn)).mono ?_; rintro e w7 ⟨rfl, hb7⟩; refine ⟨_, rfl, ?_⟩))
    go_ret
    have hr := HR.out
    rw [hn, if_neg (by simp)] at hr
    exact ⟨by rw [← hr]; rfl, below_step (below_alloc (Below.refl _ _) _) hb7⟩
  | true =>
    replace HR := Aside0.mk ((by have hr := HR.out; rw [hn, if_pos rfl] at hr; exact hr : (if l0_1.length < 1 then 2 else if l0_1.length > 12 then 2 else ckFrom l0_1 l0_1.length 0) = r))
    have hx0 : (w.alloc (.cells #[.string a0_0, .slice A0_1 l0_1.length c0_1] 26)).cell? ⟨w.heap.size, 1, none⟩ = some (.slice A0_1 l0_1.length c0_1) := by
      have e : (w.alloc (.cells #[.string a0_0, .slice A0_1 l0_1.length c0_1] 26)).heap[w.heap.size]? = some (.cells #[.string a0_0, .slice A0_1 l0_1.length c0_1] 26) := by
        show (w.heap.push _)[w.heap.size]? = _
        rw [Array.getElem?_push_size]
      unfold World.cell?
      rw [e]; rfl
    by_cases h12 : 1 ≤ l0_1.length ∧ l0_1.length ≤ 12
    rotate_left
    · by_cases h1 : l0_1.length < 1
      · have t1 : ((l0_1.length : Int) < 1) = True := by simp; omega
        go_enter Tryd.func14, Tryd.ntmps14
        go_wp2_with (first | ((with_reducible refine gate_callee (f := 10) rfl ?_); refine goesL_ _ rfl rfl Tryd.func10 (by kernel_rfl) rfl #[.string a0_0] rfl (by (try simp only [List.map_toArray, List.map_cons, List.map_nil]); first | done | rfl) ?_; refine (colorset_Name.calls a0_0 true _ (congrArg some hn)).mono ?_; rintro e w7 ⟨rfl, hb7⟩; refine ⟨_, rfl, ?_⟩; have hbx : w7.cell? ⟨w.heap.size, 1, none⟩ = some (.slice A0_1 l0_1.length c0_1) := (hb7.cell (World.block_lt_of_cell? _ _ hx0)).trans hx0))
        go_ret
        exact ⟨by have hr := HR.out; rw [if_pos h1] at hr; rw [← hr]; rfl, below_step (below_alloc (Below.refl _ _) _) hb7⟩
      · have t1 : ((l0_1.length : Int) < 1) = False := by simp; omega
        have t2 : ((l0_1.length : Int) > 12) = True := by simp; omega
        go_enter Tryd.func14, Tryd.ntmps14
        go_wp2_with (first | ((with_reducible refine gate_callee (f := 10) rfl ?_); refine goesL_ _ rfl rfl Tryd.func10 (by kernel_rfl) rfl #[.string a0_0] rfl (by (try simp only [List.map_toArray, List.map_cons, List.map_nil]); first | done | rfl) ?_; refine (colorset_Name.calls a0_0 true _ (congrArg some hn)).mono ?_; rintro e w7 ⟨rfl, hb7⟩; refine ⟨_, rfl, ?_⟩; have hbx : w7.cell? ⟨w.heap.size, 1, none⟩ = some (.slice A0_1 l0_1.length c0_1) := (hb7.cell (World.block_lt_of_cell? _ _ hx0)).trans hx0))
        go_ret
        exact ⟨by have hr := HR.out; rw [if_neg h1, if_pos (by omega)] at hr; rw [← hr]; rfl, below_step (below_alloc (Below.refl _ _) _) hb7⟩
    have t1 : ((l0_1.length : Int) < 1) = False := by simp; omega
    have t2 : ((l0_1.length : Int) > 12) = False := by simp; omega
    replace HR := Aside0.mk ((by have hr := HR.out; rw [if_neg (by omega), if_neg (by omega)] at hr; exact hr : ckFrom l0_1 l0_1.length 0 = r))
    obtain ⟨ad, rfl, _⟩ := Kd.at_string hr0_1 0 (by omega) (by omega)
    have hcell : ∀ k : Nat, k < l0_1.length → w.cell? (ad.add k) = some (.string (l0_1.getD k ByteArray.empty)) := fun k hk => by
      obtain ⟨ad', e, hx⟩ := Kd.at_string hr0_1 (k : Int) (by omega) (by omega)
      cases e
      simpa [rdOf] using hx
    clear hr0_1
    go_enter Tryd.func14, Tryd.ntmps14
    go_wp2_with (first | ((with_reducible refine gate_callee (f := 10) rfl ?_); refine goesL_ _ rfl rfl Tryd.func10 (by kernel_rfl) rfl #[.string a0_0] rfl (by (try simp only [List.map_toArray, List.map_cons, List.map_nil]); first | done | rfl) ?_; refine (colorset_Name.calls a0_0 true _ (congrArg some hn)).mono ?_; rintro e w7 ⟨rfl, hb7⟩; refine ⟨_, rfl, ?_⟩; have hbx : w7.cell? ⟨w.heap.size, 1, none⟩ = some (.slice (some ad) l0_1.length c0_1) := (hb7.cell (World.block_lt_of_cell? _ _ hx0)).trans hx0; have hbm : Below w7.heap.size w7 (w7.alloc (.map #[] 0)) := below_alloc (Below.refl _ _) _; have hbx2 := (hbm.cell (World.block_lt_of_cell? _ _ hbx)).trans hbx))
    have hb0 : Below w.heap.size w w7 := below_step (below_alloc (Below.refl _ _) _) hb7
    go_loopw [26] (fun i wr => ∃ k : Nat, k ≤ l0_1.length ∧ i = .int .i64 k ∧ wr.ownsMap Tryd.prog 9 (plainElem (H := Unit) Tryd.prog 3) w7.heap.size k (ckMap l0_1 k) ∧ Below w7.heap.size w7 wr ∧ Aside0 (ckFrom l0_1 (l0_1.length - k) k = r)) (fun i _ => l0_1.length - (intOf i).toNat)
    case atStart => exact ⟨0, Nat.zero_le _, rfl, World.ownsMap_made _ _ _ _, hbm, HR⟩
    case round =>
      obtain ⟨k, hk, rfl, hown, hnx, HS⟩ := hrel
      clear HR
      by_cases hlt : k < l0_1.length
      · have esub : l0_1.length - k = (l0_1.length - (k + 1)) + 1 := by omega
        have hres := HS.out
        clear HS
        rw [esub, ckFrom] at hres
        clear esub
        have hcx0 : wr.cell? (ad.add k) = some (.string (l0_1.getD k ByteArray.empty)) := by
          have c1 := hcell k hlt
          have c2 := (hb0.cell (World.block_lt_of_cell? _ _ c1)).trans c1
          exact (hnx.cell (World.block_lt_of_cell? _ _ c2)).trans c2
        have hhas := ckMap_has l0_1 (l0_1.getD k ByteArray.empty) k (by omega)
        have hmap : ckMap l0_1 (k + 1) = (ckMap l0_1 k).put (ckKey (l0_1.getD k ByteArray.empty)) (.lit (.int .i64 k)) := rfl
        generalize l0_1.getD k ByteArray.empty = s at *
        have hwr : Below w.heap.size w wr := below_step hb0 hnx
        cases hns : nmB s with
        | false =>
          rw [hns, if_neg (by simp)] at hres
          have HS := Aside0.mk hres
          clear hres hhas hmap
          go_wp2_with (first | ((with_reducible refine gate_callee (f := 10) rfl ?_); refine goesL_ _ rfl rfl Tryd.func10 (by kernel_rfl) rfl #[.string s] rfl (by (try simp only [List.map_toArray, List.map_cons, List.map_nil]); first | done | rfl) ?_; refine (colorset_Name.calls s false _ (congrArg some hns)).mono ?_; rintro e w8 ⟨rfl, hb8⟩; refine ⟨_, rfl, ?_⟩))
          go_ret
          exact ⟨by rw [← HS.out]; rfl, below_step hwr hb8⟩
        | true =>
          have hlen : s.size ≤ maxLen := by
            unfold nmB at hns; rw [Bool.and_eq_true, decide_eq_true_iff] at hns; unfold maxLen; omega
          have hkey := Go.WideMaps.keyOf_string_mk (P := Tryd.prog) Tryd.underlying9 hlen
          rw [hns, if_pos rfl, ← hhas] at hres
          have HS := Aside0.mk hres
          clear hres hhas
          go_wp2_with (first
            | ((with_reducible refine gate_callee (f := 10) rfl ?_); refine goesL_ _ rfl rfl Tryd.func10 (by kernel_rfl) rfl #[.string s] rfl (by (try simp only [List.map_toArray, List.map_cons, List.map_nil]); first | done | rfl) ?_; refine (colorset_Name.calls s true _ (congrArg some hns)).mono ?_; rintro e w8 ⟨rfl, hb8⟩; refine ⟨_, rfl, ?_⟩; have hown8 := hown.kept (grown_of_below hb8 none) (by simp))
            | (at_lookup; refine wpList_lookup_own_ok_int _ rfl _ _ 45 rfl 9 3 .i64 ckLaw Tryd.underlying45 Tryd.underlying3 (ckZero _) w7.heap.size k _ rfl hown8 _ _ rfl hkey ?_; intro c9 hat9 hwc9)
            | (at_mapUpdate; refine wpList_mapUpdate_own _ rfl _ _ _ 45 rfl 9 3 ckLaw Tryd.underlying45 _ w7.heap.size k _ rfl hown8 (by unfold maxLen; omega) _ _ _ rfl rfl hkey _ [] (plainElem_int Tryd.underlying3 (WalkArith.wf_i64 (by omega))) ?_; intro w9 hown9 hgrow9))
          · have hq : Maps.has (ckMap l0_1 k) (Lit.string s.data.toList) = true := by assumption
            have hr := HS.out
            rw [show ckKey s = Lit.string s.data.toList from rfl, if_pos hq] at hr
            go_ret
            exact ⟨by rw [← hr]; rfl, below_step hwr hb8⟩
          · have hq : Maps.has (ckMap l0_1 k) (Lit.string s.data.toList) = false := by assumption
            have hr := HS.out
            rw [show ckKey s = Lit.string s.data.toList from rfl, if_neg (by rw [hq]; simp)] at hr
            have B8 := below_step hnx hb8
            refine ⟨⟨k + 1, by omega, by go_num, by rw [hmap]; exact hown9, B8.grown hgrow9 B8.size (fun j hj => by cases hj; exact Nat.le_refl _), ⟨hr⟩⟩, by simp [intOf]; omega⟩
      · obtain rfl : k = l0_1.length := by omega
        go_wp2
        go_ret
        have hres := HS.out
        rw [Nat.sub_self, ckFrom] at hres
        exact ⟨by rw [← hres]; rfl, below_step hb0 hnx⟩


/-! ### colorset_valid: function 33 -/
mutual
def colorset_valid.l0 : Nat → List (List Int) → Int → Int → Option (Bool)
  | 0, _, _, _ => none
  | k + 1, x7, x8, x9 => if x9 < x8 then (if 0 ≤ x9 then (if x9 < (x7.length : Int) then (colorset_valid.l1 k x7 x8 x9 (rd_L5 x7 x9) ((rd_L5 x7 x9).length : Int) 0) else (none)) else (none)) else (some true)
def colorset_valid.l1 : Nat → List (List Int) → Int → Int → List Int → Int → Int → Option (Bool)
  | 0, _, _, _, _, _, _ => none
  | k + 1, x7, x8, x9, x13, x14, x15 => if x15 < x14 then (if 0 ≤ x15 then (if x15 < (x13.length : Int) then (if (rd x13 x15) < 0 then (some false) else (if (rd x13 x15) > 1048576 then (some false) else (colorset_valid.l1 k x7 x8 x9 x13 x14 (wrap64 (x15 + 1))))) else (none)) else (none)) else (colorset_valid.l0 k x7 x8 (wrap64 (x9 + 1)))
end
def colorset_valid.f (k : Nat) (l0 : List (List Int)) : Option (Bool) := colorset_valid.l0 k l0 (l0.length : Int) 0
theorem colorset_valid.mono_l : ∀ k, (∀ y0 y1 y2, LeO (colorset_valid.l0 k y0 y1 y2) (colorset_valid.l0 (k + 1) y0 y1 y2)) ∧ (∀ y0 y1 y2 y3 y4 y5, LeO (colorset_valid.l1 k y0 y1 y2 y3 y4 y5) (colorset_valid.l1 (k + 1) y0 y1 y2 y3 y4 y5))
  | 0 => ⟨fun _ _ _ r h => by simp [colorset_valid.l0] at h, fun _ _ _ _ _ _ r h => by simp [colorset_valid.l1] at h⟩
  | k + 1 => by
    obtain ⟨ih0, ih1⟩ := colorset_valid.mono_l k
    refine ⟨?_, ?_⟩
    · intro y0 y1 y2
      unfold colorset_valid.l0
      repeat' first
      | (with_reducible exact ih0 _ _ _)
      | (with_reducible exact ih1 _ _ _ _ _ _)
      | (with_reducible exact LeO.refl _)
      | (with_reducible exact LeO.none _)
      | (with_reducible refine LeO.ite ?_ ?_)
      | (with_reducible refine LeO.bind ?_ (fun _ => ?_))
      | exact ih0 _ _ _
      | exact ih1 _ _ _ _ _ _
      | exact LeO.none _
      | refine LeO.ite ?_ ?_
      | refine LeO.bind ?_ (fun _ => ?_)
    · intro y0 y1 y2 y3 y4 y5
      unfold colorset_valid.l1
      repeat' first
      | (with_reducible exact ih0 _ _ _)
      | (with_reducible exact ih1 _ _ _ _ _ _)
      | (with_reducible exact LeO.refl _)
      | (with_reducible exact LeO.none _)
      | (with_reducible refine LeO.ite ?_ ?_)
      | (with_reducible refine LeO.bind ?_ (fun _ => ?_))
      | exact ih0 _ _ _
      | exact ih1 _ _ _ _ _ _
      | exact LeO.none _
      | refine LeO.ite ?_ ?_
      | refine LeO.bind ?_ (fun _ => ?_)
theorem colorset_valid.mono : ∀ a0 k, LeO (colorset_valid.f k a0) (colorset_valid.f (k + 1) a0) := by
  intro a0 k
  obtain ⟨ih0, ih1⟩ := colorset_valid.mono_l k
  unfold colorset_valid.f
  repeat' first
      | (with_reducible exact ih0 _ _ _)
      | (with_reducible exact ih1 _ _ _ _ _ _)
      | (with_reducible exact LeO.refl _)
      | (with_reducible exact LeO.none _)
      | (with_reducible refine LeO.ite ?_ ?_)
      | (with_reducible refine LeO.bind ?_ (fun _ => ?_))
      | exact ih0 _ _ _
      | exact ih1 _ _ _ _ _ _
      | exact LeO.none _
      | refine LeO.ite ?_ ?_
      | refine LeO.bind ?_ (fun _ => ?_)
set_option maxHeartbeats 8000000 in
set_option maxRecDepth 100000 in
theorem colorset_valid.calls (k : Nat) (A0 : Option Addr) (c0 : Nat) (l0 : List (List Int)) (r : Bool) (w : World) (hr0 : Kd.C (Kd.slice 3 (Kd.int .i64)) w A0 l0.length l0) (hc0 : l0.length ≤ c0) (h : colorset_valid.f k l0 = some r) :
    Calls Tryd.prog 33 #[.slice A0 l0.length c0] w fun e w' => e = .returned (.bool r) ∧ Drawn0 w w' := by
  have HR0 := Aside0.mk hr0
  have HC0 := Aside0.mk hc0
  clear hr0 hc0
  have H : (colorset_valid.l0 k l0 (l0.length : Int) 0) = some r := h
  clear h
  have H' := Aside0.mk H
  clear H
  go_enter Tryd.func33, Tryd.ntmps33
  go_wp2
  go_loopg [9] k (fun kq v9 w' => ∃ (x9_1 : Int), v9 = .int .i64 x9_1 ∧ Aside0 (colorset_valid.l0 kq l0 (l0.length : Int) x9_1 = some r) ∧ Aside0 (kq ≤ k) ∧ Drawn0 w w')
  case atStart => exact ⟨(0), (by first | rfl | (simp; done) | (simp [*]; done)), H', ⟨Nat.le_refl _⟩, by repeat (first | exact Drawn0.refl _ | apply Drawn0.step)⟩
  case round =>
    clear H'
    obtain ⟨x9_1, rfl, HA, HK1, ⟨m1, rfl⟩⟩ := hrel
    cases gk with
    | zero => exact absurd HA.out (by simp [colorset_valid.l0])
    | succ k1 =>
      have H := HA.out
      clear HA
      simp only [colorset_valid.l0] at H
      by_cases c2 : x9_1 < (l0.length : Int)
      · rw [if_pos c2] at H
        have c2b0 : decide (x9_1 < (l0.length : Int)) = true := decide_eq_true c2
        clear c2
        by_cases c3 : 0 ≤ x9_1
        · rw [if_pos c3] at H
          have c3b0 : decide (0 ≤ x9_1) = true := decide_eq_true c3
          clear c3
          by_cases c4 : x9_1 < (l0.length : Int)
          · rw [if_pos c4] at H
            have c4b0 : decide (x9_1 < (l0.length : Int)) = true := decide_eq_true c4
            clear c4
            have H' := Aside0.mk H
            clear H
            have p102 : 0 ≤ (x9_1 : Int) := of_decide_eq_true (by first | (with_reducible assumption) | assumption)
            have q102 : x9_1 < (l0.length : Int) := of_decide_eq_true (by first | (with_reducible assumption) | assumption)
            obtain ⟨ad102, A102_0, c102_0, e102, hx102_0, hl102_0, hi102_0⟩ := at_L5 HR0.out x9_1 p102 q102
            cases e102
            have HR102_0 := Aside0.mk hi102_0
            have HC102_0 := Aside0.mk hl102_0
            clear hi102_0 hl102_0
            replace p102 := eq_true p102
            replace q102 := eq_true q102
            go_wp2
            go_loopg [15] k1 (fun kq v15 w' => ∃ (x15_2 : Int), v15 = .int .i64 x15_2 ∧ Aside0 (colorset_valid.l1 kq l0 (l0.length : Int) x9_1 (rd_L5 l0 x9_1) ((rd_L5 l0 x9_1).length : Int) x15_2 = some r) ∧ Aside0 (kq ≤ k1) ∧ Drawn0 w w')
            case atStart => exact ⟨(0), (by first | rfl | (simp; done) | (simp [*]; done)), H', ⟨Nat.le_refl _⟩, by repeat (first | exact Drawn0.refl _ | apply Drawn0.step)⟩
            case round =>
              clear H'
              try clear c1
              try clear p1
              try clear q1
              try clear hx1
              try clear c2
              try clear c2b0
              try clear p2
              try clear c3
              try clear c3b0
              try clear c4
              try clear c4b0
              try clear hx102_0
              try clear p102
              try clear q102
              obtain ⟨x15_2, rfl, HA, HK2, ⟨m2, rfl⟩⟩ := hrel
              cases gk with
              | zero => exact absurd HA.out (by simp [colorset_valid.l1])
              | succ k2 =>
                have H := HA.out
                clear HA
                simp only [colorset_valid.l1] at H
                by_cases c5 : x15_2 < ((rd_L5 l0 x9_1).length : Int)
                · rw [if_pos c5] at H
                  have c5b0 : decide (x15_2 < ((rd_L5 l0 x9_1).length : Int)) = true := decide_eq_true c5
                  clear c5
                  by_cases c6 : 0 ≤ x15_2
                  · rw [if_pos c6] at H
                    have c6b0 : decide (0 ≤ x15_2) = true := decide_eq_true c6
                    clear c6
                    by_cases c7 : x15_2 < ((rd_L5 l0 x9_1).length : Int)
                    · rw [if_pos c7] at H
                      have c7b0 : decide (x15_2 < ((rd_L5 l0 x9_1).length : Int)) = true := decide_eq_true c7
                      clear c7
                      by_cases c8 : (rd (rd_L5 l0 x9_1) x15_2) < 0
                      · rw [if_pos c8] at H
                        have c8b0 : decide ((rd (rd_L5 l0 x9_1) x15_2) < 0) = true := decide_eq_true c8
                        clear c8
                        obtain rfl := Option.some.inj H
                        have p103 : 0 ≤ (x15_2 : Int) := of_decide_eq_true (by first | (with_reducible assumption) | assumption)
                        have q103 : x15_2 < ((rd_L5 l0 x9_1).length : Int) := of_decide_eq_true (by first | (with_reducible assumption) | assumption)
                        obtain ⟨ad103, e103, hx103_0⟩ := Kd.at_int HR102_0.out x15_2 p103 q103
                        cases e103
                        replace p103 := eq_true p103
                        replace q103 := eq_true q103
                        go_wp2
                        go_ret
                        exact ⟨by first | rfl | (simp; done) | (simp [*]; done), by repeat (first | exact Drawn0.refl _ | apply Drawn0.step)⟩
                      · rw [if_neg c8] at H
                        have c8b0 : decide ((rd (rd_L5 l0 x9_1) x15_2) < 0) = false := decide_eq_false c8
                        clear c8
                        by_cases c9 : (rd (rd_L5 l0 x9_1) x15_2) > 1048576
                        · rw [if_pos c9] at H
                          have c9b0 : decide (1048576 < (rd (rd_L5 l0 x9_1) x15_2)) = true := decide_eq_true c9
                          clear c9
                          obtain rfl := Option.some.inj H
                          have p103 : 0 ≤ (x15_2 : Int) := of_decide_eq_true (by first | (with_reducible assumption) | assumption)
                          have q103 : x15_2 < ((rd_L5 l0 x9_1).length : Int) := of_decide_eq_true (by first | (with_reducible assumption) | assumption)
                          obtain ⟨ad103, e103, hx103_0⟩ := Kd.at_int HR102_0.out x15_2 p103 q103
                          cases e103
                          replace p103 := eq_true p103
                          replace q103 := eq_true q103
                          go_wp2
                          go_ret
                          exact ⟨by first | rfl | (simp; done) | (simp [*]; done), by repeat (first | exact Drawn0.refl _ | apply Drawn0.step)⟩
                        · rw [if_neg c9] at H
                          have c9b0 : decide (1048576 < (rd (rd_L5 l0 x9_1) x15_2)) = false := decide_eq_false c9
                          clear c9
                          have H' := Aside0.mk H
                          clear H
                          have p103 : 0 ≤ (x15_2 : Int) := of_decide_eq_true (by first | (with_reducible assumption) | assumption)
                          have q103 : x15_2 < ((rd_L5 l0 x9_1).length : Int) := of_decide_eq_true (by first | (with_reducible assumption) | assumption)
                          obtain ⟨ad103, e103, hx103_0⟩ := Kd.at_int HR102_0.out x15_2 p103 q103
                          cases e103
                          replace p103 := eq_true p103
                          replace q103 := eq_true q103
                          go_wp2
                          go_roundg k2
                          case measure => have := HK1.out; have := HK2.out; omega
                          case rel => exact ⟨(wrap64 (x15_2 + 1)), (by first | rfl | (simp; done) | (simp [*]; done)), H', ⟨by have := HK1.out; have := HK2.out; omega⟩, by repeat (first | exact Drawn0.refl _ | apply Drawn0.step)⟩
                    · rw [if_neg c7] at H
                      exact absurd H (by simp)
                  · rw [if_neg c6] at H
                    exact absurd H (by simp)
                · rw [if_neg c5] at H
                  have c5b0 : decide (x15_2 < ((rd_L5 l0 x9_1).length : Int)) = false := decide_eq_false c5
                  clear c5
                  have H' := Aside0.mk H
                  clear H
                  go_wp2
                  go_roundg k2
                  case measure => have := HK1.out; have := HK2.out; omega
                  case rel => exact ⟨(wrap64 (x9_1 + 1)), (by first | rfl | (simp; done) | (simp [*]; done)), H', ⟨by have := HK1.out; have := HK2.out; omega⟩, by repeat (first | exact Drawn0.refl _ | apply Drawn0.step)⟩
          · rw [if_neg c4] at H
            exact absurd H (by simp)
        · rw [if_neg c3] at H
          exact absurd H (by simp)
      · rw [if_neg c2] at H
        have c2b0 : decide (x9_1 < (l0.length : Int)) = false := decide_eq_false c2
        clear c2
        obtain rfl := Option.some.inj H
        go_wp2
        go_ret
        exact ⟨by first | rfl | (simp; done) | (simp [*]; done), by repeat (first | exact Drawn0.refl _ | apply Drawn0.step)⟩

/-! ### strconv_Itoa: function 36 -/
/-- The decimal numeral. -/
def strconv_Itoa.f (a0 : Int) : Option ByteArray := if -9223372036854775808 ≤ a0 ∧ a0 ≤ 9223372036854775807 then some ⟨(Lib.itoa a0).toArray⟩ else none
theorem strconv_Itoa.calls (a0 : Int) (r : ByteArray) (w : World) (hL : LaidW w) (h : strconv_Itoa.f a0 = some r) :
    Calls Tryd.prog 36 #[.int .i64 a0] w fun e w' => e = .returned (.string r) ∧ Below w.heap.size w w' := by
  unfold strconv_Itoa.f at h
  split at h
  · rename_i hb
    obtain rfl := Option.some.inj h
    exact (Tryd.strconv_Itoa a0 hb.1 hb.2 w hL.tab).mono fun e w' ⟨he, k, os, hw⟩ => ⟨he, by rw [hw]; exact Lib.below_grow _ w (Nat.le_refl _) k os⟩
  · simp at h


end Go.Proofs.YtjhlagpcbaodkaaDoor.PSum
