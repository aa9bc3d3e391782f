/- Lean functions for Go functions, each with the proof that the call returns what it says; printed by wip/tools/myprint.py. -/
-- squeezed
-- tight
import Derived.Test.YtcnliampiibpbaaDoorTq
import Derived.Test.YtcnliampiibpbaaDoorPAllx0
import Derived.Test.YtcnliampiibpbaaDoorPAllx3
import Derived.Test.YtcnliampiibpbaaDoorPAllx4
import Derived.Test.YtcnliampiibpbaaDoorPAllx11
import Derived.Test.YtcnliampiibpbaaDoorPAllx16
namespace Go.Proofs.YtcnliampiibpbaaDoor.PAll
open Go.RowKit Go.Proofs.YtcnliampiibpbaaDoorW.PrintWords Go.Proofs.YtcnliampiibpbaaDoorW.PrintLast Go.Proofs.YtcnliampiibpbaaDoorW.PrintMore
attribute [local go_sem] Instr.field asAgg max2_int min2_int max_two min_two max_three min_three max_four min_four   -- for this text's walks alone
set_option linter.unusedVariables false
set_option linter.unusedSimpArgs false

/-! ### system_number: function 39 -/
def system_number.f (a0 : ByteArray) : Option (Int × Bool) := (strconv_Atoi.f a0).bind fun bt265 => (if bt265.2.isNone = true then (if bt265.1 < 0 then (some (0, false)) else (if bt265.1 > 1048576 then (some (0, false)) else ((strconv_Itoa.f bt265.1).bind fun t268 => (if t268.toList = a0.toList then (some (bt265.1, true)) else (some (0, false)))))) else (some (0, false)))
set_option maxHeartbeats 8000000 in
set_option maxRecDepth 100000 in
theorem system_number.calls (a0 : ByteArray) (r1 : Int) (r2 : Bool) (w : World) (hL : LaidE w) (h : system_number.f a0 = some (r1, r2)) :
    Calls Tryd.prog 39 #[.string a0] w fun e w' => e = .returned (.tuple #[.int .i64 r1, .bool r2]) ∧ Below w.heap.size w w' := by
  have hv30 := Tryd.underlying30
  have hu69 := Tryd.underlying69
  have HLW := Aside0.mk hL
  clear hL
  have HB := Aside0.mk (Below.refl w.heap.size w)
  have H : ((strconv_Atoi.f a0).bind fun bt265 => (if bt265.2.isNone = true then (if bt265.1 < 0 then (some (0, false)) else (if bt265.1 > 1048576 then (some (0, false)) else ((strconv_Itoa.f bt265.1).bind fun t268 => (if t268.toList = a0.toList then (some (bt265.1, true)) else (some (0, false)))))) else (some (0, false)))) = some (r1, r2) := h
  clear h
  replace H := Option.bind_eq_some_iff.mp H
  obtain ⟨⟨t265, t266⟩, A20, H⟩ := H
  replace H : (if t266.isNone = true then (if t265 < 0 then (some (0, false)) else (if t265 > 1048576 then (some (0, false)) else ((strconv_Itoa.f t265).bind fun t268 => (if t268.toList = a0.toList then (some (t265, true)) else (some (0, false)))))) else (some (0, false))) = some (r1, r2) := H
  have A2 := Aside0.mk A20
  clear A20
  rcases t266 with _ | q267
  · have H1 : (if t265 < 0 then (some (0, false)) else (if t265 > 1048576 then (some (0, false)) else ((strconv_Itoa.f t265).bind fun t268 => (if t268.toList = a0.toList then (some (t265, true)) else (some (0, false)))))) = some (r1, r2) := by rw [if_pos (show (none : Option Int).isNone = true by rfl)] at H; exact H
    clear H
    have H := H1
    clear H1
    try simp only [errW_none, errW_some]
    by_cases c3 : t265 < 0
    · rw [if_pos c3] at H
      have c3b0 : decide (t265 < 0) = true := decide_eq_true c3
      clear c3
      simp only [Option.some.injEq, Prod.mk.injEq] at H
      obtain ⟨rfl, rfl⟩ := H
      go_enter Tryd.func39, Tryd.ntmps39
      go_wp2_with (first | ((with_reducible refine gate_callee (f := 46) rfl ?_); refine sq_goes (some 8) Tryd.func46 #[.string a0] ?_; (with_reducible refine (strconv_Atoi.calls a0 t265 none _ ?side1 A2.out).mono ?_); (case side1 => exact LaidE.below HLW.out (sq_bl HB.out)); rintro e w4 ⟨x_, rfl, hx_, hb⟩; (first | (obtain rfl := ErrX.isNil hx_) | (obtain ⟨N_, rfl⟩ := ErrX.isErr hx_) | skip); refine ⟨_, rfl, ?_⟩; have n0_ := Aside0.mk (below_step (sq_bl HB.out) hb); clear HB; have HB := n0_; clear n0_; (try clear hb); (try simp only [errW_none, errW_some])))
      go_ret2
      exact ⟨by first | rfl | (simp [errW_none, errW_some] <;> rfl) | (simp [*, errW_none, errW_some] <;> rfl), sq_bl HB.out⟩
    · rw [if_neg c3] at H
      have c3b0 : decide (t265 < 0) = false := decide_eq_false c3
      clear c3
      by_cases c5 : t265 > 1048576
      · rw [if_pos c5] at H
        have c5b0 : decide (1048576 < t265) = true := decide_eq_true c5
        clear c5
        simp only [Option.some.injEq, Prod.mk.injEq] at H
        obtain ⟨rfl, rfl⟩ := H
        go_enter Tryd.func39, Tryd.ntmps39
        go_wp2_with (first | ((with_reducible refine gate_callee (f := 46) rfl ?_); refine sq_goes (some 8) Tryd.func46 #[.string a0] ?_; (with_reducible refine (strconv_Atoi.calls a0 t265 none _ ?side1 A2.out).mono ?_); (case side1 => exact LaidE.below HLW.out (sq_bl HB.out)); rintro e w6 ⟨x_, rfl, hx_, hb⟩; (first | (obtain rfl := ErrX.isNil hx_) | (obtain ⟨N_, rfl⟩ := ErrX.isErr hx_) | skip); refine ⟨_, rfl, ?_⟩; have n0_ := Aside0.mk (below_step (sq_bl HB.out) hb); clear HB; have HB := n0_; clear n0_; (try clear hb); (try simp only [errW_none, errW_some])))
        go_ret2
        exact ⟨by first | rfl | (simp [errW_none, errW_some] <;> rfl) | (simp [*, errW_none, errW_some] <;> rfl), sq_bl HB.out⟩
      · rw [if_neg c5] at H
        have c5b0 : decide (1048576 < t265) = false := decide_eq_false c5
        clear c5
        replace H := Option.bind_eq_some_iff.mp H
        obtain ⟨t268, A70, H⟩ := H
        replace H : (if t268.toList = a0.toList then (some (t265, true)) else (some (0, false))) = some (r1, r2) := H
        have A7 := Aside0.mk A70
        clear A70
        by_cases c8 : t268.toList = a0.toList
        · rw [if_pos c8] at H
          have c8b0 : (t268.toList == a0.toList) = true := beq_iff_eq.mpr c8
          have c8b1 : (t268.toList != a0.toList) = false := bne_eq_false_iff_eq.mpr c8
          clear c8
          simp only [Option.some.injEq, Prod.mk.injEq] at H
          obtain ⟨rfl, rfl⟩ := H
          go_enter Tryd.func39, Tryd.ntmps39
          go_wp2_with (first | ((with_reducible refine gate_callee (f := 46) rfl ?_); refine sq_goes (some 8) Tryd.func46 #[.string a0] ?_; (with_reducible refine (strconv_Atoi.calls a0 t265 none _ ?side1 A2.out).mono ?_); (case side1 => exact LaidE.below HLW.out (sq_bl HB.out)); rintro e w9 ⟨x_, rfl, hx_, hb⟩; (first | (obtain rfl := ErrX.isNil hx_) | (obtain ⟨N_, rfl⟩ := ErrX.isErr hx_) | skip); refine ⟨_, rfl, ?_⟩; have n0_ := Aside0.mk (below_step (sq_bl HB.out) hb); clear HB; have HB := n0_; clear n0_; (try clear hb); (try simp only [errW_none, errW_some])) | (go_at_call 19; (with_reducible refine (strconv_Itoa.calls t265 t268 _ ?side1 A7.out).mono ?_); (case side1 => exact LaidW.below HLW.out.toW (sq_bl HB.out)); rintro e w10 ⟨rfl, hb⟩; have n0_ := Aside0.mk (below_step (sq_bl HB.out) hb); clear HB; have HB := n0_; clear n0_; (try clear hb)))
          go_ret2
          exact ⟨by first | rfl | (simp [errW_none, errW_some] <;> rfl) | (simp [*, errW_none, errW_some] <;> rfl), sq_bl HB.out⟩
        · rw [if_neg c8] at H
          have c8b0 : (t268.toList == a0.toList) = false := beq_eq_false_iff_ne.mpr c8
          have c8b1 : (t268.toList != a0.toList) = true := bne_iff_ne.mpr c8
          simp only [Option.some.injEq, Prod.mk.injEq] at H
          obtain ⟨rfl, rfl⟩ := H
          go_enter Tryd.func39, Tryd.ntmps39
          go_wp2_with (first | ((with_reducible refine gate_callee (f := 46) rfl ?_); refine sq_goes (some 8) Tryd.func46 #[.string a0] ?_; (with_reducible refine (strconv_Atoi.calls a0 t265 none _ ?side1 A2.out).mono ?_); (case side1 => exact LaidE.below HLW.out (sq_bl HB.out)); rintro e w11 ⟨x_, rfl, hx_, hb⟩; (first | (obtain rfl := ErrX.isNil hx_) | (obtain ⟨N_, rfl⟩ := ErrX.isErr hx_) | skip); refine ⟨_, rfl, ?_⟩; have n0_ := Aside0.mk (below_step (sq_bl HB.out) hb); clear HB; have HB := n0_; clear n0_; (try clear hb); (try simp only [errW_none, errW_some])) | (go_at_call 19; (with_reducible refine (strconv_Itoa.calls t265 t268 _ ?side1 A7.out).mono ?_); (case side1 => exact LaidW.below HLW.out.toW (sq_bl HB.out)); rintro e w12 ⟨rfl, hb⟩; have n0_ := Aside0.mk (below_step (sq_bl HB.out) hb); clear HB; have HB := n0_; clear n0_; (try clear hb)))
          go_ret2
          exact ⟨by first | rfl | (simp [errW_none, errW_some] <;> rfl) | (simp [*, errW_none, errW_some] <;> rfl), sq_bl HB.out⟩
  · have H1 : (some (0, false)) = some (r1, r2) := by rw [if_neg (show ¬ (some q267).isNone = true by simp)] at H; exact H
    clear H
    have H := H1
    clear H1
    try simp only [errW_none, errW_some]
    simp only [Option.some.injEq, Prod.mk.injEq] at H
    obtain ⟨rfl, rfl⟩ := H
    go_enter Tryd.func39, Tryd.ntmps39
    go_wp2_with (first | ((with_reducible refine gate_callee (f := 46) rfl ?_); refine sq_goes (some 8) Tryd.func46 #[.string a0] ?_; (with_reducible refine (strconv_Atoi.calls a0 t265 (some q267) _ ?side1 A2.out).mono ?_); (case side1 => exact LaidE.below HLW.out (sq_bl HB.out)); rintro e w13 ⟨x_, rfl, hx_, hb⟩; (first | (obtain rfl := ErrX.isNil hx_) | (obtain ⟨N_, rfl⟩ := ErrX.isErr hx_) | skip); refine ⟨_, rfl, ?_⟩; have n0_ := Aside0.mk (below_step (sq_bl HB.out) hb); clear HB; have HB := n0_; clear n0_; (try clear hb); (try simp only [errW_none, errW_some])))
    go_ret2
    exact ⟨by first | rfl | (simp [errW_none, errW_some] <;> rfl) | (simp [*, errW_none, errW_some] <;> rfl), sq_bl HB.out⟩
/-! ### system_arc: function 40 -/
-- NOKIND
-- INFO 9
-- INFO 46
/-! ### arc: an arc is added through the pointer -/
def fnd (x : ByteArray) : List ByteArray → Nat → Option Nat
  | [], _ => none
  | y :: l, i => if y = x then some i else fnd x l (i + 1)
def system_arc.f (ev : List ByteArray) (av : List (S46)) (ws : List ByteArray) : Option (Bool × List (S46)) :=
  match ws with
  | [a, b, c] => (system_number.f a).bind fun p => (system_number.f c).bind fun q =>
      if p.2 = true ∧ q.2 = true then (match fnd b ev 0 with | some i => (if av.length < 1000000000 ∧ ev.length ≤ 1000000000 then some (true, av ++ [⟨p.1, (i : Int), q.1⟩]) else none) | none => if ev.length ≤ 1000000000 then some (false, av) else none) else some (false, av)
  | _ => none
set_option maxHeartbeats 4000000 in
set_option maxRecDepth 1000000 in
theorem system_arc.calls (p : Nat) (st : Int) (P1 P2 : Nat → Prop) (ve va : Value) (ev : List ByteArray) (av : List (S46)) (A1 : Option Addr) (c1 : Nat) (l1 : List ByteArray) (b : Bool) (av' : List (S46)) (w0 w : World) (hL : LaidE w) (hB : Below w0.heap.size w0 w) (hlp : w0.heap.size ≤ p)
    (hp : w.heap[p]? = some (.cells #[.int .i64 st, ve, va] 25 (0, 0))) (he : Kd.R Kd.string 9 w w0.heap.size P1 ve ev) (ha : Kd.R k46 46 w w0.heap.size P2 va av) (hr1 : Kd.C Kd.string w A1 l1.length l1) (hc1 : l1.length ≤ c1) (h : system_arc.f ev av l1 = some (b, av')) :
    Calls Tryd.prog 40 #[.pointer (some ⟨p, 0, none⟩), .slice A1 l1.length c1] w fun e w' => e = .returned (.bool b) ∧ ∃ va', w'.heap[p]? = some (.cells #[.int .i64 st, ve, va'] 25 (0, 0)) ∧ Kd.R Kd.string 9 w' w0.heap.size P1 ve ev ∧ Kd.R k46 46 w' w0.heap.size (fun k_ => P2 k_ ∨ w.heap.size ≤ k_) va' av' ∧ Below w0.heap.size w0 w' ∧ Kept w w' (fun k_ => k_ = p ∨ P2 k_) := by
  have hv30 := Tryd.underlying30
  obtain ⟨a, b1, c, rfl⟩ : ∃ a b1 c, l1 = [a, b1, c] := by
    match l1, h with
    | [a, b1, c], _ => exact ⟨a, b1, c, rfl⟩
    | [], h => cases h
    | [_], h => cases h
    | [_, _], h => cases h
    | _ :: _ :: _ :: _ :: _, h => cases h
  · simp only [system_arc.f] at h
    obtain ⟨⟨f, o1⟩, hf, h⟩ := Option.bind_eq_some_iff.mp h
    obtain ⟨⟨t, o2⟩, ht, h⟩ := Option.bind_eq_some_iff.mp h
    have HF := Aside0.mk hf
    have HT := Aside0.mk ht
    have HL := Aside0.mk hL
    have HBw := Aside0.mk (Below.refl w.heap.size w)
    have HP := Aside0.mk hp
    have HE := Aside0.mk he
    have HA := Aside0.mk ha
    have HR := Aside0.mk hr1
    have HH := Aside0.mk h
    have HB0 := Aside0.mk hB
    clear hf ht hL hp he ha hr1 h hB
    obtain ⟨ad, e0, hx0⟩ := Kd.at_string HR.out 0 (by omega) (by simp)
    subst e0
    obtain ⟨ad2, e2, hx2⟩ := Kd.at_string HR.out 2 (by omega) (by simp)
    obtain rfl : ad = ad2 := by injection e2
    obtain ⟨ad1, e1, hx1⟩ := Kd.at_string HR.out 1 (by omega) (by simp)
    obtain rfl : ad = ad1 := by injection e1
    clear e1 e2
    have g0 : rdOf ByteArray.empty [a, b1, c] 0 = a := rfl
    have g1 : rdOf ByteArray.empty [a, b1, c] 1 = b1 := rfl
    have g2 : rdOf ByteArray.empty [a, b1, c] 2 = c := rfl
    rw [g0] at hx0; rw [g1] at hx1; rw [g2] at hx2
    replace hx0 : w.cell? ad = some (.string a) := hx0
    replace hx1 : w.cell? ⟨ad.block, ad.off + 1, none⟩ = some (.string b1) := hx1
    replace hx2 : w.cell? ⟨ad.block, ad.off + 2, none⟩ = some (.string c) := hx2
    clear g0 g1 g2
    obtain ⟨Ae, ce, ee⟩ := Kd.R_slice HE.out
    subst ee
    obtain ⟨Aa, ca, ea⟩ := Kd.R_slice HA.out
    subst ea
    have HH2 := HH.out
    clear HH
    by_cases ho : o1 = true ∧ o2 = true
    · obtain ⟨rfl, rfl⟩ := ho
      rw [if_pos ⟨rfl, rfl⟩] at HH2
      have HQ := Aside0.mk HH2
      clear HH2
      go_enter Tryd.func40, Tryd.ntmps40
      go_wp2_with (first | ((with_reducible refine gate_callee (f := 39) rfl ?_); refine sq_goes (some 15) Tryd.func39 #[.string a] ?_; refine (system_number.calls a f _ _ (LaidE.below HL.out (sq_bl HBw.out)) HF.out).mono ?_; rintro e w3 ⟨rfl, hb⟩; refine ⟨_, rfl, ?_⟩; have HB3 := Aside0.mk (below_step (sq_bl HBw.out) hb); clear hb HBw; have hx0 := (HB3.out.cell (World.block_lt_of_cell? w _ hx0)).trans hx0; have hx2 := (HB3.out.cell (World.block_lt_of_cell? w _ hx2)).trans hx2) | ((with_reducible refine gate_callee (f := 39) rfl ?_); refine sq_goes (some 22) Tryd.func39 #[.string c] ?_; refine (system_number.calls c t _ _ (LaidE.below HL.out (sq_bl HB3.out)) HT.out).mono ?_; rintro e w4 ⟨rfl, hb⟩; refine ⟨_, rfl, ?_⟩; have HB4 := Aside0.mk (below_step (sq_bl HB3.out) hb); clear hb HB3; have HP4 := Aside0.mk (blk_below HP.out HB4.out); have hz1 : w4.cell? ⟨p, 1, none⟩ = some (.slice Ae ev.length ce) := (blk_cell HP4.out 1).trans rfl; have hz2 : w4.cell? ⟨p, 2, none⟩ = some (.slice Aa av.length ca) := (blk_cell HP4.out 2).trans rfl))
      have HE4 := Aside0.mk (Kd.R_below HE.out HB4.out)
      have HA4 := Aside0.mk (Kd.R_below HA.out HB4.out)
      have HK4 := Aside0.mk (Kept.of_below HB4.out (fun k_ => k_ = p ∨ P2 k_))
      have HB04 := Aside0.mk (below_then HB0.out HB0.out.size HB4.out)
      have HS4 := Aside0.mk HB4.out.size
      have hx1 := (HB4.out.cell (World.block_lt_of_cell? w _ hx1)).trans hx1
      go_loopw [36] (fun n w' => ∃ i : Nat, n = .int .i64 i ∧ i ≤ ev.length ∧ w4 = w' ∧ Aside0 (fnd b1 (ev.drop i) i = fnd b1 ev 0)) (fun n _ => ev.length - (intOf n).toNat)
      case atStart => exact ⟨0, rfl, Nat.zero_le _, rfl, ⟨rfl⟩⟩
      case round =>
        obtain ⟨i, rfl, hi, rfl, HF2⟩ := hrel
        by_cases hlt : i < ev.length
        · have hf := HF2.out
          rw [List.drop_eq_getElem_cons hlt, fnd] at hf
          have hbig : ev.length ≤ 1000000000 := by
            have hq := HQ.out
            split at hq
            · split at hq
              · rename_i g; exact g.2
              · cases hq
            · split at hq
              · assumption
              · cases hq
          obtain ⟨ade, e1, hx⟩ := Kd.at_string (Kd.R_reads' HE4.out).2.2 (i : Int) (by omega) (by omega)
          cases e1
          have hrd : rdOf ByteArray.empty ev (i : Int) = ev[i] := by unfold rdOf; rw [Int.toNat_natCast, List.getD_eq_getElem?_getD, List.getElem?_eq_getElem hlt]; rfl
          rw [hrd, Int.toNat_natCast] at hx
          have d1 : decide ((i : Int) < (ev.length : Int)) = true := decide_eq_true (by omega)
          by_cases e : ev[i] = b1
          · have q1 : (ev[i].toList == b1.toList) = true := beq_iff_eq.mpr (by rw [e])
            rw [if_pos e] at hf
            have hq := HQ.out
            rw [← hf] at hq
            clear HQ hf e hbig HF2
            simp only at hq
            by_cases hc : av.length < 1000000000 ∧ ev.length ≤ 1000000000
            · rw [if_pos hc] at hq
              obtain ⟨rfl, rfl⟩ := Prod.mk.inj (Option.some.inj hq)
              clear hq
              have hz3 := HP4.out
              go_wp2_with (first | ((with_reducible refine gate_builtin (b := .append) (xs := #[.tmp 50, .tmp 55]) rfl ?_); at_builtin; refine Kd.R_append k46 (w0 := w0) w0.heap.size rfl (.tmp 50) (.tmp 55) 23 46 (.agg #[(.int .i64 0), (.int .i64 0), (.int .i64 0)]) 24 rfl Tryd.underlying23 info46 rfl (by decide) (by omega) (.slice Aa av.length ca) av (⟨f, (i : Int), t⟩ : S46) [.int .i64 f, .int .i64 (i : Int), .int .i64 t] (fun k_ => P2 k_ ∨ w.heap.size ≤ k_) (fun _ => False) rfl rfl ?aP (fun _ hk => hk.elim) ?aF ?aO ?aB ?aS ?aL ?_; (case aP => exact k46_mkM _ _ _ (⟨f, (i : Int), t⟩ : S46)); (case aF => exact (fun k_ hk => .inr (Nat.le_trans HS4.out (Nat.le_trans (by first | exact Nat.le_refl _ | exact Nat.le_of_lt (by simp)) hk)))); (case aO => exact Kd.R_mono (sq_kr HA4.out) (fun _ hk => .inl hk)); (case aB => exact below_then HB04.out HB04.out.size (sq_bl (Below.refl _ _))); (case aS => exact Nat.le_trans HB04.out.size (below_size (sq_bl (Below.refl _ _)))); (case aL => omega); intro v1 w5 ho hb hg hat; obtain ⟨A6, n6, c6, e6⟩ : ∃ A n c, v1 = .slice A n c := (let ⟨A_, c_, e_⟩ := Kd.R_slice ho; ⟨A_, _, c_, e_⟩); subst e6; have hp5 : w5.heap[p]? = some (.cells #[.int .i64 st, .slice (some ade) ev.length ce, .slice Aa av.length ca] 25 (0, 0)) := (by exact (blk_grown (sq_bk HP4.out) hg (Kd.R_ne HA4.out HP4.out (by decide)))); have he5 : Kd.R Kd.string 9 w5 w0.heap.size P1 (.slice (some ade) ev.length ce) ev := (by exact (Kd.R_grown2 (sq_kr HE4.out) rfl hg (fun k_ hk => by obtain ⟨cs_, hcs⟩ := Kd.R_typed HA4.out k_ hk; exact Kd.R_ne HE4.out hcs (by decide)))); have hk5 : Kept w w5 (fun k_ => k_ = p ∨ P2 k_) := (by exact (Kept.of_grown hg HK4.out (fun k_ hk => .inl (.inr (HA4.out.1 k_ hk))))); have HP5 := Aside0.mk hp5; have HE5 := Aside0.mk he5; have HK5 := Aside0.mk hk5; have HA5 := Aside0.mk ho; have HB5 := Aside0.mk hb; clear hp5 he5 hg hat ho hb HP4 HE4 HK4 HA4 HB04; have hz5 : w5.cell? ⟨p, 2, none⟩ = some (.slice Aa av.length ca) := (blk_cell HP5.out 2).trans rfl; have hf5 := blk_frozen HP5.out 2))
              go_ret
              exact ⟨rfl, _, blk_put HP5.out 2 _ rfl, Kd.R_set HE5.out HP5.out (by decide) 2 _, Kd.R_set HA5.out HP5.out (by decide) 2 _, HB5.out.setCell hlp _, HK5.out.setCell (.inl (.inl rfl)) _⟩
            · rw [if_neg hc] at hq; cases hq
          · have q1 : (ev[i].toList == b1.toList) = false := beq_eq_false_iff_ne.mpr (fun h => e (by rw [Lib.toList_data, Lib.toList_data] at h; exact ByteArray.ext (Array.ext' h)))
            rw [if_neg e] at hf
            go_wp2
            exact ⟨⟨i + 1, by congr 1, by omega, trivial, ⟨hf⟩⟩, by simp [intOf]; omega⟩
        · have d1 : decide ((i : Int) < (ev.length : Int)) = false := decide_eq_false (by omega)
          have hf := HF2.out
          rw [List.drop_eq_nil_of_le (by omega), fnd] at hf
          have hq := HQ.out
          rw [← hf] at hq
          simp only at hq
          split at hq
          · obtain ⟨rfl, rfl⟩ := Prod.mk.inj (Option.some.inj hq)
            clear hq
            go_wp2
            go_ret
            exact ⟨rfl, _, HP4.out, HE4.out, Kd.R_mono HA4.out (fun _ hk => .inl hk), HB04.out, HK4.out⟩
          · cases hq
    · rw [if_neg ho] at HH2
      obtain ⟨rfl, rfl⟩ := Prod.mk.inj (Option.some.inj HH2)
      clear HH2
      cases o1 <;> cases o2 <;> first
        | exact absurd ⟨rfl, rfl⟩ ho
        | (clear ho
           go_enter Tryd.func40, Tryd.ntmps40
           go_wp2_with (first | ((with_reducible refine gate_callee (f := 39) rfl ?_); refine sq_goes (some 15) Tryd.func39 #[.string a] ?_; refine (system_number.calls a f _ _ (LaidE.below HL.out (sq_bl HBw.out)) HF.out).mono ?_; rintro e w3 ⟨rfl, hb⟩; refine ⟨_, rfl, ?_⟩; have HB3 := Aside0.mk (below_step (sq_bl HBw.out) hb); clear hb HBw; have hx0 := (HB3.out.cell (World.block_lt_of_cell? w _ hx0)).trans hx0; have hx2 := (HB3.out.cell (World.block_lt_of_cell? w _ hx2)).trans hx2) | ((with_reducible refine gate_callee (f := 39) rfl ?_); refine sq_goes (some 22) Tryd.func39 #[.string c] ?_; refine (system_number.calls c t _ _ (LaidE.below HL.out (sq_bl HB3.out)) HT.out).mono ?_; rintro e w4 ⟨rfl, hb⟩; refine ⟨_, rfl, ?_⟩; have HB4 := Aside0.mk (below_step (sq_bl HB3.out) hb); clear hb HB3; have HP4 := Aside0.mk (blk_below HP.out HB4.out); have hz1 : w4.cell? ⟨p, 1, none⟩ = some (.slice Ae ev.length ce) := (blk_cell HP4.out 1).trans rfl; have hz2 : w4.cell? ⟨p, 2, none⟩ = some (.slice Aa av.length ca) := (blk_cell HP4.out 2).trans rfl))
           go_ret
           exact ⟨rfl, _, HP4.out, Kd.R_below HE.out HB4.out, Kd.R_mono (Kd.R_below HA.out HB4.out) (fun _ hk => .inl hk), below_then HB0.out HB0.out.size HB4.out, Kept.of_below HB4.out _⟩)
/-! ### system_line: function 24 -/
-- NOKIND
-- INFO 9
/-! ### line: a line is added through the pointer -/
def tStates : ByteArray := ⟨#[115, 116, 97, 116, 101, 115]⟩
def tEvent : ByteArray := ⟨#[101, 118, 101, 110, 116]⟩
def tNone : ByteArray := ⟨#[]⟩
def system_line.g (st : Int) (ev : List ByteArray) (av : List (S46)) (first : Bool) : List ByteArray → Option (Bool × Int × List ByteArray × List (S46))
  | [a, b] => if first = true then (if a = tStates then (system_number.f b).bind fun q => some (q.2, q.1, ev, av) else some (false, st, ev, av))
      else (if a = tEvent ∧ b ≠ tNone ∧ av = [] then (if ev.length < 1000000000 then some (true, st, ev ++ [b], av) else none) else some (false, st, ev, av))
  | [a, b, c] => if first = true then some (false, st, ev, av) else (system_arc.f ev av [a, b, c]).bind fun q => some (q.1, st, ev, q.2)
  | _ => some (false, st, ev, av)
def system_line.f (st : Int) (ev : List ByteArray) (av : List (S46)) (text : ByteArray) (first : Bool) : Option (Bool × Int × List ByteArray × List (S46)) :=
  (system_split.f text 32).bind (system_line.g st ev av first)
theorem line_at2 {w : World} {base : Nat} {ok : Nat → Prop} {A : Option Addr} {c : Nat} {a b : ByteArray} {l : List ByteArray} (h : Kd.R Kd.string 9 w base ok (.slice A (a :: b :: l).length c) (a :: b :: l)) :
    ∃ ad, A = some ad ∧ w.cell? ad = some (.string a) ∧ w.cell? ⟨ad.block, ad.off + 1, none⟩ = some (.string b) := by
  have hC := (Kd.R_reads' h).2.2
  obtain ⟨ad, e0, hx0⟩ := Kd.at_string hC 0 (by omega) (by simp; omega)
  obtain ⟨ad2, e2, hx2⟩ := Kd.at_string hC 1 (by omega) (by simp; omega)
  subst e0
  obtain rfl : ad = ad2 := by injection e2
  exact ⟨ad, rfl, hx0, hx2⟩
set_option maxHeartbeats 4000000 in
set_option maxRecDepth 1000000 in
theorem system_line.calls (p : Nat) (st : Int) (P1 P2 : Nat → Prop) (ve va : Value) (ev : List ByteArray) (av : List (S46)) (text : ByteArray) (first b : Bool) (st' : Int) (ev' : List ByteArray) (av' : List (S46)) (w0 w : World) (hL : LaidE w) (hB : Below w0.heap.size w0 w) (hlp : w0.heap.size ≤ p)
    (hp : w.heap[p]? = some (.cells #[.int .i64 st, ve, va] 25 (0, 0))) (he : Kd.R Kd.string 9 w w0.heap.size P1 ve ev) (ha : Kd.R k46 46 w w0.heap.size P2 va av) (h : system_line.f st ev av text first = some (b, st', ev', av')) :
    Calls Tryd.prog 24 #[.pointer (some ⟨p, 0, none⟩), .string text, .bool first] w fun e w' => e = .returned (.bool b) ∧ ∃ ve' va', w'.heap[p]? = some (.cells #[.int .i64 st', ve', va'] 25 (0, 0)) ∧ Kd.R Kd.string 9 w' w0.heap.size (fun k_ => P1 k_ ∨ w.heap.size ≤ k_) ve' ev' ∧ Kd.R k46 46 w' w0.heap.size (fun k_ => P2 k_ ∨ w.heap.size ≤ k_) va' av' ∧ Below w0.heap.size w0 w' ∧ Kept w w' (fun k_ => k_ = p ∨ P1 k_ ∨ P2 k_) := by
  have hv30 := Tryd.underlying30
  obtain ⟨ws, hs, hg⟩ := Option.bind_eq_some_iff.mp h
  have HSp := Aside0.mk hs
  have HL := Aside0.mk hL
  have HP := Aside0.mk hp
  have HE := Aside0.mk he
  have HA := Aside0.mk ha
  have HG := Aside0.mk hg
  have HB0 := Aside0.mk hB
  obtain ⟨Ae, ce, ee⟩ := Kd.R_slice he
  subst ee
  obtain ⟨Aa, ca, ea⟩ := Kd.R_slice ha
  subst ea
  clear hs hg hL hp he ha h hB
  have KEEP : ∀ w', Below w.heap.size w w' → ∃ ve' va', w'.heap[p]? = some (.cells #[.int .i64 st, ve', va'] 25 (0, 0)) ∧ Kd.R Kd.string 9 w' w0.heap.size (fun k_ => P1 k_ ∨ w.heap.size ≤ k_) ve' ev ∧ Kd.R k46 46 w' w0.heap.size (fun k_ => P2 k_ ∨ w.heap.size ≤ k_) va' av ∧ Below w0.heap.size w0 w' ∧ Kept w w' (fun k_ => k_ = p ∨ P1 k_ ∨ P2 k_) := fun w' hb =>
    ⟨_, _, blk_below HP.out hb, Kd.R_mono (Kd.R_below HE.out hb) (fun _ hk => .inl hk), Kd.R_mono (Kd.R_below HA.out hb) (fun _ hk => .inl hk), below_then HB0.out HB0.out.size hb, Kept.of_below hb _⟩
  have HKEEP := Aside0.mk KEEP
  clear KEEP
  cases first
  · match ws, HSp, HG with
    | [], HSp, HG =>
      obtain ⟨rfl, rfl, rfl, rfl⟩ : false = b ∧ st = st' ∧ ev = ev' ∧ av = av' := by have := HG.out; simp only [system_line.g, if_true, if_false, Bool.false_eq_true, Option.some.injEq, Prod.mk.injEq] at this; exact this
      clear HG
      go_enter Tryd.func24, Tryd.ntmps24
      go_wp2_with (first | ((with_reducible refine gate_callee (f := 23) rfl ?_); refine sq_goes (some 10) Tryd.func23 #[.string text, .int .i32 32] ?_; refine (system_split.calls text 32 _ _ HSp.out).mono ?_; rintro e w3 ⟨v0, rfl, hr, hb⟩; obtain ⟨As, cs, es⟩ := Kd.R_slice hr; subst es; refine ⟨_, rfl, ?_⟩; have HB3 := Aside0.mk hb; have HR3 := Aside0.mk hr; have HP3 := Aside0.mk (blk_below HP.out hb); have HE3 := Aside0.mk (Kd.R_below HE.out hb); have HA3 := Aside0.mk (Kd.R_below HA.out hb); have hz2 : w3.cell? ⟨p, 2, none⟩ = some (.slice Aa av.length ca) := (blk_cell HP3.out 2).trans rfl; have hz1 : w3.cell? ⟨p, 1, none⟩ = some (.slice Ae ev.length ce) := (blk_cell HP3.out 1).trans rfl; clear hr hb))
      go_ret
      exact ⟨rfl, HKEEP.out _ HB3.out⟩
    | [_], HSp, HG =>
      obtain ⟨rfl, rfl, rfl, rfl⟩ : false = b ∧ st = st' ∧ ev = ev' ∧ av = av' := by have := HG.out; simp only [system_line.g, if_true, if_false, Bool.false_eq_true, Option.some.injEq, Prod.mk.injEq] at this; exact this
      clear HG
      go_enter Tryd.func24, Tryd.ntmps24
      go_wp2_with (first | ((with_reducible refine gate_callee (f := 23) rfl ?_); refine sq_goes (some 10) Tryd.func23 #[.string text, .int .i32 32] ?_; refine (system_split.calls text 32 _ _ HSp.out).mono ?_; rintro e w3 ⟨v0, rfl, hr, hb⟩; obtain ⟨As, cs, es⟩ := Kd.R_slice hr; subst es; refine ⟨_, rfl, ?_⟩; have HB3 := Aside0.mk hb; have HR3 := Aside0.mk hr; have HP3 := Aside0.mk (blk_below HP.out hb); have HE3 := Aside0.mk (Kd.R_below HE.out hb); have HA3 := Aside0.mk (Kd.R_below HA.out hb); have hz2 : w3.cell? ⟨p, 2, none⟩ = some (.slice Aa av.length ca) := (blk_cell HP3.out 2).trans rfl; have hz1 : w3.cell? ⟨p, 1, none⟩ = some (.slice Ae ev.length ce) := (blk_cell HP3.out 1).trans rfl; clear hr hb))
      go_ret
      exact ⟨rfl, HKEEP.out _ HB3.out⟩
    | [a, b1], HSp, HG =>
      by_cases hc : a = tEvent ∧ b1 ≠ tNone ∧ av = []
      · have hg := HG.out
        simp only [system_line.g, Bool.false_eq_true, if_false] at hg
        rw [if_pos hc] at hg
        split at hg
        · rename_i hlt
          obtain ⟨rfl, rfl, rfl, rfl⟩ : true = b ∧ st = st' ∧ ev ++ [b1] = ev' ∧ av = av' := by simp only [Option.some.injEq, Prod.mk.injEq] at hg; exact hg
          clear hg HG
          obtain ⟨rfl, hb1, rfl⟩ := hc
          have q1 : (b1.toList == tNone.toList) = false := beq_eq_false_iff_ne.mpr (fun h => hb1 (by rw [Lib.toList_data, Lib.toList_data] at h; exact ByteArray.ext (Array.ext' h)))
          have q2 : b1.toList.isEmpty = false := by rw [Bool.eq_false_iff]; exact fun h => hb1 (by have h := List.isEmpty_iff.mp h; rw [Lib.toList_data] at h; exact ByteArray.ext (Array.ext' h))
          unfold tEvent at *
          go_enter Tryd.func24, Tryd.ntmps24
          go_wp2_with (first | ((with_reducible refine gate_callee (f := 23) rfl ?_); refine sq_goes (some 10) Tryd.func23 #[.string text, .int .i32 32] ?_; refine (system_split.calls text 32 _ _ HSp.out).mono ?_; rintro e w3 ⟨v0, rfl, hr, hb⟩; obtain ⟨As, cs, es⟩ := Kd.R_slice hr; subst es; refine ⟨_, rfl, ?_⟩; have HB3 := Aside0.mk hb; have HR3 := Aside0.mk hr; have HP3 := Aside0.mk (blk_below HP.out hb); have HE3 := Aside0.mk (Kd.R_below HE.out hb); have HA3 := Aside0.mk (Kd.R_below HA.out hb); have hz2 : w3.cell? ⟨p, 2, none⟩ = some (.slice Aa ([] : List (S46)).length ca) := (blk_cell HP3.out 2).trans rfl; have hz1 : w3.cell? ⟨p, 1, none⟩ = some (.slice Ae ev.length ce) := (blk_cell HP3.out 1).trans rfl; obtain ⟨ad, ed, hx0, hx1⟩ := line_at2 hr; subst ed; clear hr hb))
          have hz4 : (w3.alloc (Obj.cells #[.string b1] 9)).cell? ⟨p, 1, none⟩ = some (.slice Ae ev.length ce) := (blk_cell (blk_alloc HP3.out _) 1).trans rfl
          go_region_law ((first | (refine Kd.R_append_step Kd.string (w0 := w0) (W := w3) w0.heap.size (by rfl) (.tmp 62) (.tmp 66) 22 9 (.string ⟨#[]⟩) 16 rfl Tryd.underlying22 info9 rfl (by decide) (by omega) (.slice Ae ev.length ce) ev b1 [.string b1] (fun k_ => P1 k_ ∨ w.heap.size ≤ k_) (fun _ => False) ?hs ?hx ?aP (fun _ hk => hk.elim) ?aF ?aO ?aB ?aS ?aL ?_) | (refine Kd.R_append_step Kd.string (w0 := w0) (W := w3.drew) w0.heap.size (by rfl) (.tmp 62) (.tmp 66) 22 9 (.string ⟨#[]⟩) 16 rfl Tryd.underlying22 info9 rfl (by decide) (by omega) (.slice Ae ev.length ce) ev b1 [.string b1] (fun k_ => P1 k_ ∨ w.heap.size ≤ k_) (fun _ => False) ?hs ?hx ?aP (fun _ hk => hk.elim) ?aF ?aO ?aB ?aS ?aL ?_) | (refine Kd.R_append_step Kd.string (w0 := w0) (W := w3.drew.drew) w0.heap.size (by rfl) (.tmp 62) (.tmp 66) 22 9 (.string ⟨#[]⟩) 16 rfl Tryd.underlying22 info9 rfl (by decide) (by omega) (.slice Ae ev.length ce) ev b1 [.string b1] (fun k_ => P1 k_ ∨ w.heap.size ≤ k_) (fun _ => False) ?hs ?hx ?aP (fun _ hk => hk.elim) ?aF ?aO ?aB ?aS ?aL ?_) | (refine Kd.R_append_step Kd.string (w0 := w0) (W := w3.drew.drew.drew) w0.heap.size (by rfl) (.tmp 62) (.tmp 66) 22 9 (.string ⟨#[]⟩) 16 rfl Tryd.underlying22 info9 rfl (by decide) (by omega) (.slice Ae ev.length ce) ev b1 [.string b1] (fun k_ => P1 k_ ∨ w.heap.size ≤ k_) (fun _ => False) ?hs ?hx ?aP (fun _ hk => hk.elim) ?aF ?aO ?aB ?aS ?aL ?_) | (refine Kd.R_append_step Kd.string (w0 := w0) (W := w3.drew.drew.drew.drew) w0.heap.size (by rfl) (.tmp 62) (.tmp 66) 22 9 (.string ⟨#[]⟩) 16 rfl Tryd.underlying22 info9 rfl (by decide) (by omega) (.slice Ae ev.length ce) ev b1 [.string b1] (fun k_ => P1 k_ ∨ w.heap.size ≤ k_) (fun _ => False) ?hs ?hx ?aP (fun _ hk => hk.elim) ?aF ?aO ?aB ?aS ?aL ?_) | (refine Kd.R_append_step Kd.string (w0 := w0) (W := w3.drew.drew.drew.drew.drew) w0.heap.size (by rfl) (.tmp 62) (.tmp 66) 22 9 (.string ⟨#[]⟩) 16 rfl Tryd.underlying22 info9 rfl (by decide) (by omega) (.slice Ae ev.length ce) ev b1 [.string b1] (fun k_ => P1 k_ ∨ w.heap.size ≤ k_) (fun _ => False) ?hs ?hx ?aP (fun _ hk => hk.elim) ?aF ?aO ?aB ?aS ?aL ?_)); (case hs => rfl); (case hx => rfl); (case aP => exact rfl); (case aF => exact (fun k_ hk => .inr (Nat.le_trans HB3.out.size (Nat.le_trans (by first | exact Nat.le_refl _ | exact Nat.le_of_lt (by simp)) hk)))); (case aO => exact Kd.R_mono (sq_kr HE3.out) (fun _ hk => .inl hk)); (case aB => exact below_then (below_then HB0.out HB0.out.size HB3.out) (Nat.le_trans HB0.out.size HB3.out.size) (sq_bl (Below.refl _ _))); (case aS => exact Nat.le_trans HB0.out.size (Nat.le_trans HB3.out.size (below_size (sq_bl (Below.refl _ _))))); (case aL => omega); intro v1 w5 ho hb hg hat; obtain ⟨A6, n6, c6, e6⟩ : ∃ A n c, v1 = .slice A n c := (let ⟨A_, c_, e_⟩ := Kd.R_slice ho; ⟨A_, _, c_, e_⟩); subst e6; have HP5 := Aside0.mk (blk_grown (sq_bk HP3.out) hg (Kd.R_ne HE3.out HP3.out (by decide))); have HA5 := Aside0.mk (Kd.R_grown2 (sq_kr HA3.out) rfl hg (fun k_ hk => by obtain ⟨cs_, hcs⟩ := Kd.R_typed HE3.out k_ hk; exact Kd.R_ne HA3.out hcs (by decide))); have HK5 := Aside0.mk (Kept.of_grown hg (Kept.of_below HB3.out (fun k_ => k_ = p ∨ P1 k_ ∨ P2 k_)) (fun k_ hk => .inl (.inr (.inl (HE3.out.1 k_ hk))))); have HE5 := Aside0.mk ho; have HB5 := Aside0.mk hb; clear hg hat ho hb HP3 HE3 HA3; have hz5 : w5.cell? ⟨p, 1, none⟩ = some (.slice Ae ev.length ce) := (blk_cell HP5.out 1).trans rfl; have hf5 := blk_frozen HP5.out 1)
          all_goals go_wp2
          all_goals go_ret
          all_goals exact ⟨rfl, _, _, blk_put HP5.out 1 _ rfl, Kd.R_set HE5.out HP5.out (by decide) 1 _, Kd.R_mono (Kd.R_set HA5.out HP5.out (by decide) 1 _) (fun _ hk => .inl hk), HB5.out.setCell hlp _, HK5.out.setCell (.inl (.inl rfl)) _⟩
        · cases hg
      · obtain ⟨rfl, rfl, rfl, rfl⟩ : false = b ∧ st = st' ∧ ev = ev' ∧ av = av' := by have := HG.out; simp only [system_line.g, Bool.false_eq_true, if_false] at this; rw [if_neg hc] at this; simp only [Option.some.injEq, Prod.mk.injEq] at this; exact this
        clear HG
        by_cases h1 : a = tEvent
        · by_cases h2 : b1 = tNone
          · subst h1; subst h2; unfold tEvent tNone at *
            clear hc
            go_enter Tryd.func24, Tryd.ntmps24
            go_wp2_with (first | ((with_reducible refine gate_callee (f := 23) rfl ?_); refine sq_goes (some 10) Tryd.func23 #[.string text, .int .i32 32] ?_; refine (system_split.calls text 32 _ _ HSp.out).mono ?_; rintro e w3 ⟨v0, rfl, hr, hb⟩; obtain ⟨As, cs, es⟩ := Kd.R_slice hr; subst es; refine ⟨_, rfl, ?_⟩; have HB3 := Aside0.mk hb; have HR3 := Aside0.mk hr; have HP3 := Aside0.mk (blk_below HP.out hb); have HE3 := Aside0.mk (Kd.R_below HE.out hb); have HA3 := Aside0.mk (Kd.R_below HA.out hb); have hz2 : w3.cell? ⟨p, 2, none⟩ = some (.slice Aa av.length ca) := (blk_cell HP3.out 2).trans rfl; have hz1 : w3.cell? ⟨p, 1, none⟩ = some (.slice Ae ev.length ce) := (blk_cell HP3.out 1).trans rfl; obtain ⟨ad, ed, hx0, hx1⟩ := line_at2 hr; subst ed; clear hr hb))
            go_ret
            exact ⟨rfl, HKEEP.out _ HB3.out⟩
          · have q1 : b1.toList.isEmpty = false := by rw [Bool.eq_false_iff]; exact fun h => h2 (by have h := List.isEmpty_iff.mp h; rw [Lib.toList_data] at h; exact ByteArray.ext (Array.ext' h))
            have h3 : av ≠ [] := fun h3 => hc ⟨h1, h2, h3⟩
            have q6 : (!b1.toList.isEmpty && ((av.length : Int) == 0)) = false := by rw [show ((av.length : Int) == 0) = false from beq_eq_false_iff_ne.mpr (by have := List.length_pos_iff.mpr h3; omega), Bool.and_false]
            have q3 : ((av.length : Int) == 0) = false := beq_eq_false_iff_ne.mpr (by have := List.length_pos_iff.mpr h3; omega)
            have q4 : decide ((av.length : Int) = 0) = false := decide_eq_false (by have := List.length_pos_iff.mpr h3; omega)
            subst h1; unfold tEvent at *
            clear hc h3 h2
            go_enter Tryd.func24, Tryd.ntmps24
            go_wp2_with (first | ((with_reducible refine gate_callee (f := 23) rfl ?_); refine sq_goes (some 10) Tryd.func23 #[.string text, .int .i32 32] ?_; refine (system_split.calls text 32 _ _ HSp.out).mono ?_; rintro e w3 ⟨v0, rfl, hr, hb⟩; obtain ⟨As, cs, es⟩ := Kd.R_slice hr; subst es; refine ⟨_, rfl, ?_⟩; have HB3 := Aside0.mk hb; have HR3 := Aside0.mk hr; have HP3 := Aside0.mk (blk_below HP.out hb); have HE3 := Aside0.mk (Kd.R_below HE.out hb); have HA3 := Aside0.mk (Kd.R_below HA.out hb); have hz2 : w3.cell? ⟨p, 2, none⟩ = some (.slice Aa av.length ca) := (blk_cell HP3.out 2).trans rfl; have hz1 : w3.cell? ⟨p, 1, none⟩ = some (.slice Ae ev.length ce) := (blk_cell HP3.out 1).trans rfl; obtain ⟨ad, ed, hx0, hx1⟩ := line_at2 hr; subst ed; clear hr hb))
            go_ret
            exact ⟨rfl, HKEEP.out _ HB3.out⟩
        · have q1 : (a.toList == tEvent.toList) = false := beq_eq_false_iff_ne.mpr (fun h => h1 (by rw [Lib.toList_data, Lib.toList_data] at h; exact ByteArray.ext (Array.ext' h)))
          have q2 : (a.toList == [101, 118, 101, 110, 116]) = false := by rw [Lib.toList_data] at q1 ⊢; unfold tEvent at q1; rw [Lib.toList_data] at q1; exact q1
          clear hc h1
          go_enter Tryd.func24, Tryd.ntmps24
          go_wp2_with (first | ((with_reducible refine gate_callee (f := 23) rfl ?_); refine sq_goes (some 10) Tryd.func23 #[.string text, .int .i32 32] ?_; refine (system_split.calls text 32 _ _ HSp.out).mono ?_; rintro e w3 ⟨v0, rfl, hr, hb⟩; obtain ⟨As, cs, es⟩ := Kd.R_slice hr; subst es; refine ⟨_, rfl, ?_⟩; have HB3 := Aside0.mk hb; have HR3 := Aside0.mk hr; have HP3 := Aside0.mk (blk_below HP.out hb); have HE3 := Aside0.mk (Kd.R_below HE.out hb); have HA3 := Aside0.mk (Kd.R_below HA.out hb); have hz2 : w3.cell? ⟨p, 2, none⟩ = some (.slice Aa av.length ca) := (blk_cell HP3.out 2).trans rfl; have hz1 : w3.cell? ⟨p, 1, none⟩ = some (.slice Ae ev.length ce) := (blk_cell HP3.out 1).trans rfl; obtain ⟨ad, ed, hx0, hx1⟩ := line_at2 hr; subst ed; clear hr hb))
          go_ret
          exact ⟨rfl, HKEEP.out _ HB3.out⟩
    | [a, b1, c1], HSp, HG =>
      have hg := HG.out
      simp only [system_line.g, Bool.false_eq_true, if_false] at hg
      obtain ⟨⟨rb, ra⟩, hq, hg⟩ := Option.bind_eq_some_iff.mp hg
      obtain ⟨rfl, rfl, rfl, rfl⟩ : rb = b ∧ st = st' ∧ ev = ev' ∧ ra = av' := by simp only [Option.some.injEq, Prod.mk.injEq] at hg; exact hg
      have HQ := Aside0.mk hq
      clear hg HG hq
      go_enter Tryd.func24, Tryd.ntmps24
      go_wp2_with (first | ((with_reducible refine gate_callee (f := 23) rfl ?_); refine sq_goes (some 10) Tryd.func23 #[.string text, .int .i32 32] ?_; refine (system_split.calls text 32 _ _ HSp.out).mono ?_; rintro e w3 ⟨v0, rfl, hr, hb⟩; obtain ⟨As, cs, es⟩ := Kd.R_slice hr; subst es; refine ⟨_, rfl, ?_⟩; have HB3 := Aside0.mk hb; have HR3 := Aside0.mk hr; have HP3 := Aside0.mk (blk_below HP.out hb); have HE3 := Aside0.mk (Kd.R_below HE.out hb); have HA3 := Aside0.mk (Kd.R_below HA.out hb); have hz2 : w3.cell? ⟨p, 2, none⟩ = some (.slice Aa av.length ca) := (blk_cell HP3.out 2).trans rfl; have hz1 : w3.cell? ⟨p, 1, none⟩ = some (.slice Ae ev.length ce) := (blk_cell HP3.out 1).trans rfl; clear hr hb) | ((with_reducible refine gate_callee (f := 40) rfl ?_); (try (refine gate_guard (by rfl) ?_; dsimp only)); refine sq_goes (some 76) Tryd.func40 #[.pointer (some ⟨p, 0, none⟩), .slice As [a, b1, c1].length cs] ?_; refine (system_arc.calls p st P1 P2 _ _ ev av As cs [a, b1, c1] _ _ w0 _ (LaidE.below HL.out (sq_bl HB3.out)) (below_then HB0.out HB0.out.size (sq_bl HB3.out)) hlp (sq_bk HP3.out) (sq_kr HE3.out) (sq_kr HA3.out) (Kd.R_reads' (sq_kr HR3.out)).2.2 (Kd.R_reads' (sq_kr HR3.out)).2.1 HQ.out).mono ?_; rintro e w4 ⟨rfl, va', h1, h2, h3, h4, h5⟩; refine ⟨_, rfl, ?_⟩; have H1 := Aside0.mk h1; have H2 := Aside0.mk h2; have H3 := Aside0.mk h3; have H4 := Aside0.mk h4; have H5 := Aside0.mk h5; clear h1 h2 h3 h4 h5))
      go_ret
      exact ⟨rfl, _, _, H1.out, Kd.R_mono H2.out (fun _ hk => .inl hk), Kd.R_mono H3.out (fun _ hk => hk.imp_right (Nat.le_trans (below_size (sq_bl HB3.out)))), H4.out, (Kept.of_below HB3.out _).then_ H5.out (fun _ hk => .inl (hk.imp_right .inr))⟩
    | x1 :: x2 :: x3 :: x4 :: xl, HSp, HG =>
      obtain ⟨rfl, rfl, rfl, rfl⟩ : false = b ∧ st = st' ∧ ev = ev' ∧ av = av' := by have := HG.out; simp only [system_line.g, if_true, if_false, Bool.false_eq_true, Option.some.injEq, Prod.mk.injEq] at this; exact this
      clear HG
      have k2 : (((xl.length + 1 + 1 + 1 + 1 : Nat) : Int) == 2) = false := beq_eq_false_iff_ne.mpr (by omega)
      have k3 : (((xl.length + 1 + 1 + 1 + 1 : Nat) : Int) == 3) = false := beq_eq_false_iff_ne.mpr (by omega)
      have k4 : decide ((xl.length : Int) + 1 + 1 + 1 + 1 = 2) = false := decide_eq_false (by omega)
      have k5 : decide ((xl.length : Int) + 1 + 1 + 1 + 1 = 3) = false := decide_eq_false (by omega)
      go_enter Tryd.func24, Tryd.ntmps24
      go_wp2_with (first | ((with_reducible refine gate_callee (f := 23) rfl ?_); refine sq_goes (some 10) Tryd.func23 #[.string text, .int .i32 32] ?_; refine (system_split.calls text 32 _ _ HSp.out).mono ?_; rintro e w3 ⟨v0, rfl, hr, hb⟩; obtain ⟨As, cs, es⟩ := Kd.R_slice hr; subst es; refine ⟨_, rfl, ?_⟩; have HB3 := Aside0.mk hb; have HR3 := Aside0.mk hr; have HP3 := Aside0.mk (blk_below HP.out hb); have HE3 := Aside0.mk (Kd.R_below HE.out hb); have HA3 := Aside0.mk (Kd.R_below HA.out hb); have hz2 : w3.cell? ⟨p, 2, none⟩ = some (.slice Aa av.length ca) := (blk_cell HP3.out 2).trans rfl; have hz1 : w3.cell? ⟨p, 1, none⟩ = some (.slice Ae ev.length ce) := (blk_cell HP3.out 1).trans rfl; clear hr hb))
      go_ret
      exact ⟨rfl, HKEEP.out _ HB3.out⟩
  · match ws, HSp, HG with
    | [], HSp, HG =>
      obtain ⟨rfl, rfl, rfl, rfl⟩ : false = b ∧ st = st' ∧ ev = ev' ∧ av = av' := by have := HG.out; simp only [system_line.g, if_true, if_false, Bool.false_eq_true, Option.some.injEq, Prod.mk.injEq] at this; exact this
      clear HG
      go_enter Tryd.func24, Tryd.ntmps24
      go_wp2_with (first | ((with_reducible refine gate_callee (f := 23) rfl ?_); refine sq_goes (some 10) Tryd.func23 #[.string text, .int .i32 32] ?_; refine (system_split.calls text 32 _ _ HSp.out).mono ?_; rintro e w3 ⟨v0, rfl, hr, hb⟩; obtain ⟨As, cs, es⟩ := Kd.R_slice hr; subst es; refine ⟨_, rfl, ?_⟩; have HB3 := Aside0.mk hb; have HR3 := Aside0.mk hr; have HP3 := Aside0.mk (blk_below HP.out hb); have HE3 := Aside0.mk (Kd.R_below HE.out hb); have HA3 := Aside0.mk (Kd.R_below HA.out hb); have hz2 : w3.cell? ⟨p, 2, none⟩ = some (.slice Aa av.length ca) := (blk_cell HP3.out 2).trans rfl; have hz1 : w3.cell? ⟨p, 1, none⟩ = some (.slice Ae ev.length ce) := (blk_cell HP3.out 1).trans rfl; clear hr hb))
      go_ret
      exact ⟨rfl, HKEEP.out _ HB3.out⟩
    | [_], HSp, HG =>
      obtain ⟨rfl, rfl, rfl, rfl⟩ : false = b ∧ st = st' ∧ ev = ev' ∧ av = av' := by have := HG.out; simp only [system_line.g, if_true, if_false, Bool.false_eq_true, Option.some.injEq, Prod.mk.injEq] at this; exact this
      clear HG
      go_enter Tryd.func24, Tryd.ntmps24
      go_wp2_with (first | ((with_reducible refine gate_callee (f := 23) rfl ?_); refine sq_goes (some 10) Tryd.func23 #[.string text, .int .i32 32] ?_; refine (system_split.calls text 32 _ _ HSp.out).mono ?_; rintro e w3 ⟨v0, rfl, hr, hb⟩; obtain ⟨As, cs, es⟩ := Kd.R_slice hr; subst es; refine ⟨_, rfl, ?_⟩; have HB3 := Aside0.mk hb; have HR3 := Aside0.mk hr; have HP3 := Aside0.mk (blk_below HP.out hb); have HE3 := Aside0.mk (Kd.R_below HE.out hb); have HA3 := Aside0.mk (Kd.R_below HA.out hb); have hz2 : w3.cell? ⟨p, 2, none⟩ = some (.slice Aa av.length ca) := (blk_cell HP3.out 2).trans rfl; have hz1 : w3.cell? ⟨p, 1, none⟩ = some (.slice Ae ev.length ce) := (blk_cell HP3.out 1).trans rfl; clear hr hb))
      go_ret
      exact ⟨rfl, HKEEP.out _ HB3.out⟩
    | [a, b1], HSp, HG =>
      by_cases hc : a = tStates
      · have hg := HG.out
        simp only [system_line.g, if_true] at hg
        rw [if_pos hc] at hg
        obtain ⟨⟨k, o1⟩, hq, hg⟩ := Option.bind_eq_some_iff.mp hg
        obtain ⟨rfl, rfl, rfl, rfl⟩ : o1 = b ∧ k = st' ∧ ev = ev' ∧ av = av' := by simp only [Option.some.injEq, Prod.mk.injEq] at hg; exact hg
        have HQ := Aside0.mk hq
        clear hg HG hq
        subst hc; unfold tStates at *
        go_enter Tryd.func24, Tryd.ntmps24
        go_wp2_with (first | ((with_reducible refine gate_callee (f := 23) rfl ?_); refine sq_goes (some 10) Tryd.func23 #[.string text, .int .i32 32] ?_; refine (system_split.calls text 32 _ _ HSp.out).mono ?_; rintro e w3 ⟨v0, rfl, hr, hb⟩; obtain ⟨As, cs, es⟩ := Kd.R_slice hr; subst es; refine ⟨_, rfl, ?_⟩; have HB3 := Aside0.mk hb; have HR3 := Aside0.mk hr; have HP3 := Aside0.mk (blk_below HP.out hb); have HE3 := Aside0.mk (Kd.R_below HE.out hb); have HA3 := Aside0.mk (Kd.R_below HA.out hb); have hz2 : w3.cell? ⟨p, 2, none⟩ = some (.slice Aa av.length ca) := (blk_cell HP3.out 2).trans rfl; have hz1 : w3.cell? ⟨p, 1, none⟩ = some (.slice Ae ev.length ce) := (blk_cell HP3.out 1).trans rfl; obtain ⟨ad, ed, hx0, hx1⟩ := line_at2 hr; subst ed; clear hr hb) | ((with_reducible refine gate_callee (f := 39) rfl ?_); refine sq_goes (some 28) Tryd.func39 #[.string b1] ?_; refine (system_number.calls b1 k _ _ (LaidE.below HL.out (sq_bl HB3.out)) HQ.out).mono ?_; rintro e w4 ⟨rfl, hb⟩; refine ⟨_, rfl, ?_⟩; have HB4 := Aside0.mk (below_step (sq_bl HB3.out) hb); clear hb; have HP4 := Aside0.mk (blk_below HP.out HB4.out); have HE4 := Aside0.mk (Kd.R_below HE.out HB4.out); have HA4 := Aside0.mk (Kd.R_below HA.out HB4.out); clear HP3 HE3 HA3; have hz5 : w4.cell? ⟨p, 0, none⟩ = some (.int .i64 st) := (blk_cell HP4.out 0).trans rfl; have hf5 := blk_frozen HP4.out 0))
        go_ret
        exact ⟨rfl, _, _, blk_put HP4.out 0 _ rfl, Kd.R_mono (Kd.R_set HE4.out HP4.out (by decide) 0 _) (fun _ hk => .inl hk), Kd.R_mono (Kd.R_set HA4.out HP4.out (by decide) 0 _) (fun _ hk => .inl hk), (below_then HB0.out HB0.out.size HB4.out).setCell hlp _, (Kept.of_below HB4.out _).setCell (.inl (.inl rfl)) _⟩
      · obtain ⟨rfl, rfl, rfl, rfl⟩ : false = b ∧ st = st' ∧ ev = ev' ∧ av = av' := by have := HG.out; simp only [system_line.g, if_true] at this; rw [if_neg hc] at this; simp only [Option.some.injEq, Prod.mk.injEq] at this; exact this
        clear HG
        have q1 : (a.toList == tStates.toList) = false := beq_eq_false_iff_ne.mpr (fun h => hc (by rw [Lib.toList_data, Lib.toList_data] at h; exact ByteArray.ext (Array.ext' h)))
        have q2 : (a.toList == [115, 116, 97, 116, 101, 115]) = false := by rw [Lib.toList_data] at q1 ⊢; unfold tStates at q1; rw [Lib.toList_data] at q1; exact q1
        clear hc
        go_enter Tryd.func24, Tryd.ntmps24
        go_wp2_with (first | ((with_reducible refine gate_callee (f := 23) rfl ?_); refine sq_goes (some 10) Tryd.func23 #[.string text, .int .i32 32] ?_; refine (system_split.calls text 32 _ _ HSp.out).mono ?_; rintro e w3 ⟨v0, rfl, hr, hb⟩; obtain ⟨As, cs, es⟩ := Kd.R_slice hr; subst es; refine ⟨_, rfl, ?_⟩; have HB3 := Aside0.mk hb; have HR3 := Aside0.mk hr; have HP3 := Aside0.mk (blk_below HP.out hb); have HE3 := Aside0.mk (Kd.R_below HE.out hb); have HA3 := Aside0.mk (Kd.R_below HA.out hb); have hz2 : w3.cell? ⟨p, 2, none⟩ = some (.slice Aa av.length ca) := (blk_cell HP3.out 2).trans rfl; have hz1 : w3.cell? ⟨p, 1, none⟩ = some (.slice Ae ev.length ce) := (blk_cell HP3.out 1).trans rfl; obtain ⟨ad, ed, hx0, hx1⟩ := line_at2 hr; subst ed; clear hr hb))
        go_ret
        exact ⟨rfl, HKEEP.out _ HB3.out⟩
    | [_, _, _], HSp, HG =>
      obtain ⟨rfl, rfl, rfl, rfl⟩ : false = b ∧ st = st' ∧ ev = ev' ∧ av = av' := by have := HG.out; simp only [system_line.g, if_true, if_false, Bool.false_eq_true, Option.some.injEq, Prod.mk.injEq] at this; exact this
      clear HG
      go_enter Tryd.func24, Tryd.ntmps24
      go_wp2_with (first | ((with_reducible refine gate_callee (f := 23) rfl ?_); refine sq_goes (some 10) Tryd.func23 #[.string text, .int .i32 32] ?_; refine (system_split.calls text 32 _ _ HSp.out).mono ?_; rintro e w3 ⟨v0, rfl, hr, hb⟩; obtain ⟨As, cs, es⟩ := Kd.R_slice hr; subst es; refine ⟨_, rfl, ?_⟩; have HB3 := Aside0.mk hb; have HR3 := Aside0.mk hr; have HP3 := Aside0.mk (blk_below HP.out hb); have HE3 := Aside0.mk (Kd.R_below HE.out hb); have HA3 := Aside0.mk (Kd.R_below HA.out hb); have hz2 : w3.cell? ⟨p, 2, none⟩ = some (.slice Aa av.length ca) := (blk_cell HP3.out 2).trans rfl; have hz1 : w3.cell? ⟨p, 1, none⟩ = some (.slice Ae ev.length ce) := (blk_cell HP3.out 1).trans rfl; clear hr hb))
      go_ret
      exact ⟨rfl, HKEEP.out _ HB3.out⟩
    | x1 :: x2 :: x3 :: x4 :: xl, HSp, HG =>
      obtain ⟨rfl, rfl, rfl, rfl⟩ : false = b ∧ st = st' ∧ ev = ev' ∧ av = av' := by have := HG.out; simp only [system_line.g, if_true, if_false, Bool.false_eq_true, Option.some.injEq, Prod.mk.injEq] at this; exact this
      clear HG
      have k2 : (((xl.length + 1 + 1 + 1 + 1 : Nat) : Int) == 2) = false := beq_eq_false_iff_ne.mpr (by omega)
      have k3 : (((xl.length + 1 + 1 + 1 + 1 : Nat) : Int) == 3) = false := beq_eq_false_iff_ne.mpr (by omega)
      have k4 : decide ((xl.length : Int) + 1 + 1 + 1 + 1 = 2) = false := decide_eq_false (by omega)
      have k5 : decide ((xl.length : Int) + 1 + 1 + 1 + 1 = 3) = false := decide_eq_false (by omega)
      go_enter Tryd.func24, Tryd.ntmps24
      go_wp2_with (first | ((with_reducible refine gate_callee (f := 23) rfl ?_); refine sq_goes (some 10) Tryd.func23 #[.string text, .int .i32 32] ?_; refine (system_split.calls text 32 _ _ HSp.out).mono ?_; rintro e w3 ⟨v0, rfl, hr, hb⟩; obtain ⟨As, cs, es⟩ := Kd.R_slice hr; subst es; refine ⟨_, rfl, ?_⟩; have HB3 := Aside0.mk hb; have HR3 := Aside0.mk hr; have HP3 := Aside0.mk (blk_below HP.out hb); have HE3 := Aside0.mk (Kd.R_below HE.out hb); have HA3 := Aside0.mk (Kd.R_below HA.out hb); have hz2 : w3.cell? ⟨p, 2, none⟩ = some (.slice Aa av.length ca) := (blk_cell HP3.out 2).trans rfl; have hz1 : w3.cell? ⟨p, 1, none⟩ = some (.slice Ae ev.length ce) := (blk_cell HP3.out 1).trans rfl; clear hr hb))
      go_ret
      exact ⟨rfl, HKEEP.out _ HB3.out⟩
/-! ### system_Parse: function 9 -/
-- INFO 9
-- INFO 46
/-! ### Parse: lines added to a variable of the call's own -/
def system_Parse.fin (k : Nat) (st : Int) (ev : List ByteArray) (av : List (S46)) : Option (Int × List ByteArray × List (S46) × Int × Int) := (system_Check.f k st ev av).bind fun q => if q.1 = 0 then some (st, ev, av, 0, 0) else some (0, [], [], q.1, q.2)
def system_Parse.go (k n : Nat) : List ByteArray → Nat → Int → List ByteArray → List (S46) → Option (Int × List ByteArray × List (S46) × Int × Int)
  | [], _, st, ev, av => system_Parse.fin k st ev av
  | x :: l, i, st, ev, av => if i + 1 = n then (if 0 < i ∧ x = tNone then system_Parse.fin k st ev av else some (0, [], [], 11, ((i + 1 : Nat) : Int)))
      else (system_line.f st ev av x (decide (i = 0))).bind fun q => if q.1 = true then system_Parse.go k n l (i + 1) q.2.1 q.2.2.1 q.2.2.2 else some (0, [], [], 11, ((i + 1 : Nat) : Int))
def system_Parse.f (k : Nat) (a0 : ByteArray) : Option (Int × List ByteArray × List (S46) × Int × Int) := if a0.size > 65536 then some (0, [], [], 2, 0) else (system_split.f a0 10).bind fun ls => system_Parse.go k ls.length ls 0 0 [] []
theorem system_Parse.fin_mono (k : Nat) (st : Int) (ev : List ByteArray) (av : List (S46)) : LeO (system_Parse.fin k st ev av) (system_Parse.fin (k + 1) st ev av) := LeO.bind (system_Check.mono _ _ _ k) (fun _ => LeO.refl _)
theorem system_Parse.go_mono (k n : Nat) : ∀ l i st ev av, LeO (system_Parse.go k n l i st ev av) (system_Parse.go (k + 1) n l i st ev av)
  | [], _, _, _, _ => system_Parse.fin_mono k _ _ _
  | _ :: l, _, _, _, _ => by
    simp only [system_Parse.go]
    exact LeO.ite (LeO.ite (system_Parse.fin_mono k _ _ _) (LeO.refl _)) (LeO.bind (LeO.refl _) (fun q => LeO.ite (system_Parse.go_mono k n l _ _ _ _) (LeO.refl _)))
theorem system_Parse.mono : ∀ a0 k, LeO (system_Parse.f k a0) (system_Parse.f (k + 1) a0) := fun _ k => LeO.ite (LeO.refl _) (LeO.bind (LeO.refl _) (fun _ => system_Parse.go_mono k _ _ _ _ _ _))
theorem splA_len (s : ByteArray) (c : Nat) : ∀ n fr pos, (splA s c n fr pos).length ≤ n + 1
  | 0, _, _ => by simp [splA]
  | n + 1, fr, pos => by
    rw [splA]
    split
    · split
      · have := splA_len s c n (pos + 1) (pos + 1); simp only [List.length_cons]; omega
      · have := splA_len s c n fr (pos + 1); omega
    · simp
set_option maxHeartbeats 1000000 in
set_option maxRecDepth 1000000 in
theorem system_Parse.calls (k : Nat) (a0 : ByteArray) (r1 : Int) (r2 : List ByteArray) (r3 : List (S46)) (r4 : Int) (r5 : Int) (w : World) (hL : LaidE w) (h : system_Parse.f k a0 = some (r1, r2, r3, r4, r5)) :
    Calls Tryd.prog 9 #[.string a0] w fun e w' => ∃ v1_ v2_ : Value, e = .returned (.tuple #[.agg #[.int .i64 r1, v1_, v2_], .agg #[.int .i64 r4, .int .i64 r5]]) ∧ Kd.R Kd.string 9 w' w.heap.size (fun _ => True) v1_ r2 ∧ Kd.R k46 46 w' w.heap.size (fun _ => True) v2_ r3 ∧ Below w.heap.size w w' := by
  have hv30 := Tryd.underlying30
  have hv30 := Tryd.underlying30
  have hu25 := Tryd.underlying25
  have hu30 := Tryd.underlying30
  have hu46 := Tryd.underlying46
  have HLD := Aside0.mk hL
  have HB0 := Aside0.mk (Below.refl w.heap.size w)
  clear hL
  unfold system_Parse.f at h
  by_cases hsz : a0.size > 65536
  · rw [if_pos hsz] at h
    simp only [Option.some.injEq, Prod.mk.injEq] at h
    obtain ⟨rfl, rfl, rfl, rfl, rfl⟩ := h
    have c2b0 : decide (65536 < (a0.size : Int)) = true := decide_eq_true (by omega)
    have c2b1 : decide (65536 < a0.size) = true := decide_eq_true hsz
    clear hsz
    go_enter Tryd.func9, Tryd.ntmps9
    go_wp2_with (first | ((with_reducible refine gate_dst (N := 2) rfl ?_); (try (refine gate_guard (by rfl) ?_; dsimp only)); refine sq_box 2 #[.int .i64 0, .slice none 0 0, .slice none 0 0] 25 ?_; intro g2 hg w1 hbox hb; have HB1 := Aside0.mk (below_step (sq_bl HB0.out) hb); have BK2a := Aside0.mk (hbox); have GE2 := Aside0.mk ((by rw [hg]; exact HB0.out.size : w.heap.size ≤ g2)); clear hb hbox hg) | ((with_reducible refine gate_dst (N := 3) rfl ?_); (try (refine gate_guard (by rfl) ?_; dsimp only)); refine sq_box 3 #[.int .i64 0, .int .i64 0] 30 ?_; intro g3 hg w2 hbox hb; have HB2 := Aside0.mk (below_step (sq_bl HB1.out) hb); have BK2 := Aside0.mk (blk_below (sq_bk BK2a.out) hb); have BK3 := Aside0.mk (hbox); have GE3 := Aside0.mk ((by rw [hg]; exact HB1.out.size : w.heap.size ≤ g3)); have N23 := Aside0.mk ((by rw [hg]; exact Nat.ne_of_lt (blk_lt (sq_bk BK2a.out)) : g2 ≠ g3)); have N32 := Aside0.mk N23.out.symm; have n23_ := N23.out; have n32_ := N32.out; clear BK2a; have hzg2_0 : w2.cell? ⟨g2, 0, none⟩ = some (.int .i64 0) := (by exact (blk_cell BK2.out 0).trans rfl); have hfg2_0 := blk_frozen BK2.out 0; have hzg2_1 : w2.cell? ⟨g2, 1, none⟩ = some (.slice none 0 0) := (by exact (blk_cell BK2.out 1).trans rfl); have hfg2_1 := blk_frozen BK2.out 1; have hzg2_2 : w2.cell? ⟨g2, 2, none⟩ = some (.slice none 0 0) := (by exact (blk_cell BK2.out 2).trans rfl); have hfg2_2 := blk_frozen BK2.out 2; have hzg3_0 : w2.cell? ⟨g3, 0, none⟩ = some (.int .i64 0) := (by exact (blk_cell BK3.out 0).trans rfl); have hfg3_0 := blk_frozen BK3.out 0; have hzg3_1 : w2.cell? ⟨g3, 1, none⟩ = some (.int .i64 0) := (by exact (blk_cell BK3.out 1).trans rfl); have hfg3_1 := blk_frozen BK3.out 1; clear hb hbox hg))
    refine bodyPost_ret (results_cc rfl _ _ g2 g3 25 30 #[.int .i64 0, .slice none 0 0, .slice none 0 0] #[.int .i64 2, .int .i64 0] (0, 0) (0, 0) _ _ rfl (by (with_reducible repeat (first | refine blk_drewN ?_ _ | refine blk_drew ?_ | refine blk_alloc ?_ _)); refine blk_far ?_ N23.out _; (with_reducible repeat (first | refine blk_drewN ?_ _ | refine blk_drew ?_ | refine blk_alloc ?_ _)); refine blk_far ?_ N23.out _; (with_reducible repeat (first | refine blk_drewN ?_ _ | refine blk_drew ?_ | refine blk_alloc ?_ _)); refine blk_put (cs := #[.int .i64 0, .slice none 0 0, .slice none 0 0]) ?_ 2 _ rfl; (with_reducible repeat (first | refine blk_drewN ?_ _ | refine blk_drew ?_ | refine blk_alloc ?_ _)); refine blk_put (cs := #[.int .i64 0, .slice none 0 0, .slice none 0 0]) ?_ 1 _ rfl; (with_reducible repeat (first | refine blk_drewN ?_ _ | refine blk_drew ?_ | refine blk_alloc ?_ _)); refine blk_put (cs := #[.int .i64 0, .slice none 0 0, .slice none 0 0]) ?_ 0 _ rfl; (with_reducible repeat (first | refine blk_drewN ?_ _ | refine blk_drew ?_ | refine blk_alloc ?_ _)); exact BK2.out) Tryd.underlying25 rfl (by kernel_rfl) rfl (by (with_reducible repeat (first | refine blk_drewN ?_ _ | refine blk_drew ?_ | refine blk_alloc ?_ _)); refine blk_put (cs := #[.int .i64 2, .int .i64 0]) ?_ 1 _ rfl; (with_reducible repeat (first | refine blk_drewN ?_ _ | refine blk_drew ?_ | refine blk_alloc ?_ _)); refine blk_put (cs := #[.int .i64 0, .int .i64 0]) ?_ 0 _ rfl; (with_reducible repeat (first | refine blk_drewN ?_ _ | refine blk_drew ?_ | refine blk_alloc ?_ _)); refine blk_far ?_ N32.out _; (with_reducible repeat (first | refine blk_drewN ?_ _ | refine blk_drew ?_ | refine blk_alloc ?_ _)); refine blk_far ?_ N32.out _; (with_reducible repeat (first | refine blk_drewN ?_ _ | refine blk_drew ?_ | refine blk_alloc ?_ _)); refine blk_far ?_ N32.out _; (with_reducible repeat (first | refine blk_drewN ?_ _ | refine blk_drew ?_ | refine blk_alloc ?_ _)); exact BK3.out) Tryd.underlying30 rfl (by kernel_rfl)) rfl ?_
    exact ⟨_, _, rfl, Kd.R_nil _ _ _ _ _, Kd.R_nil _ _ _ _ _, (sq_bs HB2.out)⟩
  · rw [if_neg hsz] at h
    obtain ⟨ls, hs, h⟩ := Option.bind_eq_some_iff.mp h
    have hln : ls.length ≤ 65537 := by
      have h2 := hs
      unfold system_split.f at h2
      split at h2
      · have h3 := splA_len a0 (10 : Int).toNat a0.size 0 0; rw [Option.some.inj h2] at h3; omega
      · cases h2
    have HSp := Aside0.mk hs
    have HG := Aside0.mk h
    have c2b0 : decide (65536 < (a0.size : Int)) = false := decide_eq_false (by omega)
    have c2b1 : decide (65536 < a0.size) = false := decide_eq_false hsz
    clear hsz hs h
    go_enter Tryd.func9, Tryd.ntmps9
    go_wp2_with (first | ((with_reducible refine gate_dst (N := 2) rfl ?_); (try (refine gate_guard (by rfl) ?_; dsimp only)); refine sq_box 2 #[.int .i64 0, .slice none 0 0, .slice none 0 0] 25 ?_; intro g2 hg w1 hbox hb; have HB1 := Aside0.mk (below_step (sq_bl HB0.out) hb); have BK2a := Aside0.mk (hbox); have GE2 := Aside0.mk ((by rw [hg]; exact HB0.out.size : w.heap.size ≤ g2)); clear hb hbox hg) | ((with_reducible refine gate_dst (N := 3) rfl ?_); (try (refine gate_guard (by rfl) ?_; dsimp only)); refine sq_box 3 #[.int .i64 0, .int .i64 0] 30 ?_; intro g3 hg w2 hbox hb; have HB2 := Aside0.mk (below_step (sq_bl HB1.out) hb); have BK2 := Aside0.mk (blk_below (sq_bk BK2a.out) hb); have BK3 := Aside0.mk (hbox); have GE3 := Aside0.mk ((by rw [hg]; exact HB1.out.size : w.heap.size ≤ g3)); have N23 := Aside0.mk ((by rw [hg]; exact Nat.ne_of_lt (blk_lt (sq_bk BK2a.out)) : g2 ≠ g3)); have N32 := Aside0.mk N23.out.symm; have n23_ := N23.out; have n32_ := N32.out; clear BK2a; clear hb hbox hg) | ((with_reducible refine gate_dst (N := 4) rfl ?_); (try (refine gate_guard (by rfl) ?_; dsimp only)); refine sq_box 4 #[.int .i64 0, .slice none 0 0, .slice none 0 0] 25 ?_; intro g4 hg w3 hbox hb; have HB3 := Aside0.mk (below_step (sq_bl HB2.out) hb); have BK2b := Aside0.mk (blk_below (sq_bk BK2.out) hb); have BK3b := Aside0.mk (blk_below (sq_bk BK3.out) hb); have BK4b := Aside0.mk (hbox); have GE4 := Aside0.mk ((by rw [hg]; exact HB2.out.size : w.heap.size ≤ g4)); have N24 := Aside0.mk ((by rw [hg]; exact Nat.ne_of_lt (blk_lt (sq_bk BK2.out)) : g2 ≠ g4)); have N34 := Aside0.mk ((by rw [hg]; exact Nat.ne_of_lt (blk_lt (sq_bk BK3.out)) : g3 ≠ g4)); clear BK2 BK3; clear hb hbox hg) | ((with_reducible refine gate_callee (f := 23) rfl ?_); refine sq_goes (some 15) Tryd.func23 #[.string a0, .int .i32 10] ?_; refine (system_split.calls a0 10 _ _ HSp.out).mono ?_; rintro e w4 ⟨v0, rfl, hr, hb⟩; obtain ⟨Al, cl, es⟩ := Kd.R_slice hr; subst es; refine ⟨_, rfl, ?_⟩; have HB4 := Aside0.mk (below_step (sq_bl HB3.out) hb); have BK2 := Aside0.mk (blk_below (sq_bk BK2b.out) hb); have BK3 := Aside0.mk (blk_below (sq_bk BK3b.out) hb); have BK4 := Aside0.mk (blk_below (sq_bk BK4b.out) hb); have HLN := Aside0.mk (Kd.R_lower (Kd.R_tight rfl hr) HB3.out.size); clear BK2b BK3b BK4b hr hb))
    clear c2b0 c2b1 HSp
    go_loopw [18] (fun n w' => ∃ (i : Nat) (st : Int) (ev : List ByteArray) (av : List (S46)) (ve va : Value), n = .int .i64 i ∧ i ≤ ls.length ∧ Aside0 (system_Parse.go k ls.length (ls.drop i) i st ev av = some (r1, r2, r3, r4, r5)) ∧ Aside0 (w'.heap[g2]? = some (.cells #[.int .i64 0, .slice none 0 0, .slice none 0 0] 25 (0, 0))) ∧ Aside0 (w'.heap[g3]? = some (.cells #[.int .i64 0, .int .i64 0] 30 (0, 0))) ∧ Aside0 (w'.heap[g4]? = some (.cells #[.int .i64 st, ve, va] 25 (0, 0))) ∧ Aside0 (Kd.R Kd.string 9 w' w.heap.size (fun k_ => some k_ ≠ (Value.slice Al ls.length cl).ownBlock ∧ k_ ≠ g2 ∧ k_ ≠ g3) ve ev) ∧ Aside0 (Kd.R k46 46 w' w.heap.size (fun k_ => some k_ ≠ (Value.slice Al ls.length cl).ownBlock ∧ k_ ≠ g2 ∧ k_ ≠ g3) va av) ∧ Aside0 (Kd.R Kd.string 9 w' w.heap.size (fun k_ => some k_ = (Value.slice Al ls.length cl).ownBlock) (.slice Al ls.length cl) ls) ∧ Aside0 (Below w.heap.size w w')) (fun n _ => ls.length - (intOf n).toNat)
    case atStart => exact ⟨0, 0, [], [], .slice none 0 0, .slice none 0 0, rfl, Nat.zero_le _, HG, BK2, BK3, BK4, ⟨Kd.R_nil _ _ _ _ _⟩, ⟨Kd.R_nil _ _ _ _ _⟩, HLN, HB4⟩
    case round =>
      clear HG BK2 BK3 BK4 HLN HB4 HB0 HB1 HB2 HB3
      obtain ⟨i, st, ev, av, ve, va, rfl, hi, HG, BK2, BK3, BK4, HE, HA, HLN, HB⟩ := hrel
      obtain ⟨Ae, ce, ee⟩ := Kd.R_slice HE.out
      subst ee
      obtain ⟨Aa, ca, ea⟩ := Kd.R_slice HA.out
      subst ea
      by_cases hlt : i < ls.length
      · have hg := HG.out
        rw [List.drop_eq_getElem_cons hlt, system_Parse.go] at hg
        clear HG
        obtain ⟨ad, e1, hx⟩ := Kd.at_string (Kd.R_reads' HLN.out).2.2 (i : Int) (by omega) (by omega)
        cases e1
        have hrd : rdOf ByteArray.empty ls (i : Int) = ls[i] := by unfold rdOf; rw [Int.toNat_natCast, List.getD_eq_getElem?_getD, List.getElem?_eq_getElem hlt]; rfl
        rw [hrd, Int.toNat_natCast] at hx
        clear hrd
        have d1 : decide ((i : Int) < (ls.length : Int)) = true := decide_eq_true (by omega)
        generalize hxe : ls[i] = x at hx hg
        have hw1 : wrap64 ((ls.length : Int) - 1) = (ls.length : Int) - 1 := by unfold wrap64; omega
        by_cases hlast : i + 1 = ls.length
        · rw [if_pos hlast] at hg
          have l1 : ((i : Int) == (ls.length : Int) - 1) = true := beq_iff_eq.mpr (by omega)
          have l2 : ((i : Int) == wrap64 ((ls.length : Int) - 1)) = true := beq_iff_eq.mpr (by omega)
          by_cases hbr : 0 < i ∧ x = tNone
          · rw [if_pos hbr] at hg
            have HF := Aside0.mk hg
            have HG := HF
            obtain ⟨h0, rfl⟩ := hbr
            have l4 : decide (0 < (i : Int)) = true := decide_eq_true (by omega)
            have l5 : ((tNone).toList == ([] : List UInt8)) = true := by rw [Lib.toList_data]; rfl
            clear hg hxe
            unfold tNone at *
            obtain ⟨⟨e_, at_⟩, hc, hq⟩ := Option.bind_eq_some_iff.mp HF.out
            have HC := Aside0.mk hc
            clear HF hc HG
            have hzg4_0 : wr.cell? ⟨g4, 0, none⟩ = some (.int .i64 st) := (by exact (blk_cell BK4.out 0).trans rfl)
            have hfg4_0 := blk_frozen BK4.out 0
            have hzg4_1 : wr.cell? ⟨g4, 1, none⟩ = some (.slice Ae ev.length ce) := (by exact (blk_cell BK4.out 1).trans rfl)
            have hfg4_1 := blk_frozen BK4.out 1
            have hzg4_2 : wr.cell? ⟨g4, 2, none⟩ = some (.slice Aa av.length ca) := (by exact (blk_cell BK4.out 2).trans rfl)
            have hfg4_2 := blk_frozen BK4.out 2
            by_cases he0 : e_ = 0
            · subst he0
              simp only [if_true, Option.some.injEq, Prod.mk.injEq] at hq
              obtain ⟨rfl, rfl, rfl, rfl, rfl⟩ := hq
              go_wp2_with (first | ((with_reducible refine gate_callee (f := 18) rfl ?_); refine sq_goes (some 54) Tryd.func18 #[.agg #[.int .i64 st, .slice Ae ev.length ce, .slice Aa av.length ca]] ?_; refine (system_Check.calls k st Ae ce ev Aa ca av 0 at_ _ (Kd.R_reads' (sq_kr HE.out)).2.2 (Kd.R_reads' (sq_kr HE.out)).2.1 (Kd.R_reads' (sq_kr HA.out)).2.2 (Kd.R_reads' (sq_kr HA.out)).2.1 HC.out).mono ?_; rintro e w6 ⟨rfl, hb⟩; refine ⟨_, rfl, ?_⟩; have HB6 := Aside0.mk (below_step (sq_bl HB.out) hb); have BK2c := Aside0.mk (blk_below (sq_bk BK2.out) hb); have BK3c := Aside0.mk (blk_below (sq_bk BK3.out) hb); have BK4c := Aside0.mk (blk_below (sq_bk BK4.out) hb); have HE6 := Aside0.mk (Kd.R_below (sq_kr HE.out) hb); have HA6 := Aside0.mk (Kd.R_below (sq_kr HA.out) hb); clear hb) | ((with_reducible refine gate_dst (N := 8) rfl ?_); (try (refine gate_guard (by rfl) ?_; dsimp only)); refine sq_box 8 #[.int .i64 0, .int .i64 0] 30 ?_; intro g8 hg w7 hbox hb; have HB7 := Aside0.mk (below_step (sq_bl HB6.out) hb); have BK2d := Aside0.mk (blk_below (sq_bk BK2c.out) hb); have BK3d := Aside0.mk (blk_below (sq_bk BK3c.out) hb); have BK4d := Aside0.mk (blk_below (sq_bk BK4c.out) hb); have BK8 := Aside0.mk (hbox); have HE7 := Aside0.mk (Kd.R_below (sq_kr HE6.out) hb); have HA7 := Aside0.mk (Kd.R_below (sq_kr HA6.out) hb); have GE8 := Aside0.mk ((by rw [hg]; exact HB6.out.size : w.heap.size ≤ g8)); have N28 := Aside0.mk ((by rw [hg]; exact Nat.ne_of_lt (blk_lt (sq_bk BK2c.out)) : g2 ≠ g8)); have N38 := Aside0.mk ((by rw [hg]; exact Nat.ne_of_lt (blk_lt (sq_bk BK3c.out)) : g3 ≠ g8)); have N48 := Aside0.mk ((by rw [hg]; exact Nat.ne_of_lt (blk_lt (sq_bk BK4c.out)) : g4 ≠ g8)); have n28_ := N28.out; have n82_ := N28.out.symm; have n38_ := N38.out; have n83_ := N38.out.symm; have n48_ := N48.out; have n84_ := N48.out.symm; have n24_ := N24.out; have n42_ := N24.out.symm; have n34_ := N34.out; have n43_ := N34.out.symm; have hy4_0 : w7.cell? ⟨g4, 0, none⟩ = some (.int .i64 st) := (by exact (blk_cell BK4d.out 0).trans rfl); have hyf4_0 := blk_frozen BK4d.out 0; have hy4_1 : w7.cell? ⟨g4, 1, none⟩ = some (.slice Ae ev.length ce) := (by exact (blk_cell BK4d.out 1).trans rfl); have hyf4_1 := blk_frozen BK4d.out 1; have hy4_2 : w7.cell? ⟨g4, 2, none⟩ = some (.slice Aa av.length ca) := (by exact (blk_cell BK4d.out 2).trans rfl); have hyf4_2 := blk_frozen BK4d.out 2; have hzg2_0 : w7.cell? ⟨g2, 0, none⟩ = some (.int .i64 0) := (by exact (blk_cell BK2d.out 0).trans rfl); have hfg2_0 := blk_frozen BK2d.out 0; have hzg2_1 : w7.cell? ⟨g2, 1, none⟩ = some (.slice none 0 0) := (by exact (blk_cell BK2d.out 1).trans rfl); have hfg2_1 := blk_frozen BK2d.out 1; have hzg2_2 : w7.cell? ⟨g2, 2, none⟩ = some (.slice none 0 0) := (by exact (blk_cell BK2d.out 2).trans rfl); have hfg2_2 := blk_frozen BK2d.out 2; have hzg3_0 : w7.cell? ⟨g3, 0, none⟩ = some (.int .i64 0) := (by exact (blk_cell BK3d.out 0).trans rfl); have hfg3_0 := blk_frozen BK3d.out 0; have hzg3_1 : w7.cell? ⟨g3, 1, none⟩ = some (.int .i64 0) := (by exact (blk_cell BK3d.out 1).trans rfl); have hfg3_1 := blk_frozen BK3d.out 1; have hzg8_0 : w7.cell? ⟨g8, 0, none⟩ = some (.int .i64 0) := (by exact (blk_cell BK8.out 0).trans rfl); have hfg8_0 := blk_frozen BK8.out 0; have hzg8_1 : w7.cell? ⟨g8, 1, none⟩ = some (.int .i64 0) := (by exact (blk_cell BK8.out 1).trans rfl); have hfg8_1 := blk_frozen BK8.out 1; clear hb hbox hg))
              refine bodyPost_ret (results_cc rfl _ _ g2 g3 25 30 #[.int .i64 st, .slice Ae ev.length ce, .slice Aa av.length ca] #[.int .i64 0, .int .i64 0] (0, 0) (0, 0) _ _ rfl (by (with_reducible repeat (first | refine blk_drewN ?_ _ | refine blk_drew ?_ | refine blk_alloc ?_ _)); refine blk_far ?_ N23.out _; (with_reducible repeat (first | refine blk_drewN ?_ _ | refine blk_drew ?_ | refine blk_alloc ?_ _)); refine blk_far ?_ N23.out _; (with_reducible repeat (first | refine blk_drewN ?_ _ | refine blk_drew ?_ | refine blk_alloc ?_ _)); refine blk_put (cs := #[.int .i64 st, .slice Ae ev.length ce, .slice none 0 0]) ?_ 2 _ rfl; (with_reducible repeat (first | refine blk_drewN ?_ _ | refine blk_drew ?_ | refine blk_alloc ?_ _)); refine blk_put (cs := #[.int .i64 st, .slice none 0 0, .slice none 0 0]) ?_ 1 _ rfl; (with_reducible repeat (first | refine blk_drewN ?_ _ | refine blk_drew ?_ | refine blk_alloc ?_ _)); refine blk_put (cs := #[.int .i64 0, .slice none 0 0, .slice none 0 0]) ?_ 0 _ rfl; (with_reducible repeat (first | refine blk_drewN ?_ _ | refine blk_drew ?_ | refine blk_alloc ?_ _)); refine blk_far ?_ N28.out _; (with_reducible repeat (first | refine blk_drewN ?_ _ | refine blk_drew ?_ | refine blk_alloc ?_ _)); refine blk_far ?_ N28.out _; (with_reducible repeat (first | refine blk_drewN ?_ _ | refine blk_drew ?_ | refine blk_alloc ?_ _)); exact BK2d.out) Tryd.underlying25 rfl (by kernel_rfl) rfl (by (with_reducible repeat (first | refine blk_drewN ?_ _ | refine blk_drew ?_ | refine blk_alloc ?_ _)); refine blk_put (cs := #[.int .i64 0, .int .i64 0]) ?_ 1 _ rfl; (with_reducible repeat (first | refine blk_drewN ?_ _ | refine blk_drew ?_ | refine blk_alloc ?_ _)); refine blk_put (cs := #[.int .i64 0, .int .i64 0]) ?_ 0 _ rfl; (with_reducible repeat (first | refine blk_drewN ?_ _ | refine blk_drew ?_ | refine blk_alloc ?_ _)); refine blk_far ?_ N32.out _; (with_reducible repeat (first | refine blk_drewN ?_ _ | refine blk_drew ?_ | refine blk_alloc ?_ _)); refine blk_far ?_ N32.out _; (with_reducible repeat (first | refine blk_drewN ?_ _ | refine blk_drew ?_ | refine blk_alloc ?_ _)); refine blk_far ?_ N32.out _; (with_reducible repeat (first | refine blk_drewN ?_ _ | refine blk_drew ?_ | refine blk_alloc ?_ _)); refine blk_far ?_ N38.out _; (with_reducible repeat (first | refine blk_drewN ?_ _ | refine blk_drew ?_ | refine blk_alloc ?_ _)); refine blk_far ?_ N38.out _; (with_reducible repeat (first | refine blk_drewN ?_ _ | refine blk_drew ?_ | refine blk_alloc ?_ _)); exact BK3d.out) Tryd.underlying30 rfl (by kernel_rfl)) rfl ?_
              refine ⟨_, _, rfl, ?_, ?_, (sq_bs HB7.out)⟩
              · exact Kd.R_mono (Kd.R_far (Kd.R_far (Kd.R_far (Kd.R_far (Kd.R_far (Kd.R_far (Kd.R_far (Kd.R_types HE7.out BK8.out (by decide)) (fun _ hk => by first | exact hk.2 | exact hk.1.2.1 | exact hk.1.2.2) _) (fun _ hk => by first | exact hk.2 | exact hk.1.2.1 | exact hk.1.2.2) _) (fun _ hk => by first | exact hk.2 | exact hk.1.2.1 | exact hk.1.2.2) _) (fun _ hk => by first | exact hk.2 | exact hk.1.2.1 | exact hk.1.2.2) _) (fun _ hk => by first | exact hk.2 | exact hk.1.2.1 | exact hk.1.2.2) _) (fun _ hk => by first | exact hk.2 | exact hk.1.2.1 | exact hk.1.2.2) _) (fun _ hk => by first | exact hk.2 | exact hk.1.2.1 | exact hk.1.2.2) _) (fun _ _ => trivial)
              · exact Kd.R_mono (Kd.R_far (Kd.R_far (Kd.R_far (Kd.R_far (Kd.R_far (Kd.R_far (Kd.R_far (Kd.R_types HA7.out BK8.out (by decide)) (fun _ hk => by first | exact hk.2 | exact hk.1.2.1 | exact hk.1.2.2) _) (fun _ hk => by first | exact hk.2 | exact hk.1.2.1 | exact hk.1.2.2) _) (fun _ hk => by first | exact hk.2 | exact hk.1.2.1 | exact hk.1.2.2) _) (fun _ hk => by first | exact hk.2 | exact hk.1.2.1 | exact hk.1.2.2) _) (fun _ hk => by first | exact hk.2 | exact hk.1.2.1 | exact hk.1.2.2) _) (fun _ hk => by first | exact hk.2 | exact hk.1.2.1 | exact hk.1.2.2) _) (fun _ hk => by first | exact hk.2 | exact hk.1.2.1 | exact hk.1.2.2) _) (fun _ _ => trivial)
            · have q1 : (e_ == 0) = false := beq_eq_false_iff_ne.mpr he0
              have q2 : (e_ != 0) = true := bne_iff_ne.mpr he0
              simp only [if_neg he0, Option.some.injEq, Prod.mk.injEq] at hq
              obtain ⟨rfl, rfl, rfl, rfl, rfl⟩ := hq
              go_wp2_with (first | ((with_reducible refine gate_callee (f := 18) rfl ?_); refine sq_goes (some 54) Tryd.func18 #[.agg #[.int .i64 st, .slice Ae ev.length ce, .slice Aa av.length ca]] ?_; refine (system_Check.calls k st Ae ce ev Aa ca av e_ at_ _ (Kd.R_reads' (sq_kr HE.out)).2.2 (Kd.R_reads' (sq_kr HE.out)).2.1 (Kd.R_reads' (sq_kr HA.out)).2.2 (Kd.R_reads' (sq_kr HA.out)).2.1 HC.out).mono ?_; rintro e w6 ⟨rfl, hb⟩; refine ⟨_, rfl, ?_⟩; have HB6 := Aside0.mk (below_step (sq_bl HB.out) hb); have BK2c := Aside0.mk (blk_below (sq_bk BK2.out) hb); have BK3c := Aside0.mk (blk_below (sq_bk BK3.out) hb); have BK4c := Aside0.mk (blk_below (sq_bk BK4.out) hb); have HE6 := Aside0.mk (Kd.R_below (sq_kr HE.out) hb); have HA6 := Aside0.mk (Kd.R_below (sq_kr HA.out) hb); clear hb) | ((with_reducible refine gate_dst (N := 8) rfl ?_); (try (refine gate_guard (by rfl) ?_; dsimp only)); refine sq_box 8 #[.int .i64 0, .int .i64 0] 30 ?_; intro g8 hg w7 hbox hb; have HB7 := Aside0.mk (below_step (sq_bl HB6.out) hb); have BK2d := Aside0.mk (blk_below (sq_bk BK2c.out) hb); have BK3d := Aside0.mk (blk_below (sq_bk BK3c.out) hb); have BK4d := Aside0.mk (blk_below (sq_bk BK4c.out) hb); have BK8 := Aside0.mk (hbox); have HE7 := Aside0.mk (Kd.R_below (sq_kr HE6.out) hb); have HA7 := Aside0.mk (Kd.R_below (sq_kr HA6.out) hb); have GE8 := Aside0.mk ((by rw [hg]; exact HB6.out.size : w.heap.size ≤ g8)); have N28 := Aside0.mk ((by rw [hg]; exact Nat.ne_of_lt (blk_lt (sq_bk BK2c.out)) : g2 ≠ g8)); have N38 := Aside0.mk ((by rw [hg]; exact Nat.ne_of_lt (blk_lt (sq_bk BK3c.out)) : g3 ≠ g8)); have N48 := Aside0.mk ((by rw [hg]; exact Nat.ne_of_lt (blk_lt (sq_bk BK4c.out)) : g4 ≠ g8)); have n28_ := N28.out; have n82_ := N28.out.symm; have n38_ := N38.out; have n83_ := N38.out.symm; have n48_ := N48.out; have n84_ := N48.out.symm; have n24_ := N24.out; have n42_ := N24.out.symm; have n34_ := N34.out; have n43_ := N34.out.symm; have hy4_0 : w7.cell? ⟨g4, 0, none⟩ = some (.int .i64 st) := (by exact (blk_cell BK4d.out 0).trans rfl); have hyf4_0 := blk_frozen BK4d.out 0; have hy4_1 : w7.cell? ⟨g4, 1, none⟩ = some (.slice Ae ev.length ce) := (by exact (blk_cell BK4d.out 1).trans rfl); have hyf4_1 := blk_frozen BK4d.out 1; have hy4_2 : w7.cell? ⟨g4, 2, none⟩ = some (.slice Aa av.length ca) := (by exact (blk_cell BK4d.out 2).trans rfl); have hyf4_2 := blk_frozen BK4d.out 2; have hzg2_0 : w7.cell? ⟨g2, 0, none⟩ = some (.int .i64 0) := (by exact (blk_cell BK2d.out 0).trans rfl); have hfg2_0 := blk_frozen BK2d.out 0; have hzg2_1 : w7.cell? ⟨g2, 1, none⟩ = some (.slice none 0 0) := (by exact (blk_cell BK2d.out 1).trans rfl); have hfg2_1 := blk_frozen BK2d.out 1; have hzg2_2 : w7.cell? ⟨g2, 2, none⟩ = some (.slice none 0 0) := (by exact (blk_cell BK2d.out 2).trans rfl); have hfg2_2 := blk_frozen BK2d.out 2; have hzg3_0 : w7.cell? ⟨g3, 0, none⟩ = some (.int .i64 0) := (by exact (blk_cell BK3d.out 0).trans rfl); have hfg3_0 := blk_frozen BK3d.out 0; have hzg3_1 : w7.cell? ⟨g3, 1, none⟩ = some (.int .i64 0) := (by exact (blk_cell BK3d.out 1).trans rfl); have hfg3_1 := blk_frozen BK3d.out 1; have hzg8_0 : w7.cell? ⟨g8, 0, none⟩ = some (.int .i64 0) := (by exact (blk_cell BK8.out 0).trans rfl); have hfg8_0 := blk_frozen BK8.out 0; have hzg8_1 : w7.cell? ⟨g8, 1, none⟩ = some (.int .i64 0) := (by exact (blk_cell BK8.out 1).trans rfl); have hfg8_1 := blk_frozen BK8.out 1; clear hb hbox hg))
              go_region
              all_goals (try go_wp2)
              all_goals (refine bodyPost_ret (results_cc rfl _ _ g2 g3 25 30 #[.int .i64 0, .slice none 0 0, .slice none 0 0] #[.int .i64 e_, .int .i64 at_] (0, 0) (0, 0) _ _ rfl (by first | exact (by (with_reducible repeat (first | refine blk_drewN ?_ _ | refine blk_drew ?_ | refine blk_alloc ?_ _)); refine blk_far ?_ N23.out _; (with_reducible repeat (first | refine blk_drewN ?_ _ | refine blk_drew ?_ | refine blk_alloc ?_ _)); refine blk_far ?_ N23.out _; (with_reducible repeat (first | refine blk_drewN ?_ _ | refine blk_drew ?_ | refine blk_alloc ?_ _)); refine blk_put (cs := #[.int .i64 0, .slice none 0 0, .slice none 0 0]) ?_ 2 _ rfl; (with_reducible repeat (first | refine blk_drewN ?_ _ | refine blk_drew ?_ | refine blk_alloc ?_ _)); refine blk_put (cs := #[.int .i64 0, .slice none 0 0, .slice none 0 0]) ?_ 1 _ rfl; (with_reducible repeat (first | refine blk_drewN ?_ _ | refine blk_drew ?_ | refine blk_alloc ?_ _)); refine blk_put (cs := #[.int .i64 0, .slice none 0 0, .slice none 0 0]) ?_ 0 _ rfl; (with_reducible repeat (first | refine blk_drewN ?_ _ | refine blk_drew ?_ | refine blk_alloc ?_ _)); refine blk_far ?_ N28.out _; (with_reducible repeat (first | refine blk_drewN ?_ _ | refine blk_drew ?_ | refine blk_alloc ?_ _)); refine blk_far ?_ N28.out _; (with_reducible repeat (first | refine blk_drewN ?_ _ | refine blk_drew ?_ | refine blk_alloc ?_ _)); exact BK2d.out) | exact (by (with_reducible repeat (first | refine blk_drewN ?_ _ | refine blk_drew ?_ | refine blk_alloc ?_ _)); refine blk_put (cs := #[.int .i64 0, .slice none 0 0, .slice none 0 0]) ?_ 2 _ rfl; (with_reducible repeat (first | refine blk_drewN ?_ _ | refine blk_drew ?_ | refine blk_alloc ?_ _)); refine blk_put (cs := #[.int .i64 0, .slice none 0 0, .slice none 0 0]) ?_ 1 _ rfl; (with_reducible repeat (first | refine blk_drewN ?_ _ | refine blk_drew ?_ | refine blk_alloc ?_ _)); refine blk_put (cs := #[.int .i64 0, .slice none 0 0, .slice none 0 0]) ?_ 0 _ rfl; (with_reducible repeat (first | refine blk_drewN ?_ _ | refine blk_drew ?_ | refine blk_alloc ?_ _)); refine blk_far ?_ N23.out _; (with_reducible repeat (first | refine blk_drewN ?_ _ | refine blk_drew ?_ | refine blk_alloc ?_ _)); refine blk_far ?_ N23.out _; (with_reducible repeat (first | refine blk_drewN ?_ _ | refine blk_drew ?_ | refine blk_alloc ?_ _)); refine blk_far ?_ N28.out _; (with_reducible repeat (first | refine blk_drewN ?_ _ | refine blk_drew ?_ | refine blk_alloc ?_ _)); refine blk_far ?_ N28.out _; (with_reducible repeat (first | refine blk_drewN ?_ _ | refine blk_drew ?_ | refine blk_alloc ?_ _)); exact BK2d.out)) Tryd.underlying25 rfl (by kernel_rfl) rfl (by first | exact (by (with_reducible repeat (first | refine blk_drewN ?_ _ | refine blk_drew ?_ | refine blk_alloc ?_ _)); refine blk_put (cs := #[.int .i64 e_, .int .i64 0]) ?_ 1 _ rfl; (with_reducible repeat (first | refine blk_drewN ?_ _ | refine blk_drew ?_ | refine blk_alloc ?_ _)); refine blk_put (cs := #[.int .i64 0, .int .i64 0]) ?_ 0 _ rfl; (with_reducible repeat (first | refine blk_drewN ?_ _ | refine blk_drew ?_ | refine blk_alloc ?_ _)); refine blk_far ?_ N32.out _; (with_reducible repeat (first | refine blk_drewN ?_ _ | refine blk_drew ?_ | refine blk_alloc ?_ _)); refine blk_far ?_ N32.out _; (with_reducible repeat (first | refine blk_drewN ?_ _ | refine blk_drew ?_ | refine blk_alloc ?_ _)); refine blk_far ?_ N32.out _; (with_reducible repeat (first | refine blk_drewN ?_ _ | refine blk_drew ?_ | refine blk_alloc ?_ _)); refine blk_far ?_ N38.out _; (with_reducible repeat (first | refine blk_drewN ?_ _ | refine blk_drew ?_ | refine blk_alloc ?_ _)); refine blk_far ?_ N38.out _; (with_reducible repeat (first | refine blk_drewN ?_ _ | refine blk_drew ?_ | refine blk_alloc ?_ _)); exact BK3d.out) | exact (by (with_reducible repeat (first | refine blk_drewN ?_ _ | refine blk_drew ?_ | refine blk_alloc ?_ _)); refine blk_far ?_ N32.out _; (with_reducible repeat (first | refine blk_drewN ?_ _ | refine blk_drew ?_ | refine blk_alloc ?_ _)); refine blk_far ?_ N32.out _; (with_reducible repeat (first | refine blk_drewN ?_ _ | refine blk_drew ?_ | refine blk_alloc ?_ _)); refine blk_far ?_ N32.out _; (with_reducible repeat (first | refine blk_drewN ?_ _ | refine blk_drew ?_ | refine blk_alloc ?_ _)); refine blk_put (cs := #[.int .i64 e_, .int .i64 0]) ?_ 1 _ rfl; (with_reducible repeat (first | refine blk_drewN ?_ _ | refine blk_drew ?_ | refine blk_alloc ?_ _)); refine blk_put (cs := #[.int .i64 0, .int .i64 0]) ?_ 0 _ rfl; (with_reducible repeat (first | refine blk_drewN ?_ _ | refine blk_drew ?_ | refine blk_alloc ?_ _)); refine blk_far ?_ N38.out _; (with_reducible repeat (first | refine blk_drewN ?_ _ | refine blk_drew ?_ | refine blk_alloc ?_ _)); refine blk_far ?_ N38.out _; (with_reducible repeat (first | refine blk_drewN ?_ _ | refine blk_drew ?_ | refine blk_alloc ?_ _)); exact BK3d.out)) Tryd.underlying30 rfl (by kernel_rfl)) rfl ?_)
              all_goals exact ⟨_, _, rfl, Kd.R_nil _ _ _ _ _, Kd.R_nil _ _ _ _ _, (sq_bs HB7.out)⟩
          · rw [if_neg hbr] at hg
            by_cases h0 : 0 < i
            · have l5 : (x.toList == ([] : List UInt8)) = false := by rw [beq_eq_false_iff_ne]; exact fun h => hbr ⟨h0, by rw [Lib.toList_data] at h; exact ByteArray.ext (Array.ext' h)⟩
              have l6 : x.toList.isEmpty = false := by cases hq : x.toList with | nil => rw [hq] at l5; exact absurd l5 (by decide) | cons _ _ => rfl
              have l4 : decide (0 < (i : Int)) = true := decide_eq_true (by omega)
              clear hbr hxe
              simp only [Option.some.injEq, Prod.mk.injEq] at hg
              obtain ⟨rfl, rfl, rfl, rfl, rfl⟩ := hg
              have hzg2_0 : wr.cell? ⟨g2, 0, none⟩ = some (.int .i64 0) := (by exact (blk_cell BK2.out 0).trans rfl)
              have hfg2_0 := blk_frozen BK2.out 0
              have hzg2_1 : wr.cell? ⟨g2, 1, none⟩ = some (.slice none 0 0) := (by exact (blk_cell BK2.out 1).trans rfl)
              have hfg2_1 := blk_frozen BK2.out 1
              have hzg2_2 : wr.cell? ⟨g2, 2, none⟩ = some (.slice none 0 0) := (by exact (blk_cell BK2.out 2).trans rfl)
              have hfg2_2 := blk_frozen BK2.out 2
              have hzg3_0 : wr.cell? ⟨g3, 0, none⟩ = some (.int .i64 0) := (by exact (blk_cell BK3.out 0).trans rfl)
              have hfg3_0 := blk_frozen BK3.out 0
              have hzg3_1 : wr.cell? ⟨g3, 1, none⟩ = some (.int .i64 0) := (by exact (blk_cell BK3.out 1).trans rfl)
              have hfg3_1 := blk_frozen BK3.out 1
              have n24_ := N24.out
              have n34_ := N34.out
              have hw2 : wrap64 ((i : Int) + 1) = ((i + 1 : Nat) : Int) := by unfold wrap64; omega
              go_wp2
              refine bodyPost_ret (results_cc rfl _ _ g2 g3 25 30 #[.int .i64 0, .slice none 0 0, .slice none 0 0] #[.int .i64 11, .int .i64 ((i + 1 : Nat) : Int)] (0, 0) (0, 0) _ _ rfl (by (with_reducible repeat (first | refine blk_drewN ?_ _ | refine blk_drew ?_ | refine blk_alloc ?_ _)); refine blk_far ?_ N23.out _; (with_reducible repeat (first | refine blk_drewN ?_ _ | refine blk_drew ?_ | refine blk_alloc ?_ _)); refine blk_far ?_ N23.out _; (with_reducible repeat (first | refine blk_drewN ?_ _ | refine blk_drew ?_ | refine blk_alloc ?_ _)); refine blk_put (cs := #[.int .i64 0, .slice none 0 0, .slice none 0 0]) ?_ 2 _ rfl; (with_reducible repeat (first | refine blk_drewN ?_ _ | refine blk_drew ?_ | refine blk_alloc ?_ _)); refine blk_put (cs := #[.int .i64 0, .slice none 0 0, .slice none 0 0]) ?_ 1 _ rfl; (with_reducible repeat (first | refine blk_drewN ?_ _ | refine blk_drew ?_ | refine blk_alloc ?_ _)); refine blk_put (cs := #[.int .i64 0, .slice none 0 0, .slice none 0 0]) ?_ 0 _ rfl; (with_reducible repeat (first | refine blk_drewN ?_ _ | refine blk_drew ?_ | refine blk_alloc ?_ _)); exact BK2.out) Tryd.underlying25 rfl (by kernel_rfl) rfl (by (with_reducible repeat (first | refine blk_drewN ?_ _ | refine blk_drew ?_ | refine blk_alloc ?_ _)); refine blk_put (cs := #[.int .i64 11, .int .i64 0]) ?_ 1 _ rfl; (with_reducible repeat (first | refine blk_drewN ?_ _ | refine blk_drew ?_ | refine blk_alloc ?_ _)); refine blk_put (cs := #[.int .i64 0, .int .i64 0]) ?_ 0 _ rfl; (with_reducible repeat (first | refine blk_drewN ?_ _ | refine blk_drew ?_ | refine blk_alloc ?_ _)); refine blk_far ?_ N32.out _; (with_reducible repeat (first | refine blk_drewN ?_ _ | refine blk_drew ?_ | refine blk_alloc ?_ _)); refine blk_far ?_ N32.out _; (with_reducible repeat (first | refine blk_drewN ?_ _ | refine blk_drew ?_ | refine blk_alloc ?_ _)); refine blk_far ?_ N32.out _; (with_reducible repeat (first | refine blk_drewN ?_ _ | refine blk_drew ?_ | refine blk_alloc ?_ _)); exact BK3.out) Tryd.underlying30 rfl (by kernel_rfl)) rfl ?_
              exact ⟨_, _, rfl, Kd.R_nil _ _ _ _ _, Kd.R_nil _ _ _ _ _, (sq_bs HB.out)⟩
            · have l4 : decide (0 < (i : Int)) = false := decide_eq_false (by omega)
              clear hbr hxe
              simp only [Option.some.injEq, Prod.mk.injEq] at hg
              obtain ⟨rfl, rfl, rfl, rfl, rfl⟩ := hg
              have hzg2_0 : wr.cell? ⟨g2, 0, none⟩ = some (.int .i64 0) := (by exact (blk_cell BK2.out 0).trans rfl)
              have hfg2_0 := blk_frozen BK2.out 0
              have hzg2_1 : wr.cell? ⟨g2, 1, none⟩ = some (.slice none 0 0) := (by exact (blk_cell BK2.out 1).trans rfl)
              have hfg2_1 := blk_frozen BK2.out 1
              have hzg2_2 : wr.cell? ⟨g2, 2, none⟩ = some (.slice none 0 0) := (by exact (blk_cell BK2.out 2).trans rfl)
              have hfg2_2 := blk_frozen BK2.out 2
              have hzg3_0 : wr.cell? ⟨g3, 0, none⟩ = some (.int .i64 0) := (by exact (blk_cell BK3.out 0).trans rfl)
              have hfg3_0 := blk_frozen BK3.out 0
              have hzg3_1 : wr.cell? ⟨g3, 1, none⟩ = some (.int .i64 0) := (by exact (blk_cell BK3.out 1).trans rfl)
              have hfg3_1 := blk_frozen BK3.out 1
              have n24_ := N24.out
              have n34_ := N34.out
              have hw2 : wrap64 ((i : Int) + 1) = ((i + 1 : Nat) : Int) := by unfold wrap64; omega
              go_wp2
              refine bodyPost_ret (results_cc rfl _ _ g2 g3 25 30 #[.int .i64 0, .slice none 0 0, .slice none 0 0] #[.int .i64 11, .int .i64 ((i + 1 : Nat) : Int)] (0, 0) (0, 0) _ _ rfl (by (with_reducible repeat (first | refine blk_drewN ?_ _ | refine blk_drew ?_ | refine blk_alloc ?_ _)); refine blk_far ?_ N23.out _; (with_reducible repeat (first | refine blk_drewN ?_ _ | refine blk_drew ?_ | refine blk_alloc ?_ _)); refine blk_far ?_ N23.out _; (with_reducible repeat (first | refine blk_drewN ?_ _ | refine blk_drew ?_ | refine blk_alloc ?_ _)); refine blk_put (cs := #[.int .i64 0, .slice none 0 0, .slice none 0 0]) ?_ 2 _ rfl; (with_reducible repeat (first | refine blk_drewN ?_ _ | refine blk_drew ?_ | refine blk_alloc ?_ _)); refine blk_put (cs := #[.int .i64 0, .slice none 0 0, .slice none 0 0]) ?_ 1 _ rfl; (with_reducible repeat (first | refine blk_drewN ?_ _ | refine blk_drew ?_ | refine blk_alloc ?_ _)); refine blk_put (cs := #[.int .i64 0, .slice none 0 0, .slice none 0 0]) ?_ 0 _ rfl; (with_reducible repeat (first | refine blk_drewN ?_ _ | refine blk_drew ?_ | refine blk_alloc ?_ _)); exact BK2.out) Tryd.underlying25 rfl (by kernel_rfl) rfl (by (with_reducible repeat (first | refine blk_drewN ?_ _ | refine blk_drew ?_ | refine blk_alloc ?_ _)); refine blk_put (cs := #[.int .i64 11, .int .i64 0]) ?_ 1 _ rfl; (with_reducible repeat (first | refine blk_drewN ?_ _ | refine blk_drew ?_ | refine blk_alloc ?_ _)); refine blk_put (cs := #[.int .i64 0, .int .i64 0]) ?_ 0 _ rfl; (with_reducible repeat (first | refine blk_drewN ?_ _ | refine blk_drew ?_ | refine blk_alloc ?_ _)); refine blk_far ?_ N32.out _; (with_reducible repeat (first | refine blk_drewN ?_ _ | refine blk_drew ?_ | refine blk_alloc ?_ _)); refine blk_far ?_ N32.out _; (with_reducible repeat (first | refine blk_drewN ?_ _ | refine blk_drew ?_ | refine blk_alloc ?_ _)); refine blk_far ?_ N32.out _; (with_reducible repeat (first | refine blk_drewN ?_ _ | refine blk_drew ?_ | refine blk_alloc ?_ _)); exact BK3.out) Tryd.underlying30 rfl (by kernel_rfl)) rfl ?_
              exact ⟨_, _, rfl, Kd.R_nil _ _ _ _ _, Kd.R_nil _ _ _ _ _, (sq_bs HB.out)⟩
        · rw [if_neg hlast] at hg
          obtain ⟨⟨b, st', ev', av'⟩, hq, hg⟩ := Option.bind_eq_some_iff.mp hg
          have HQ := Aside0.mk hq
          have HG2 := Aside0.mk hg
          have l1 : ((i : Int) == (ls.length : Int) - 1) = false := beq_eq_false_iff_ne.mpr (by omega)
          have l2 : ((i : Int) == wrap64 ((ls.length : Int) - 1)) = false := beq_eq_false_iff_ne.mpr (by omega)
          have hw2 : wrap64 ((i : Int) + 1) = ((i + 1 : Nat) : Int) := by unfold wrap64; omega
          clear hq hg hxe
          by_cases hi0 : i = 0
          · have l7 : ((i : Int) == 0) = true := beq_iff_eq.mpr (by omega)
            have l8 : decide ((i : Int) = 0) = true := decide_eq_true (by omega)
            have l4 : decide (0 < (i : Int)) = false := decide_eq_false (by omega)
            rw [show decide (i = 0) = true from decide_eq_true hi0] at HQ
            clear hi0
            cases b
            · have hg := HG2.out
              simp only [Bool.false_eq_true, if_false, Option.some.injEq, Prod.mk.injEq] at hg
              obtain ⟨rfl, rfl, rfl, rfl, rfl⟩ := hg
              clear HG2
              go_wp2_with (first | ((with_reducible refine gate_callee (f := 24) rfl ?_); (try (refine gate_guard (by rfl) ?_; dsimp only)); refine sq_goes (some 45) Tryd.func24 #[.pointer (some ⟨g4, 0, none⟩), .string x, .bool true] ?_; refine (system_line.calls g4 st (fun k_ => some k_ ≠ (Value.slice (some ad) ls.length cl).ownBlock ∧ k_ ≠ g2 ∧ k_ ≠ g3) (fun k_ => some k_ ≠ (Value.slice (some ad) ls.length cl).ownBlock ∧ k_ ≠ g2 ∧ k_ ≠ g3) _ _ ev av x true false st' ev' av' w _ (LaidE.below HLD.out (sq_bl HB.out)) (sq_bl HB.out) GE4.out (sq_bk BK4.out) (sq_kr HE.out) (sq_kr HA.out) HQ.out).mono ?_; rintro e w5 ⟨rfl, ve', va', h1, h2, h3, h4, h5⟩; refine ⟨_, rfl, ?_⟩; have H1 := Aside0.mk h1; have H2 := Aside0.mk h2; have H3 := Aside0.mk h3; have H4 := Aside0.mk h4; have H5 := Aside0.mk h5; clear h1 h2 h3 h4 h5; have BK2n := Aside0.mk (blk_kept (sq_bk BK2.out) H5.out (fun hk => hk.elim N24.out (fun hk => hk.elim (fun hk => hk.2.1 rfl) (fun hk => hk.2.1 rfl)))); have BK3n := Aside0.mk (blk_kept (sq_bk BK3.out) H5.out (fun hk => hk.elim N34.out (fun hk => hk.elim (fun hk => hk.2.2 rfl) (fun hk => hk.2.2 rfl)))); have HLn := Aside0.mk (Kd.R_kept (sq_kr HLN.out) H5.out (fun k_ hk hs_ => hs_.elim (fun e_ => Kd.R_ne (sq_kr HLN.out) (sq_bk BK4.out) (by decide) (e_ ▸ hk)) (fun hk2 => hk2.elim (fun hk2 => hk2.1 hk) (fun hk2 => hk2.1 hk)))); have hzg2_0 : w5.cell? ⟨g2, 0, none⟩ = some (.int .i64 0) := (by exact (blk_cell BK2n.out 0).trans rfl); have hfg2_0 := blk_frozen BK2n.out 0; have hzg2_1 : w5.cell? ⟨g2, 1, none⟩ = some (.slice none 0 0) := (by exact (blk_cell BK2n.out 1).trans rfl); have hfg2_1 := blk_frozen BK2n.out 1; have hzg2_2 : w5.cell? ⟨g2, 2, none⟩ = some (.slice none 0 0) := (by exact (blk_cell BK2n.out 2).trans rfl); have hfg2_2 := blk_frozen BK2n.out 2; have hzg3_0 : w5.cell? ⟨g3, 0, none⟩ = some (.int .i64 0) := (by exact (blk_cell BK3n.out 0).trans rfl); have hfg3_0 := blk_frozen BK3n.out 0; have hzg3_1 : w5.cell? ⟨g3, 1, none⟩ = some (.int .i64 0) := (by exact (blk_cell BK3n.out 1).trans rfl); have hfg3_1 := blk_frozen BK3n.out 1))
              refine bodyPost_ret (results_cc rfl _ _ g2 g3 25 30 #[.int .i64 0, .slice none 0 0, .slice none 0 0] #[.int .i64 11, .int .i64 ((i + 1 : Nat) : Int)] (0, 0) (0, 0) _ _ rfl (by (with_reducible repeat (first | refine blk_drewN ?_ _ | refine blk_drew ?_ | refine blk_alloc ?_ _)); refine blk_far ?_ N23.out _; (with_reducible repeat (first | refine blk_drewN ?_ _ | refine blk_drew ?_ | refine blk_alloc ?_ _)); refine blk_far ?_ N23.out _; (with_reducible repeat (first | refine blk_drewN ?_ _ | refine blk_drew ?_ | refine blk_alloc ?_ _)); refine blk_put (cs := #[.int .i64 0, .slice none 0 0, .slice none 0 0]) ?_ 2 _ rfl; (with_reducible repeat (first | refine blk_drewN ?_ _ | refine blk_drew ?_ | refine blk_alloc ?_ _)); refine blk_put (cs := #[.int .i64 0, .slice none 0 0, .slice none 0 0]) ?_ 1 _ rfl; (with_reducible repeat (first | refine blk_drewN ?_ _ | refine blk_drew ?_ | refine blk_alloc ?_ _)); refine blk_put (cs := #[.int .i64 0, .slice none 0 0, .slice none 0 0]) ?_ 0 _ rfl; (with_reducible repeat (first | refine blk_drewN ?_ _ | refine blk_drew ?_ | refine blk_alloc ?_ _)); exact BK2n.out) Tryd.underlying25 rfl (by kernel_rfl) rfl (by (with_reducible repeat (first | refine blk_drewN ?_ _ | refine blk_drew ?_ | refine blk_alloc ?_ _)); refine blk_put (cs := #[.int .i64 11, .int .i64 0]) ?_ 1 _ rfl; (with_reducible repeat (first | refine blk_drewN ?_ _ | refine blk_drew ?_ | refine blk_alloc ?_ _)); refine blk_put (cs := #[.int .i64 0, .int .i64 0]) ?_ 0 _ rfl; (with_reducible repeat (first | refine blk_drewN ?_ _ | refine blk_drew ?_ | refine blk_alloc ?_ _)); refine blk_far ?_ N32.out _; (with_reducible repeat (first | refine blk_drewN ?_ _ | refine blk_drew ?_ | refine blk_alloc ?_ _)); refine blk_far ?_ N32.out _; (with_reducible repeat (first | refine blk_drewN ?_ _ | refine blk_drew ?_ | refine blk_alloc ?_ _)); refine blk_far ?_ N32.out _; (with_reducible repeat (first | refine blk_drewN ?_ _ | refine blk_drew ?_ | refine blk_alloc ?_ _)); exact BK3n.out) Tryd.underlying30 rfl (by kernel_rfl)) rfl ?_
              exact ⟨_, _, rfl, Kd.R_nil _ _ _ _ _, Kd.R_nil _ _ _ _ _, (sq_bs H4.out)⟩
            · have hg := HG2.out
              simp only [if_true] at hg
              have HG3 := Aside0.mk hg
              clear hg HG2
              go_wp2_with (first | ((with_reducible refine gate_callee (f := 24) rfl ?_); (try (refine gate_guard (by rfl) ?_; dsimp only)); refine sq_goes (some 45) Tryd.func24 #[.pointer (some ⟨g4, 0, none⟩), .string x, .bool true] ?_; refine (system_line.calls g4 st (fun k_ => some k_ ≠ (Value.slice (some ad) ls.length cl).ownBlock ∧ k_ ≠ g2 ∧ k_ ≠ g3) (fun k_ => some k_ ≠ (Value.slice (some ad) ls.length cl).ownBlock ∧ k_ ≠ g2 ∧ k_ ≠ g3) _ _ ev av x true true st' ev' av' w _ (LaidE.below HLD.out (sq_bl HB.out)) (sq_bl HB.out) GE4.out (sq_bk BK4.out) (sq_kr HE.out) (sq_kr HA.out) HQ.out).mono ?_; rintro e w5 ⟨rfl, ve', va', h1, h2, h3, h4, h5⟩; refine ⟨_, rfl, ?_⟩; have H1 := Aside0.mk h1; have H2 := Aside0.mk h2; have H3 := Aside0.mk h3; have H4 := Aside0.mk h4; have H5 := Aside0.mk h5; clear h1 h2 h3 h4 h5; have BK2n := Aside0.mk (blk_kept (sq_bk BK2.out) H5.out (fun hk => hk.elim N24.out (fun hk => hk.elim (fun hk => hk.2.1 rfl) (fun hk => hk.2.1 rfl)))); have BK3n := Aside0.mk (blk_kept (sq_bk BK3.out) H5.out (fun hk => hk.elim N34.out (fun hk => hk.elim (fun hk => hk.2.2 rfl) (fun hk => hk.2.2 rfl)))); have HLn := Aside0.mk (Kd.R_kept (sq_kr HLN.out) H5.out (fun k_ hk hs_ => hs_.elim (fun e_ => Kd.R_ne (sq_kr HLN.out) (sq_bk BK4.out) (by decide) (e_ ▸ hk)) (fun hk2 => hk2.elim (fun hk2 => hk2.1 hk) (fun hk2 => hk2.1 hk))))))
              exact ⟨⟨i + 1, st', ev', av', ve', va', by congr 1, by omega, HG3, BK2n, BK3n, H1, ⟨Kd.R_mono H2.out (fun k_ hk => hk.elim id (fun hk => ⟨Kd.fresh_ok (sq_kr HLN.out) k_ hk, fun e_ => by have := blk_lt BK2.out; omega, fun e_ => by have := blk_lt BK3.out; omega⟩))⟩, ⟨Kd.R_mono H3.out (fun k_ hk => hk.elim id (fun hk => ⟨Kd.fresh_ok (sq_kr HLN.out) k_ hk, fun e_ => by have := blk_lt BK2.out; omega, fun e_ => by have := blk_lt BK3.out; omega⟩))⟩, HLn, H4⟩, by simp [intOf]; omega⟩
          · have l7 : ((i : Int) == 0) = false := beq_eq_false_iff_ne.mpr (by omega)
            have l8 : decide ((i : Int) = 0) = false := decide_eq_false (by omega)
            have l4 : decide (0 < (i : Int)) = true := decide_eq_true (by omega)
            rw [show decide (i = 0) = false from decide_eq_false hi0] at HQ
            clear hi0
            cases b
            · have hg := HG2.out
              simp only [Bool.false_eq_true, if_false, Option.some.injEq, Prod.mk.injEq] at hg
              obtain ⟨rfl, rfl, rfl, rfl, rfl⟩ := hg
              clear HG2
              go_wp2_with (first | ((with_reducible refine gate_callee (f := 24) rfl ?_); (try (refine gate_guard (by rfl) ?_; dsimp only)); refine sq_goes (some 45) Tryd.func24 #[.pointer (some ⟨g4, 0, none⟩), .string x, .bool false] ?_; refine (system_line.calls g4 st (fun k_ => some k_ ≠ (Value.slice (some ad) ls.length cl).ownBlock ∧ k_ ≠ g2 ∧ k_ ≠ g3) (fun k_ => some k_ ≠ (Value.slice (some ad) ls.length cl).ownBlock ∧ k_ ≠ g2 ∧ k_ ≠ g3) _ _ ev av x false false st' ev' av' w _ (LaidE.below HLD.out (sq_bl HB.out)) (sq_bl HB.out) GE4.out (sq_bk BK4.out) (sq_kr HE.out) (sq_kr HA.out) HQ.out).mono ?_; rintro e w5 ⟨rfl, ve', va', h1, h2, h3, h4, h5⟩; refine ⟨_, rfl, ?_⟩; have H1 := Aside0.mk h1; have H2 := Aside0.mk h2; have H3 := Aside0.mk h3; have H4 := Aside0.mk h4; have H5 := Aside0.mk h5; clear h1 h2 h3 h4 h5; have BK2n := Aside0.mk (blk_kept (sq_bk BK2.out) H5.out (fun hk => hk.elim N24.out (fun hk => hk.elim (fun hk => hk.2.1 rfl) (fun hk => hk.2.1 rfl)))); have BK3n := Aside0.mk (blk_kept (sq_bk BK3.out) H5.out (fun hk => hk.elim N34.out (fun hk => hk.elim (fun hk => hk.2.2 rfl) (fun hk => hk.2.2 rfl)))); have HLn := Aside0.mk (Kd.R_kept (sq_kr HLN.out) H5.out (fun k_ hk hs_ => hs_.elim (fun e_ => Kd.R_ne (sq_kr HLN.out) (sq_bk BK4.out) (by decide) (e_ ▸ hk)) (fun hk2 => hk2.elim (fun hk2 => hk2.1 hk) (fun hk2 => hk2.1 hk)))); have hzg2_0 : w5.cell? ⟨g2, 0, none⟩ = some (.int .i64 0) := (by exact (blk_cell BK2n.out 0).trans rfl); have hfg2_0 := blk_frozen BK2n.out 0; have hzg2_1 : w5.cell? ⟨g2, 1, none⟩ = some (.slice none 0 0) := (by exact (blk_cell BK2n.out 1).trans rfl); have hfg2_1 := blk_frozen BK2n.out 1; have hzg2_2 : w5.cell? ⟨g2, 2, none⟩ = some (.slice none 0 0) := (by exact (blk_cell BK2n.out 2).trans rfl); have hfg2_2 := blk_frozen BK2n.out 2; have hzg3_0 : w5.cell? ⟨g3, 0, none⟩ = some (.int .i64 0) := (by exact (blk_cell BK3n.out 0).trans rfl); have hfg3_0 := blk_frozen BK3n.out 0; have hzg3_1 : w5.cell? ⟨g3, 1, none⟩ = some (.int .i64 0) := (by exact (blk_cell BK3n.out 1).trans rfl); have hfg3_1 := blk_frozen BK3n.out 1))
              refine bodyPost_ret (results_cc rfl _ _ g2 g3 25 30 #[.int .i64 0, .slice none 0 0, .slice none 0 0] #[.int .i64 11, .int .i64 ((i + 1 : Nat) : Int)] (0, 0) (0, 0) _ _ rfl (by (with_reducible repeat (first | refine blk_drewN ?_ _ | refine blk_drew ?_ | refine blk_alloc ?_ _)); refine blk_far ?_ N23.out _; (with_reducible repeat (first | refine blk_drewN ?_ _ | refine blk_drew ?_ | refine blk_alloc ?_ _)); refine blk_far ?_ N23.out _; (with_reducible repeat (first | refine blk_drewN ?_ _ | refine blk_drew ?_ | refine blk_alloc ?_ _)); refine blk_put (cs := #[.int .i64 0, .slice none 0 0, .slice none 0 0]) ?_ 2 _ rfl; (with_reducible repeat (first | refine blk_drewN ?_ _ | refine blk_drew ?_ | refine blk_alloc ?_ _)); refine blk_put (cs := #[.int .i64 0, .slice none 0 0, .slice none 0 0]) ?_ 1 _ rfl; (with_reducible repeat (first | refine blk_drewN ?_ _ | refine blk_drew ?_ | refine blk_alloc ?_ _)); refine blk_put (cs := #[.int .i64 0, .slice none 0 0, .slice none 0 0]) ?_ 0 _ rfl; (with_reducible repeat (first | refine blk_drewN ?_ _ | refine blk_drew ?_ | refine blk_alloc ?_ _)); exact BK2n.out) Tryd.underlying25 rfl (by kernel_rfl) rfl (by (with_reducible repeat (first | refine blk_drewN ?_ _ | refine blk_drew ?_ | refine blk_alloc ?_ _)); refine blk_put (cs := #[.int .i64 11, .int .i64 0]) ?_ 1 _ rfl; (with_reducible repeat (first | refine blk_drewN ?_ _ | refine blk_drew ?_ | refine blk_alloc ?_ _)); refine blk_put (cs := #[.int .i64 0, .int .i64 0]) ?_ 0 _ rfl; (with_reducible repeat (first | refine blk_drewN ?_ _ | refine blk_drew ?_ | refine blk_alloc ?_ _)); refine blk_far ?_ N32.out _; (with_reducible repeat (first | refine blk_drewN ?_ _ | refine blk_drew ?_ | refine blk_alloc ?_ _)); refine blk_far ?_ N32.out _; (with_reducible repeat (first | refine blk_drewN ?_ _ | refine blk_drew ?_ | refine blk_alloc ?_ _)); refine blk_far ?_ N32.out _; (with_reducible repeat (first | refine blk_drewN ?_ _ | refine blk_drew ?_ | refine blk_alloc ?_ _)); exact BK3n.out) Tryd.underlying30 rfl (by kernel_rfl)) rfl ?_
              exact ⟨_, _, rfl, Kd.R_nil _ _ _ _ _, Kd.R_nil _ _ _ _ _, (sq_bs H4.out)⟩
            · have hg := HG2.out
              simp only [if_true] at hg
              have HG3 := Aside0.mk hg
              clear hg HG2
              go_wp2_with (first | ((with_reducible refine gate_callee (f := 24) rfl ?_); (try (refine gate_guard (by rfl) ?_; dsimp only)); refine sq_goes (some 45) Tryd.func24 #[.pointer (some ⟨g4, 0, none⟩), .string x, .bool false] ?_; refine (system_line.calls g4 st (fun k_ => some k_ ≠ (Value.slice (some ad) ls.length cl).ownBlock ∧ k_ ≠ g2 ∧ k_ ≠ g3) (fun k_ => some k_ ≠ (Value.slice (some ad) ls.length cl).ownBlock ∧ k_ ≠ g2 ∧ k_ ≠ g3) _ _ ev av x false true st' ev' av' w _ (LaidE.below HLD.out (sq_bl HB.out)) (sq_bl HB.out) GE4.out (sq_bk BK4.out) (sq_kr HE.out) (sq_kr HA.out) HQ.out).mono ?_; rintro e w5 ⟨rfl, ve', va', h1, h2, h3, h4, h5⟩; refine ⟨_, rfl, ?_⟩; have H1 := Aside0.mk h1; have H2 := Aside0.mk h2; have H3 := Aside0.mk h3; have H4 := Aside0.mk h4; have H5 := Aside0.mk h5; clear h1 h2 h3 h4 h5; have BK2n := Aside0.mk (blk_kept (sq_bk BK2.out) H5.out (fun hk => hk.elim N24.out (fun hk => hk.elim (fun hk => hk.2.1 rfl) (fun hk => hk.2.1 rfl)))); have BK3n := Aside0.mk (blk_kept (sq_bk BK3.out) H5.out (fun hk => hk.elim N34.out (fun hk => hk.elim (fun hk => hk.2.2 rfl) (fun hk => hk.2.2 rfl)))); have HLn := Aside0.mk (Kd.R_kept (sq_kr HLN.out) H5.out (fun k_ hk hs_ => hs_.elim (fun e_ => Kd.R_ne (sq_kr HLN.out) (sq_bk BK4.out) (by decide) (e_ ▸ hk)) (fun hk2 => hk2.elim (fun hk2 => hk2.1 hk) (fun hk2 => hk2.1 hk))))))
              exact ⟨⟨i + 1, st', ev', av', ve', va', by congr 1, by omega, HG3, BK2n, BK3n, H1, ⟨Kd.R_mono H2.out (fun k_ hk => hk.elim id (fun hk => ⟨Kd.fresh_ok (sq_kr HLN.out) k_ hk, fun e_ => by have := blk_lt BK2.out; omega, fun e_ => by have := blk_lt BK3.out; omega⟩))⟩, ⟨Kd.R_mono H3.out (fun k_ hk => hk.elim id (fun hk => ⟨Kd.fresh_ok (sq_kr HLN.out) k_ hk, fun e_ => by have := blk_lt BK2.out; omega, fun e_ => by have := blk_lt BK3.out; omega⟩))⟩, HLn, H4⟩, by simp [intOf]; omega⟩
      · have d1 : decide ((i : Int) < (ls.length : Int)) = false := decide_eq_false (by omega)
        have hg := HG.out
        rw [List.drop_eq_nil_of_le (by omega), system_Parse.go] at hg
        have HF := Aside0.mk hg
        clear hg
        obtain ⟨⟨e_, at_⟩, hc, hq⟩ := Option.bind_eq_some_iff.mp HF.out
        have HC := Aside0.mk hc
        clear HF hc HG
        have hzg4_0 : wr.cell? ⟨g4, 0, none⟩ = some (.int .i64 st) := (by exact (blk_cell BK4.out 0).trans rfl)
        have hfg4_0 := blk_frozen BK4.out 0
        have hzg4_1 : wr.cell? ⟨g4, 1, none⟩ = some (.slice Ae ev.length ce) := (by exact (blk_cell BK4.out 1).trans rfl)
        have hfg4_1 := blk_frozen BK4.out 1
        have hzg4_2 : wr.cell? ⟨g4, 2, none⟩ = some (.slice Aa av.length ca) := (by exact (blk_cell BK4.out 2).trans rfl)
        have hfg4_2 := blk_frozen BK4.out 2
        by_cases he0 : e_ = 0
        · subst he0
          simp only [if_true, Option.some.injEq, Prod.mk.injEq] at hq
          obtain ⟨rfl, rfl, rfl, rfl, rfl⟩ := hq
          go_wp2_with (first | ((with_reducible refine gate_callee (f := 18) rfl ?_); refine sq_goes (some 54) Tryd.func18 #[.agg #[.int .i64 st, .slice Ae ev.length ce, .slice Aa av.length ca]] ?_; refine (system_Check.calls k st Ae ce ev Aa ca av 0 at_ _ (Kd.R_reads' (sq_kr HE.out)).2.2 (Kd.R_reads' (sq_kr HE.out)).2.1 (Kd.R_reads' (sq_kr HA.out)).2.2 (Kd.R_reads' (sq_kr HA.out)).2.1 HC.out).mono ?_; rintro e w6 ⟨rfl, hb⟩; refine ⟨_, rfl, ?_⟩; have HB6 := Aside0.mk (below_step (sq_bl HB.out) hb); have BK2c := Aside0.mk (blk_below (sq_bk BK2.out) hb); have BK3c := Aside0.mk (blk_below (sq_bk BK3.out) hb); have BK4c := Aside0.mk (blk_below (sq_bk BK4.out) hb); have HE6 := Aside0.mk (Kd.R_below (sq_kr HE.out) hb); have HA6 := Aside0.mk (Kd.R_below (sq_kr HA.out) hb); clear hb) | ((with_reducible refine gate_dst (N := 8) rfl ?_); (try (refine gate_guard (by rfl) ?_; dsimp only)); refine sq_box 8 #[.int .i64 0, .int .i64 0] 30 ?_; intro g8 hg w7 hbox hb; have HB7 := Aside0.mk (below_step (sq_bl HB6.out) hb); have BK2d := Aside0.mk (blk_below (sq_bk BK2c.out) hb); have BK3d := Aside0.mk (blk_below (sq_bk BK3c.out) hb); have BK4d := Aside0.mk (blk_below (sq_bk BK4c.out) hb); have BK8 := Aside0.mk (hbox); have HE7 := Aside0.mk (Kd.R_below (sq_kr HE6.out) hb); have HA7 := Aside0.mk (Kd.R_below (sq_kr HA6.out) hb); have GE8 := Aside0.mk ((by rw [hg]; exact HB6.out.size : w.heap.size ≤ g8)); have N28 := Aside0.mk ((by rw [hg]; exact Nat.ne_of_lt (blk_lt (sq_bk BK2c.out)) : g2 ≠ g8)); have N38 := Aside0.mk ((by rw [hg]; exact Nat.ne_of_lt (blk_lt (sq_bk BK3c.out)) : g3 ≠ g8)); have N48 := Aside0.mk ((by rw [hg]; exact Nat.ne_of_lt (blk_lt (sq_bk BK4c.out)) : g4 ≠ g8)); have n28_ := N28.out; have n82_ := N28.out.symm; have n38_ := N38.out; have n83_ := N38.out.symm; have n48_ := N48.out; have n84_ := N48.out.symm; have n24_ := N24.out; have n42_ := N24.out.symm; have n34_ := N34.out; have n43_ := N34.out.symm; have hy4_0 : w7.cell? ⟨g4, 0, none⟩ = some (.int .i64 st) := (by exact (blk_cell BK4d.out 0).trans rfl); have hyf4_0 := blk_frozen BK4d.out 0; have hy4_1 : w7.cell? ⟨g4, 1, none⟩ = some (.slice Ae ev.length ce) := (by exact (blk_cell BK4d.out 1).trans rfl); have hyf4_1 := blk_frozen BK4d.out 1; have hy4_2 : w7.cell? ⟨g4, 2, none⟩ = some (.slice Aa av.length ca) := (by exact (blk_cell BK4d.out 2).trans rfl); have hyf4_2 := blk_frozen BK4d.out 2; have hzg2_0 : w7.cell? ⟨g2, 0, none⟩ = some (.int .i64 0) := (by exact (blk_cell BK2d.out 0).trans rfl); have hfg2_0 := blk_frozen BK2d.out 0; have hzg2_1 : w7.cell? ⟨g2, 1, none⟩ = some (.slice none 0 0) := (by exact (blk_cell BK2d.out 1).trans rfl); have hfg2_1 := blk_frozen BK2d.out 1; have hzg2_2 : w7.cell? ⟨g2, 2, none⟩ = some (.slice none 0 0) := (by exact (blk_cell BK2d.out 2).trans rfl); have hfg2_2 := blk_frozen BK2d.out 2; have hzg3_0 : w7.cell? ⟨g3, 0, none⟩ = some (.int .i64 0) := (by exact (blk_cell BK3d.out 0).trans rfl); have hfg3_0 := blk_frozen BK3d.out 0; have hzg3_1 : w7.cell? ⟨g3, 1, none⟩ = some (.int .i64 0) := (by exact (blk_cell BK3d.out 1).trans rfl); have hfg3_1 := blk_frozen BK3d.out 1; have hzg8_0 : w7.cell? ⟨g8, 0, none⟩ = some (.int .i64 0) := (by exact (blk_cell BK8.out 0).trans rfl); have hfg8_0 := blk_frozen BK8.out 0; have hzg8_1 : w7.cell? ⟨g8, 1, none⟩ = some (.int .i64 0) := (by exact (blk_cell BK8.out 1).trans rfl); have hfg8_1 := blk_frozen BK8.out 1; clear hb hbox hg))
          refine bodyPost_ret (results_cc rfl _ _ g2 g3 25 30 #[.int .i64 st, .slice Ae ev.length ce, .slice Aa av.length ca] #[.int .i64 0, .int .i64 0] (0, 0) (0, 0) _ _ rfl (by (with_reducible repeat (first | refine blk_drewN ?_ _ | refine blk_drew ?_ | refine blk_alloc ?_ _)); refine blk_far ?_ N23.out _; (with_reducible repeat (first | refine blk_drewN ?_ _ | refine blk_drew ?_ | refine blk_alloc ?_ _)); refine blk_far ?_ N23.out _; (with_reducible repeat (first | refine blk_drewN ?_ _ | refine blk_drew ?_ | refine blk_alloc ?_ _)); refine blk_put (cs := #[.int .i64 st, .slice Ae ev.length ce, .slice none 0 0]) ?_ 2 _ rfl; (with_reducible repeat (first | refine blk_drewN ?_ _ | refine blk_drew ?_ | refine blk_alloc ?_ _)); refine blk_put (cs := #[.int .i64 st, .slice none 0 0, .slice none 0 0]) ?_ 1 _ rfl; (with_reducible repeat (first | refine blk_drewN ?_ _ | refine blk_drew ?_ | refine blk_alloc ?_ _)); refine blk_put (cs := #[.int .i64 0, .slice none 0 0, .slice none 0 0]) ?_ 0 _ rfl; (with_reducible repeat (first | refine blk_drewN ?_ _ | refine blk_drew ?_ | refine blk_alloc ?_ _)); refine blk_far ?_ N28.out _; (with_reducible repeat (first | refine blk_drewN ?_ _ | refine blk_drew ?_ | refine blk_alloc ?_ _)); refine blk_far ?_ N28.out _; (with_reducible repeat (first | refine blk_drewN ?_ _ | refine blk_drew ?_ | refine blk_alloc ?_ _)); exact BK2d.out) Tryd.underlying25 rfl (by kernel_rfl) rfl (by (with_reducible repeat (first | refine blk_drewN ?_ _ | refine blk_drew ?_ | refine blk_alloc ?_ _)); refine blk_put (cs := #[.int .i64 0, .int .i64 0]) ?_ 1 _ rfl; (with_reducible repeat (first | refine blk_drewN ?_ _ | refine blk_drew ?_ | refine blk_alloc ?_ _)); refine blk_put (cs := #[.int .i64 0, .int .i64 0]) ?_ 0 _ rfl; (with_reducible repeat (first | refine blk_drewN ?_ _ | refine blk_drew ?_ | refine blk_alloc ?_ _)); refine blk_far ?_ N32.out _; (with_reducible repeat (first | refine blk_drewN ?_ _ | refine blk_drew ?_ | refine blk_alloc ?_ _)); refine blk_far ?_ N32.out _; (with_reducible repeat (first | refine blk_drewN ?_ _ | refine blk_drew ?_ | refine blk_alloc ?_ _)); refine blk_far ?_ N32.out _; (with_reducible repeat (first | refine blk_drewN ?_ _ | refine blk_drew ?_ | refine blk_alloc ?_ _)); refine blk_far ?_ N38.out _; (with_reducible repeat (first | refine blk_drewN ?_ _ | refine blk_drew ?_ | refine blk_alloc ?_ _)); refine blk_far ?_ N38.out _; (with_reducible repeat (first | refine blk_drewN ?_ _ | refine blk_drew ?_ | refine blk_alloc ?_ _)); exact BK3d.out) Tryd.underlying30 rfl (by kernel_rfl)) rfl ?_
          refine ⟨_, _, rfl, ?_, ?_, (sq_bs HB7.out)⟩
          · exact Kd.R_mono (Kd.R_far (Kd.R_far (Kd.R_far (Kd.R_far (Kd.R_far (Kd.R_far (Kd.R_far (Kd.R_types HE7.out BK8.out (by decide)) (fun _ hk => by first | exact hk.2 | exact hk.1.2.1 | exact hk.1.2.2) _) (fun _ hk => by first | exact hk.2 | exact hk.1.2.1 | exact hk.1.2.2) _) (fun _ hk => by first | exact hk.2 | exact hk.1.2.1 | exact hk.1.2.2) _) (fun _ hk => by first | exact hk.2 | exact hk.1.2.1 | exact hk.1.2.2) _) (fun _ hk => by first | exact hk.2 | exact hk.1.2.1 | exact hk.1.2.2) _) (fun _ hk => by first | exact hk.2 | exact hk.1.2.1 | exact hk.1.2.2) _) (fun _ hk => by first | exact hk.2 | exact hk.1.2.1 | exact hk.1.2.2) _) (fun _ _ => trivial)
          · exact Kd.R_mono (Kd.R_far (Kd.R_far (Kd.R_far (Kd.R_far (Kd.R_far (Kd.R_far (Kd.R_far (Kd.R_types HA7.out BK8.out (by decide)) (fun _ hk => by first | exact hk.2 | exact hk.1.2.1 | exact hk.1.2.2) _) (fun _ hk => by first | exact hk.2 | exact hk.1.2.1 | exact hk.1.2.2) _) (fun _ hk => by first | exact hk.2 | exact hk.1.2.1 | exact hk.1.2.2) _) (fun _ hk => by first | exact hk.2 | exact hk.1.2.1 | exact hk.1.2.2) _) (fun _ hk => by first | exact hk.2 | exact hk.1.2.1 | exact hk.1.2.2) _) (fun _ hk => by first | exact hk.2 | exact hk.1.2.1 | exact hk.1.2.2) _) (fun _ hk => by first | exact hk.2 | exact hk.1.2.1 | exact hk.1.2.2) _) (fun _ _ => trivial)
        · have q1 : (e_ == 0) = false := beq_eq_false_iff_ne.mpr he0
          have q2 : (e_ != 0) = true := bne_iff_ne.mpr he0
          simp only [if_neg he0, Option.some.injEq, Prod.mk.injEq] at hq
          obtain ⟨rfl, rfl, rfl, rfl, rfl⟩ := hq
          go_wp2_with (first | ((with_reducible refine gate_callee (f := 18) rfl ?_); refine sq_goes (some 54) Tryd.func18 #[.agg #[.int .i64 st, .slice Ae ev.length ce, .slice Aa av.length ca]] ?_; refine (system_Check.calls k st Ae ce ev Aa ca av e_ at_ _ (Kd.R_reads' (sq_kr HE.out)).2.2 (Kd.R_reads' (sq_kr HE.out)).2.1 (Kd.R_reads' (sq_kr HA.out)).2.2 (Kd.R_reads' (sq_kr HA.out)).2.1 HC.out).mono ?_; rintro e w6 ⟨rfl, hb⟩; refine ⟨_, rfl, ?_⟩; have HB6 := Aside0.mk (below_step (sq_bl HB.out) hb); have BK2c := Aside0.mk (blk_below (sq_bk BK2.out) hb); have BK3c := Aside0.mk (blk_below (sq_bk BK3.out) hb); have BK4c := Aside0.mk (blk_below (sq_bk BK4.out) hb); have HE6 := Aside0.mk (Kd.R_below (sq_kr HE.out) hb); have HA6 := Aside0.mk (Kd.R_below (sq_kr HA.out) hb); clear hb) | ((with_reducible refine gate_dst (N := 8) rfl ?_); (try (refine gate_guard (by rfl) ?_; dsimp only)); refine sq_box 8 #[.int .i64 0, .int .i64 0] 30 ?_; intro g8 hg w7 hbox hb; have HB7 := Aside0.mk (below_step (sq_bl HB6.out) hb); have BK2d := Aside0.mk (blk_below (sq_bk BK2c.out) hb); have BK3d := Aside0.mk (blk_below (sq_bk BK3c.out) hb); have BK4d := Aside0.mk (blk_below (sq_bk BK4c.out) hb); have BK8 := Aside0.mk (hbox); have HE7 := Aside0.mk (Kd.R_below (sq_kr HE6.out) hb); have HA7 := Aside0.mk (Kd.R_below (sq_kr HA6.out) hb); have GE8 := Aside0.mk ((by rw [hg]; exact HB6.out.size : w.heap.size ≤ g8)); have N28 := Aside0.mk ((by rw [hg]; exact Nat.ne_of_lt (blk_lt (sq_bk BK2c.out)) : g2 ≠ g8)); have N38 := Aside0.mk ((by rw [hg]; exact Nat.ne_of_lt (blk_lt (sq_bk BK3c.out)) : g3 ≠ g8)); have N48 := Aside0.mk ((by rw [hg]; exact Nat.ne_of_lt (blk_lt (sq_bk BK4c.out)) : g4 ≠ g8)); have n28_ := N28.out; have n82_ := N28.out.symm; have n38_ := N38.out; have n83_ := N38.out.symm; have n48_ := N48.out; have n84_ := N48.out.symm; have n24_ := N24.out; have n42_ := N24.out.symm; have n34_ := N34.out; have n43_ := N34.out.symm; have hy4_0 : w7.cell? ⟨g4, 0, none⟩ = some (.int .i64 st) := (by exact (blk_cell BK4d.out 0).trans rfl); have hyf4_0 := blk_frozen BK4d.out 0; have hy4_1 : w7.cell? ⟨g4, 1, none⟩ = some (.slice Ae ev.length ce) := (by exact (blk_cell BK4d.out 1).trans rfl); have hyf4_1 := blk_frozen BK4d.out 1; have hy4_2 : w7.cell? ⟨g4, 2, none⟩ = some (.slice Aa av.length ca) := (by exact (blk_cell BK4d.out 2).trans rfl); have hyf4_2 := blk_frozen BK4d.out 2; have hzg2_0 : w7.cell? ⟨g2, 0, none⟩ = some (.int .i64 0) := (by exact (blk_cell BK2d.out 0).trans rfl); have hfg2_0 := blk_frozen BK2d.out 0; have hzg2_1 : w7.cell? ⟨g2, 1, none⟩ = some (.slice none 0 0) := (by exact (blk_cell BK2d.out 1).trans rfl); have hfg2_1 := blk_frozen BK2d.out 1; have hzg2_2 : w7.cell? ⟨g2, 2, none⟩ = some (.slice none 0 0) := (by exact (blk_cell BK2d.out 2).trans rfl); have hfg2_2 := blk_frozen BK2d.out 2; have hzg3_0 : w7.cell? ⟨g3, 0, none⟩ = some (.int .i64 0) := (by exact (blk_cell BK3d.out 0).trans rfl); have hfg3_0 := blk_frozen BK3d.out 0; have hzg3_1 : w7.cell? ⟨g3, 1, none⟩ = some (.int .i64 0) := (by exact (blk_cell BK3d.out 1).trans rfl); have hfg3_1 := blk_frozen BK3d.out 1; have hzg8_0 : w7.cell? ⟨g8, 0, none⟩ = some (.int .i64 0) := (by exact (blk_cell BK8.out 0).trans rfl); have hfg8_0 := blk_frozen BK8.out 0; have hzg8_1 : w7.cell? ⟨g8, 1, none⟩ = some (.int .i64 0) := (by exact (blk_cell BK8.out 1).trans rfl); have hfg8_1 := blk_frozen BK8.out 1; clear hb hbox hg))
          go_region
          all_goals (try go_wp2)
          all_goals (refine bodyPost_ret (results_cc rfl _ _ g2 g3 25 30 #[.int .i64 0, .slice none 0 0, .slice none 0 0] #[.int .i64 e_, .int .i64 at_] (0, 0) (0, 0) _ _ rfl (by first | exact (by (with_reducible repeat (first | refine blk_drewN ?_ _ | refine blk_drew ?_ | refine blk_alloc ?_ _)); refine blk_far ?_ N23.out _; (with_reducible repeat (first | refine blk_drewN ?_ _ | refine blk_drew ?_ | refine blk_alloc ?_ _)); refine blk_far ?_ N23.out _; (with_reducible repeat (first | refine blk_drewN ?_ _ | refine blk_drew ?_ | refine blk_alloc ?_ _)); refine blk_put (cs := #[.int .i64 0, .slice none 0 0, .slice none 0 0]) ?_ 2 _ rfl; (with_reducible repeat (first | refine blk_drewN ?_ _ | refine blk_drew ?_ | refine blk_alloc ?_ _)); refine blk_put (cs := #[.int .i64 0, .slice none 0 0, .slice none 0 0]) ?_ 1 _ rfl; (with_reducible repeat (first | refine blk_drewN ?_ _ | refine blk_drew ?_ | refine blk_alloc ?_ _)); refine blk_put (cs := #[.int .i64 0, .slice none 0 0, .slice none 0 0]) ?_ 0 _ rfl; (with_reducible repeat (first | refine blk_drewN ?_ _ | refine blk_drew ?_ | refine blk_alloc ?_ _)); refine blk_far ?_ N28.out _; (with_reducible repeat (first | refine blk_drewN ?_ _ | refine blk_drew ?_ | refine blk_alloc ?_ _)); refine blk_far ?_ N28.out _; (with_reducible repeat (first | refine blk_drewN ?_ _ | refine blk_drew ?_ | refine blk_alloc ?_ _)); exact BK2d.out) | exact (by (with_reducible repeat (first | refine blk_drewN ?_ _ | refine blk_drew ?_ | refine blk_alloc ?_ _)); refine blk_put (cs := #[.int .i64 0, .slice none 0 0, .slice none 0 0]) ?_ 2 _ rfl; (with_reducible repeat (first | refine blk_drewN ?_ _ | refine blk_drew ?_ | refine blk_alloc ?_ _)); refine blk_put (cs := #[.int .i64 0, .slice none 0 0, .slice none 0 0]) ?_ 1 _ rfl; (with_reducible repeat (first | refine blk_drewN ?_ _ | refine blk_drew ?_ | refine blk_alloc ?_ _)); refine blk_put (cs := #[.int .i64 0, .slice none 0 0, .slice none 0 0]) ?_ 0 _ rfl; (with_reducible repeat (first | refine blk_drewN ?_ _ | refine blk_drew ?_ | refine blk_alloc ?_ _)); refine blk_far ?_ N23.out _; (with_reducible repeat (first | refine blk_drewN ?_ _ | refine blk_drew ?_ | refine blk_alloc ?_ _)); refine blk_far ?_ N23.out _; (with_reducible repeat (first | refine blk_drewN ?_ _ | refine blk_drew ?_ | refine blk_alloc ?_ _)); refine blk_far ?_ N28.out _; (with_reducible repeat (first | refine blk_drewN ?_ _ | refine blk_drew ?_ | refine blk_alloc ?_ _)); refine blk_far ?_ N28.out _; (with_reducible repeat (first | refine blk_drewN ?_ _ | refine blk_drew ?_ | refine blk_alloc ?_ _)); exact BK2d.out)) Tryd.underlying25 rfl (by kernel_rfl) rfl (by first | exact (by (with_reducible repeat (first | refine blk_drewN ?_ _ | refine blk_drew ?_ | refine blk_alloc ?_ _)); refine blk_put (cs := #[.int .i64 e_, .int .i64 0]) ?_ 1 _ rfl; (with_reducible repeat (first | refine blk_drewN ?_ _ | refine blk_drew ?_ | refine blk_alloc ?_ _)); refine blk_put (cs := #[.int .i64 0, .int .i64 0]) ?_ 0 _ rfl; (with_reducible repeat (first | refine blk_drewN ?_ _ | refine blk_drew ?_ | refine blk_alloc ?_ _)); refine blk_far ?_ N32.out _; (with_reducible repeat (first | refine blk_drewN ?_ _ | refine blk_drew ?_ | refine blk_alloc ?_ _)); refine blk_far ?_ N32.out _; (with_reducible repeat (first | refine blk_drewN ?_ _ | refine blk_drew ?_ | refine blk_alloc ?_ _)); refine blk_far ?_ N32.out _; (with_reducible repeat (first | refine blk_drewN ?_ _ | refine blk_drew ?_ | refine blk_alloc ?_ _)); refine blk_far ?_ N38.out _; (with_reducible repeat (first | refine blk_drewN ?_ _ | refine blk_drew ?_ | refine blk_alloc ?_ _)); refine blk_far ?_ N38.out _; (with_reducible repeat (first | refine blk_drewN ?_ _ | refine blk_drew ?_ | refine blk_alloc ?_ _)); exact BK3d.out) | exact (by (with_reducible repeat (first | refine blk_drewN ?_ _ | refine blk_drew ?_ | refine blk_alloc ?_ _)); refine blk_far ?_ N32.out _; (with_reducible repeat (first | refine blk_drewN ?_ _ | refine blk_drew ?_ | refine blk_alloc ?_ _)); refine blk_far ?_ N32.out _; (with_reducible repeat (first | refine blk_drewN ?_ _ | refine blk_drew ?_ | refine blk_alloc ?_ _)); refine blk_far ?_ N32.out _; (with_reducible repeat (first | refine blk_drewN ?_ _ | refine blk_drew ?_ | refine blk_alloc ?_ _)); refine blk_put (cs := #[.int .i64 e_, .int .i64 0]) ?_ 1 _ rfl; (with_reducible repeat (first | refine blk_drewN ?_ _ | refine blk_drew ?_ | refine blk_alloc ?_ _)); refine blk_put (cs := #[.int .i64 0, .int .i64 0]) ?_ 0 _ rfl; (with_reducible repeat (first | refine blk_drewN ?_ _ | refine blk_drew ?_ | refine blk_alloc ?_ _)); refine blk_far ?_ N38.out _; (with_reducible repeat (first | refine blk_drewN ?_ _ | refine blk_drew ?_ | refine blk_alloc ?_ _)); refine blk_far ?_ N38.out _; (with_reducible repeat (first | refine blk_drewN ?_ _ | refine blk_drew ?_ | refine blk_alloc ?_ _)); exact BK3d.out)) Tryd.underlying30 rfl (by kernel_rfl)) rfl ?_)
          all_goals exact ⟨_, _, rfl, Kd.R_nil _ _ _ _ _, Kd.R_nil _ _ _ _ _, (sq_bs HB7.out)⟩
/-! ### petrinetref04_Split: function 25 -/
def petrinetref04_Split.l0 : Nat → ByteArray → Int → List ByteArray → Int → Int → Option (List ByteArray)
  | 0, _, _, _, _, _ => none
  | k + 1, x0, x1, x5, x6, x7 => if x7 ≤ (x0.size : Int) then (if x7 = (x0.size : Int) then (if 0 ≤ x6 then (if x6 ≤ x7 then (if x5.length < 8796093022208 then (petrinetref04_Split.l0 k x0 x1 (x5 ++ [x0.extract (x6 : Int).toNat (x7 : Int).toNat]) (wrap64 (x7 + 1)) (wrap64 (x7 + 1))) else (none)) else (none)) else (none)) else (if 0 ≤ x7 then (if x7 < (x0.size : Int) then (if (bt x0 x7) = x1 then (if 0 ≤ x6 then (if x6 ≤ x7 then (if x5.length < 8796093022208 then (petrinetref04_Split.l0 k x0 x1 (x5 ++ [x0.extract (x6 : Int).toNat (x7 : Int).toNat]) (wrap64 (x7 + 1)) (wrap64 (x7 + 1))) else (none)) else (none)) else (none)) else (petrinetref04_Split.l0 k x0 x1 x5 x6 (wrap64 (x7 + 1)))) else (none)) else (none))) else (some x5)
def petrinetref04_Split.f (k : Nat) (a0 : ByteArray) (a1 : Int) : Option (List ByteArray) := petrinetref04_Split.l0 k a0 a1 ([] : List ByteArray) 0 0
theorem petrinetref04_Split.mono_l : ∀ k, (∀ y0 y1 y2 y3 y4, LeO (petrinetref04_Split.l0 k y0 y1 y2 y3 y4) (petrinetref04_Split.l0 (k + 1) y0 y1 y2 y3 y4))
  | 0 => fun _ _ _ _ _ r h => by simp [petrinetref04_Split.l0] at h
  | k + 1 => by
    have ih0 := petrinetref04_Split.mono_l k
    · intro y0 y1 y2 y3 y4
      unfold petrinetref04_Split.l0
      repeat' (with_reducible first | exact ih0 _ _ _ _ _ | exact LeO.refl _ | exact LeO.none _ | refine LeO.ite ?_ ?_ | refine LeO.bind ?_ (fun _ => ?_))
theorem petrinetref04_Split.mono : ∀ a0 a1 k, LeO (petrinetref04_Split.f k a0 a1) (petrinetref04_Split.f (k + 1) a0 a1) := by
  intro a0 a1 k
  have ih0 := petrinetref04_Split.mono_l k
  unfold petrinetref04_Split.f
  repeat' (with_reducible first | exact ih0 _ _ _ _ _ | exact LeO.refl _ | exact LeO.none _ | refine LeO.ite ?_ ?_ | refine LeO.bind ?_ (fun _ => ?_))
set_option maxHeartbeats 8000000 in
set_option maxRecDepth 100000 in
theorem petrinetref04_Split.calls (k : Nat) (a0 : ByteArray) (a1 : Int) (r : List ByteArray) (w : World) (h : petrinetref04_Split.f k a0 a1 = some r) :
    Calls Tryd.prog 25 #[.string a0, .int .u8 a1] w fun e w' => ∃ v0_ : Value, e = .returned (v0_) ∧ Kd.R Kd.string 9 w' w.heap.size (fun _ => True) v0_ r ∧ Below w.heap.size w w' := by
  have hv30 := Tryd.underlying30
  have HB := Aside0.mk (Below.refl w.heap.size w)
  have H : (petrinetref04_Split.l0 k a0 a1 ([] : List ByteArray) 0 0) = some r := h
  clear h
  have H' := Aside0.mk H
  clear H
  go_enter Tryd.func25, Tryd.ntmps25
  go_wp2
  go_loopg [5, 6, 7] k (fun kq v5 v6 v7 w' => ∃ (x5_1 : List ByteArray) (x6_1 : Int) (x7_1 : Int), v6 = .int .i64 x6_1 ∧ v7 = .int .i64 x7_1 ∧ Aside0 (petrinetref04_Split.l0 kq a0 a1 x5_1 x6_1 x7_1 = some r) ∧ Aside0 (kq ≤ k) ∧ Aside0 (Kd.R Kd.string 9 w' w.heap.size (fun _ => True) v5 x5_1) ∧ Aside0 (Below w.heap.size w w'))
  case atStart => exact ⟨(([] : List ByteArray)), (0), (0), (by first | rfl | (simp; done) | (simp [*]; done)), (by first | rfl | (simp; done) | (simp [*]; done)), H', ⟨Nat.le_refl _⟩, ⟨by first | exact Kd.R_nil _ _ _ _ _ | exact Kd.N_nil _ _ _ _ _ | exact Kd.V_nil _ _ _ _ _ | exact Kd.Q_nil _ _ _ _ _ | exact Kd.S_nil _ _ _ _ _⟩, ⟨sq_bl HB.out⟩⟩
  case round =>
    clear H'
    obtain ⟨x5_1, x6_1, x7_1, rfl, rfl, HA, HK1, HO_5, HB⟩ := hrel
    cases gk with
    | zero => exact absurd HA.out (by simp [petrinetref04_Split.l0])
    | succ k1 =>
      have H := HA.out
      clear HA
      simp only [petrinetref04_Split.l0] at H
      by_cases c3 : x7_1 ≤ (a0.size : Int)
      · rw [if_pos c3] at H
        have c3b0 : decide (x7_1 ≤ (a0.size : Int)) = true := decide_eq_true c3
        clear c3
        by_cases c4 : x7_1 = (a0.size : Int)
        · rw [if_pos c4] at H
          have c4b0 : (x7_1 == (a0.size : Int)) = true := beq_iff_eq.mpr c4
          have c4b1 : (x7_1 != (a0.size : Int)) = false := bne_eq_false_iff_eq.mpr c4
          clear c4
          by_cases c5 : 0 ≤ x6_1
          · rw [if_pos c5] at H
            have c5b0 := eq_true c5
            have c5b1 : decide (0 ≤ x6_1) = true := decide_eq_true c5
            clear c5
            by_cases c6 : x6_1 ≤ x7_1
            · rw [if_pos c6] at H
              have c6b0 := eq_true c6
              have c6b1 : decide (x6_1 ≤ x7_1) = true := decide_eq_true c6
              clear c6
              have c7b0 := eq_true (sq_d : x7_1 ≤ (a0.size : Int))
              by_cases c8 : x5_1.length < 8796093022208
              · rw [if_pos c8] at H
                have LMc8 := Aside0.mk c8
                clear c8
                obtain ⟨y269, hy269⟩ : ∃ y_ : List ByteArray, y_ = (x5_1 ++ [a0.extract (x6_1 : Int).toNat (x7_1 : Int).toNat]) := ⟨_, rfl⟩
                replace H : (petrinetref04_Split.l0 k1 a0 a1 y269 (wrap64 (x7_1 + 1)) (wrap64 (x7_1 + 1))) = some r := by first | (rw [hy269]; with_reducible exact H) | (have H2_ := (Option.bind_some _ _).symm.trans H; rw [hy269]; with_reducible exact H2_) | (have H2_ := (Option.bind_some _ _).symm.trans H; with_reducible exact H2_) | with_reducible exact H | (rw [hy269]; exact H) | exact H
                have Ny269 := Aside0.mk hy269
                clear hy269
                have H' := Aside0.mk H
                clear H
                go_wp2_with (first | ((with_reducible refine gate_builtin (b := .append) (xs := #[.tmp 25, .tmp 30]) rfl ?_); at_builtin; refine Kd.R_append Kd.string (w0 := w) w.heap.size rfl (.tmp 25) (.tmp 30) 22 9 (.string ⟨#[]⟩) 16 rfl Tryd.underlying22 info9 rfl (by decide) (by omega) u5 x5_1 (a0.extract (x6_1 : Int).toNat (x7_1 : Int).toNat) [.string (a0.extract (x6_1 : Int).toNat (x7_1 : Int).toNat)] (fun _ => True) (fun _ => False) rfl rfl ?aP (fun _ hk => hk.elim) ?aF ?aO ?aB ?aS ?aL ?_; (case aP => exact rfl); (case aB => exact (sq_bl HB.out)); (case aF => exact (fun _ _ => trivial)); (case aO => exact (sq_kr HO_5.out)); (case aS => exact (below_size (sq_bl HB.out))); (case aL => have := LMc8.out; omega); intro v270 w9 ho hb hg hat; rw [← Ny269.out] at ho; have n0_ := Aside0.mk (hb); have n1_ := Aside0.mk (ho); clear HB; clear HO_5; have HB := n0_; have HO271 := n1_; clear n0_ n1_; clear ho hb hg hat))
                go_roundg k1
                case measure => have := HK1.out; omega
                case rel => exact ⟨(y269), (wrap64 (x7_1 + 1)), (wrap64 (x7_1 + 1)), (by first | rfl | (simp; done) | (simp [*]; done)), (by first | rfl | (simp; done) | (simp [*]; done)), H', ⟨by have := HK1.out; omega⟩, ⟨sq_kr HO271.out⟩, ⟨sq_bl HB.out⟩⟩
              · rw [if_neg c8] at H
                exact absurd H (by simp)
            · rw [if_neg c6] at H
              exact absurd H (by simp)
          · rw [if_neg c5] at H
            exact absurd H (by simp)
        · rw [if_neg c4] at H
          have c4b0 : (x7_1 == (a0.size : Int)) = false := beq_eq_false_iff_ne.mpr c4
          have c4b1 : (x7_1 != (a0.size : Int)) = true := bne_iff_ne.mpr c4
          by_cases c10 : 0 ≤ x7_1
          · rw [if_pos c10] at H
            have c10b0 : decide (0 ≤ x7_1) = true := decide_eq_true c10
            clear c10
            by_cases c11 : x7_1 < (a0.size : Int)
            · rw [if_pos c11] at H
              have c11b0 : decide (x7_1 < (a0.size : Int)) = true := decide_eq_true c11
              clear c11
              by_cases c13 : (bt a0 x7_1) = a1
              · rw [if_pos c13] at H
                have c13b0 : ((bt a0 x7_1) == a1) = true := beq_iff_eq.mpr c13
                have c13b1 : ((bt a0 x7_1) != a1) = false := bne_eq_false_iff_eq.mpr c13
                clear c13
                by_cases c14 : 0 ≤ x6_1
                · rw [if_pos c14] at H
                  have c14b0 := eq_true c14
                  have c14b1 : decide (0 ≤ x6_1) = true := decide_eq_true c14
                  clear c14
                  by_cases c15 : x6_1 ≤ x7_1
                  · rw [if_pos c15] at H
                    have c15b0 := eq_true c15
                    have c15b1 : decide (x6_1 ≤ x7_1) = true := decide_eq_true c15
                    clear c15
                    have c16b0 := eq_true (sq_d : x7_1 ≤ (a0.size : Int))
                    by_cases c17 : x5_1.length < 8796093022208
                    · rw [if_pos c17] at H
                      have LMc17 := Aside0.mk c17
                      clear c17
                      obtain ⟨y272, hy272⟩ : ∃ y_ : List ByteArray, y_ = (x5_1 ++ [a0.extract (x6_1 : Int).toNat (x7_1 : Int).toNat]) := ⟨_, rfl⟩
                      replace H : (petrinetref04_Split.l0 k1 a0 a1 y272 (wrap64 (x7_1 + 1)) (wrap64 (x7_1 + 1))) = some r := by first | (rw [hy272]; with_reducible exact H) | (have H2_ := (Option.bind_some _ _).symm.trans H; rw [hy272]; with_reducible exact H2_) | (have H2_ := (Option.bind_some _ _).symm.trans H; with_reducible exact H2_) | with_reducible exact H | (rw [hy272]; exact H) | exact H
                      have Ny272 := Aside0.mk hy272
                      clear hy272
                      have H' := Aside0.mk H
                      clear H
                      have p12 : 0 ≤ (x7_1 : Int) := sq_d
                      have q12 : x7_1 < (a0.size : Int) := sq_d
                      have hx12 := bt_at a0 x7_1
                      replace p12 := eq_true p12
                      replace q12 := eq_true q12
                      go_wp2_with (first | ((with_reducible refine gate_builtin (b := .append) (xs := #[.tmp 25, .tmp 30]) rfl ?_); at_builtin; refine Kd.R_append Kd.string (w0 := w) w.heap.size rfl (.tmp 25) (.tmp 30) 22 9 (.string ⟨#[]⟩) 16 rfl Tryd.underlying22 info9 rfl (by decide) (by omega) u5 x5_1 (a0.extract (x6_1 : Int).toNat (x7_1 : Int).toNat) [.string (a0.extract (x6_1 : Int).toNat (x7_1 : Int).toNat)] (fun _ => True) (fun _ => False) rfl rfl ?aP (fun _ hk => hk.elim) ?aF ?aO ?aB ?aS ?aL ?_; (case aP => exact rfl); (case aB => exact (sq_bl HB.out)); (case aF => exact (fun _ _ => trivial)); (case aO => exact (sq_kr HO_5.out)); (case aS => exact (below_size (sq_bl HB.out))); (case aL => have := LMc17.out; omega); intro v273 w18 ho hb hg hat; rw [← Ny272.out] at ho; have n0_ := Aside0.mk (hb); have n1_ := Aside0.mk (ho); clear HB; clear HO_5; have HB := n0_; have HO274 := n1_; clear n0_ n1_; clear ho hb hg hat))
                      go_roundg k1
                      case measure => have := HK1.out; omega
                      case rel => exact ⟨(y272), (wrap64 (x7_1 + 1)), (wrap64 (x7_1 + 1)), (by first | rfl | (simp; done) | (simp [*]; done)), (by first | rfl | (simp; done) | (simp [*]; done)), H', ⟨by have := HK1.out; omega⟩, ⟨sq_kr HO274.out⟩, ⟨sq_bl HB.out⟩⟩
                    · rw [if_neg c17] at H
                      exact absurd H (by simp)
                  · rw [if_neg c15] at H
                    exact absurd H (by simp)
                · rw [if_neg c14] at H
                  exact absurd H (by simp)
              · rw [if_neg c13] at H
                have c13b0 : ((bt a0 x7_1) == a1) = false := beq_eq_false_iff_ne.mpr c13
                have c13b1 : ((bt a0 x7_1) != a1) = true := bne_iff_ne.mpr c13
                have H' := Aside0.mk H
                clear H
                have p12 : 0 ≤ (x7_1 : Int) := sq_d
                have q12 : x7_1 < (a0.size : Int) := sq_d
                have hx12 := bt_at a0 x7_1
                replace p12 := eq_true p12
                replace q12 := eq_true q12
                go_wp2
                go_roundg k1
                case measure => have := HK1.out; omega
                case rel => exact ⟨(x5_1), (x6_1), (wrap64 (x7_1 + 1)), (by first | rfl | (simp; done) | (simp [*]; done)), (by first | rfl | (simp; done) | (simp [*]; done)), H', ⟨by have := HK1.out; omega⟩, ⟨sq_kr HO_5.out⟩, ⟨sq_bl HB.out⟩⟩
            · rw [if_neg c11] at H
              exact absurd H (by simp)
          · rw [if_neg c10] at H
            exact absurd H (by simp)
      · rw [if_neg c3] at H
        have c3b0 : decide (x7_1 ≤ (a0.size : Int)) = false := decide_eq_false c3
        clear c3
        obtain rfl := Option.some.inj H
        go_wp2
        go_ret
        exact ⟨_, by first | rfl | (simp [errW_none, errW_some] <;> rfl) | (simp [*, errW_none, errW_some] <;> rfl), sq_kr HO_5.out, sq_bl HB.out⟩
end Go.Proofs.YtcnliampiibpbaaDoor.PAll
