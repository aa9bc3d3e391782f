/- Lean functions for Go functions, each with the proof that the call returns what it says; printed by wip/tools/myprint.py. -/
-- squeezed
-- tight
import Derived.Test.YtcnliampiibpbaaDoorTq
import Derived.Test.YtcnliampiibpbaaDoorPAllx0
import Derived.Test.YtcnliampiibpbaaDoorPAllx3
import Derived.Test.YtcnliampiibpbaaDoorPAllx15
namespace Go.Proofs.YtcnliampiibpbaaDoor.PAll
open Go.RowKit Go.Proofs.YtcnliampiibpbaaDoorW.PrintWords Go.Proofs.YtcnliampiibpbaaDoorW.PrintLast Go.Proofs.YtcnliampiibpbaaDoorW.PrintMore
attribute [local go_sem] Instr.field asAgg max2_int min2_int max_two min_two max_three min_three max_four min_four   -- for this text's walks alone
set_option linter.unusedVariables false
set_option linter.unusedSimpArgs false

/-! ### petrinetref45_Valid: function 20 -/
def petrinetref45_Valid.f (k : Nat) (a0_0 : Int) (l0_1 : List ByteArray) (l0_2 : List (S46)) : Option (Bool) := (petrinetref45_Check.f k a0_0 l0_1 l0_2).bind fun bt251 => (some (bt251.1 == 0))
theorem petrinetref45_Valid.mono : ∀ a0 a1 a2 k, LeO (petrinetref45_Valid.f k a0 a1 a2) (petrinetref45_Valid.f (k + 1) a0 a1 a2) := by
  intro a0 a1 a2 k
  unfold petrinetref45_Valid.f
  repeat' (with_reducible first | exact petrinetref45_Check.mono _ _ _ _ | exact LeO.refl _ | exact LeO.none _ | refine LeO.ite ?_ ?_ | refine LeO.bind ?_ (fun _ => ?_))
set_option maxHeartbeats 8000000 in
set_option maxRecDepth 100000 in
theorem petrinetref45_Valid.calls (k : Nat) (a0_0 : Int) (A0_1 : Option Addr) (c0_1 : Nat) (l0_1 : List ByteArray) (A0_2 : Option Addr) (c0_2 : Nat) (l0_2 : List (S46)) (r : Bool) (w : World) (hr0_1 : Kd.C Kd.string w A0_1 l0_1.length l0_1) (hc0_1 : l0_1.length ≤ c0_1) (hr0_2 : Kd.C k46 w A0_2 l0_2.length l0_2) (hc0_2 : l0_2.length ≤ c0_2) (h : petrinetref45_Valid.f k a0_0 l0_1 l0_2 = some r) :
    Calls Tryd.prog 20 #[.agg #[.int .i64 a0_0, .slice A0_1 l0_1.length c0_1, .slice A0_2 l0_2.length c0_2]] w fun e w' => e = .returned (.bool r) ∧ Below w.heap.size w w' := by
  have hv30 := Tryd.underlying30
  have hu25 := Tryd.underlying25
  have HR0_1 := Aside0.mk hr0_1
  have HC0_1 := Aside0.mk hc0_1
  clear hr0_1 hc0_1
  have HR0_2 := Aside0.mk hr0_2
  have HC0_2 := Aside0.mk hc0_2
  clear hr0_2 hc0_2
  have HB := Aside0.mk (Below.refl w.heap.size w)
  have H : ((petrinetref45_Check.f k a0_0 l0_1 l0_2).bind fun bt251 => (some (bt251.1 == 0))) = some r := h
  clear h
  replace H := Option.bind_eq_some_iff.mp H
  obtain ⟨⟨t251, t252⟩, A20, H⟩ := H
  replace H : (some (t251 == 0)) = some r := H
  have A2 := Aside0.mk A20
  clear A20
  obtain rfl := Option.some.inj H
  go_enter Tryd.func20, Tryd.ntmps20
  go_wp2_with (first | ((with_reducible refine gate_dst (N := 1) rfl ?_); refine sq_box 1 #[.int .i64 a0_0, .slice A0_1 l0_1.length c0_1, .slice A0_2 l0_2.length c0_2] 25 ?_; intro gb250 hg w3 hbox hb; have n0_ := Aside0.mk (below_step (sq_bl HB.out) hb); have n1_ := Aside0.mk (hbox); have n2_ := Aside0.mk ((by rw [hg]; exact (below_size (sq_bl HB.out)) : w.heap.size ≤ gb250)); have n3_ := Aside0.mk ((by rw [hg]; exact (below_size (sq_bl HB.out)) : w.heap.size ≤ gb250)); clear HB; have HB := n0_; have BK250 := n1_; have GW250 := n2_; have GE250 := n3_; clear n0_ n1_ n2_ n3_; clear hb hbox hg; have hcz4_0 : w3.cell? ⟨gb250, 0, none⟩ = some (.int .i64 a0_0) := (blk_cell BK250.out 0).trans rfl; have hcz4_1 : w3.cell? ⟨gb250, 1, none⟩ = some (.slice A0_1 l0_1.length c0_1) := (blk_cell BK250.out 1).trans rfl; have hcz4_2 : w3.cell? ⟨gb250, 2, none⟩ = some (.slice A0_2 l0_2.length c0_2) := (blk_cell BK250.out 2).trans rfl; have hfz4_0 := blk_frozen BK250.out 0; have hfz4_1 := blk_frozen BK250.out 1; have hfz4_2 := blk_frozen BK250.out 2) | ((with_reducible refine gate_callee (f := 21) rfl ?_); refine sq_goes (some 4) Tryd.func21 #[.agg #[.int .i64 a0_0, .slice A0_1 l0_1.length c0_1, .slice A0_2 l0_2.length c0_2]] ?_; (with_reducible refine (petrinetref45_Check.calls k a0_0 _ _ l0_1 _ _ l0_2 t251 t252 _ ?side1 ?side2 ?side3 ?side4 A2.out).mono ?_); (case side1 => exact sq_kc ((Kd.C_below HR0_1.out HB.out))); (case side2 => exact HC0_1.out); (case side3 => exact sq_kc ((Kd.C_below HR0_2.out HB.out))); (case side4 => exact HC0_2.out); rintro e w5 ⟨rfl, hb⟩; refine ⟨_, rfl, ?_⟩; have n0_ := Aside0.mk (blk_below (g := gb250) (o := .cells #[.int .i64 a0_0, .slice A0_1 l0_1.length c0_1, .slice A0_2 l0_2.length c0_2] 25 (0, 0)) (sq_bk BK250.out) hb); have n1_ := Aside0.mk (below_step (sq_bs HB.out) hb); clear BK250; clear HB; have BK250 := n0_; have HB := n1_; clear n0_ n1_; (try clear hb)))
  go_ret
  exact ⟨by first | rfl | (simp [errW_none, errW_some] <;> rfl) | (simp [*, errW_none, errW_some] <;> rfl), sq_bs HB.out⟩
/-! ### petrinetref04_Number: function 22 -/
mutual
def petrinetref04_Number.l0 : Nat → Int → ByteArray → Int → Option (ByteArray)
  | 0, _, _, _ => none
  | k + 1, x0, x3, x4 => if x4 = 0 then (petrinetref04_Number.j1 k x0 x3 x4 (x3.toList == ([] : List UInt8))) else (petrinetref04_Number.j1 k x0 x3 x4 true)
def petrinetref04_Number.j1 : Nat → Int → ByteArray → Int → Bool → Option (ByteArray)
  | 0, _, _, _, _ => none
  | k + 1, x0, x3, x4, x12 => if x12 = true then (if (Int.tmod x4 10) < 0 then (if 0 ≤ (wrap64 (-(Int.tmod x4 10))) then (if (wrap64 (-(Int.tmod x4 10))) ≤ (wrap64 ((wrap64 (-(Int.tmod x4 10))) + 1)) then (if (wrap64 ((wrap64 (-(Int.tmod x4 10))) + 1)) ≤ 10 then (if ((⟨#[48, 49, 50, 51, 52, 53, 54, 55, 56, 57]⟩ : ByteArray).extract ((wrap64 (-(Int.tmod x4 10))) : Int).toNat ((wrap64 ((wrap64 (-(Int.tmod x4 10))) + 1)) : Int).toNat).size + x3.size ≤ 9223372036854775807 then (petrinetref04_Number.l0 k x0 (((⟨#[48, 49, 50, 51, 52, 53, 54, 55, 56, 57]⟩ : ByteArray).extract ((wrap64 (-(Int.tmod x4 10))) : Int).toNat ((wrap64 ((wrap64 (-(Int.tmod x4 10))) + 1)) : Int).toNat) ++ x3) (wrap64 (Int.tdiv x4 10))) else (none)) else (none)) else (none)) else (none)) else (if 0 ≤ (Int.tmod x4 10) then (if (Int.tmod x4 10) ≤ (wrap64 ((Int.tmod x4 10) + 1)) then (if (wrap64 ((Int.tmod x4 10) + 1)) ≤ 10 then (if ((⟨#[48, 49, 50, 51, 52, 53, 54, 55, 56, 57]⟩ : ByteArray).extract ((Int.tmod x4 10) : Int).toNat ((wrap64 ((Int.tmod x4 10) + 1)) : Int).toNat).size + x3.size ≤ 9223372036854775807 then (petrinetref04_Number.l0 k x0 (((⟨#[48, 49, 50, 51, 52, 53, 54, 55, 56, 57]⟩ : ByteArray).extract ((Int.tmod x4 10) : Int).toNat ((wrap64 ((Int.tmod x4 10) + 1)) : Int).toNat) ++ x3) (wrap64 (Int.tdiv x4 10))) else (none)) else (none)) else (none)) else (none))) else (if x0 < 0 then (if 1 + x3.size ≤ 9223372036854775807 then (some ((⟨#[45]⟩ : ByteArray) ++ x3)) else (none)) else (some x3))
end
def petrinetref04_Number.f (k : Nat) (a0 : Int) : Option (ByteArray) := petrinetref04_Number.l0 k a0 (⟨#[]⟩ : ByteArray) a0
theorem petrinetref04_Number.mono_l : ∀ k, (∀ y0 y1 y2, LeO (petrinetref04_Number.l0 k y0 y1 y2) (petrinetref04_Number.l0 (k + 1) y0 y1 y2)) ∧ (∀ y0 y1 y2 y3, LeO (petrinetref04_Number.j1 k y0 y1 y2 y3) (petrinetref04_Number.j1 (k + 1) y0 y1 y2 y3))
  | 0 => ⟨fun _ _ _ r h => by simp [petrinetref04_Number.l0] at h, fun _ _ _ _ r h => by simp [petrinetref04_Number.j1] at h⟩
  | k + 1 => by
    obtain ⟨ih0, ih1⟩ := petrinetref04_Number.mono_l k
    refine ⟨?_, ?_⟩
    · intro y0 y1 y2
      unfold petrinetref04_Number.l0
      repeat' (with_reducible first | exact ih0 _ _ _ | exact ih1 _ _ _ _ | exact LeO.refl _ | exact LeO.none _ | refine LeO.ite ?_ ?_ | refine LeO.bind ?_ (fun _ => ?_))
    · intro y0 y1 y2 y3
      unfold petrinetref04_Number.j1
      repeat' (with_reducible first | exact ih0 _ _ _ | exact ih1 _ _ _ _ | exact LeO.refl _ | exact LeO.none _ | refine LeO.ite ?_ ?_ | refine LeO.bind ?_ (fun _ => ?_))
theorem petrinetref04_Number.mono : ∀ a0 k, LeO (petrinetref04_Number.f k a0) (petrinetref04_Number.f (k + 1) a0) := by
  intro a0 k
  obtain ⟨ih0, ih1⟩ := petrinetref04_Number.mono_l k
  unfold petrinetref04_Number.f
  repeat' (with_reducible first | exact ih0 _ _ _ | exact ih1 _ _ _ _ | exact LeO.refl _ | exact LeO.none _ | refine LeO.ite ?_ ?_ | refine LeO.bind ?_ (fun _ => ?_))
set_option maxHeartbeats 8000000 in
set_option maxRecDepth 100000 in
theorem petrinetref04_Number.calls (k : Nat) (a0 : Int) (r : ByteArray) (w : World) (h : petrinetref04_Number.f k a0 = some r) :
    Calls Tryd.prog 22 #[.int .i64 a0] w fun e w' => e = .returned (.string r) ∧ Drawn0 w w' := by
  have hv30 := Tryd.underlying30
  have H : (petrinetref04_Number.l0 k a0 (⟨#[]⟩ : ByteArray) a0) = some r := h
  clear h
  have H' := Aside0.mk H
  clear H
  go_enter Tryd.func22, Tryd.ntmps22
  go_wp2
  go_loopg [3, 4] k (fun kq v3 v4 w' => ∃ (x3_1 : ByteArray) (x4_1 : Int), v3 = .string x3_1 ∧ v4 = .int .i64 x4_1 ∧ Aside0 (petrinetref04_Number.l0 kq a0 x3_1 x4_1 = some r) ∧ Aside0 (kq ≤ k) ∧ Drawn0 w w')
  case atStart => exact ⟨((⟨#[]⟩ : ByteArray)), (a0), (by first | rfl | (simp; done) | (simp [*]; done)), (by first | rfl | (simp; done) | (simp [*]; done)), H', ⟨Nat.le_refl _⟩, by repeat (first | exact Drawn0.refl _ | apply Drawn0.step)⟩
  case round =>
    clear H'
    obtain ⟨x3_1, x4_1, rfl, rfl, HA, HK1, ⟨m1, rfl⟩⟩ := hrel
    cases gk with
    | zero => exact absurd HA.out (by simp [petrinetref04_Number.l0])
    | succ k1 =>
      have H := HA.out
      clear HA
      simp only [petrinetref04_Number.l0] at H
      have HC2 := Aside0.mk H
      clear H
      go_upto_region 3 with (fail)
      go_cut [12] (fun v12 wc => ∃ (kq : Nat) (x12_1 : Bool), v12 = .bool x12_1 ∧ Aside0 (petrinetref04_Number.j1 kq a0 x3_1 x4_1 x12_1 = some r) ∧ Aside0 (kq ≤ k1) ∧ Drawn0 w wc)
      case first =>
        have H := HC2.out
        clear HC2
        by_cases c3 : x4_1 = 0
        · rw [if_pos c3] at H
          have c3b0 : (x4_1 == 0) = true := beq_iff_eq.mpr c3
          have c3b1 : (x4_1 != 0) = false := bne_eq_false_iff_eq.mpr c3
          clear c3
          (first | rw [c3b0] | (simp only [i64_w, i32_w]; rw [c3b0]) | skip)
          have H' := Aside0.mk H
          clear H
          go_wp2
          go_meet
          case rel => exact ⟨_, ((x3_1.toList == ([] : List UInt8))), (by first | rfl | (simp; done) | (simp [*]; done)), H', ⟨by have := HK1.out; first | omega | exact Nat.le_refl _⟩, by repeat (first | exact Drawn0.refl _ | apply Drawn0.step)⟩
        · rw [if_neg c3] at H
          have c3b0 : (x4_1 == 0) = false := beq_eq_false_iff_ne.mpr c3
          have c3b1 : (x4_1 != 0) = true := bne_iff_ne.mpr c3
          (first | rw [c3b0] | (simp only [i64_w, i32_w]; rw [c3b0]) | skip)
          have H' := Aside0.mk H
          clear H
          go_wp2
          go_meet
          case rel => exact ⟨_, (true), (by first | rfl | (simp; done) | (simp [*]; done)), H', ⟨by have := HK1.out; first | omega | exact Nat.le_refl _⟩, by repeat (first | exact Drawn0.refl _ | apply Drawn0.step)⟩
      case rest =>
        clear HC2
        obtain ⟨kq, x12_1, rfl, HA, HJ1, ⟨mc1, rfl⟩⟩ := hcut
        cases kq with
        | zero => exact absurd HA.out (by simp [petrinetref04_Number.j1])
        | succ kj1 =>
          have H := HA.out
          clear HA
          simp only [petrinetref04_Number.j1] at H
          by_cases c4 : x12_1 = true
          · subst c4
            have H1 : (if (Int.tmod x4_1 10) < 0 then (if 0 ≤ (wrap64 (-(Int.tmod x4_1 10))) then (if (wrap64 (-(Int.tmod x4_1 10))) ≤ (wrap64 ((wrap64 (-(Int.tmod x4_1 10))) + 1)) then (if (wrap64 ((wrap64 (-(Int.tmod x4_1 10))) + 1)) ≤ 10 then (if ((⟨#[48, 49, 50, 51, 52, 53, 54, 55, 56, 57]⟩ : ByteArray).extract ((wrap64 (-(Int.tmod x4_1 10))) : Int).toNat ((wrap64 ((wrap64 (-(Int.tmod x4_1 10))) + 1)) : Int).toNat).size + x3_1.size ≤ 9223372036854775807 then (petrinetref04_Number.l0 kj1 a0 (((⟨#[48, 49, 50, 51, 52, 53, 54, 55, 56, 57]⟩ : ByteArray).extract ((wrap64 (-(Int.tmod x4_1 10))) : Int).toNat ((wrap64 ((wrap64 (-(Int.tmod x4_1 10))) + 1)) : Int).toNat) ++ x3_1) (wrap64 (Int.tdiv x4_1 10))) else (none)) else (none)) else (none)) else (none)) else (if 0 ≤ (Int.tmod x4_1 10) then (if (Int.tmod x4_1 10) ≤ (wrap64 ((Int.tmod x4_1 10) + 1)) then (if (wrap64 ((Int.tmod x4_1 10) + 1)) ≤ 10 then (if ((⟨#[48, 49, 50, 51, 52, 53, 54, 55, 56, 57]⟩ : ByteArray).extract ((Int.tmod x4_1 10) : Int).toNat ((wrap64 ((Int.tmod x4_1 10) + 1)) : Int).toNat).size + x3_1.size ≤ 9223372036854775807 then (petrinetref04_Number.l0 kj1 a0 (((⟨#[48, 49, 50, 51, 52, 53, 54, 55, 56, 57]⟩ : ByteArray).extract ((Int.tmod x4_1 10) : Int).toNat ((wrap64 ((Int.tmod x4_1 10) + 1)) : Int).toNat) ++ x3_1) (wrap64 (Int.tdiv x4_1 10))) else (none)) else (none)) else (none)) else (none))) = some r := by rw [if_pos rfl] at H; exact H
            clear H
            have H := H1
            clear H1
            by_cases c5 : (Int.tmod x4_1 10) < 0
            · rw [if_pos c5] at H
              have c5b0 : decide ((Int.tmod x4_1 10) < 0) = true := decide_eq_true c5
              clear c5
              obtain ⟨ji6, hji6⟩ : ∃ j_ : Int, (wrap64 (-(Int.tmod x4_1 10))) = j_ := ⟨_, rfl⟩
              replace H : (if 0 ≤ (ji6) then (if (ji6) ≤ (wrap64 ((ji6) + 1)) then (if (wrap64 ((ji6) + 1)) ≤ 10 then (if ((⟨#[48, 49, 50, 51, 52, 53, 54, 55, 56, 57]⟩ : ByteArray).extract ((ji6) : Int).toNat ((wrap64 ((ji6) + 1)) : Int).toNat).size + x3_1.size ≤ 9223372036854775807 then (petrinetref04_Number.l0 kj1 a0 (((⟨#[48, 49, 50, 51, 52, 53, 54, 55, 56, 57]⟩ : ByteArray).extract ((ji6) : Int).toNat ((wrap64 ((ji6) + 1)) : Int).toNat) ++ x3_1) (wrap64 (Int.tdiv x4_1 10))) else (none)) else (none)) else (none)) else (none)) = some r := by first | (rw [hji6] at H; exact H) | (simp only [hji6] at H ⊢; exact H)
              have hji6w : (IntKind.i64.wrap (-(Int.tmod x4_1 10))) = ji6 := (i64_w _).trans hji6
              by_cases c7 : 0 ≤ (ji6)
              · rw [if_pos c7] at H
                have c7b0 := eq_true c7
                have c7b1 : decide (0 ≤ (ji6)) = true := decide_eq_true c7
                clear c7
                by_cases c8 : (ji6) ≤ (wrap64 ((ji6) + 1))
                · rw [if_pos c8] at H
                  have c8b0 := eq_true c8
                  have c8b1 : decide ((ji6) ≤ (wrap64 ((ji6) + 1))) = true := decide_eq_true c8
                  by_cases c9 : (wrap64 ((ji6) + 1)) ≤ 10
                  · rw [if_pos c9] at H
                    have c9b0 := eq_true c9
                    have c9b1 : decide ((wrap64 ((ji6) + 1)) ≤ 10) = true := decide_eq_true c9
                    by_cases c10 : ((⟨#[48, 49, 50, 51, 52, 53, 54, 55, 56, 57]⟩ : ByteArray).extract ((ji6) : Int).toNat ((wrap64 ((ji6) + 1)) : Int).toNat).size + x3_1.size ≤ 9223372036854775807
                    · rw [if_pos c10] at H
                      have c10b0 := eq_true c10
                      have c10b1 : decide (((⟨#[48, 49, 50, 51, 52, 53, 54, 55, 56, 57]⟩ : ByteArray).extract ((ji6) : Int).toNat ((wrap64 ((ji6) + 1)) : Int).toNat).size + x3_1.size ≤ 9223372036854775807) = true := decide_eq_true c10
                      try have c10b2 : (9223372036854775807 < ((⟨#[48, 49, 50, 51, 52, 53, 54, 55, 56, 57]⟩ : ByteArray).extract ((ji6) : Int).toNat ((wrap64 ((ji6) + 1)) : Int).toNat).size + x3_1.size) = False := eq_false (Nat.not_lt.2 c10)
                      try (have c10b4 := c10; simp only [ByteArray.size_append, lit_size_, List.length_cons, List.length_nil, Nat.zero_add, Nat.reduceAdd] at c10b4)
                      try (have c10b5 := eq_false (Nat.not_lt.2 c10b4))
                      have H' := Aside0.mk H
                      clear H
                      go_wp2
                      go_roundg kj1
                      case measure => have := HK1.out; have := HJ1.out; omega
                      case rel => exact ⟨(((⟨#[48, 49, 50, 51, 52, 53, 54, 55, 56, 57]⟩ : ByteArray).extract ((ji6) : Int).toNat ((wrap64 ((ji6) + 1)) : Int).toNat) ++ x3_1), (wrap64 (Int.tdiv x4_1 10)), (by first | rfl | (simp; done) | (simp only [← hji6] <;> (first | rfl | simp)) | (simp [*]; done)), (by first | rfl | (simp; done) | (simp [*]; done)), H', ⟨by have := HK1.out; have := HJ1.out; omega⟩, by repeat (first | exact Drawn0.refl _ | apply Drawn0.step)⟩
                    · rw [if_neg c10] at H
                      exact absurd H (by simp)
                  · rw [if_neg c9] at H
                    exact absurd H (by simp)
                · rw [if_neg c8] at H
                  exact absurd H (by simp)
              · rw [if_neg c7] at H
                exact absurd H (by simp)
            · rw [if_neg c5] at H
              have c5b0 : decide ((Int.tmod x4_1 10) < 0) = false := decide_eq_false c5
              clear c5
              obtain ⟨ji11, hji11⟩ : ∃ j_ : Int, (Int.tmod x4_1 10) = j_ := ⟨_, rfl⟩
              replace H : (if 0 ≤ (ji11) then (if (ji11) ≤ (wrap64 ((ji11) + 1)) then (if (wrap64 ((ji11) + 1)) ≤ 10 then (if ((⟨#[48, 49, 50, 51, 52, 53, 54, 55, 56, 57]⟩ : ByteArray).extract ((ji11) : Int).toNat ((wrap64 ((ji11) + 1)) : Int).toNat).size + x3_1.size ≤ 9223372036854775807 then (petrinetref04_Number.l0 kj1 a0 (((⟨#[48, 49, 50, 51, 52, 53, 54, 55, 56, 57]⟩ : ByteArray).extract ((ji11) : Int).toNat ((wrap64 ((ji11) + 1)) : Int).toNat) ++ x3_1) (wrap64 (Int.tdiv x4_1 10))) else (none)) else (none)) else (none)) else (none)) = some r := by first | (rw [hji11] at H; exact H) | (simp only [hji11] at H ⊢; exact H)
              (try rw [hji11] at c5b0)
              by_cases c12 : 0 ≤ (ji11)
              · rw [if_pos c12] at H
                have c12b0 := eq_true c12
                have c12b1 : decide (0 ≤ (ji11)) = true := decide_eq_true c12
                clear c12
                by_cases c13 : (ji11) ≤ (wrap64 ((ji11) + 1))
                · rw [if_pos c13] at H
                  have c13b0 := eq_true c13
                  have c13b1 : decide ((ji11) ≤ (wrap64 ((ji11) + 1))) = true := decide_eq_true c13
                  by_cases c14 : (wrap64 ((ji11) + 1)) ≤ 10
                  · rw [if_pos c14] at H
                    have c14b0 := eq_true c14
                    have c14b1 : decide ((wrap64 ((ji11) + 1)) ≤ 10) = true := decide_eq_true c14
                    by_cases c15 : ((⟨#[48, 49, 50, 51, 52, 53, 54, 55, 56, 57]⟩ : ByteArray).extract ((ji11) : Int).toNat ((wrap64 ((ji11) + 1)) : Int).toNat).size + x3_1.size ≤ 9223372036854775807
                    · rw [if_pos c15] at H
                      have c15b0 := eq_true c15
                      have c15b1 : decide (((⟨#[48, 49, 50, 51, 52, 53, 54, 55, 56, 57]⟩ : ByteArray).extract ((ji11) : Int).toNat ((wrap64 ((ji11) + 1)) : Int).toNat).size + x3_1.size ≤ 9223372036854775807) = true := decide_eq_true c15
                      try have c15b2 : (9223372036854775807 < ((⟨#[48, 49, 50, 51, 52, 53, 54, 55, 56, 57]⟩ : ByteArray).extract ((ji11) : Int).toNat ((wrap64 ((ji11) + 1)) : Int).toNat).size + x3_1.size) = False := eq_false (Nat.not_lt.2 c15)
                      try (have c15b4 := c15; simp only [ByteArray.size_append, lit_size_, List.length_cons, List.length_nil, Nat.zero_add, Nat.reduceAdd] at c15b4)
                      try (have c15b5 := eq_false (Nat.not_lt.2 c15b4))
                      have H' := Aside0.mk H
                      clear H
                      go_wp2
                      go_roundg kj1
                      case measure => have := HK1.out; have := HJ1.out; omega
                      case rel => exact ⟨(((⟨#[48, 49, 50, 51, 52, 53, 54, 55, 56, 57]⟩ : ByteArray).extract ((ji11) : Int).toNat ((wrap64 ((ji11) + 1)) : Int).toNat) ++ x3_1), (wrap64 (Int.tdiv x4_1 10)), (by first | rfl | (simp; done) | (simp only [← hji11] <;> (first | rfl | simp)) | (simp [*]; done)), (by first | rfl | (simp; done) | (simp [*]; done)), H', ⟨by have := HK1.out; have := HJ1.out; omega⟩, by repeat (first | exact Drawn0.refl _ | apply Drawn0.step)⟩
                    · rw [if_neg c15] at H
                      exact absurd H (by simp)
                  · rw [if_neg c14] at H
                    exact absurd H (by simp)
                · rw [if_neg c13] at H
                  exact absurd H (by simp)
              · rw [if_neg c12] at H
                exact absurd H (by simp)
          · replace c4 := Bool.eq_false_iff.mpr c4
            subst c4
            have H1 : (if a0 < 0 then (if 1 + x3_1.size ≤ 9223372036854775807 then (some ((⟨#[45]⟩ : ByteArray) ++ x3_1)) else (none)) else (some x3_1)) = some r := by rw [if_neg (show ¬ (false = true) by decide)] at H; exact H
            clear H
            have H := H1
            clear H1
            by_cases c16 : a0 < 0
            · rw [if_pos c16] at H
              have c16b0 : decide (a0 < 0) = true := decide_eq_true c16
              clear c16
              by_cases c17 : 1 + x3_1.size ≤ 9223372036854775807
              · rw [if_pos c17] at H
                have c17b0 := eq_true c17
                have c17b1 : decide (1 + x3_1.size ≤ 9223372036854775807) = true := decide_eq_true c17
                try have c17b2 : (9223372036854775807 < 1 + x3_1.size) = False := eq_false (Nat.not_lt.2 c17)
                try (have c17b4 := c17; simp only [ByteArray.size_append, lit_size_, List.length_cons, List.length_nil, Nat.zero_add, Nat.reduceAdd] at c17b4)
                try (have c17b5 := eq_false (Nat.not_lt.2 c17b4))
                obtain rfl := Option.some.inj H
                go_wp2
                go_ret
                exact ⟨by first | rfl | (simp; done) | (simp [*]; done), by repeat (first | exact Drawn0.refl _ | apply Drawn0.step)⟩
              · rw [if_neg c17] at H
                exact absurd H (by simp)
            · rw [if_neg c16] at H
              have c16b0 : decide (a0 < 0) = false := decide_eq_false c16
              clear c16
              obtain rfl := Option.some.inj H
              go_wp2
              go_ret
              exact ⟨by first | rfl | (simp; done) | (simp [*]; done), by repeat (first | exact Drawn0.refl _ | apply Drawn0.step)⟩
/-! ### petrinetref45_Text: function 8 -/
mutual
def petrinetref45_Text.l0 : Nat → ByteArray → Int → Int → List ByteArray → List (S46) → Option (ByteArray × Int × Int)
  | 0, _, _, _, _, _ => none
  | k + 1, x4, x5, x254000, x254001, x254002 => if x5 < (x254001.length : Int) then (if 0 ≤ x5 then (if 6 + (rdOf ByteArray.empty x254001 x5).size ≤ 9223372036854775807 then (if ((⟨#[101, 118, 101, 110, 116, 32]⟩ : ByteArray) ++ (rdOf ByteArray.empty x254001 x5)).size + 1 ≤ 9223372036854775807 then (if x4.size + (((⟨#[101, 118, 101, 110, 116, 32]⟩ : ByteArray) ++ (rdOf ByteArray.empty x254001 x5)) ++ (⟨#[10]⟩ : ByteArray)).size ≤ 9223372036854775807 then (petrinetref45_Text.l0 k (x4 ++ (((⟨#[101, 118, 101, 110, 116, 32]⟩ : ByteArray) ++ (rdOf ByteArray.empty x254001 x5)) ++ (⟨#[10]⟩ : ByteArray))) (wrap64 (x5 + 1)) x254000 x254001 x254002) else (none)) else (none)) else (none)) else (none)) else (petrinetref45_Text.l1 k x4 0 x254000 x254001 x254002)
def petrinetref45_Text.l1 : Nat → ByteArray → Int → Int → List ByteArray → List (S46) → Option (ByteArray × Int × Int)
  | 0, _, _, _, _, _ => none
  | k + 1, x4, x6, x254000, x254001, x254002 => if x6 < (x254002.length : Int) then (if 0 ≤ x6 then ((petrinetref04_Number.f k ((rd_T46 x254002 x6).f0)).bind fun t262 => (if t262.size + 1 ≤ 9223372036854775807 then (if 0 ≤ ((rd_T46 x254002 x6).f1) then (if ((rd_T46 x254002 x6).f1) < (x254001.length : Int) then (if (t262 ++ (⟨#[32]⟩ : ByteArray)).size + (rdOf ByteArray.empty x254001 ((rd_T46 x254002 x6).f1)).size ≤ 9223372036854775807 then (if ((t262 ++ (⟨#[32]⟩ : ByteArray)) ++ (rdOf ByteArray.empty x254001 ((rd_T46 x254002 x6).f1))).size + 1 ≤ 9223372036854775807 then ((petrinetref04_Number.f k ((rd_T46 x254002 x6).f2)).bind fun t264 => (if (((t262 ++ (⟨#[32]⟩ : ByteArray)) ++ (rdOf ByteArray.empty x254001 ((rd_T46 x254002 x6).f1))) ++ (⟨#[32]⟩ : ByteArray)).size + t264.size ≤ 9223372036854775807 then (if ((((t262 ++ (⟨#[32]⟩ : ByteArray)) ++ (rdOf ByteArray.empty x254001 ((rd_T46 x254002 x6).f1))) ++ (⟨#[32]⟩ : ByteArray)) ++ t264).size + 1 ≤ 9223372036854775807 then (if x4.size + (((((t262 ++ (⟨#[32]⟩ : ByteArray)) ++ (rdOf ByteArray.empty x254001 ((rd_T46 x254002 x6).f1))) ++ (⟨#[32]⟩ : ByteArray)) ++ t264) ++ (⟨#[10]⟩ : ByteArray)).size ≤ 9223372036854775807 then (petrinetref45_Text.l1 k (x4 ++ (((((t262 ++ (⟨#[32]⟩ : ByteArray)) ++ (rdOf ByteArray.empty x254001 ((rd_T46 x254002 x6).f1))) ++ (⟨#[32]⟩ : ByteArray)) ++ t264) ++ (⟨#[10]⟩ : ByteArray))) (wrap64 (x6 + 1)) x254000 x254001 x254002) else (none)) else (none)) else (none))) else (none)) else (none)) else (none)) else (none)) else (none))) else (none)) else (some (x4, 0, 0))
end
def petrinetref45_Text.f (k : Nat) (a0_0 : Int) (l0_1 : List ByteArray) (l0_2 : List (S46)) : Option (ByteArray × Int × Int) := (petrinetref45_Valid.f k a0_0 l0_1 l0_2).bind fun t255 => (if t255 = true then ((petrinetref04_Number.f k a0_0).bind fun t258 => (if 7 + t258.size ≤ 9223372036854775807 then (if ((⟨#[115, 116, 97, 116, 101, 115, 32]⟩ : ByteArray) ++ t258).size + 1 ≤ 9223372036854775807 then (petrinetref45_Text.l0 k (((⟨#[115, 116, 97, 116, 101, 115, 32]⟩ : ByteArray) ++ t258) ++ (⟨#[10]⟩ : ByteArray)) 0 a0_0 l0_1 l0_2) else (none)) else (none))) else ((petrinetref45_Check.f k a0_0 l0_1 l0_2).bind fun bt256 => (some ((⟨#[]⟩ : ByteArray), bt256.1, bt256.2))))
theorem petrinetref45_Text.mono_l : ∀ k, (∀ y0 y1 y2 y3 y4, LeO (petrinetref45_Text.l0 k y0 y1 y2 y3 y4) (petrinetref45_Text.l0 (k + 1) y0 y1 y2 y3 y4)) ∧ (∀ y0 y1 y2 y3 y4, LeO (petrinetref45_Text.l1 k y0 y1 y2 y3 y4) (petrinetref45_Text.l1 (k + 1) y0 y1 y2 y3 y4))
  | 0 => ⟨fun _ _ _ _ _ r h => by simp [petrinetref45_Text.l0] at h, fun _ _ _ _ _ r h => by simp [petrinetref45_Text.l1] at h⟩
  | k + 1 => by
    obtain ⟨ih0, ih1⟩ := petrinetref45_Text.mono_l k
    refine ⟨?_, ?_⟩
    · intro y0 y1 y2 y3 y4
      unfold petrinetref45_Text.l0
      repeat' (with_reducible first | exact ih0 _ _ _ _ _ | exact ih1 _ _ _ _ _ | exact petrinetref04_Number.mono _ _ | exact petrinetref45_Check.mono _ _ _ _ | exact petrinetref45_Valid.mono _ _ _ _ | exact LeO.refl _ | exact LeO.none _ | refine LeO.ite ?_ ?_ | refine LeO.bind ?_ (fun _ => ?_))
    · intro y0 y1 y2 y3 y4
      unfold petrinetref45_Text.l1
      repeat' (with_reducible first | exact ih0 _ _ _ _ _ | exact ih1 _ _ _ _ _ | exact petrinetref04_Number.mono _ _ | exact petrinetref45_Check.mono _ _ _ _ | exact petrinetref45_Valid.mono _ _ _ _ | exact LeO.refl _ | exact LeO.none _ | refine LeO.ite ?_ ?_ | refine LeO.bind ?_ (fun _ => ?_))
theorem petrinetref45_Text.mono : ∀ a0 a1 a2 k, LeO (petrinetref45_Text.f k a0 a1 a2) (petrinetref45_Text.f (k + 1) a0 a1 a2) := by
  intro a0 a1 a2 k
  obtain ⟨ih0, ih1⟩ := petrinetref45_Text.mono_l k
  unfold petrinetref45_Text.f
  repeat' (with_reducible first | exact ih0 _ _ _ _ _ | exact ih1 _ _ _ _ _ | exact petrinetref04_Number.mono _ _ | exact petrinetref45_Check.mono _ _ _ _ | exact petrinetref45_Valid.mono _ _ _ _ | exact LeO.refl _ | exact LeO.none _ | refine LeO.ite ?_ ?_ | refine LeO.bind ?_ (fun _ => ?_))
set_option maxHeartbeats 8000000 in
set_option maxRecDepth 100000 in
theorem petrinetref45_Text.calls (k : Nat) (a0_0 : Int) (A0_1 : Option Addr) (c0_1 : Nat) (l0_1 : List ByteArray) (A0_2 : Option Addr) (c0_2 : Nat) (l0_2 : List (S46)) (r1 : ByteArray) (r2 : Int) (r3 : Int) (w : World) (hr0_1 : Kd.C Kd.string w A0_1 l0_1.length l0_1) (hc0_1 : l0_1.length ≤ c0_1) (hr0_2 : Kd.C k46 w A0_2 l0_2.length l0_2) (hc0_2 : l0_2.length ≤ c0_2) (h : petrinetref45_Text.f k a0_0 l0_1 l0_2 = some (r1, r2, r3)) :
    Calls Tryd.prog 8 #[.agg #[.int .i64 a0_0, .slice A0_1 l0_1.length c0_1, .slice A0_2 l0_2.length c0_2]] w fun e w' => e = .returned (.tuple #[.string r1, .agg #[.int .i64 r2, .int .i64 r3]]) ∧ Below w.heap.size w w' := by
  have hv30 := Tryd.underlying30
  have hu25 := Tryd.underlying25
  have hu30 := Tryd.underlying30
  have hu46 := Tryd.underlying46
  have HR0_1 := Aside0.mk hr0_1
  have HC0_1 := Aside0.mk hc0_1
  clear hr0_1 hc0_1
  have HR0_2 := Aside0.mk hr0_2
  have HC0_2 := Aside0.mk hc0_2
  clear hr0_2 hc0_2
  have HB := Aside0.mk (Below.refl w.heap.size w)
  have H : ((petrinetref45_Valid.f k a0_0 l0_1 l0_2).bind fun t255 => (if t255 = true then ((petrinetref04_Number.f k a0_0).bind fun t258 => (if 7 + t258.size ≤ 9223372036854775807 then (if ((⟨#[115, 116, 97, 116, 101, 115, 32]⟩ : ByteArray) ++ t258).size + 1 ≤ 9223372036854775807 then (petrinetref45_Text.l0 k (((⟨#[115, 116, 97, 116, 101, 115, 32]⟩ : ByteArray) ++ t258) ++ (⟨#[10]⟩ : ByteArray)) 0 a0_0 l0_1 l0_2) else (none)) else (none))) else ((petrinetref45_Check.f k a0_0 l0_1 l0_2).bind fun bt256 => (some ((⟨#[]⟩ : ByteArray), bt256.1, bt256.2))))) = some (r1, r2, r3) := h
  clear h
  replace H := Option.bind_eq_some_iff.mp H
  obtain ⟨t255, A20, H⟩ := H
  replace H : (if t255 = true then ((petrinetref04_Number.f k a0_0).bind fun t258 => (if 7 + t258.size ≤ 9223372036854775807 then (if ((⟨#[115, 116, 97, 116, 101, 115, 32]⟩ : ByteArray) ++ t258).size + 1 ≤ 9223372036854775807 then (petrinetref45_Text.l0 k (((⟨#[115, 116, 97, 116, 101, 115, 32]⟩ : ByteArray) ++ t258) ++ (⟨#[10]⟩ : ByteArray)) 0 a0_0 l0_1 l0_2) else (none)) else (none))) else ((petrinetref45_Check.f k a0_0 l0_1 l0_2).bind fun bt256 => (some ((⟨#[]⟩ : ByteArray), bt256.1, bt256.2)))) = some (r1, r2, r3) := H
  have A2 := Aside0.mk A20
  clear A20
  by_cases c3 : t255 = true
  · subst c3
    have H1 : ((petrinetref04_Number.f k a0_0).bind fun t258 => (if 7 + t258.size ≤ 9223372036854775807 then (if ((⟨#[115, 116, 97, 116, 101, 115, 32]⟩ : ByteArray) ++ t258).size + 1 ≤ 9223372036854775807 then (petrinetref45_Text.l0 k (((⟨#[115, 116, 97, 116, 101, 115, 32]⟩ : ByteArray) ++ t258) ++ (⟨#[10]⟩ : ByteArray)) 0 a0_0 l0_1 l0_2) else (none)) else (none))) = some (r1, r2, r3) := by rw [if_pos rfl] at H; exact H
    clear H
    have H := H1
    clear H1
    replace H := Option.bind_eq_some_iff.mp H
    obtain ⟨t258, A40, H⟩ := H
    replace H : (if 7 + t258.size ≤ 9223372036854775807 then (if ((⟨#[115, 116, 97, 116, 101, 115, 32]⟩ : ByteArray) ++ t258).size + 1 ≤ 9223372036854775807 then (petrinetref45_Text.l0 k (((⟨#[115, 116, 97, 116, 101, 115, 32]⟩ : ByteArray) ++ t258) ++ (⟨#[10]⟩ : ByteArray)) 0 a0_0 l0_1 l0_2) else (none)) else (none)) = some (r1, r2, r3) := H
    have A4 := Aside0.mk A40
    clear A40
    by_cases c5 : 7 + t258.size ≤ 9223372036854775807
    · rw [if_pos c5] at H
      have c5b0 := eq_true c5
      have c5b1 : decide (7 + t258.size ≤ 9223372036854775807) = true := decide_eq_true c5
      try have c5b2 : (9223372036854775807 < 7 + t258.size) = False := eq_false (Nat.not_lt.2 c5)
      try (have c5b4 := c5; simp only [ByteArray.size_append, lit_size_, List.length_cons, List.length_nil, Nat.zero_add, Nat.reduceAdd] at c5b4)
      try (have c5b5 := eq_false (Nat.not_lt.2 c5b4))
      by_cases c6 : ((⟨#[115, 116, 97, 116, 101, 115, 32]⟩ : ByteArray) ++ t258).size + 1 ≤ 9223372036854775807
      · rw [if_pos c6] at H
        have c6b0 := eq_true c6
        have c6b1 : decide (((⟨#[115, 116, 97, 116, 101, 115, 32]⟩ : ByteArray) ++ t258).size + 1 ≤ 9223372036854775807) = true := decide_eq_true c6
        try have c6b2 : (9223372036854775807 < ((⟨#[115, 116, 97, 116, 101, 115, 32]⟩ : ByteArray) ++ t258).size + 1) = False := eq_false (Nat.not_lt.2 c6)
        try (have c6b4 := c6; simp only [ByteArray.size_append, lit_size_, List.length_cons, List.length_nil, Nat.zero_add, Nat.reduceAdd] at c6b4)
        try (have c6b5 := eq_false (Nat.not_lt.2 c6b4))
        have H' := Aside0.mk H
        clear H
        go_enter Tryd.func8, Tryd.ntmps8
        go_wp2_with (first | ((with_reducible refine gate_dst (N := 1) rfl ?_); refine sq_box 1 #[.int .i64 a0_0, .slice A0_1 l0_1.length c0_1, .slice A0_2 l0_2.length c0_2] 25 ?_; intro gb253 hg w7 hbox hb; have n0_ := Aside0.mk (below_step (sq_bl HB.out) hb); have n1_ := Aside0.mk (hbox); have n2_ := Aside0.mk ((by rw [hg]; exact (below_size (sq_bl HB.out)) : w.heap.size ≤ gb253)); have n3_ := Aside0.mk ((by rw [hg]; exact (below_size (sq_bl HB.out)) : w.heap.size ≤ gb253)); clear HB; have HB := n0_; have BK253 := n1_; have GW253 := n2_; have GE253 := n3_; clear n0_ n1_ n2_ n3_; clear hb hbox hg) | ((with_reducible refine gate_dst (N := 3) rfl ?_); refine sq_box 3 #[.int .i64 0, .int .i64 0] 30 ?_; intro gb254 hg w8 hbox hb; have n0_ := Aside0.mk (blk_below (g := gb253) (o := .cells #[.int .i64 a0_0, .slice A0_1 l0_1.length c0_1, .slice A0_2 l0_2.length c0_2] 25 (0, 0)) (sq_bk BK253.out) hb); have n1_ := Aside0.mk (below_step (sq_bs HB.out) hb); have n2_ := Aside0.mk (hbox); have n3_ := Aside0.mk ((by rw [hg]; exact (below_size (sq_bs HB.out)) : w.heap.size ≤ gb254)); have n4_ := Aside0.mk ((by rw [hg]; exact (below_size (sq_bs HB.out)) : w.heap.size ≤ gb254)); have n5_ := Aside0.mk ((by rw [hg]; exact Nat.ne_of_lt (blk_lt (g := gb253) (o := .cells #[.int .i64 a0_0, .slice A0_1 l0_1.length c0_1, .slice A0_2 l0_2.length c0_2] 25 (0, 0)) (sq_bk BK253.out)) : gb253 ≠ gb254)); have n6_ := Aside0.mk ((by rw [hg]; exact Nat.ne_of_gt (blk_lt (g := gb253) (o := .cells #[.int .i64 a0_0, .slice A0_1 l0_1.length c0_1, .slice A0_2 l0_2.length c0_2] 25 (0, 0)) (sq_bk BK253.out)) : gb254 ≠ gb253)); clear BK253; clear HB; have BK253 := n0_; have HB := n1_; have BK254 := n2_; have GW254 := n3_; have GE254 := n4_; have NB253_254 := n5_; have NB254_253 := n6_; clear n0_ n1_ n2_ n3_ n4_ n5_ n6_; clear hb hbox hg; have hnb9 := NB253_254.out; have hnc9 := NB254_253.out; have hcz10_0 : w8.cell? ⟨gb253, 0, none⟩ = some (.int .i64 a0_0) := (blk_cell BK253.out 0).trans rfl; have hcz10_1 : w8.cell? ⟨gb253, 1, none⟩ = some (.slice A0_1 l0_1.length c0_1) := (blk_cell BK253.out 1).trans rfl; have hcz10_2 : w8.cell? ⟨gb253, 2, none⟩ = some (.slice A0_2 l0_2.length c0_2) := (blk_cell BK253.out 2).trans rfl; have hfz10_0 := blk_frozen BK253.out 0; have hfz10_1 := blk_frozen BK253.out 1; have hfz10_2 := blk_frozen BK253.out 2) | (go_at_call 20; (with_reducible refine (petrinetref45_Valid.calls k a0_0 _ _ l0_1 _ _ l0_2 true _ ?side1 ?side2 ?side3 ?side4 A2.out).mono ?_); (case side1 => exact sq_kc ((Kd.C_below HR0_1.out HB.out))); (case side2 => exact HC0_1.out); (case side3 => exact sq_kc ((Kd.C_below HR0_2.out HB.out))); (case side4 => exact HC0_2.out); rintro e w11 ⟨rfl, hb⟩; have n0_ := Aside0.mk (blk_below (g := gb253) (o := .cells #[.int .i64 a0_0, .slice A0_1 l0_1.length c0_1, .slice A0_2 l0_2.length c0_2] 25 (0, 0)) (sq_bk BK253.out) hb); have n1_ := Aside0.mk (blk_below (g := gb254) (o := .cells #[.int .i64 0, .int .i64 0] 30 (0, 0)) (sq_bk BK254.out) hb); have n2_ := Aside0.mk (below_step (sq_bs HB.out) hb); clear BK253; clear BK254; clear HB; have BK253 := n0_; have BK254 := n1_; have HB := n2_; clear n0_ n1_ n2_; (try clear hb); have hcz12_0 : w11.cell? ⟨gb253, 0, none⟩ = some (.int .i64 a0_0) := (blk_cell BK253.out 0).trans rfl; have hcz12_1 : w11.cell? ⟨gb253, 1, none⟩ = some (.slice A0_1 l0_1.length c0_1) := (blk_cell BK253.out 1).trans rfl; have hcz12_2 : w11.cell? ⟨gb253, 2, none⟩ = some (.slice A0_2 l0_2.length c0_2) := (blk_cell BK253.out 2).trans rfl; have hfz12_0 := blk_frozen BK253.out 0; have hfz12_1 := blk_frozen BK253.out 1; have hfz12_2 := blk_frozen BK253.out 2) | (go_at_call 22; (with_reducible refine (petrinetref04_Number.calls k a0_0 t258 _ A4.out).mono ?_); rintro e w' ⟨rfl, ⟨nd, rfl⟩⟩; (try first | exact ⟨rfl, _, World.drewN_drewN _ _ _⟩ | exact ⟨rfl, _, Eq.trans (World.drewN_drewN _ _ _) (congrArg (World.drewN _) (Nat.add_assoc _ _ _))⟩)))
        repeat (go_quiet (first | ((with_reducible refine gate_dst (N := 1) rfl ?_); refine sq_box 1 #[.int .i64 a0_0, .slice A0_1 l0_1.length c0_1, .slice A0_2 l0_2.length c0_2] 25 ?_; intro gb253 hg w7 hbox hb; have n0_ := Aside0.mk (below_step (sq_bl HB.out) hb); have n1_ := Aside0.mk (hbox); have n2_ := Aside0.mk ((by rw [hg]; exact (below_size (sq_bl HB.out)) : w.heap.size ≤ gb253)); have n3_ := Aside0.mk ((by rw [hg]; exact (below_size (sq_bl HB.out)) : w.heap.size ≤ gb253)); clear HB; have HB := n0_; have BK253 := n1_; have GW253 := n2_; have GE253 := n3_; clear n0_ n1_ n2_ n3_; clear hb hbox hg) | ((with_reducible refine gate_dst (N := 3) rfl ?_); refine sq_box 3 #[.int .i64 0, .int .i64 0] 30 ?_; intro gb254 hg w8 hbox hb; have n0_ := Aside0.mk (blk_below (g := gb253) (o := .cells #[.int .i64 a0_0, .slice A0_1 l0_1.length c0_1, .slice A0_2 l0_2.length c0_2] 25 (0, 0)) (sq_bk BK253.out) hb); have n1_ := Aside0.mk (below_step (sq_bs HB.out) hb); have n2_ := Aside0.mk (hbox); have n3_ := Aside0.mk ((by rw [hg]; exact (below_size (sq_bs HB.out)) : w.heap.size ≤ gb254)); have n4_ := Aside0.mk ((by rw [hg]; exact (below_size (sq_bs HB.out)) : w.heap.size ≤ gb254)); have n5_ := Aside0.mk ((by rw [hg]; exact Nat.ne_of_lt (blk_lt (g := gb253) (o := .cells #[.int .i64 a0_0, .slice A0_1 l0_1.length c0_1, .slice A0_2 l0_2.length c0_2] 25 (0, 0)) (sq_bk BK253.out)) : gb253 ≠ gb254)); have n6_ := Aside0.mk ((by rw [hg]; exact Nat.ne_of_gt (blk_lt (g := gb253) (o := .cells #[.int .i64 a0_0, .slice A0_1 l0_1.length c0_1, .slice A0_2 l0_2.length c0_2] 25 (0, 0)) (sq_bk BK253.out)) : gb254 ≠ gb253)); clear BK253; clear HB; have BK253 := n0_; have HB := n1_; have BK254 := n2_; have GW254 := n3_; have GE254 := n4_; have NB253_254 := n5_; have NB254_253 := n6_; clear n0_ n1_ n2_ n3_ n4_ n5_ n6_; clear hb hbox hg; have hnb9 := NB253_254.out; have hnc9 := NB254_253.out; have hcz10_0 : w8.cell? ⟨gb253, 0, none⟩ = some (.int .i64 a0_0) := (blk_cell BK253.out 0).trans rfl; have hcz10_1 : w8.cell? ⟨gb253, 1, none⟩ = some (.slice A0_1 l0_1.length c0_1) := (blk_cell BK253.out 1).trans rfl; have hcz10_2 : w8.cell? ⟨gb253, 2, none⟩ = some (.slice A0_2 l0_2.length c0_2) := (blk_cell BK253.out 2).trans rfl; have hfz10_0 := blk_frozen BK253.out 0; have hfz10_1 := blk_frozen BK253.out 1; have hfz10_2 := blk_frozen BK253.out 2) | (go_at_call 20; (with_reducible refine (petrinetref45_Valid.calls k a0_0 _ _ l0_1 _ _ l0_2 true _ ?side1 ?side2 ?side3 ?side4 A2.out).mono ?_); (case side1 => exact sq_kc ((Kd.C_below HR0_1.out HB.out))); (case side2 => exact HC0_1.out); (case side3 => exact sq_kc ((Kd.C_below HR0_2.out HB.out))); (case side4 => exact HC0_2.out); rintro e w11 ⟨rfl, hb⟩; have n0_ := Aside0.mk (blk_below (g := gb253) (o := .cells #[.int .i64 a0_0, .slice A0_1 l0_1.length c0_1, .slice A0_2 l0_2.length c0_2] 25 (0, 0)) (sq_bk BK253.out) hb); have n1_ := Aside0.mk (blk_below (g := gb254) (o := .cells #[.int .i64 0, .int .i64 0] 30 (0, 0)) (sq_bk BK254.out) hb); have n2_ := Aside0.mk (below_step (sq_bs HB.out) hb); clear BK253; clear BK254; clear HB; have BK253 := n0_; have BK254 := n1_; have HB := n2_; clear n0_ n1_ n2_; (try clear hb); have hcz12_0 : w11.cell? ⟨gb253, 0, none⟩ = some (.int .i64 a0_0) := (blk_cell BK253.out 0).trans rfl; have hcz12_1 : w11.cell? ⟨gb253, 1, none⟩ = some (.slice A0_1 l0_1.length c0_1) := (blk_cell BK253.out 1).trans rfl; have hcz12_2 : w11.cell? ⟨gb253, 2, none⟩ = some (.slice A0_2 l0_2.length c0_2) := (blk_cell BK253.out 2).trans rfl; have hfz12_0 := blk_frozen BK253.out 0; have hfz12_1 := blk_frozen BK253.out 1; have hfz12_2 := blk_frozen BK253.out 2) | (go_at_call 22; (with_reducible refine (petrinetref04_Number.calls k a0_0 t258 _ A4.out).mono ?_); rintro e w' ⟨rfl, ⟨nd, rfl⟩⟩; (try first | exact ⟨rfl, _, World.drewN_drewN _ _ _⟩ | exact ⟨rfl, _, Eq.trans (World.drewN_drewN _ _ _) (congrArg (World.drewN _) (Nat.add_assoc _ _ _))⟩))); try go_wp2_with (first | ((with_reducible refine gate_dst (N := 1) rfl ?_); refine sq_box 1 #[.int .i64 a0_0, .slice A0_1 l0_1.length c0_1, .slice A0_2 l0_2.length c0_2] 25 ?_; intro gb253 hg w7 hbox hb; have n0_ := Aside0.mk (below_step (sq_bl HB.out) hb); have n1_ := Aside0.mk (hbox); have n2_ := Aside0.mk ((by rw [hg]; exact (below_size (sq_bl HB.out)) : w.heap.size ≤ gb253)); have n3_ := Aside0.mk ((by rw [hg]; exact (below_size (sq_bl HB.out)) : w.heap.size ≤ gb253)); clear HB; have HB := n0_; have BK253 := n1_; have GW253 := n2_; have GE253 := n3_; clear n0_ n1_ n2_ n3_; clear hb hbox hg) | ((with_reducible refine gate_dst (N := 3) rfl ?_); refine sq_box 3 #[.int .i64 0, .int .i64 0] 30 ?_; intro gb254 hg w8 hbox hb; have n0_ := Aside0.mk (blk_below (g := gb253) (o := .cells #[.int .i64 a0_0, .slice A0_1 l0_1.length c0_1, .slice A0_2 l0_2.length c0_2] 25 (0, 0)) (sq_bk BK253.out) hb); have n1_ := Aside0.mk (below_step (sq_bs HB.out) hb); have n2_ := Aside0.mk (hbox); have n3_ := Aside0.mk ((by rw [hg]; exact (below_size (sq_bs HB.out)) : w.heap.size ≤ gb254)); have n4_ := Aside0.mk ((by rw [hg]; exact (below_size (sq_bs HB.out)) : w.heap.size ≤ gb254)); have n5_ := Aside0.mk ((by rw [hg]; exact Nat.ne_of_lt (blk_lt (g := gb253) (o := .cells #[.int .i64 a0_0, .slice A0_1 l0_1.length c0_1, .slice A0_2 l0_2.length c0_2] 25 (0, 0)) (sq_bk BK253.out)) : gb253 ≠ gb254)); have n6_ := Aside0.mk ((by rw [hg]; exact Nat.ne_of_gt (blk_lt (g := gb253) (o := .cells #[.int .i64 a0_0, .slice A0_1 l0_1.length c0_1, .slice A0_2 l0_2.length c0_2] 25 (0, 0)) (sq_bk BK253.out)) : gb254 ≠ gb253)); clear BK253; clear HB; have BK253 := n0_; have HB := n1_; have BK254 := n2_; have GW254 := n3_; have GE254 := n4_; have NB253_254 := n5_; have NB254_253 := n6_; clear n0_ n1_ n2_ n3_ n4_ n5_ n6_; clear hb hbox hg; have hnb9 := NB253_254.out; have hnc9 := NB254_253.out; have hcz10_0 : w8.cell? ⟨gb253, 0, none⟩ = some (.int .i64 a0_0) := (blk_cell BK253.out 0).trans rfl; have hcz10_1 : w8.cell? ⟨gb253, 1, none⟩ = some (.slice A0_1 l0_1.length c0_1) := (blk_cell BK253.out 1).trans rfl; have hcz10_2 : w8.cell? ⟨gb253, 2, none⟩ = some (.slice A0_2 l0_2.length c0_2) := (blk_cell BK253.out 2).trans rfl; have hfz10_0 := blk_frozen BK253.out 0; have hfz10_1 := blk_frozen BK253.out 1; have hfz10_2 := blk_frozen BK253.out 2) | (go_at_call 20; (with_reducible refine (petrinetref45_Valid.calls k a0_0 _ _ l0_1 _ _ l0_2 true _ ?side1 ?side2 ?side3 ?side4 A2.out).mono ?_); (case side1 => exact sq_kc ((Kd.C_below HR0_1.out HB.out))); (case side2 => exact HC0_1.out); (case side3 => exact sq_kc ((Kd.C_below HR0_2.out HB.out))); (case side4 => exact HC0_2.out); rintro e w11 ⟨rfl, hb⟩; have n0_ := Aside0.mk (blk_below (g := gb253) (o := .cells #[.int .i64 a0_0, .slice A0_1 l0_1.length c0_1, .slice A0_2 l0_2.length c0_2] 25 (0, 0)) (sq_bk BK253.out) hb); have n1_ := Aside0.mk (blk_below (g := gb254) (o := .cells #[.int .i64 0, .int .i64 0] 30 (0, 0)) (sq_bk BK254.out) hb); have n2_ := Aside0.mk (below_step (sq_bs HB.out) hb); clear BK253; clear BK254; clear HB; have BK253 := n0_; have BK254 := n1_; have HB := n2_; clear n0_ n1_ n2_; (try clear hb); have hcz12_0 : w11.cell? ⟨gb253, 0, none⟩ = some (.int .i64 a0_0) := (blk_cell BK253.out 0).trans rfl; have hcz12_1 : w11.cell? ⟨gb253, 1, none⟩ = some (.slice A0_1 l0_1.length c0_1) := (blk_cell BK253.out 1).trans rfl; have hcz12_2 : w11.cell? ⟨gb253, 2, none⟩ = some (.slice A0_2 l0_2.length c0_2) := (blk_cell BK253.out 2).trans rfl; have hfz12_0 := blk_frozen BK253.out 0; have hfz12_1 := blk_frozen BK253.out 1; have hfz12_2 := blk_frozen BK253.out 2) | (go_at_call 22; (with_reducible refine (petrinetref04_Number.calls k a0_0 t258 _ A4.out).mono ?_); rintro e w' ⟨rfl, ⟨nd, rfl⟩⟩; (try first | exact ⟨rfl, _, World.drewN_drewN _ _ _⟩ | exact ⟨rfl, _, Eq.trans (World.drewN_drewN _ _ _) (congrArg (World.drewN _) (Nat.add_assoc _ _ _))⟩))))
        go_loopg [4, 5] k (fun kq v4 v5 w' => ∃ (x4_1 : ByteArray) (x5_1 : Int), v4 = .string x4_1 ∧ v5 = .int .i64 x5_1 ∧ Aside0 (petrinetref45_Text.l0 kq x4_1 x5_1 a0_0 l0_1 l0_2 = some (r1, r2, r3)) ∧ Aside0 (kq ≤ k) ∧ Aside0 (w'.heap[gb253]? = some (.cells #[.int .i64 a0_0, (.slice A0_1 l0_1.length c0_1), (.slice A0_2 l0_2.length c0_2)] 25 (0, 0))) ∧ Aside0 (w'.heap[gb254]? = some (.cells #[.int .i64 0, .int .i64 0] 30 (0, 0))) ∧ Aside0 (Below w.heap.size w w'))
        case atStart => exact ⟨(((⟨#[115, 116, 97, 116, 101, 115, 32]⟩ : ByteArray) ++ t258) ++ (⟨#[10]⟩ : ByteArray)), (0), (by first | rfl | (simp; done) | (simp [*]; done)), (by first | rfl | (simp; done) | (simp [*]; done)), H', ⟨Nat.le_refl _⟩, ⟨sq_bk BK253.out⟩, ⟨sq_bk BK254.out⟩, ⟨sq_bs HB.out⟩⟩
        case round =>
          clear H'
          try clear c3
          try clear c5
          try clear c5b0
          try clear c5b1
          try clear c5b2
          try clear c6
          try clear c6b0
          try clear c6b1
          try clear c6b2
          try clear hcz10_0
          try clear hcz10_1
          try clear hcz10_2
          try clear hcz12_0
          try clear hcz12_1
          try clear hcz12_2
          try clear hfz10_0
          try clear hfz10_1
          try clear hfz10_2
          try clear hfz12_0
          try clear hfz12_1
          try clear hfz12_2
          obtain ⟨x4_1, x5_1, rfl, rfl, HA, HK1, BK253, BK254, HB⟩ := hrel
          cases gk with
          | zero => exact absurd HA.out (by simp [petrinetref45_Text.l0])
          | succ k1 =>
            have H := HA.out
            clear HA
            simp only [petrinetref45_Text.l0] at H
            by_cases c13 : x5_1 < (l0_1.length : Int)
            · rw [if_pos c13] at H
              have c13b0 : decide (x5_1 < (l0_1.length : Int)) = true := decide_eq_true c13
              clear c13
              by_cases c14 : 0 ≤ x5_1
              · rw [if_pos c14] at H
                have c14b0 : decide (0 ≤ x5_1) = true := decide_eq_true c14
                clear c14
                by_cases c15 : 6 + (rdOf ByteArray.empty l0_1 x5_1).size ≤ 9223372036854775807
                · rw [if_pos c15] at H
                  have c15b0 := eq_true c15
                  have c15b1 : decide (6 + (rdOf ByteArray.empty l0_1 x5_1).size ≤ 9223372036854775807) = true := decide_eq_true c15
                  try have c15b2 : (9223372036854775807 < 6 + (rdOf ByteArray.empty l0_1 x5_1).size) = False := eq_false (Nat.not_lt.2 c15)
                  try (have c15b4 := c15; simp only [ByteArray.size_append, lit_size_, List.length_cons, List.length_nil, Nat.zero_add, Nat.reduceAdd] at c15b4)
                  try (have c15b5 := eq_false (Nat.not_lt.2 c15b4))
                  by_cases c16 : ((⟨#[101, 118, 101, 110, 116, 32]⟩ : ByteArray) ++ (rdOf ByteArray.empty l0_1 x5_1)).size + 1 ≤ 9223372036854775807
                  · rw [if_pos c16] at H
                    have c16b0 := eq_true c16
                    have c16b1 : decide (((⟨#[101, 118, 101, 110, 116, 32]⟩ : ByteArray) ++ (rdOf ByteArray.empty l0_1 x5_1)).size + 1 ≤ 9223372036854775807) = true := decide_eq_true c16
                    try have c16b2 : (9223372036854775807 < ((⟨#[101, 118, 101, 110, 116, 32]⟩ : ByteArray) ++ (rdOf ByteArray.empty l0_1 x5_1)).size + 1) = False := eq_false (Nat.not_lt.2 c16)
                    try (have c16b4 := c16; simp only [ByteArray.size_append, lit_size_, List.length_cons, List.length_nil, Nat.zero_add, Nat.reduceAdd] at c16b4)
                    try (have c16b5 := eq_false (Nat.not_lt.2 c16b4))
                    by_cases c17 : x4_1.size + (((⟨#[101, 118, 101, 110, 116, 32]⟩ : ByteArray) ++ (rdOf ByteArray.empty l0_1 x5_1)) ++ (⟨#[10]⟩ : ByteArray)).size ≤ 9223372036854775807
                    · rw [if_pos c17] at H
                      have c17b0 := eq_true c17
                      have c17b1 : decide (x4_1.size + (((⟨#[101, 118, 101, 110, 116, 32]⟩ : ByteArray) ++ (rdOf ByteArray.empty l0_1 x5_1)) ++ (⟨#[10]⟩ : ByteArray)).size ≤ 9223372036854775807) = true := decide_eq_true c17
                      try have c17b2 : (9223372036854775807 < x4_1.size + (((⟨#[101, 118, 101, 110, 116, 32]⟩ : ByteArray) ++ (rdOf ByteArray.empty l0_1 x5_1)) ++ (⟨#[10]⟩ : ByteArray)).size) = False := eq_false (Nat.not_lt.2 c17)
                      try (have c17b4 := c17; simp only [ByteArray.size_append, lit_size_, List.length_cons, List.length_nil, Nat.zero_add, Nat.reduceAdd] at c17b4)
                      try (have c17b5 := eq_false (Nat.not_lt.2 c17b4))
                      have H' := Aside0.mk H
                      clear H
                      have hnb18 := NB253_254.out
                      have hnc18 := NB254_253.out
                      have hcz19_0 : wr.cell? ⟨gb253, 0, none⟩ = some (.int .i64 a0_0) := (blk_cell BK253.out 0).trans rfl
                      have hcz19_1 : wr.cell? ⟨gb253, 1, none⟩ = some (.slice A0_1 l0_1.length c0_1) := (blk_cell BK253.out 1).trans rfl
                      have hcz19_2 : wr.cell? ⟨gb253, 2, none⟩ = some (.slice A0_2 l0_2.length c0_2) := (blk_cell BK253.out 2).trans rfl
                      have hfz19_0 := blk_frozen BK253.out 0
                      have hfz19_1 := blk_frozen BK253.out 1
                      have hfz19_2 := blk_frozen BK253.out 2
                      have p259 : 0 ≤ (x5_1 : Int) := sq_d
                      have q259 : x5_1 < (l0_1.length : Int) := sq_d
                      have LQ259 := Aside0.mk q259
                      obtain ⟨ad259, e259, hx259_0⟩ := Kd.at_string HR0_1.out x5_1 p259 q259
                      cases e259
                      replace hx259_0 := (HB.out.cell (World.block_lt_of_cell? w _ hx259_0)).trans hx259_0
                      replace p259 := eq_true p259
                      replace q259 := eq_true q259
                      go_wp2
                      repeat (go_quiet (fail); try go_wp2)
                      go_roundg k1
                      case measure => have := HK1.out; omega
                      case rel => exact ⟨(x4_1 ++ (((⟨#[101, 118, 101, 110, 116, 32]⟩ : ByteArray) ++ (rdOf ByteArray.empty l0_1 x5_1)) ++ (⟨#[10]⟩ : ByteArray))), (wrap64 (x5_1 + 1)), (by first | rfl | (simp; done) | (simp [*]; done)), (by first | rfl | (simp; done) | (simp [*]; done)), H', ⟨by have := HK1.out; omega⟩, ⟨sq_bk BK253.out⟩, ⟨sq_bk BK254.out⟩, ⟨sq_bs HB.out⟩⟩
                    · rw [if_neg c17] at H
                      exact absurd H (by simp)
                  · rw [if_neg c16] at H
                    exact absurd H (by simp)
                · rw [if_neg c15] at H
                  exact absurd H (by simp)
              · rw [if_neg c14] at H
                exact absurd H (by simp)
            · rw [if_neg c13] at H
              have c13b0 : decide (x5_1 < (l0_1.length : Int)) = false := decide_eq_false c13
              clear c13
              have H' := Aside0.mk H
              clear H
              have hnb20 := NB253_254.out
              have hnc20 := NB254_253.out
              have hcz21_0 : wr.cell? ⟨gb253, 0, none⟩ = some (.int .i64 a0_0) := (blk_cell BK253.out 0).trans rfl
              have hcz21_1 : wr.cell? ⟨gb253, 1, none⟩ = some (.slice A0_1 l0_1.length c0_1) := (blk_cell BK253.out 1).trans rfl
              have hcz21_2 : wr.cell? ⟨gb253, 2, none⟩ = some (.slice A0_2 l0_2.length c0_2) := (blk_cell BK253.out 2).trans rfl
              have hfz21_0 := blk_frozen BK253.out 0
              have hfz21_1 := blk_frozen BK253.out 1
              have hfz21_2 := blk_frozen BK253.out 2
              go_wp2
              repeat (go_quiet (fail); try go_wp2)
              go_loopg [4, 6] k1 (fun kq v4 v6 w' => ∃ (x4_2 : ByteArray) (x6_2 : Int), v4 = .string x4_2 ∧ v6 = .int .i64 x6_2 ∧ Aside0 (petrinetref45_Text.l1 kq x4_2 x6_2 a0_0 l0_1 l0_2 = some (r1, r2, r3)) ∧ Aside0 (kq ≤ k1) ∧ Aside0 (w'.heap[gb253]? = some (.cells #[.int .i64 a0_0, (.slice A0_1 l0_1.length c0_1), (.slice A0_2 l0_2.length c0_2)] 25 (0, 0))) ∧ Aside0 (w'.heap[gb254]? = some (.cells #[.int .i64 0, .int .i64 0] 30 (0, 0))) ∧ Aside0 (Below w.heap.size w w'))
              case atStart => exact ⟨(x4_1), (0), (by first | rfl | (simp; done) | (simp [*]; done)), (by first | rfl | (simp; done) | (simp [*]; done)), H', ⟨Nat.le_refl _⟩, ⟨sq_bk BK253.out⟩, ⟨sq_bk BK254.out⟩, ⟨sq_bs HB.out⟩⟩
              case round =>
                clear H'
                try clear c13b0
                try clear hcz21_0
                try clear hcz21_1
                try clear hcz21_2
                try clear hfz21_0
                try clear hfz21_1
                try clear hfz21_2
                obtain ⟨x4_2, x6_2, rfl, rfl, HA, HK2, BK253, BK254, HB⟩ := hrel
                cases gk with
                | zero => exact absurd HA.out (by simp [petrinetref45_Text.l1])
                | succ k2 =>
                  have H := HA.out
                  clear HA
                  simp only [petrinetref45_Text.l1] at H
                  by_cases c22 : x6_2 < (l0_2.length : Int)
                  · rw [if_pos c22] at H
                    have c22b0 : decide (x6_2 < (l0_2.length : Int)) = true := decide_eq_true c22
                    clear c22
                    by_cases c23 : 0 ≤ x6_2
                    · rw [if_pos c23] at H
                      have c23b0 : decide (0 ≤ x6_2) = true := decide_eq_true c23
                      clear c23
                      replace H := Option.bind_eq_some_iff.mp H
                      obtain ⟨t262, A240, H⟩ := H
                      replace H : (if t262.size + 1 ≤ 9223372036854775807 then (if 0 ≤ ((rd_T46 l0_2 x6_2).f1) then (if ((rd_T46 l0_2 x6_2).f1) < (l0_1.length : Int) then (if (t262 ++ (⟨#[32]⟩ : ByteArray)).size + (rdOf ByteArray.empty l0_1 ((rd_T46 l0_2 x6_2).f1)).size ≤ 9223372036854775807 then (if ((t262 ++ (⟨#[32]⟩ : ByteArray)) ++ (rdOf ByteArray.empty l0_1 ((rd_T46 l0_2 x6_2).f1))).size + 1 ≤ 9223372036854775807 then ((petrinetref04_Number.f k2 ((rd_T46 l0_2 x6_2).f2)).bind fun t264 => (if (((t262 ++ (⟨#[32]⟩ : ByteArray)) ++ (rdOf ByteArray.empty l0_1 ((rd_T46 l0_2 x6_2).f1))) ++ (⟨#[32]⟩ : ByteArray)).size + t264.size ≤ 9223372036854775807 then (if ((((t262 ++ (⟨#[32]⟩ : ByteArray)) ++ (rdOf ByteArray.empty l0_1 ((rd_T46 l0_2 x6_2).f1))) ++ (⟨#[32]⟩ : ByteArray)) ++ t264).size + 1 ≤ 9223372036854775807 then (if x4_2.size + (((((t262 ++ (⟨#[32]⟩ : ByteArray)) ++ (rdOf ByteArray.empty l0_1 ((rd_T46 l0_2 x6_2).f1))) ++ (⟨#[32]⟩ : ByteArray)) ++ t264) ++ (⟨#[10]⟩ : ByteArray)).size ≤ 9223372036854775807 then (petrinetref45_Text.l1 k2 (x4_2 ++ (((((t262 ++ (⟨#[32]⟩ : ByteArray)) ++ (rdOf ByteArray.empty l0_1 ((rd_T46 l0_2 x6_2).f1))) ++ (⟨#[32]⟩ : ByteArray)) ++ t264) ++ (⟨#[10]⟩ : ByteArray))) (wrap64 (x6_2 + 1)) a0_0 l0_1 l0_2) else (none)) else (none)) else (none))) else (none)) else (none)) else (none)) else (none)) else (none)) = some (r1, r2, r3) := H
                      have A24 := Aside0.mk A240
                      clear A240
                      by_cases c25 : t262.size + 1 ≤ 9223372036854775807
                      · rw [if_pos c25] at H
                        have c25b0 := eq_true c25
                        have c25b1 : decide (t262.size + 1 ≤ 9223372036854775807) = true := decide_eq_true c25
                        try have c25b2 : (9223372036854775807 < t262.size + 1) = False := eq_false (Nat.not_lt.2 c25)
                        try (have c25b4 := c25; simp only [ByteArray.size_append, lit_size_, List.length_cons, List.length_nil, Nat.zero_add, Nat.reduceAdd] at c25b4)
                        try (have c25b5 := eq_false (Nat.not_lt.2 c25b4))
                        by_cases c26 : 0 ≤ ((rd_T46 l0_2 x6_2).f1)
                        · rw [if_pos c26] at H
                          have c26b0 : decide (0 ≤ ((rd_T46 l0_2 x6_2).f1)) = true := decide_eq_true c26
                          clear c26
                          by_cases c27 : ((rd_T46 l0_2 x6_2).f1) < (l0_1.length : Int)
                          · rw [if_pos c27] at H
                            have c27b0 : decide (((rd_T46 l0_2 x6_2).f1) < (l0_1.length : Int)) = true := decide_eq_true c27
                            clear c27
                            by_cases c28 : (t262 ++ (⟨#[32]⟩ : ByteArray)).size + (rdOf ByteArray.empty l0_1 ((rd_T46 l0_2 x6_2).f1)).size ≤ 9223372036854775807
                            · rw [if_pos c28] at H
                              have c28b0 := eq_true c28
                              have c28b1 : decide ((t262 ++ (⟨#[32]⟩ : ByteArray)).size + (rdOf ByteArray.empty l0_1 ((rd_T46 l0_2 x6_2).f1)).size ≤ 9223372036854775807) = true := decide_eq_true c28
                              try have c28b2 : (9223372036854775807 < (t262 ++ (⟨#[32]⟩ : ByteArray)).size + (rdOf ByteArray.empty l0_1 ((rd_T46 l0_2 x6_2).f1)).size) = False := eq_false (Nat.not_lt.2 c28)
                              try (have c28b4 := c28; simp only [ByteArray.size_append, lit_size_, List.length_cons, List.length_nil, Nat.zero_add, Nat.reduceAdd] at c28b4)
                              try (have c28b5 := eq_false (Nat.not_lt.2 c28b4))
                              by_cases c29 : ((t262 ++ (⟨#[32]⟩ : ByteArray)) ++ (rdOf ByteArray.empty l0_1 ((rd_T46 l0_2 x6_2).f1))).size + 1 ≤ 9223372036854775807
                              · rw [if_pos c29] at H
                                have c29b0 := eq_true c29
                                have c29b1 : decide (((t262 ++ (⟨#[32]⟩ : ByteArray)) ++ (rdOf ByteArray.empty l0_1 ((rd_T46 l0_2 x6_2).f1))).size + 1 ≤ 9223372036854775807) = true := decide_eq_true c29
                                try have c29b2 : (9223372036854775807 < ((t262 ++ (⟨#[32]⟩ : ByteArray)) ++ (rdOf ByteArray.empty l0_1 ((rd_T46 l0_2 x6_2).f1))).size + 1) = False := eq_false (Nat.not_lt.2 c29)
                                try (have c29b4 := c29; simp only [ByteArray.size_append, lit_size_, List.length_cons, List.length_nil, Nat.zero_add, Nat.reduceAdd] at c29b4)
                                try (have c29b5 := eq_false (Nat.not_lt.2 c29b4))
                                replace H := Option.bind_eq_some_iff.mp H
                                obtain ⟨t264, A300, H⟩ := H
                                replace H : (if (((t262 ++ (⟨#[32]⟩ : ByteArray)) ++ (rdOf ByteArray.empty l0_1 ((rd_T46 l0_2 x6_2).f1))) ++ (⟨#[32]⟩ : ByteArray)).size + t264.size ≤ 9223372036854775807 then (if ((((t262 ++ (⟨#[32]⟩ : ByteArray)) ++ (rdOf ByteArray.empty l0_1 ((rd_T46 l0_2 x6_2).f1))) ++ (⟨#[32]⟩ : ByteArray)) ++ t264).size + 1 ≤ 9223372036854775807 then (if x4_2.size + (((((t262 ++ (⟨#[32]⟩ : ByteArray)) ++ (rdOf ByteArray.empty l0_1 ((rd_T46 l0_2 x6_2).f1))) ++ (⟨#[32]⟩ : ByteArray)) ++ t264) ++ (⟨#[10]⟩ : ByteArray)).size ≤ 9223372036854775807 then (petrinetref45_Text.l1 k2 (x4_2 ++ (((((t262 ++ (⟨#[32]⟩ : ByteArray)) ++ (rdOf ByteArray.empty l0_1 ((rd_T46 l0_2 x6_2).f1))) ++ (⟨#[32]⟩ : ByteArray)) ++ t264) ++ (⟨#[10]⟩ : ByteArray))) (wrap64 (x6_2 + 1)) a0_0 l0_1 l0_2) else (none)) else (none)) else (none)) = some (r1, r2, r3) := H
                                have A30 := Aside0.mk A300
                                clear A300
                                by_cases c31 : (((t262 ++ (⟨#[32]⟩ : ByteArray)) ++ (rdOf ByteArray.empty l0_1 ((rd_T46 l0_2 x6_2).f1))) ++ (⟨#[32]⟩ : ByteArray)).size + t264.size ≤ 9223372036854775807
                                · rw [if_pos c31] at H
                                  have c31b0 := eq_true c31
                                  have c31b1 : decide ((((t262 ++ (⟨#[32]⟩ : ByteArray)) ++ (rdOf ByteArray.empty l0_1 ((rd_T46 l0_2 x6_2).f1))) ++ (⟨#[32]⟩ : ByteArray)).size + t264.size ≤ 9223372036854775807) = true := decide_eq_true c31
                                  try have c31b2 : (9223372036854775807 < (((t262 ++ (⟨#[32]⟩ : ByteArray)) ++ (rdOf ByteArray.empty l0_1 ((rd_T46 l0_2 x6_2).f1))) ++ (⟨#[32]⟩ : ByteArray)).size + t264.size) = False := eq_false (Nat.not_lt.2 c31)
                                  try (have c31b4 := c31; simp only [ByteArray.size_append, lit_size_, List.length_cons, List.length_nil, Nat.zero_add, Nat.reduceAdd] at c31b4)
                                  try (have c31b5 := eq_false (Nat.not_lt.2 c31b4))
                                  by_cases c32 : ((((t262 ++ (⟨#[32]⟩ : ByteArray)) ++ (rdOf ByteArray.empty l0_1 ((rd_T46 l0_2 x6_2).f1))) ++ (⟨#[32]⟩ : ByteArray)) ++ t264).size + 1 ≤ 9223372036854775807
                                  · rw [if_pos c32] at H
                                    have c32b0 := eq_true c32
                                    have c32b1 : decide (((((t262 ++ (⟨#[32]⟩ : ByteArray)) ++ (rdOf ByteArray.empty l0_1 ((rd_T46 l0_2 x6_2).f1))) ++ (⟨#[32]⟩ : ByteArray)) ++ t264).size + 1 ≤ 9223372036854775807) = true := decide_eq_true c32
                                    try have c32b2 : (9223372036854775807 < ((((t262 ++ (⟨#[32]⟩ : ByteArray)) ++ (rdOf ByteArray.empty l0_1 ((rd_T46 l0_2 x6_2).f1))) ++ (⟨#[32]⟩ : ByteArray)) ++ t264).size + 1) = False := eq_false (Nat.not_lt.2 c32)
                                    try (have c32b4 := c32; simp only [ByteArray.size_append, lit_size_, List.length_cons, List.length_nil, Nat.zero_add, Nat.reduceAdd] at c32b4)
                                    try (have c32b5 := eq_false (Nat.not_lt.2 c32b4))
                                    by_cases c33 : x4_2.size + (((((t262 ++ (⟨#[32]⟩ : ByteArray)) ++ (rdOf ByteArray.empty l0_1 ((rd_T46 l0_2 x6_2).f1))) ++ (⟨#[32]⟩ : ByteArray)) ++ t264) ++ (⟨#[10]⟩ : ByteArray)).size ≤ 9223372036854775807
                                    · rw [if_pos c33] at H
                                      have c33b0 := eq_true c33
                                      have c33b1 : decide (x4_2.size + (((((t262 ++ (⟨#[32]⟩ : ByteArray)) ++ (rdOf ByteArray.empty l0_1 ((rd_T46 l0_2 x6_2).f1))) ++ (⟨#[32]⟩ : ByteArray)) ++ t264) ++ (⟨#[10]⟩ : ByteArray)).size ≤ 9223372036854775807) = true := decide_eq_true c33
                                      try have c33b2 : (9223372036854775807 < x4_2.size + (((((t262 ++ (⟨#[32]⟩ : ByteArray)) ++ (rdOf ByteArray.empty l0_1 ((rd_T46 l0_2 x6_2).f1))) ++ (⟨#[32]⟩ : ByteArray)) ++ t264) ++ (⟨#[10]⟩ : ByteArray)).size) = False := eq_false (Nat.not_lt.2 c33)
                                      try (have c33b4 := c33; simp only [ByteArray.size_append, lit_size_, List.length_cons, List.length_nil, Nat.zero_add, Nat.reduceAdd] at c33b4)
                                      try (have c33b5 := eq_false (Nat.not_lt.2 c33b4))
                                      have H' := Aside0.mk H
                                      clear H
                                      have hnb34 := NB253_254.out
                                      have hnc34 := NB254_253.out
                                      have hcz35_0 : wr.cell? ⟨gb253, 0, none⟩ = some (.int .i64 a0_0) := (blk_cell BK253.out 0).trans rfl
                                      have hcz35_1 : wr.cell? ⟨gb253, 1, none⟩ = some (.slice A0_1 l0_1.length c0_1) := (blk_cell BK253.out 1).trans rfl
                                      have hcz35_2 : wr.cell? ⟨gb253, 2, none⟩ = some (.slice A0_2 l0_2.length c0_2) := (blk_cell BK253.out 2).trans rfl
                                      have hfz35_0 := blk_frozen BK253.out 0
                                      have hfz35_1 := blk_frozen BK253.out 1
                                      have hfz35_2 := blk_frozen BK253.out 2
                                      have p260 : 0 ≤ (x6_2 : Int) := sq_d
                                      have q260 : x6_2 < (l0_2.length : Int) := sq_d
                                      have LQ260 := Aside0.mk q260
                                      obtain ⟨ad260, e260, hx260_0, hx260_1, hx260_2⟩ := at_T46 HR0_2.out x6_2 p260 q260
                                      cases e260
                                      replace hx260_0 := (HB.out.cell (World.block_lt_of_cell? w _ hx260_0)).trans hx260_0
                                      replace hx260_1 := (HB.out.cell (World.block_lt_of_cell? w _ hx260_1)).trans hx260_1
                                      replace hx260_2 := (HB.out.cell (World.block_lt_of_cell? w _ hx260_2)).trans hx260_2
                                      replace p260 := eq_true p260
                                      replace q260 := eq_true q260
                                      go_wp2_with (first | ((with_reducible refine gate_dst (N := 7) rfl ?_); refine sq_box 7 #[.int .i64 0, .int .i64 0, .int .i64 0] 46 ?_; intro gb261 hg w36 hbox hb; have n0_ := Aside0.mk (blk_below (g := gb253) (o := .cells #[.int .i64 a0_0, .slice A0_1 l0_1.length c0_1, .slice (some ad260) l0_2.length c0_2] 25 (0, 0)) (sq_bk BK253.out) hb); have n1_ := Aside0.mk (blk_below (g := gb254) (o := .cells #[.int .i64 0, .int .i64 0] 30 (0, 0)) (sq_bk BK254.out) hb); have n2_ := Aside0.mk (below_step (sq_bs HB.out) hb); have n3_ := Aside0.mk (hbox); have n4_ := Aside0.mk ((by rw [hg]; exact (below_size (sq_bs HB.out)) : w.heap.size ≤ gb261)); have n5_ := Aside0.mk ((by rw [hg]; exact (below_size (sq_bs HB.out)) : w.heap.size ≤ gb261)); have n6_ := Aside0.mk ((by rw [hg]; exact Nat.ne_of_lt (blk_lt (g := gb253) (o := .cells #[.int .i64 a0_0, .slice A0_1 l0_1.length c0_1, .slice (some ad260) l0_2.length c0_2] 25 (0, 0)) (sq_bk BK253.out)) : gb253 ≠ gb261)); have n7_ := Aside0.mk ((by rw [hg]; exact Nat.ne_of_gt (blk_lt (g := gb253) (o := .cells #[.int .i64 a0_0, .slice A0_1 l0_1.length c0_1, .slice (some ad260) l0_2.length c0_2] 25 (0, 0)) (sq_bk BK253.out)) : gb261 ≠ gb253)); have n8_ := Aside0.mk ((by rw [hg]; exact Nat.ne_of_lt (blk_lt (g := gb254) (o := .cells #[.int .i64 0, .int .i64 0] 30 (0, 0)) (sq_bk BK254.out)) : gb254 ≠ gb261)); have n9_ := Aside0.mk ((by rw [hg]; exact Nat.ne_of_gt (blk_lt (g := gb254) (o := .cells #[.int .i64 0, .int .i64 0] 30 (0, 0)) (sq_bk BK254.out)) : gb261 ≠ gb254)); clear BK253; clear BK254; clear HB; have BK253 := n0_; have BK254 := n1_; have HB := n2_; have BK261 := n3_; have GW261 := n4_; have GE261 := n5_; have NB253_261 := n6_; have NB261_253 := n7_; have NB254_261 := n8_; have NB261_254 := n9_; clear n0_ n1_ n2_ n3_ n4_ n5_ n6_ n7_ n8_ n9_; clear hb hbox hg; have hnb37 := NB261_253.out; have hnc37 := NB253_261.out; have hnb38 := NB261_254.out; have hnc38 := NB254_261.out; have hcz39_0 : w36.cell? ⟨gb261, 0, none⟩ = some (.int .i64 0) := (blk_cell BK261.out 0).trans rfl; have hcz39_1 : w36.cell? ⟨gb261, 1, none⟩ = some (.int .i64 0) := (blk_cell BK261.out 1).trans rfl; have hcz39_2 : w36.cell? ⟨gb261, 2, none⟩ = some (.int .i64 0) := (blk_cell BK261.out 2).trans rfl; have hfz39_0 := blk_frozen BK261.out 0; have hfz39_1 := blk_frozen BK261.out 1; have hfz39_2 := blk_frozen BK261.out 2) | (go_at_call 22; (with_reducible refine (petrinetref04_Number.calls k2 ((rd_T46 l0_2 x6_2).f0) t262 _ A24.out).mono ?_); rintro e w' ⟨rfl, ⟨nd, rfl⟩⟩; (try first | exact ⟨rfl, _, World.drewN_drewN _ _ _⟩ | exact ⟨rfl, _, Eq.trans (World.drewN_drewN _ _ _) (congrArg (World.drewN _) (Nat.add_assoc _ _ _))⟩); have hcz40_0 : w36.cell? ⟨gb253, 0, none⟩ = some (.int .i64 a0_0) := (blk_cell BK253.out 0).trans rfl; have hcz40_1 : w36.cell? ⟨gb253, 1, none⟩ = some (.slice A0_1 l0_1.length c0_1) := (blk_cell BK253.out 1).trans rfl; have hcz40_2 : w36.cell? ⟨gb253, 2, none⟩ = some (.slice (some ad260) l0_2.length c0_2) := (blk_cell BK253.out 2).trans rfl; have hfz40_0 := blk_frozen BK253.out 0; have hfz40_1 := blk_frozen BK253.out 1; have hfz40_2 := blk_frozen BK253.out 2; have p263 : 0 ≤ (((rd_T46 l0_2 x6_2).f1) : Int) := sq_d; have q263 : ((rd_T46 l0_2 x6_2).f1) < (l0_1.length : Int) := sq_d; obtain ⟨ad263, e263, hx263_0⟩ := Kd.at_string HR0_1.out ((rd_T46 l0_2 x6_2).f1) p263 q263; cases e263; have hn263_0 : ad263.block ≠ gb261 := Nat.ne_of_lt (Nat.lt_of_lt_of_le (by have := World.block_lt_of_cell? _ _ hx263_0; first | rwa [add_block] at this | exact this) GW261.out); have hn263_1 : ad263.block ≠ gb261 := Nat.ne_of_lt (Nat.lt_of_lt_of_le (by have := World.block_lt_of_cell? _ _ hx263_0; first | rwa [add_block] at this | exact this) GW261.out); have hn263_2 : ad263.block ≠ gb261 := Nat.ne_of_lt (Nat.lt_of_lt_of_le (by have := World.block_lt_of_cell? _ _ hx263_0; first | rwa [add_block] at this | exact this) GW261.out); replace hx263_0 := (HB.out.cell (World.block_lt_of_cell? w _ hx263_0)).trans hx263_0; replace hx263_0 := (cell_far (p := ⟨gb261, 0, none⟩) (by first | (rw [add_block]; exact hn263_0) | (show (Addr.add _ _).block ≠ _; rw [add_block]; exact hn263_0) | exact hn263_0) (.int .i64 ((rd_T46 l0_2 x6_2).f0))).trans hx263_0; replace hx263_0 := (cell_far (p := ⟨gb261, 1, none⟩) (by first | (rw [add_block]; exact hn263_1) | (show (Addr.add _ _).block ≠ _; rw [add_block]; exact hn263_1) | exact hn263_1) (.int .i64 ((rd_T46 l0_2 x6_2).f1))).trans hx263_0; replace hx263_0 := (cell_far (p := ⟨gb261, 2, none⟩) (by first | (rw [add_block]; exact hn263_2) | (show (Addr.add _ _).block ≠ _; rw [add_block]; exact hn263_2) | exact hn263_2) (.int .i64 ((rd_T46 l0_2 x6_2).f2))).trans hx263_0; (try have hy263_0 := fun (n_ : Nat) => (show (((((w36.drewN n_).setCell ⟨gb261, 0, none⟩ (.int .i64 ((rd_T46 l0_2 x6_2).f0))).setCell ⟨gb261, 1, none⟩ (.int .i64 ((rd_T46 l0_2 x6_2).f1))).setCell ⟨gb261, 2, none⟩ (.int .i64 ((rd_T46 l0_2 x6_2).f2)))).cell? _ = some _ from hx263_0)); clear hn263_0; clear hn263_1; clear hn263_2; replace p263 := eq_true p263; replace q263 := eq_true q263) | (go_at_call 22; (with_reducible refine (petrinetref04_Number.calls k2 ((rd_T46 l0_2 x6_2).f2) t264 _ A30.out).mono ?_); rintro e w' ⟨rfl, ⟨nd, rfl⟩⟩; (try first | exact ⟨rfl, _, World.drewN_drewN _ _ _⟩ | exact ⟨rfl, _, Eq.trans (World.drewN_drewN _ _ _) (congrArg (World.drewN _) (Nat.add_assoc _ _ _))⟩)))
                                      repeat (go_quiet (first | ((with_reducible refine gate_dst (N := 7) rfl ?_); refine sq_box 7 #[.int .i64 0, .int .i64 0, .int .i64 0] 46 ?_; intro gb261 hg w36 hbox hb; have n0_ := Aside0.mk (blk_below (g := gb253) (o := .cells #[.int .i64 a0_0, .slice A0_1 l0_1.length c0_1, .slice (some ad260) l0_2.length c0_2] 25 (0, 0)) (sq_bk BK253.out) hb); have n1_ := Aside0.mk (blk_below (g := gb254) (o := .cells #[.int .i64 0, .int .i64 0] 30 (0, 0)) (sq_bk BK254.out) hb); have n2_ := Aside0.mk (below_step (sq_bs HB.out) hb); have n3_ := Aside0.mk (hbox); have n4_ := Aside0.mk ((by rw [hg]; exact (below_size (sq_bs HB.out)) : w.heap.size ≤ gb261)); have n5_ := Aside0.mk ((by rw [hg]; exact (below_size (sq_bs HB.out)) : w.heap.size ≤ gb261)); have n6_ := Aside0.mk ((by rw [hg]; exact Nat.ne_of_lt (blk_lt (g := gb253) (o := .cells #[.int .i64 a0_0, .slice A0_1 l0_1.length c0_1, .slice (some ad260) l0_2.length c0_2] 25 (0, 0)) (sq_bk BK253.out)) : gb253 ≠ gb261)); have n7_ := Aside0.mk ((by rw [hg]; exact Nat.ne_of_gt (blk_lt (g := gb253) (o := .cells #[.int .i64 a0_0, .slice A0_1 l0_1.length c0_1, .slice (some ad260) l0_2.length c0_2] 25 (0, 0)) (sq_bk BK253.out)) : gb261 ≠ gb253)); have n8_ := Aside0.mk ((by rw [hg]; exact Nat.ne_of_lt (blk_lt (g := gb254) (o := .cells #[.int .i64 0, .int .i64 0] 30 (0, 0)) (sq_bk BK254.out)) : gb254 ≠ gb261)); have n9_ := Aside0.mk ((by rw [hg]; exact Nat.ne_of_gt (blk_lt (g := gb254) (o := .cells #[.int .i64 0, .int .i64 0] 30 (0, 0)) (sq_bk BK254.out)) : gb261 ≠ gb254)); clear BK253; clear BK254; clear HB; have BK253 := n0_; have BK254 := n1_; have HB := n2_; have BK261 := n3_; have GW261 := n4_; have GE261 := n5_; have NB253_261 := n6_; have NB261_253 := n7_; have NB254_261 := n8_; have NB261_254 := n9_; clear n0_ n1_ n2_ n3_ n4_ n5_ n6_ n7_ n8_ n9_; clear hb hbox hg; have hnb37 := NB261_253.out; have hnc37 := NB253_261.out; have hnb38 := NB261_254.out; have hnc38 := NB254_261.out; have hcz39_0 : w36.cell? ⟨gb261, 0, none⟩ = some (.int .i64 0) := (blk_cell BK261.out 0).trans rfl; have hcz39_1 : w36.cell? ⟨gb261, 1, none⟩ = some (.int .i64 0) := (blk_cell BK261.out 1).trans rfl; have hcz39_2 : w36.cell? ⟨gb261, 2, none⟩ = some (.int .i64 0) := (blk_cell BK261.out 2).trans rfl; have hfz39_0 := blk_frozen BK261.out 0; have hfz39_1 := blk_frozen BK261.out 1; have hfz39_2 := blk_frozen BK261.out 2) | (go_at_call 22; (with_reducible refine (petrinetref04_Number.calls k2 ((rd_T46 l0_2 x6_2).f0) t262 _ A24.out).mono ?_); rintro e w' ⟨rfl, ⟨nd, rfl⟩⟩; (try first | exact ⟨rfl, _, World.drewN_drewN _ _ _⟩ | exact ⟨rfl, _, Eq.trans (World.drewN_drewN _ _ _) (congrArg (World.drewN _) (Nat.add_assoc _ _ _))⟩); have hcz40_0 : w36.cell? ⟨gb253, 0, none⟩ = some (.int .i64 a0_0) := (blk_cell BK253.out 0).trans rfl; have hcz40_1 : w36.cell? ⟨gb253, 1, none⟩ = some (.slice A0_1 l0_1.length c0_1) := (blk_cell BK253.out 1).trans rfl; have hcz40_2 : w36.cell? ⟨gb253, 2, none⟩ = some (.slice (some ad260) l0_2.length c0_2) := (blk_cell BK253.out 2).trans rfl; have hfz40_0 := blk_frozen BK253.out 0; have hfz40_1 := blk_frozen BK253.out 1; have hfz40_2 := blk_frozen BK253.out 2; have p263 : 0 ≤ (((rd_T46 l0_2 x6_2).f1) : Int) := sq_d; have q263 : ((rd_T46 l0_2 x6_2).f1) < (l0_1.length : Int) := sq_d; obtain ⟨ad263, e263, hx263_0⟩ := Kd.at_string HR0_1.out ((rd_T46 l0_2 x6_2).f1) p263 q263; cases e263; have hn263_0 : ad263.block ≠ gb261 := Nat.ne_of_lt (Nat.lt_of_lt_of_le (by have := World.block_lt_of_cell? _ _ hx263_0; first | rwa [add_block] at this | exact this) GW261.out); have hn263_1 : ad263.block ≠ gb261 := Nat.ne_of_lt (Nat.lt_of_lt_of_le (by have := World.block_lt_of_cell? _ _ hx263_0; first | rwa [add_block] at this | exact this) GW261.out); have hn263_2 : ad263.block ≠ gb261 := Nat.ne_of_lt (Nat.lt_of_lt_of_le (by have := World.block_lt_of_cell? _ _ hx263_0; first | rwa [add_block] at this | exact this) GW261.out); replace hx263_0 := (HB.out.cell (World.block_lt_of_cell? w _ hx263_0)).trans hx263_0; replace hx263_0 := (cell_far (p := ⟨gb261, 0, none⟩) (by first | (rw [add_block]; exact hn263_0) | (show (Addr.add _ _).block ≠ _; rw [add_block]; exact hn263_0) | exact hn263_0) (.int .i64 ((rd_T46 l0_2 x6_2).f0))).trans hx263_0; replace hx263_0 := (cell_far (p := ⟨gb261, 1, none⟩) (by first | (rw [add_block]; exact hn263_1) | (show (Addr.add _ _).block ≠ _; rw [add_block]; exact hn263_1) | exact hn263_1) (.int .i64 ((rd_T46 l0_2 x6_2).f1))).trans hx263_0; replace hx263_0 := (cell_far (p := ⟨gb261, 2, none⟩) (by first | (rw [add_block]; exact hn263_2) | (show (Addr.add _ _).block ≠ _; rw [add_block]; exact hn263_2) | exact hn263_2) (.int .i64 ((rd_T46 l0_2 x6_2).f2))).trans hx263_0; (try have hy263_0 := fun (n_ : Nat) => (show (((((w36.drewN n_).setCell ⟨gb261, 0, none⟩ (.int .i64 ((rd_T46 l0_2 x6_2).f0))).setCell ⟨gb261, 1, none⟩ (.int .i64 ((rd_T46 l0_2 x6_2).f1))).setCell ⟨gb261, 2, none⟩ (.int .i64 ((rd_T46 l0_2 x6_2).f2)))).cell? _ = some _ from hx263_0)); clear hn263_0; clear hn263_1; clear hn263_2; replace p263 := eq_true p263; replace q263 := eq_true q263) | (go_at_call 22; (with_reducible refine (petrinetref04_Number.calls k2 ((rd_T46 l0_2 x6_2).f2) t264 _ A30.out).mono ?_); rintro e w' ⟨rfl, ⟨nd, rfl⟩⟩; (try first | exact ⟨rfl, _, World.drewN_drewN _ _ _⟩ | exact ⟨rfl, _, Eq.trans (World.drewN_drewN _ _ _) (congrArg (World.drewN _) (Nat.add_assoc _ _ _))⟩))); try go_wp2_with (first | ((with_reducible refine gate_dst (N := 7) rfl ?_); refine sq_box 7 #[.int .i64 0, .int .i64 0, .int .i64 0] 46 ?_; intro gb261 hg w36 hbox hb; have n0_ := Aside0.mk (blk_below (g := gb253) (o := .cells #[.int .i64 a0_0, .slice A0_1 l0_1.length c0_1, .slice (some ad260) l0_2.length c0_2] 25 (0, 0)) (sq_bk BK253.out) hb); have n1_ := Aside0.mk (blk_below (g := gb254) (o := .cells #[.int .i64 0, .int .i64 0] 30 (0, 0)) (sq_bk BK254.out) hb); have n2_ := Aside0.mk (below_step (sq_bs HB.out) hb); have n3_ := Aside0.mk (hbox); have n4_ := Aside0.mk ((by rw [hg]; exact (below_size (sq_bs HB.out)) : w.heap.size ≤ gb261)); have n5_ := Aside0.mk ((by rw [hg]; exact (below_size (sq_bs HB.out)) : w.heap.size ≤ gb261)); have n6_ := Aside0.mk ((by rw [hg]; exact Nat.ne_of_lt (blk_lt (g := gb253) (o := .cells #[.int .i64 a0_0, .slice A0_1 l0_1.length c0_1, .slice (some ad260) l0_2.length c0_2] 25 (0, 0)) (sq_bk BK253.out)) : gb253 ≠ gb261)); have n7_ := Aside0.mk ((by rw [hg]; exact Nat.ne_of_gt (blk_lt (g := gb253) (o := .cells #[.int .i64 a0_0, .slice A0_1 l0_1.length c0_1, .slice (some ad260) l0_2.length c0_2] 25 (0, 0)) (sq_bk BK253.out)) : gb261 ≠ gb253)); have n8_ := Aside0.mk ((by rw [hg]; exact Nat.ne_of_lt (blk_lt (g := gb254) (o := .cells #[.int .i64 0, .int .i64 0] 30 (0, 0)) (sq_bk BK254.out)) : gb254 ≠ gb261)); have n9_ := Aside0.mk ((by rw [hg]; exact Nat.ne_of_gt (blk_lt (g := gb254) (o := .cells #[.int .i64 0, .int .i64 0] 30 (0, 0)) (sq_bk BK254.out)) : gb261 ≠ gb254)); clear BK253; clear BK254; clear HB; have BK253 := n0_; have BK254 := n1_; have HB := n2_; have BK261 := n3_; have GW261 := n4_; have GE261 := n5_; have NB253_261 := n6_; have NB261_253 := n7_; have NB254_261 := n8_; have NB261_254 := n9_; clear n0_ n1_ n2_ n3_ n4_ n5_ n6_ n7_ n8_ n9_; clear hb hbox hg; have hnb37 := NB261_253.out; have hnc37 := NB253_261.out; have hnb38 := NB261_254.out; have hnc38 := NB254_261.out; have hcz39_0 : w36.cell? ⟨gb261, 0, none⟩ = some (.int .i64 0) := (blk_cell BK261.out 0).trans rfl; have hcz39_1 : w36.cell? ⟨gb261, 1, none⟩ = some (.int .i64 0) := (blk_cell BK261.out 1).trans rfl; have hcz39_2 : w36.cell? ⟨gb261, 2, none⟩ = some (.int .i64 0) := (blk_cell BK261.out 2).trans rfl; have hfz39_0 := blk_frozen BK261.out 0; have hfz39_1 := blk_frozen BK261.out 1; have hfz39_2 := blk_frozen BK261.out 2) | (go_at_call 22; (with_reducible refine (petrinetref04_Number.calls k2 ((rd_T46 l0_2 x6_2).f0) t262 _ A24.out).mono ?_); rintro e w' ⟨rfl, ⟨nd, rfl⟩⟩; (try first | exact ⟨rfl, _, World.drewN_drewN _ _ _⟩ | exact ⟨rfl, _, Eq.trans (World.drewN_drewN _ _ _) (congrArg (World.drewN _) (Nat.add_assoc _ _ _))⟩); have hcz40_0 : w36.cell? ⟨gb253, 0, none⟩ = some (.int .i64 a0_0) := (blk_cell BK253.out 0).trans rfl; have hcz40_1 : w36.cell? ⟨gb253, 1, none⟩ = some (.slice A0_1 l0_1.length c0_1) := (blk_cell BK253.out 1).trans rfl; have hcz40_2 : w36.cell? ⟨gb253, 2, none⟩ = some (.slice (some ad260) l0_2.length c0_2) := (blk_cell BK253.out 2).trans rfl; have hfz40_0 := blk_frozen BK253.out 0; have hfz40_1 := blk_frozen BK253.out 1; have hfz40_2 := blk_frozen BK253.out 2; have p263 : 0 ≤ (((rd_T46 l0_2 x6_2).f1) : Int) := sq_d; have q263 : ((rd_T46 l0_2 x6_2).f1) < (l0_1.length : Int) := sq_d; obtain ⟨ad263, e263, hx263_0⟩ := Kd.at_string HR0_1.out ((rd_T46 l0_2 x6_2).f1) p263 q263; cases e263; have hn263_0 : ad263.block ≠ gb261 := Nat.ne_of_lt (Nat.lt_of_lt_of_le (by have := World.block_lt_of_cell? _ _ hx263_0; first | rwa [add_block] at this | exact this) GW261.out); have hn263_1 : ad263.block ≠ gb261 := Nat.ne_of_lt (Nat.lt_of_lt_of_le (by have := World.block_lt_of_cell? _ _ hx263_0; first | rwa [add_block] at this | exact this) GW261.out); have hn263_2 : ad263.block ≠ gb261 := Nat.ne_of_lt (Nat.lt_of_lt_of_le (by have := World.block_lt_of_cell? _ _ hx263_0; first | rwa [add_block] at this | exact this) GW261.out); replace hx263_0 := (HB.out.cell (World.block_lt_of_cell? w _ hx263_0)).trans hx263_0; replace hx263_0 := (cell_far (p := ⟨gb261, 0, none⟩) (by first | (rw [add_block]; exact hn263_0) | (show (Addr.add _ _).block ≠ _; rw [add_block]; exact hn263_0) | exact hn263_0) (.int .i64 ((rd_T46 l0_2 x6_2).f0))).trans hx263_0; replace hx263_0 := (cell_far (p := ⟨gb261, 1, none⟩) (by first | (rw [add_block]; exact hn263_1) | (show (Addr.add _ _).block ≠ _; rw [add_block]; exact hn263_1) | exact hn263_1) (.int .i64 ((rd_T46 l0_2 x6_2).f1))).trans hx263_0; replace hx263_0 := (cell_far (p := ⟨gb261, 2, none⟩) (by first | (rw [add_block]; exact hn263_2) | (show (Addr.add _ _).block ≠ _; rw [add_block]; exact hn263_2) | exact hn263_2) (.int .i64 ((rd_T46 l0_2 x6_2).f2))).trans hx263_0; (try have hy263_0 := fun (n_ : Nat) => (show (((((w36.drewN n_).setCell ⟨gb261, 0, none⟩ (.int .i64 ((rd_T46 l0_2 x6_2).f0))).setCell ⟨gb261, 1, none⟩ (.int .i64 ((rd_T46 l0_2 x6_2).f1))).setCell ⟨gb261, 2, none⟩ (.int .i64 ((rd_T46 l0_2 x6_2).f2)))).cell? _ = some _ from hx263_0)); clear hn263_0; clear hn263_1; clear hn263_2; replace p263 := eq_true p263; replace q263 := eq_true q263) | (go_at_call 22; (with_reducible refine (petrinetref04_Number.calls k2 ((rd_T46 l0_2 x6_2).f2) t264 _ A30.out).mono ?_); rintro e w' ⟨rfl, ⟨nd, rfl⟩⟩; (try first | exact ⟨rfl, _, World.drewN_drewN _ _ _⟩ | exact ⟨rfl, _, Eq.trans (World.drewN_drewN _ _ _) (congrArg (World.drewN _) (Nat.add_assoc _ _ _))⟩))))
                                      go_roundg k2
                                      case measure => have := HK1.out; have := HK2.out; omega
                                      case rel => exact ⟨(x4_2 ++ (((((t262 ++ (⟨#[32]⟩ : ByteArray)) ++ (rdOf ByteArray.empty l0_1 ((rd_T46 l0_2 x6_2).f1))) ++ (⟨#[32]⟩ : ByteArray)) ++ t264) ++ (⟨#[10]⟩ : ByteArray))), (wrap64 (x6_2 + 1)), (by first | rfl | (simp; done) | (simp [*]; done)), (by first | rfl | (simp; done) | (simp [*]; done)), H', ⟨by have := HK1.out; have := HK2.out; omega⟩, ⟨by (with_reducible repeat (first | refine blk_drewN ?_ _ | refine blk_drew ?_ | refine blk_alloc ?_ _)); refine blk_far ?_ NB253_261.out _; (with_reducible repeat (first | refine blk_drewN ?_ _ | refine blk_drew ?_ | refine blk_alloc ?_ _)); refine blk_far ?_ NB253_261.out _; (with_reducible repeat (first | refine blk_drewN ?_ _ | refine blk_drew ?_ | refine blk_alloc ?_ _)); refine blk_far ?_ NB253_261.out _; (with_reducible repeat (first | refine blk_drewN ?_ _ | refine blk_drew ?_ | refine blk_alloc ?_ _)); exact BK253.out⟩, ⟨by (with_reducible repeat (first | refine blk_drewN ?_ _ | refine blk_drew ?_ | refine blk_alloc ?_ _)); refine blk_far ?_ NB254_261.out _; (with_reducible repeat (first | refine blk_drewN ?_ _ | refine blk_drew ?_ | refine blk_alloc ?_ _)); refine blk_far ?_ NB254_261.out _; (with_reducible repeat (first | refine blk_drewN ?_ _ | refine blk_drew ?_ | refine blk_alloc ?_ _)); refine blk_far ?_ NB254_261.out _; (with_reducible repeat (first | refine blk_drewN ?_ _ | refine blk_drew ?_ | refine blk_alloc ?_ _)); exact BK254.out⟩, ⟨sq_bs HB.out⟩⟩
                                    · rw [if_neg c33] at H
                                      exact absurd H (by simp)
                                  · rw [if_neg c32] at H
                                    exact absurd H (by simp)
                                · rw [if_neg c31] at H
                                  exact absurd H (by simp)
                              · rw [if_neg c29] at H
                                exact absurd H (by simp)
                            · rw [if_neg c28] at H
                              exact absurd H (by simp)
                          · rw [if_neg c27] at H
                            exact absurd H (by simp)
                        · rw [if_neg c26] at H
                          exact absurd H (by simp)
                      · rw [if_neg c25] at H
                        exact absurd H (by simp)
                    · rw [if_neg c23] at H
                      exact absurd H (by simp)
                  · rw [if_neg c22] at H
                    have c22b0 : decide (x6_2 < (l0_2.length : Int)) = false := decide_eq_false c22
                    clear c22
                    simp only [Option.some.injEq, Prod.mk.injEq] at H
                    obtain ⟨rfl, rfl, rfl⟩ := H
                    have hnb41 := NB253_254.out
                    have hnc41 := NB254_253.out
                    have hcz42_0 : wr.cell? ⟨gb253, 0, none⟩ = some (.int .i64 a0_0) := (blk_cell BK253.out 0).trans rfl
                    have hcz42_1 : wr.cell? ⟨gb253, 1, none⟩ = some (.slice A0_1 l0_1.length c0_1) := (blk_cell BK253.out 1).trans rfl
                    have hcz42_2 : wr.cell? ⟨gb253, 2, none⟩ = some (.slice A0_2 l0_2.length c0_2) := (blk_cell BK253.out 2).trans rfl
                    have hfz42_0 := blk_frozen BK253.out 0
                    have hfz42_1 := blk_frozen BK253.out 1
                    have hfz42_2 := blk_frozen BK253.out 2
                    have hcz43_0 : wr.cell? ⟨gb254, 0, none⟩ = some (.int .i64 0) := (blk_cell BK254.out 0).trans rfl
                    have hcz43_1 : wr.cell? ⟨gb254, 1, none⟩ = some (.int .i64 0) := (blk_cell BK254.out 1).trans rfl
                    have hfz43_0 := blk_frozen BK254.out 0
                    have hfz43_1 := blk_frozen BK254.out 1
                    go_wp2
                    repeat (go_quiet (fail); try go_wp2)
                    refine bodyPost_ret (results_tc rfl _ _ gb254 30 #[.int .i64 0, .int .i64 0] (0, 0) _ rfl (by (with_reducible repeat (first | refine blk_drewN ?_ _ | refine blk_drew ?_ | refine blk_alloc ?_ _)); refine blk_put (cs := #[.int .i64 0, .int .i64 0]) ?_ 1 _ rfl; (with_reducible repeat (first | refine blk_drewN ?_ _ | refine blk_drew ?_ | refine blk_alloc ?_ _)); refine blk_put (cs := #[.int .i64 0, .int .i64 0]) ?_ 0 _ rfl; (with_reducible repeat (first | refine blk_drewN ?_ _ | refine blk_drew ?_ | refine blk_alloc ?_ _)); exact BK254.out) Tryd.underlying30 rfl (by kernel_rfl)) rfl ?_
                    exact ⟨by first | rfl | (simp [errW_none, errW_some] <;> rfl) | (simp [*, errW_none, errW_some] <;> rfl), sq_bs HB.out⟩
      · rw [if_neg c6] at H
        exact absurd H (by simp)
    · rw [if_neg c5] at H
      exact absurd H (by simp)
  · replace c3 := Bool.eq_false_iff.mpr c3
    subst c3
    have H1 : ((petrinetref45_Check.f k a0_0 l0_1 l0_2).bind fun bt256 => (some ((⟨#[]⟩ : ByteArray), bt256.1, bt256.2))) = some (r1, r2, r3) := by rw [if_neg (show ¬ (false = true) by decide)] at H; exact H
    clear H
    have H := H1
    clear H1
    replace H := Option.bind_eq_some_iff.mp H
    obtain ⟨⟨t256, t257⟩, A440, H⟩ := H
    replace H : (some ((⟨#[]⟩ : ByteArray), t256, t257)) = some (r1, r2, r3) := H
    have A44 := Aside0.mk A440
    clear A440
    simp only [Option.some.injEq, Prod.mk.injEq] at H
    obtain ⟨rfl, rfl, rfl⟩ := H
    go_enter Tryd.func8, Tryd.ntmps8
    go_wp2_with (first | ((with_reducible refine gate_dst (N := 1) rfl ?_); refine sq_box 1 #[.int .i64 a0_0, .slice A0_1 l0_1.length c0_1, .slice A0_2 l0_2.length c0_2] 25 ?_; intro gb253 hg w45 hbox hb; have n0_ := Aside0.mk (below_step (sq_bl HB.out) hb); have n1_ := Aside0.mk (hbox); have n2_ := Aside0.mk ((by rw [hg]; exact (below_size (sq_bl HB.out)) : w.heap.size ≤ gb253)); have n3_ := Aside0.mk ((by rw [hg]; exact (below_size (sq_bl HB.out)) : w.heap.size ≤ gb253)); clear HB; have HB := n0_; have BK253 := n1_; have GW253 := n2_; have GE253 := n3_; clear n0_ n1_ n2_ n3_; clear hb hbox hg) | ((with_reducible refine gate_dst (N := 3) rfl ?_); refine sq_box 3 #[.int .i64 0, .int .i64 0] 30 ?_; intro gb254 hg w46 hbox hb; have n0_ := Aside0.mk (blk_below (g := gb253) (o := .cells #[.int .i64 a0_0, .slice A0_1 l0_1.length c0_1, .slice A0_2 l0_2.length c0_2] 25 (0, 0)) (sq_bk BK253.out) hb); have n1_ := Aside0.mk (below_step (sq_bs HB.out) hb); have n2_ := Aside0.mk (hbox); have n3_ := Aside0.mk ((by rw [hg]; exact (below_size (sq_bs HB.out)) : w.heap.size ≤ gb254)); have n4_ := Aside0.mk ((by rw [hg]; exact (below_size (sq_bs HB.out)) : w.heap.size ≤ gb254)); have n5_ := Aside0.mk ((by rw [hg]; exact Nat.ne_of_lt (blk_lt (g := gb253) (o := .cells #[.int .i64 a0_0, .slice A0_1 l0_1.length c0_1, .slice A0_2 l0_2.length c0_2] 25 (0, 0)) (sq_bk BK253.out)) : gb253 ≠ gb254)); have n6_ := Aside0.mk ((by rw [hg]; exact Nat.ne_of_gt (blk_lt (g := gb253) (o := .cells #[.int .i64 a0_0, .slice A0_1 l0_1.length c0_1, .slice A0_2 l0_2.length c0_2] 25 (0, 0)) (sq_bk BK253.out)) : gb254 ≠ gb253)); clear BK253; clear HB; have BK253 := n0_; have HB := n1_; have BK254 := n2_; have GW254 := n3_; have GE254 := n4_; have NB253_254 := n5_; have NB254_253 := n6_; clear n0_ n1_ n2_ n3_ n4_ n5_ n6_; clear hb hbox hg; have hnb47 := NB253_254.out; have hnc47 := NB254_253.out; have hcz48_0 : w46.cell? ⟨gb253, 0, none⟩ = some (.int .i64 a0_0) := (blk_cell BK253.out 0).trans rfl; have hcz48_1 : w46.cell? ⟨gb253, 1, none⟩ = some (.slice A0_1 l0_1.length c0_1) := (blk_cell BK253.out 1).trans rfl; have hcz48_2 : w46.cell? ⟨gb253, 2, none⟩ = some (.slice A0_2 l0_2.length c0_2) := (blk_cell BK253.out 2).trans rfl; have hfz48_0 := blk_frozen BK253.out 0; have hfz48_1 := blk_frozen BK253.out 1; have hfz48_2 := blk_frozen BK253.out 2) | (go_at_call 20; (with_reducible refine (petrinetref45_Valid.calls k a0_0 _ _ l0_1 _ _ l0_2 false _ ?side1 ?side2 ?side3 ?side4 A2.out).mono ?_); (case side1 => exact sq_kc ((Kd.C_below HR0_1.out HB.out))); (case side2 => exact HC0_1.out); (case side3 => exact sq_kc ((Kd.C_below HR0_2.out HB.out))); (case side4 => exact HC0_2.out); rintro e w49 ⟨rfl, hb⟩; have n0_ := Aside0.mk (blk_below (g := gb253) (o := .cells #[.int .i64 a0_0, .slice A0_1 l0_1.length c0_1, .slice A0_2 l0_2.length c0_2] 25 (0, 0)) (sq_bk BK253.out) hb); have n1_ := Aside0.mk (blk_below (g := gb254) (o := .cells #[.int .i64 0, .int .i64 0] 30 (0, 0)) (sq_bk BK254.out) hb); have n2_ := Aside0.mk (below_step (sq_bs HB.out) hb); clear BK253; clear BK254; clear HB; have BK253 := n0_; have BK254 := n1_; have HB := n2_; clear n0_ n1_ n2_; (try clear hb); have hcz50_0 : w49.cell? ⟨gb253, 0, none⟩ = some (.int .i64 a0_0) := (blk_cell BK253.out 0).trans rfl; have hcz50_1 : w49.cell? ⟨gb253, 1, none⟩ = some (.slice A0_1 l0_1.length c0_1) := (blk_cell BK253.out 1).trans rfl; have hcz50_2 : w49.cell? ⟨gb253, 2, none⟩ = some (.slice A0_2 l0_2.length c0_2) := (blk_cell BK253.out 2).trans rfl; have hfz50_0 := blk_frozen BK253.out 0; have hfz50_1 := blk_frozen BK253.out 1; have hfz50_2 := blk_frozen BK253.out 2) | (go_at_call 21; (with_reducible refine (petrinetref45_Check.calls k a0_0 _ _ l0_1 _ _ l0_2 t256 t257 _ ?side1 ?side2 ?side3 ?side4 A44.out).mono ?_); (case side1 => exact sq_kc ((Kd.C_below HR0_1.out HB.out))); (case side2 => exact HC0_1.out); (case side3 => exact sq_kc ((Kd.C_below HR0_2.out HB.out))); (case side4 => exact HC0_2.out); rintro e w51 ⟨rfl, hb⟩; have n0_ := Aside0.mk (blk_below (g := gb253) (o := .cells #[.int .i64 a0_0, .slice A0_1 l0_1.length c0_1, .slice A0_2 l0_2.length c0_2] 25 (0, 0)) (sq_bk BK253.out) hb); have n1_ := Aside0.mk (blk_below (g := gb254) (o := .cells #[.int .i64 0, .int .i64 0] 30 (0, 0)) (sq_bk BK254.out) hb); have n2_ := Aside0.mk (below_step (sq_bs HB.out) hb); clear BK253; clear BK254; clear HB; have BK253 := n0_; have BK254 := n1_; have HB := n2_; clear n0_ n1_ n2_; (try clear hb); have hcz52_0 : w51.cell? ⟨gb254, 0, none⟩ = some (.int .i64 0) := (blk_cell BK254.out 0).trans rfl; have hcz52_1 : w51.cell? ⟨gb254, 1, none⟩ = some (.int .i64 0) := (blk_cell BK254.out 1).trans rfl; have hfz52_0 := blk_frozen BK254.out 0; have hfz52_1 := blk_frozen BK254.out 1))
    repeat (go_quiet (first | ((with_reducible refine gate_dst (N := 1) rfl ?_); refine sq_box 1 #[.int .i64 a0_0, .slice A0_1 l0_1.length c0_1, .slice A0_2 l0_2.length c0_2] 25 ?_; intro gb253 hg w45 hbox hb; have n0_ := Aside0.mk (below_step (sq_bl HB.out) hb); have n1_ := Aside0.mk (hbox); have n2_ := Aside0.mk ((by rw [hg]; exact (below_size (sq_bl HB.out)) : w.heap.size ≤ gb253)); have n3_ := Aside0.mk ((by rw [hg]; exact (below_size (sq_bl HB.out)) : w.heap.size ≤ gb253)); clear HB; have HB := n0_; have BK253 := n1_; have GW253 := n2_; have GE253 := n3_; clear n0_ n1_ n2_ n3_; clear hb hbox hg) | ((with_reducible refine gate_dst (N := 3) rfl ?_); refine sq_box 3 #[.int .i64 0, .int .i64 0] 30 ?_; intro gb254 hg w46 hbox hb; have n0_ := Aside0.mk (blk_below (g := gb253) (o := .cells #[.int .i64 a0_0, .slice A0_1 l0_1.length c0_1, .slice A0_2 l0_2.length c0_2] 25 (0, 0)) (sq_bk BK253.out) hb); have n1_ := Aside0.mk (below_step (sq_bs HB.out) hb); have n2_ := Aside0.mk (hbox); have n3_ := Aside0.mk ((by rw [hg]; exact (below_size (sq_bs HB.out)) : w.heap.size ≤ gb254)); have n4_ := Aside0.mk ((by rw [hg]; exact (below_size (sq_bs HB.out)) : w.heap.size ≤ gb254)); have n5_ := Aside0.mk ((by rw [hg]; exact Nat.ne_of_lt (blk_lt (g := gb253) (o := .cells #[.int .i64 a0_0, .slice A0_1 l0_1.length c0_1, .slice A0_2 l0_2.length c0_2] 25 (0, 0)) (sq_bk BK253.out)) : gb253 ≠ gb254)); have n6_ := Aside0.mk ((by rw [hg]; exact Nat.ne_of_gt (blk_lt (g := gb253) (o := .cells #[.int .i64 a0_0, .slice A0_1 l0_1.length c0_1, .slice A0_2 l0_2.length c0_2] 25 (0, 0)) (sq_bk BK253.out)) : gb254 ≠ gb253)); clear BK253; clear HB; have BK253 := n0_; have HB := n1_; have BK254 := n2_; have GW254 := n3_; have GE254 := n4_; have NB253_254 := n5_; have NB254_253 := n6_; clear n0_ n1_ n2_ n3_ n4_ n5_ n6_; clear hb hbox hg; have hnb47 := NB253_254.out; have hnc47 := NB254_253.out; have hcz48_0 : w46.cell? ⟨gb253, 0, none⟩ = some (.int .i64 a0_0) := (blk_cell BK253.out 0).trans rfl; have hcz48_1 : w46.cell? ⟨gb253, 1, none⟩ = some (.slice A0_1 l0_1.length c0_1) := (blk_cell BK253.out 1).trans rfl; have hcz48_2 : w46.cell? ⟨gb253, 2, none⟩ = some (.slice A0_2 l0_2.length c0_2) := (blk_cell BK253.out 2).trans rfl; have hfz48_0 := blk_frozen BK253.out 0; have hfz48_1 := blk_frozen BK253.out 1; have hfz48_2 := blk_frozen BK253.out 2) | (go_at_call 20; (with_reducible refine (petrinetref45_Valid.calls k a0_0 _ _ l0_1 _ _ l0_2 false _ ?side1 ?side2 ?side3 ?side4 A2.out).mono ?_); (case side1 => exact sq_kc ((Kd.C_below HR0_1.out HB.out))); (case side2 => exact HC0_1.out); (case side3 => exact sq_kc ((Kd.C_below HR0_2.out HB.out))); (case side4 => exact HC0_2.out); rintro e w49 ⟨rfl, hb⟩; have n0_ := Aside0.mk (blk_below (g := gb253) (o := .cells #[.int .i64 a0_0, .slice A0_1 l0_1.length c0_1, .slice A0_2 l0_2.length c0_2] 25 (0, 0)) (sq_bk BK253.out) hb); have n1_ := Aside0.mk (blk_below (g := gb254) (o := .cells #[.int .i64 0, .int .i64 0] 30 (0, 0)) (sq_bk BK254.out) hb); have n2_ := Aside0.mk (below_step (sq_bs HB.out) hb); clear BK253; clear BK254; clear HB; have BK253 := n0_; have BK254 := n1_; have HB := n2_; clear n0_ n1_ n2_; (try clear hb); have hcz50_0 : w49.cell? ⟨gb253, 0, none⟩ = some (.int .i64 a0_0) := (blk_cell BK253.out 0).trans rfl; have hcz50_1 : w49.cell? ⟨gb253, 1, none⟩ = some (.slice A0_1 l0_1.length c0_1) := (blk_cell BK253.out 1).trans rfl; have hcz50_2 : w49.cell? ⟨gb253, 2, none⟩ = some (.slice A0_2 l0_2.length c0_2) := (blk_cell BK253.out 2).trans rfl; have hfz50_0 := blk_frozen BK253.out 0; have hfz50_1 := blk_frozen BK253.out 1; have hfz50_2 := blk_frozen BK253.out 2) | (go_at_call 21; (with_reducible refine (petrinetref45_Check.calls k a0_0 _ _ l0_1 _ _ l0_2 t256 t257 _ ?side1 ?side2 ?side3 ?side4 A44.out).mono ?_); (case side1 => exact sq_kc ((Kd.C_below HR0_1.out HB.out))); (case side2 => exact HC0_1.out); (case side3 => exact sq_kc ((Kd.C_below HR0_2.out HB.out))); (case side4 => exact HC0_2.out); rintro e w51 ⟨rfl, hb⟩; have n0_ := Aside0.mk (blk_below (g := gb253) (o := .cells #[.int .i64 a0_0, .slice A0_1 l0_1.length c0_1, .slice A0_2 l0_2.length c0_2] 25 (0, 0)) (sq_bk BK253.out) hb); have n1_ := Aside0.mk (blk_below (g := gb254) (o := .cells #[.int .i64 0, .int .i64 0] 30 (0, 0)) (sq_bk BK254.out) hb); have n2_ := Aside0.mk (below_step (sq_bs HB.out) hb); clear BK253; clear BK254; clear HB; have BK253 := n0_; have BK254 := n1_; have HB := n2_; clear n0_ n1_ n2_; (try clear hb); have hcz52_0 : w51.cell? ⟨gb254, 0, none⟩ = some (.int .i64 0) := (blk_cell BK254.out 0).trans rfl; have hcz52_1 : w51.cell? ⟨gb254, 1, none⟩ = some (.int .i64 0) := (blk_cell BK254.out 1).trans rfl; have hfz52_0 := blk_frozen BK254.out 0; have hfz52_1 := blk_frozen BK254.out 1)); try go_wp2_with (first | ((with_reducible refine gate_dst (N := 1) rfl ?_); refine sq_box 1 #[.int .i64 a0_0, .slice A0_1 l0_1.length c0_1, .slice A0_2 l0_2.length c0_2] 25 ?_; intro gb253 hg w45 hbox hb; have n0_ := Aside0.mk (below_step (sq_bl HB.out) hb); have n1_ := Aside0.mk (hbox); have n2_ := Aside0.mk ((by rw [hg]; exact (below_size (sq_bl HB.out)) : w.heap.size ≤ gb253)); have n3_ := Aside0.mk ((by rw [hg]; exact (below_size (sq_bl HB.out)) : w.heap.size ≤ gb253)); clear HB; have HB := n0_; have BK253 := n1_; have GW253 := n2_; have GE253 := n3_; clear n0_ n1_ n2_ n3_; clear hb hbox hg) | ((with_reducible refine gate_dst (N := 3) rfl ?_); refine sq_box 3 #[.int .i64 0, .int .i64 0] 30 ?_; intro gb254 hg w46 hbox hb; have n0_ := Aside0.mk (blk_below (g := gb253) (o := .cells #[.int .i64 a0_0, .slice A0_1 l0_1.length c0_1, .slice A0_2 l0_2.length c0_2] 25 (0, 0)) (sq_bk BK253.out) hb); have n1_ := Aside0.mk (below_step (sq_bs HB.out) hb); have n2_ := Aside0.mk (hbox); have n3_ := Aside0.mk ((by rw [hg]; exact (below_size (sq_bs HB.out)) : w.heap.size ≤ gb254)); have n4_ := Aside0.mk ((by rw [hg]; exact (below_size (sq_bs HB.out)) : w.heap.size ≤ gb254)); have n5_ := Aside0.mk ((by rw [hg]; exact Nat.ne_of_lt (blk_lt (g := gb253) (o := .cells #[.int .i64 a0_0, .slice A0_1 l0_1.length c0_1, .slice A0_2 l0_2.length c0_2] 25 (0, 0)) (sq_bk BK253.out)) : gb253 ≠ gb254)); have n6_ := Aside0.mk ((by rw [hg]; exact Nat.ne_of_gt (blk_lt (g := gb253) (o := .cells #[.int .i64 a0_0, .slice A0_1 l0_1.length c0_1, .slice A0_2 l0_2.length c0_2] 25 (0, 0)) (sq_bk BK253.out)) : gb254 ≠ gb253)); clear BK253; clear HB; have BK253 := n0_; have HB := n1_; have BK254 := n2_; have GW254 := n3_; have GE254 := n4_; have NB253_254 := n5_; have NB254_253 := n6_; clear n0_ n1_ n2_ n3_ n4_ n5_ n6_; clear hb hbox hg; have hnb47 := NB253_254.out; have hnc47 := NB254_253.out; have hcz48_0 : w46.cell? ⟨gb253, 0, none⟩ = some (.int .i64 a0_0) := (blk_cell BK253.out 0).trans rfl; have hcz48_1 : w46.cell? ⟨gb253, 1, none⟩ = some (.slice A0_1 l0_1.length c0_1) := (blk_cell BK253.out 1).trans rfl; have hcz48_2 : w46.cell? ⟨gb253, 2, none⟩ = some (.slice A0_2 l0_2.length c0_2) := (blk_cell BK253.out 2).trans rfl; have hfz48_0 := blk_frozen BK253.out 0; have hfz48_1 := blk_frozen BK253.out 1; have hfz48_2 := blk_frozen BK253.out 2) | (go_at_call 20; (with_reducible refine (petrinetref45_Valid.calls k a0_0 _ _ l0_1 _ _ l0_2 false _ ?side1 ?side2 ?side3 ?side4 A2.out).mono ?_); (case side1 => exact sq_kc ((Kd.C_below HR0_1.out HB.out))); (case side2 => exact HC0_1.out); (case side3 => exact sq_kc ((Kd.C_below HR0_2.out HB.out))); (case side4 => exact HC0_2.out); rintro e w49 ⟨rfl, hb⟩; have n0_ := Aside0.mk (blk_below (g := gb253) (o := .cells #[.int .i64 a0_0, .slice A0_1 l0_1.length c0_1, .slice A0_2 l0_2.length c0_2] 25 (0, 0)) (sq_bk BK253.out) hb); have n1_ := Aside0.mk (blk_below (g := gb254) (o := .cells #[.int .i64 0, .int .i64 0] 30 (0, 0)) (sq_bk BK254.out) hb); have n2_ := Aside0.mk (below_step (sq_bs HB.out) hb); clear BK253; clear BK254; clear HB; have BK253 := n0_; have BK254 := n1_; have HB := n2_; clear n0_ n1_ n2_; (try clear hb); have hcz50_0 : w49.cell? ⟨gb253, 0, none⟩ = some (.int .i64 a0_0) := (blk_cell BK253.out 0).trans rfl; have hcz50_1 : w49.cell? ⟨gb253, 1, none⟩ = some (.slice A0_1 l0_1.length c0_1) := (blk_cell BK253.out 1).trans rfl; have hcz50_2 : w49.cell? ⟨gb253, 2, none⟩ = some (.slice A0_2 l0_2.length c0_2) := (blk_cell BK253.out 2).trans rfl; have hfz50_0 := blk_frozen BK253.out 0; have hfz50_1 := blk_frozen BK253.out 1; have hfz50_2 := blk_frozen BK253.out 2) | (go_at_call 21; (with_reducible refine (petrinetref45_Check.calls k a0_0 _ _ l0_1 _ _ l0_2 t256 t257 _ ?side1 ?side2 ?side3 ?side4 A44.out).mono ?_); (case side1 => exact sq_kc ((Kd.C_below HR0_1.out HB.out))); (case side2 => exact HC0_1.out); (case side3 => exact sq_kc ((Kd.C_below HR0_2.out HB.out))); (case side4 => exact HC0_2.out); rintro e w51 ⟨rfl, hb⟩; have n0_ := Aside0.mk (blk_below (g := gb253) (o := .cells #[.int .i64 a0_0, .slice A0_1 l0_1.length c0_1, .slice A0_2 l0_2.length c0_2] 25 (0, 0)) (sq_bk BK253.out) hb); have n1_ := Aside0.mk (blk_below (g := gb254) (o := .cells #[.int .i64 0, .int .i64 0] 30 (0, 0)) (sq_bk BK254.out) hb); have n2_ := Aside0.mk (below_step (sq_bs HB.out) hb); clear BK253; clear BK254; clear HB; have BK253 := n0_; have BK254 := n1_; have HB := n2_; clear n0_ n1_ n2_; (try clear hb); have hcz52_0 : w51.cell? ⟨gb254, 0, none⟩ = some (.int .i64 0) := (blk_cell BK254.out 0).trans rfl; have hcz52_1 : w51.cell? ⟨gb254, 1, none⟩ = some (.int .i64 0) := (blk_cell BK254.out 1).trans rfl; have hfz52_0 := blk_frozen BK254.out 0; have hfz52_1 := blk_frozen BK254.out 1)))
    refine bodyPost_ret (results_tc rfl _ _ gb254 30 #[.int .i64 t256, .int .i64 t257] (0, 0) _ rfl (by (with_reducible repeat (first | refine blk_drewN ?_ _ | refine blk_drew ?_ | refine blk_alloc ?_ _)); refine blk_put (cs := #[.int .i64 t256, .int .i64 0]) ?_ 1 _ rfl; (with_reducible repeat (first | refine blk_drewN ?_ _ | refine blk_drew ?_ | refine blk_alloc ?_ _)); refine blk_put (cs := #[.int .i64 0, .int .i64 0]) ?_ 0 _ rfl; (with_reducible repeat (first | refine blk_drewN ?_ _ | refine blk_drew ?_ | refine blk_alloc ?_ _)); exact BK254.out) Tryd.underlying30 rfl (by kernel_rfl)) rfl ?_
    exact ⟨by first | rfl | (simp [errW_none, errW_some] <;> rfl) | (simp [*, errW_none, errW_some] <;> rfl), sq_bs HB.out⟩
/-! ### system_split: function 23 -/
-- INFO 9
/-! ### split: a range over a string, parts kept in a row of the call's own -/
theorem decode_span (s : ByteArray) (pos : Nat) (h : pos < s.size) (ha : 128 ≤ (s[pos]'h).toNat) : pos + (Utf8.decode s pos).2 ≤ s.size ∧ ∀ j, 0 < j → j < (Utf8.decode s pos).2 → 128 ≤ (s.get! (pos + j)).toNat := by
  have hn : ¬ (s[pos]'h).toNat < 128 := by omega
  simp only [Utf8.decode, get_at s pos h, hn, if_false]
  repeat' split
  all_goals (try simp only [Bool.and_eq_true, decide_eq_true_eq, beq_iff_eq] at *)
  all_goals refine ⟨by first | omega | (simp_all; omega), fun j h0 h1 => ?_⟩
  all_goals (try simp only at h1)
  all_goals first
    | omega
    | (have hj : j = 1 ∨ j = 2 ∨ j = 3 := by omega
       rcases hj with rfl | rfl | rfl <;> omega)
/-- The parts of s between the bytes c, from place fr on, the bytes ahead of pos being none. -/
def splA (s : ByteArray) (c : Nat) : Nat → Nat → Nat → List ByteArray
  | 0, fr, _ => [s.extract fr s.size]
  | n + 1, fr, pos => if h : pos < s.size then (if (s[pos]'h).toNat = c then s.extract fr pos :: splA s c n (pos + 1) (pos + 1) else splA s c n fr (pos + 1)) else [s.extract fr s.size]
def system_split.f (a0 : ByteArray) (a1 : Int) : Option (List ByteArray) := if 0 ≤ a1 ∧ a1 < 128 ∧ a0.size ≤ 1000000000 then some (splA a0 a1.toNat a0.size 0 0) else none
theorem splA_skip (s : ByteArray) (c fr : Nat) : ∀ (d pos : Nat), pos + d ≤ s.size → (∀ j, (h : pos + j < s.size) → j < d → (s[pos + j]'h).toNat ≠ c) → splA s c (s.size - pos) fr pos = splA s c (s.size - (pos + d)) fr (pos + d)
  | 0, pos, _, _ => rfl
  | d + 1, pos, hd, hne => by
    have hp : pos < s.size := by omega
    rw [show s.size - pos = (s.size - (pos + 1)) + 1 by omega, splA, dif_pos hp, if_neg (by have := hne 0 (by omega) (by omega); simpa using this), splA_skip s c fr d (pos + 1) (by omega) (fun j h1 h2 => ?_)]
    · congr 1 <;> omega
    · have := hne (j + 1) (by omega) (by omega)
      simpa [Nat.add_assoc, Nat.add_comm 1 j] using this
theorem spl_round (s : ByteArray) (c fr pos : Nat) (hc : c < 128) (hp : pos < s.size) : ∃ r d : Nat, Utf8.decode s pos = (r, d) ∧ 1 ≤ d ∧ pos + d ≤ s.size ∧
    (r = c → d = 1 ∧ splA s c (s.size - pos) fr pos = s.extract fr pos :: splA s c (s.size - (pos + 1)) (pos + 1) (pos + 1)) ∧ (r ≠ c → splA s c (s.size - pos) fr pos = splA s c (s.size - (pos + d)) fr (pos + d)) := by
  have e : s.size - pos = (s.size - (pos + 1)) + 1 := by omega
  by_cases ha : (s[pos]'hp).toNat < 128
  · refine ⟨(s[pos]'hp).toNat, 1, decode_ascii s pos hp ha, Nat.le_refl _, by omega, fun h => ⟨rfl, ?_⟩, fun h => ?_⟩
    · rw [e, splA, dif_pos hp, if_pos h]
    · rw [e, splA, dif_pos hp, if_neg h]
  · obtain ⟨h1, h2⟩ := decode_high s pos hp (by omega)
    obtain ⟨h3, h4⟩ := decode_span s pos hp (by omega)
    refine ⟨(Utf8.decode s pos).1, (Utf8.decode s pos).2, rfl, h2, h3, fun h => by omega, fun _ => splA_skip s c fr _ pos h3 (fun j hj hd => ?_)⟩
    by_cases j0 : j = 0
    · subst j0; simpa using (by omega : (s[pos]'hp).toNat ≠ c)
    · have := h4 j (by omega) hd
      rw [show s.get! (pos + j) = s[pos + j]'hj by simp [ByteArray.get!, getElem!_pos, hj]; rfl] at this
      omega
theorem R_iter {α : Type} {d : Kd α} {e base : Nat} {ok : Nat → Prop} {w : World} {v : Value} {xs : List α} (h : d.R e w base ok v xs) (k : Nat) (s : ByteArray) (pos : Nat) (hok : ∀ j, ok j → j ≠ k) : d.R e (w.iterAt k s pos) base ok v xs :=
  Kd.R_step h (fun j hj _ => Lib.iterAt_other w k j s pos (hok j hj))
theorem iterPos_of {w : World} {k : Nat} {s : ByteArray} {p : Nat} (h : w.heap[k]? = some (.stringIter s p)) : w.iterPos k = p := by simp [World.iterPos, h]
set_option maxHeartbeats 4000000 in
set_option maxRecDepth 1000000 in
theorem system_split.calls (a0 : ByteArray) (a1 : Int) (r : List ByteArray) (w : World) (h : system_split.f a0 a1 = some r) :
    Calls Tryd.prog 23 #[.string a0, .int .i32 a1] w fun e w' => ∃ v0_ : Value, e = .returned (v0_) ∧ Kd.R Kd.string 9 w' w.heap.size (fun _ => True) v0_ r ∧ Below w.heap.size w w' := by
  have hv30 := Tryd.underlying30
  unfold system_split.f at h
  by_cases hc : 0 ≤ a1 ∧ a1 < 128 ∧ a0.size ≤ 1000000000
  · rw [if_pos hc] at h
    obtain ⟨h0, h1, h2⟩ := hc
    obtain ⟨c, rfl⟩ : ∃ c : Nat, a1 = (c : Int) := ⟨a1.toNat, by omega⟩
    rw [Int.toNat_natCast] at h
    have HR := Aside0.mk (Option.some.inj h)
    clear h h0
    have hcl : c < 128 := by omega
    clear h1
    go_enter Tryd.func23, Tryd.ntmps23
    go_wp2
    go_loopw [5, 6] (fun v5 v6 w' => ∃ (pos fr : Nat) (acc : List ByteArray), v6 = .int .i64 fr ∧ fr ≤ pos ∧ pos ≤ a0.size ∧ acc.length ≤ pos ∧ Aside0 (w'.heap[w.heap.size]? = some (.stringIter a0 pos)) ∧ Aside0 (Kd.R Kd.string 9 w' w.heap.size (fun k => k ≠ w.heap.size) v5 acc) ∧ Aside0 (Below w.heap.size w w') ∧ Aside0 (acc ++ splA a0 c (a0.size - pos) fr pos = r)) (fun _ _ w' => a0.size - w'.iterPos w.heap.size)
    case atStart => exact ⟨0, 0, [], rfl, Nat.le_refl _, Nat.zero_le _, Nat.le_refl _, ⟨World.iter_heap w a0 0⟩, ⟨Kd.R_nil _ _ _ _ _⟩, ⟨below_alloc (Below.refl _ _) _⟩, ⟨HR.out⟩⟩
    case round =>
      obtain ⟨pos, fr, acc, rfl, hfp, hle, hal, HI, HO, HB, HS⟩ := hrel
      have hlt : w.heap.size < wr.heap.size := (Array.getElem?_eq_some_iff.1 HI.out).1
      by_cases hp : pos < a0.size
      · obtain ⟨rn, d, hdec, hd1, hd2, hE, hN⟩ := spl_round a0 c fr pos hcl hp
        have hnx : ∀ ty, (Instr.next (.pointer (some ⟨w.heap.size, 0, none⟩)) true ty).run Tryd.prog wr = .ok (.tuple #[.bool true, .int .i64 pos, .int .i32 rn]) (wr.iterAt w.heap.size a0 (pos + d)) := fun ty => by rw [Lib.run_next_any_at wr _ a0 pos ty HI.out hp, hdec]
        clear hdec
        have HI2 := Aside0.mk (Lib.iterAt_heap wr w.heap.size a0 pos (pos + d) HI.out)
        have HO2 := Aside0.mk (R_iter HO.out w.heap.size a0 (pos + d) (fun _ hj => hj))
        have HB2 := Aside0.mk (Lib.below_iterAt HB.out (Nat.le_refl _) a0 (pos + d))
        have HP := Aside0.mk (iterPos_of HI.out)
        have HL := Aside0.mk (show w.heap.size < (wr.iterAt w.heap.size a0 (pos + d)).heap.size by rw [Lib.iterAt_size]; exact hlt)
        clear HI HO HB hlt
        by_cases e : rn = c
        · obtain ⟨rfl, hs⟩ := hE e
          have HS2 := Aside0.mk (show (acc ++ [a0.extract fr pos]) ++ splA a0 c (a0.size - (pos + 1)) (pos + 1) (pos + 1) = r by rw [List.append_assoc, List.singleton_append, ← hs]; exact HS.out)
          have b1 : ((rn : Int) == (c : Int)) = true := beq_iff_eq.mpr (by omega)
          have b2 : decide ((rn : Int) = (c : Int)) = true := decide_eq_true (by omega)
          have k1 : (0 ≤ (fr : Int)) = True := eq_true (by omega)
          have k2 : ((fr : Int) ≤ (pos : Int)) = True := eq_true (by omega)
          have k3 : ((pos : Int) ≤ (a0.size : Int)) = True := eq_true (by omega)
          clear hE hN HS hs e
          go_wp2_with (first | ((with_reducible refine gate_builtin (b := .append) (xs := #[.tmp 18, .tmp 23]) rfl ?_); at_builtin; refine Kd.R_append Kd.string (w0 := w) w.heap.size rfl (.tmp 18) (.tmp 23) 22 9 (.string ⟨#[]⟩) 16 rfl Tryd.underlying22 info9 rfl (by decide) (by omega) u5 acc (a0.extract fr pos) [.string (a0.extract fr pos)] (fun k => k ≠ w.heap.size) (fun _ => False) rfl rfl ?aP (fun _ hk => hk.elim) ?aF ?aO ?aB ?aS ?aL ?_; (case aP => exact rfl); (case aB => exact (sq_bl HB2.out)); (case aF => exact (fun k hk e => Nat.lt_irrefl _ (Nat.lt_of_lt_of_le (Nat.lt_of_lt_of_le HL.out (by first | exact Nat.le_refl _ | exact Nat.le_of_lt (by simp))) (e ▸ hk)))); (case aO => exact (sq_kr HO2.out)); (case aS => exact (below_size (sq_bl HB2.out))); (case aL => omega); intro v5_ w9 ho hb hg hat; have HI3 := Aside0.mk (blk_grown (sq_bk HI2.out) hg (fun e => HO2.out.1 _ e.symm rfl)); have HO3 := Aside0.mk ho; have HB3 := Aside0.mk hb; clear ho hb hg hat HI2 HO2 HB2))
          refine ⟨⟨pos + 1, pos + 1, acc ++ [a0.extract fr pos], by congr 1, Nat.le_refl _, by omega, by simp; omega, HI3, HO3, HB3, HS2⟩, ?_⟩
          rw [HP.out, iterPos_of HI3.out]; omega
        · have b1 : ((rn : Int) == (c : Int)) = false := beq_eq_false_iff_ne.mpr (by omega)
          have b2 : decide ((rn : Int) = (c : Int)) = false := decide_eq_false (by omega)
          have HS2 := Aside0.mk (show acc ++ splA a0 c (a0.size - (pos + d)) fr (pos + d) = r by rw [← hN e]; exact HS.out)
          clear hE hN HS e
          go_wp2
          refine ⟨⟨pos + d, fr, acc, rfl, by omega, by omega, by omega, HI2, HO2, HB2, HS2⟩, ?_⟩
          rw [HP.out, iterPos_of HI2.out]; omega
      · have hnx : ∀ ty, (Instr.next (.pointer (some ⟨w.heap.size, 0, none⟩)) true ty).run Tryd.prog wr = _ := fun ty => Lib.run_next_end_at wr _ a0 pos ty HI.out hp
        obtain rfl : pos = a0.size := by omega
        have hs := HS.out
        rw [Nat.sub_self, splA] at hs
        have HS2 := Aside0.mk hs
        have k1 : (0 ≤ (fr : Int)) = True := eq_true (by omega)
        have k2 : ((fr : Int) ≤ (a0.size : Int)) = True := eq_true (by omega)
        clear hs HS
        go_wp2_with (first | ((with_reducible refine gate_builtin (b := .append) (xs := #[.tmp 27, .tmp 31]) rfl ?_); at_builtin; refine Kd.R_append Kd.string (w0 := w) w.heap.size rfl (.tmp 27) (.tmp 31) 22 9 (.string ⟨#[]⟩) 16 rfl Tryd.underlying22 info9 rfl (by decide) (by omega) u5 acc (a0.extract fr a0.size) [.string (a0.extract fr a0.size)] (fun _ => True) (fun _ => False) rfl rfl ?aP (fun _ hk => hk.elim) ?aF ?aO ?aB ?aS ?aL ?_; (case aP => exact rfl); (case aB => exact (sq_bl HB.out)); (case aF => exact (fun _ _ => trivial)); (case aO => exact Kd.R_mono (sq_kr HO.out) (fun _ _ => trivial)); (case aS => exact (below_size (sq_bl HB.out))); (case aL => omega); intro v5_ w9 ho hb hg hat; rw [HS2.out] at ho; have HO3 := Aside0.mk ho; have HB3 := Aside0.mk hb; clear ho hb hg hat))
        go_ret
        exact ⟨_, rfl, HO3.out, HB3.out⟩
  · rw [if_neg hc] at h; cases h
/-! ### strconv_Atoi: function 46 -/
/-- The number that a text spells, and whether there is an error. -/
def strconv_Atoi.f (a0 : ByteArray) : Option (Int × Option Int) := if a0.size ≤ 281474976710656 then some (match Lib.atoiAll a0.data.toList with
  | .ok n => (n, none)
  | .range => (Lib.atoiSat a0.data.toList, some 1)
  | _ => (0, some 0)) else none
theorem strconv_Atoi.calls (a0 : ByteArray) (r1 : Int) (r2 : Option Int) (w : World) (hL : LaidE w) (h : strconv_Atoi.f a0 = some (r1, r2)) :
    Calls Tryd.prog 46 #[.string a0] w fun e w' => ∃ x, e = .returned (.tuple #[.int .i64 r1, x]) ∧ ErrX r2 x ∧ Below w.heap.size w w' := by
  have hv30 := Tryd.underlying30
  unfold strconv_Atoi.f at h
  split at h
  · rename_i hs
    have h := Option.some.inj h
    cases hc : Lib.atoiAll a0.data.toList with
    | ok n =>
      rw [hc] at h
      obtain ⟨rfl, rfl⟩ := Prod.mk.inj h
      refine (Tryd.strconv_Atoi_ok a0 (by omega) _ hc w).mono ?_
      rintro e w' ⟨he, hw⟩
      refine ⟨_, he, rfl, ?_⟩
      rcases hw with rfl | ⟨t, rfl⟩
      · exact Below.refl _ _
      · exact Lib.bytesWorld_below w _ t
    | range =>
      rw [hc] at h
      obtain ⟨rfl, rfl⟩ := Prod.mk.inj h
      obtain ⟨tp, p, hv⟩ := hL.rng
      refine (Tryd.strconv_Atoi_range_var a0 hs hc tp p w hv).mono ?_
      rintro e w' ⟨N, he, _, _, hb⟩
      exact ⟨_, he, ⟨N, rfl⟩, hb⟩
    | _ =>
      rw [hc] at h
      obtain ⟨rfl, rfl⟩ := Prod.mk.inj h
      obtain ⟨tp, p, hv⟩ := hL.syn
      refine (Tryd.strconv_Atoi_syntax_var a0 hs hc tp p w hv).mono ?_
      rintro e w' ⟨N, he, _, _, hb⟩
      exact ⟨_, he, ⟨N, rfl⟩, hb⟩
  · simp at h


end Go.Proofs.YtcnliampiibpbaaDoor.PAll
