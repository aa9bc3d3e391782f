/- Lean functions for Go functions, each with the proof that the call returns what it says; printed by wip/tools/myprint.py. -/
-- squeezed
-- tight
import Derived.Test.YtcnliampiibpbaaDoorTq
import Derived.Test.YtcnliampiibpbaaDoorPAllx0
import Derived.Test.YtcnliampiibpbaaDoorPAllx5
import Derived.Test.YtcnliampiibpbaaDoorPAllx6
import Derived.Test.YtcnliampiibpbaaDoorPAllx7
import Derived.Test.YtcnliampiibpbaaDoorPAllx8
import Derived.Test.YtcnliampiibpbaaDoorPAllx9
namespace Go.Proofs.YtcnliampiibpbaaDoor.PAll
open Go.RowKit Go.Proofs.YtcnliampiibpbaaDoorW.PrintWords Go.Proofs.YtcnliampiibpbaaDoorW.PrintLast Go.Proofs.YtcnliampiibpbaaDoorW.PrintMore
attribute [local go_sem] Instr.field asAgg max2_int min2_int max_two min_two max_three min_three max_four min_four   -- for this text's walks alone
set_option linter.unusedVariables false
set_option linter.unusedSimpArgs false

/-! ### system_Iso: function 12 -/
-- INFO 3
-- INFO 4
/-! ### system.Iso: what the literal 'visit' does -/
def isoL (V : List Int → List Bool → Int → Int → Option (Bool × List Int × List Bool)) (nx : Int → Int → Option Int) (tob : List Int) (s t : Int) : List S46 → List Int → List Bool → Option (Bool × List Int × List Bool)
 | [], img, used => some (true, img, used)
 | x :: xs, img, used => if x.f0 = s then (if 0 ≤ x.f1 ∧ x.f1 < (tob.length : Int) then (nx t (rd tob x.f1)).bind fun q => (if q < 0 then some (false, img, used) else (V img used x.f2 q).bind fun p => (if p.1 = true then isoL V nx tob s t xs p.2.1 p.2.2 else some (false, p.2.1, p.2.2))) else none) else isoL V nx tob s t xs img used
def isoV (b0 : Int) (lb1 : List ByteArray) (la2 lb2 : List S46) (tob : List Int) : Nat → List Int → List Bool → Int → Int → Option (Bool × List Int × List Bool)
 | 0, _, _, _, _ => none
 | k + 1, img, used, s, t => if 0 ≤ s ∧ s < (img.length : Int) then (if 0 ≤ rd img s then some (decide (rd img s = t), img, used) else (if 0 ≤ t ∧ t < (used.length : Int) then (if rdOf false used t = true then some (false, img, used) else isoL (isoV b0 lb1 la2 lb2 tob k) (fun t e => system_next.f k b0 lb1 lb2 t e) tob s t la2 (img.set s.toNat t) (used.set t.toNat true)) else none)) else none
theorem isoL_mono {V V' : List Int → List Bool → Int → Int → Option (Bool × List Int × List Bool)} {nx nx' : Int → Int → Option Int} (hV : ∀ i u s t, LeO (V i u s t) (V' i u s t)) (hn : ∀ t e, LeO (nx t e) (nx' t e)) (tob : List Int) (s t : Int) : ∀ xs i u, LeO (isoL V nx tob s t xs i u) (isoL V' nx' tob s t xs i u)
 | [], _, _ => LeO.refl _
 | x :: xs, i, u => by
  rw [isoL, isoL]
  split
  ·split
   ·refine LeO.bind (hn _ _) (fun q => ?_)
    split
    ·exact LeO.refl _
    ·refine LeO.bind (hV _ _ _ _) (fun p => ?_)
     split
     ·exact isoL_mono hV hn tob s t xs _ _
     ·exact LeO.refl _
   ·exact LeO.none _
  ·exact isoL_mono hV hn tob s t xs _ _
theorem isoV_mono (b0 : Int) (lb1 : List ByteArray) (la2 lb2 : List S46) (tob : List Int) : ∀ k i u s t, LeO (isoV b0 lb1 la2 lb2 tob k i u s t) (isoV b0 lb1 la2 lb2 tob (k + 1) i u s t)
 | 0 => fun i u s t r h => by simp [isoV] at h
 | k + 1 => fun i u s t => by
  rw [isoV, isoV]
  split
  ·split
   ·exact LeO.refl _
   ·split
    ·split
     ·exact LeO.refl _
     ·exact isoL_mono (isoV_mono b0 lb1 la2 lb2 tob k) (fun t e => system_next.mono _ _ _ _ _ k) tob s t _ _ _
    ·exact LeO.none _
  ·exact LeO.none _
/-- The world while 'visit' runs: the variables that it shares. -/
structure IS (w1 w : World) (pi pu pa pb pt pv gi ci gu cu ni nu : Nat) (ca cb : Array Value) (vt : Value) (img : List Int) (used : List Bool) : Prop where
 below : Below w1.heap.size w1 w
 hi : w.heap[pi]? = some (.cells #[.slice (some ⟨gi, 0, none⟩) ni ci] 37 (0, 0))
 hu : w.heap[pu]? = some (.cells #[.slice (some ⟨gu, 0, none⟩) nu cu] 53 (0, 0))
 ha : w.heap[pa]? = some (.cells ca 25 (0, 0))
 hb : w.heap[pb]? = some (.cells cb 25 (0, 0))
 ht : w.heap[pt]? = some (.cells #[vt] 37 (0, 0))
 hv : w.heap[pv]? = some (.cells #[.func (.func 28) #[] #[.pointer (some ⟨pi, 0, none⟩), .pointer (some ⟨pu, 0, none⟩), .pointer (some ⟨pa, 0, none⟩), .pointer (some ⟨pb, 0, none⟩), .pointer (some ⟨pt, 0, none⟩), .pointer (some ⟨pv, 0, none⟩)]] 54 (0, 0))
 ri : (Kd.int .i64).R 3 w w1.heap.size (fun _ => True) (.slice (some ⟨gi, 0, none⟩) ni ci) img
 ru : Kd.bool.R 4 w w1.heap.size (fun _ => True) (.slice (some ⟨gu, 0, none⟩) nu cu) used
 li : img.length = ni
 lu : used.length = nu
theorem IS.step {w1 w w' : World} {pi pu pa pb pt pv gi ci gu cu ni nu : Nat} {ca cb : Array Value} {vt : Value} {img : List Int} {used : List Bool} (h : IS w1 w pi pu pa pb pt pv gi ci gu cu ni nu ca cb vt img used) (b : Below w.heap.size w w') : IS w1 w' pi pu pa pb pt pv gi ci gu cu ni nu ca cb vt img used :=
 ⟨below_step h.below b, blk_below h.hi b, blk_below h.hu b, blk_below h.ha b, blk_below h.hb b, blk_below h.ht b, blk_below h.hv b, Kd.R_below h.ri b, Kd.R_below h.ru b, h.li, h.lu⟩
theorem IS.own {w1 w : World} {pi pu pa pb pt pv gi ci gu cu ni nu : Nat} {ca cb : Array Value} {vt : Value} {img : List Int} {used : List Bool} (h : IS w1 w pi pu pa pb pt pv gi ci gu cu ni nu ca cb vt img used) : (∃ cs, w.heap[gi]? = some (.cells cs 3 (0, 0))) ∧ ∃ cs, w.heap[gu]? = some (.cells cs 4 (0, 0)) := by
 obtain ⟨i1, o1⟩ := Kd.R_own h.ri
 obtain ⟨i2, o2⟩ := Kd.R_own h.ru
 exact ⟨own_typed o1 gi rfl, own_typed o2 gu rfl⟩
theorem IS.base {w1 w : World} {pi pu pa pb pt pv gi ci gu cu ni nu : Nat} {ca cb : Array Value} {vt : Value} {img : List Int} {used : List Bool} (h : IS w1 w pi pu pa pb pt pv gi ci gu cu ni nu ca cb vt img used) (n1 : 0 < ni) (n2 : 0 < nu) : w1.heap.size ≤ gi ∧ w1.heap.size ≤ gu := by
 obtain ⟨g, c, e, hb, _⟩ := Kd.R_form h.ri (by rw [h.li]; exact n1)
 obtain ⟨g', c', e', hb', _⟩ := Kd.R_form h.ru (by rw [h.lu]; exact n2)
 injection e with e
 injection e' with e'
 injection e with e
 injection e' with e'
 injection e with e
 injection e' with e'
 subst e
 subst e'
 exact ⟨hb, hb'⟩
theorem IS.seti {w1 w : World} {pi pu pa pb pt pv gi ci gu cu ni nu : Nat} {ca cb : Array Value} {vt : Value} {img : List Int} {used : List Bool} (h : IS w1 w pi pu pa pb pt pv gi ci gu cu ni nu ca cb vt img used) (g1 : w1.heap.size ≤ gi) (s t : Int) : IS w1 (w.setCell ⟨gi, s.toNat, none⟩ (.int .i64 t)) pi pu pa pb pt pv gi ci gu cu ni nu ca cb vt (img.set s.toNat t) used := by
 obtain ⟨⟨c1, o1⟩, c2, o2⟩ := h.own
 exact ⟨below_set h.below g1, blk_far h.hi (blk_ne h.hi o1 (by decide)) _, blk_far h.hu (blk_ne h.hu o1 (by decide)) _, blk_far h.ha (blk_ne h.ha o1 (by decide)) _, blk_far h.hb (blk_ne h.hb o1 (by decide)) _, blk_far h.ht (blk_ne h.ht o1 (by decide)) _, blk_far h.hv (blk_ne h.hv o1 (by decide)) _, Kd.R_putn h.ri s t, Kd.R_set h.ru o1 (by decide) _ _, by rw [List.length_set]; exact h.li, h.lu⟩
theorem IS.setu {w1 w : World} {pi pu pa pb pt pv gi ci gu cu ni nu : Nat} {ca cb : Array Value} {vt : Value} {img : List Int} {used : List Bool} (h : IS w1 w pi pu pa pb pt pv gi ci gu cu ni nu ca cb vt img used) (g1 : w1.heap.size ≤ gu) (t : Int) : IS w1 (w.setCell ⟨gu, t.toNat, none⟩ (.bool true)) pi pu pa pb pt pv gi ci gu cu ni nu ca cb vt img (used.set t.toNat true) := by
 obtain ⟨⟨c1, o1⟩, c2, o2⟩ := h.own
 exact ⟨below_set h.below g1, blk_far h.hi (blk_ne h.hi o2 (by decide)) _, blk_far h.hu (blk_ne h.hu o2 (by decide)) _, blk_far h.ha (blk_ne h.ha o2 (by decide)) _, blk_far h.hb (blk_ne h.hb o2 (by decide)) _, blk_far h.ht (blk_ne h.ht o2 (by decide)) _, blk_far h.hv (blk_ne h.hv o2 (by decide)) _, Kd.R_set h.ri o2 (by decide) _ _, Kd.R_putn h.ru t true, h.li, by rw [List.length_set]; exact h.lu⟩

set_option maxHeartbeats 4000000 in
set_option maxRecDepth 1000000 in
theorem Iso_lit.calls {w1 : World} {pi pu pa pb pt pv gi ci gu cu ni nu : Nat} (a0 : Int) (vA1 : Value) (A2 : Option Addr) (c2 : Nat) (la2 : List S46) (b0 : Int) (B1 : Option Addr) (d1 : Nat) (lb1 : List ByteArray) (B2 : Option Addr) (d2 : Nat) (lb2 : List S46) (T : Option Addr) (ct : Nat) (tob : List Int)
  (hra : Kd.C k46 w1 A2 la2.length la2) (hrb1 : Kd.C Kd.string w1 B1 lb1.length lb1) (hcb1 : lb1.length ≤ d1) (hrb2 : Kd.C k46 w1 B2 lb2.length lb2) (hcb2 : lb2.length ≤ d2) (hrt : Kd.C (Kd.int .i64) w1 T tob.length tob) :
  ∀ (k : Nat) (s t : Int) (w : World) (img img' : List Int) (used used' : List Bool) (r : Bool), IS w1 w pi pu pa pb pt pv gi ci gu cu ni nu #[.int .i64 a0, vA1, .slice A2 la2.length c2] #[.int .i64 b0, .slice B1 lb1.length d1, .slice B2 lb2.length d2] (.slice T tob.length ct) img used → isoV b0 lb1 la2 lb2 tob k img used s t = some (r, img', used') →
  Calls Tryd.prog 28 #[.int .i64 s, .int .i64 t, .pointer (some ⟨pi, 0, none⟩), .pointer (some ⟨pu, 0, none⟩), .pointer (some ⟨pa, 0, none⟩), .pointer (some ⟨pb, 0, none⟩), .pointer (some ⟨pt, 0, none⟩), .pointer (some ⟨pv, 0, none⟩)] w fun e w' => e = .returned (.bool r) ∧ IS w1 w' pi pu pa pb pt pv gi ci gu cu ni nu #[.int .i64 a0, vA1, .slice A2 la2.length c2] #[.int .i64 b0, .slice B1 lb1.length d1, .slice B2 lb2.length d2] (.slice T tob.length ct) img' used' := by
 have hv30 := Tryd.underlying30
 intro k
 have HRA := Aside0.mk hra; have HRB1 := Aside0.mk hrb1; have HCB1 := Aside0.mk hcb1; have HRB2 := Aside0.mk hrb2; have HCB2 := Aside0.mk hcb2; have HRT := Aside0.mk hrt; clear hra hrb1 hcb1 hrb2 hcb2 hrt
 induction k with
 | zero => intro s t w img img' used used' r hs h; simp [isoV] at h
 | succ k ih =>
  intro s t w img img' used used' r hs h
  have IH := Aside0.mk ih; have HS := Aside0.mk hs; clear ih hs; have hu25 := Tryd.underlying25; have hu44 := Tryd.underlying46; rw [isoV] at h
  by_cases c1 : 0 ≤ s ∧ s < (img.length : Int)
  rotate_left
  ·rw [if_neg c1] at h; simp at h
  rw [if_pos c1] at h; have hsn : s < (ni : Int) := by have := HS.out.li; omega
  have hzi : w.cell? ⟨pi, 0, none⟩ = some (.slice (some ⟨gi, 0, none⟩) ni ci) := (blk_cell HS.out.hi 0).trans rfl; have hxs : w.cell? ⟨gi, s.toNat, none⟩ = some (.int .i64 (rd img s)) := (Kd.R_celln (0 : Int) HS.out.ri s c1.1 hsn).1; have p1 := eq_true c1.1; have q1 := eq_true hsn
  generalize hz : rd img s = z at *
  have HZ := Aside0.mk hz; clear hz
  by_cases cz : 0 ≤ z
  ·rw [if_pos cz] at h; obtain ⟨e1, e2⟩ := Prod.mk.inj (Option.some.inj h); obtain ⟨rfl, rfl⟩ := Prod.mk.inj e2; subst e1; have k1 : decide (0 ≤ z) = true := decide_eq_true cz; have k2 : decide (z ≥ 0) = true := decide_eq_true cz; clear h c1 hsn
   go_enter Tryd.func28, Tryd.ntmps28
   go_wp2
   go_ret
   exact ⟨by first | rfl | (simp; done) | (congr), HS.out⟩
  rw [if_neg cz] at h; have k1 : decide (0 ≤ z) = false := decide_eq_false cz; have k2 : decide (z ≥ 0) = false := decide_eq_false cz
  by_cases c3 : 0 ≤ t ∧ t < (used.length : Int)
  rotate_left
  ·rw [if_neg c3] at h; simp at h
  rw [if_pos c3] at h; have htn : t < (nu : Int) := by have := HS.out.lu; omega
  have hzu : w.cell? ⟨pu, 0, none⟩ = some (.slice (some ⟨gu, 0, none⟩) nu cu) := (blk_cell HS.out.hu 0).trans rfl; have hxt : w.cell? ⟨gu, t.toNat, none⟩ = some (.bool (rdOf false used t)) := (Kd.R_celln false HS.out.ru t c3.1 htn).1; have p3 := eq_true c3.1; have q3 := eq_true htn
  by_cases c4 : rdOf false used t = true
  ·rw [if_pos c4] at h; rw [c4] at hxt; obtain ⟨e1, e2⟩ := Prod.mk.inj (Option.some.inj h); obtain ⟨rfl, rfl⟩ := Prod.mk.inj e2; subst e1; clear h c1 c3 hsn htn
   go_enter Tryd.func28, Tryd.ntmps28
   go_wp2
   go_ret
   exact ⟨rfl, HS.out⟩
  rw [if_neg c4] at h; have c4' : rdOf false used t = false := Bool.eq_false_iff.mpr c4; rw [c4'] at hxt; have hfs : w.frozen? ⟨gi, s.toNat, none⟩ = false := (Kd.R_celln (0 : Int) HS.out.ri s c1.1 hsn).2; have hft : w.frozen? ⟨gu, t.toNat, none⟩ = false := (Kd.R_celln false HS.out.ru t c3.1 htn).2; have H := Aside0.mk h; obtain ⟨g1, g2⟩ := HS.out.base (by omega) (by omega); have hs2 := HS.out.seti g1 s t; have hxt2 : (w.setCell ⟨gi, s.toNat, none⟩ (.int .i64 t)).cell? ⟨gu, t.toNat, none⟩ = some (.bool (rdOf false used t)) := (Kd.R_celln false hs2.ru t c3.1 htn).1; rw [c4'] at hxt2; have hft2 : (w.setCell ⟨gi, s.toNat, none⟩ (.int .i64 t)).frozen? ⟨gu, t.toNat, none⟩ = false := (Kd.R_celln false hs2.ru t c3.1 htn).2; have hzu2 : (w.setCell ⟨gi, s.toNat, none⟩ (.int .i64 t)).cell? ⟨pu, 0, none⟩ = some (.slice (some ⟨gu, 0, none⟩) nu cu) := (blk_cell hs2.hu 0).trans rfl; have HS3 := Aside0.mk (hs2.setu g2 t); have G1 := Aside0.mk g1; have G2 := Aside0.mk g2; clear h c1 c3 hsn htn g1 g2 hs2
  go_enter Tryd.func28, Tryd.ntmps28
  go_wp2
  go_region
  have HS4 := Aside0.mk (HS3.out.step (below_drew1 (Below.refl _ _))); clear HS3 hzi hxs hzu hxt hfs hft hxt2 hft2 hzu2
  generalize ((w.setCell ⟨gi, s.toNat, none⟩ (.int .i64 t)).setCell ⟨gu, t.toNat, none⟩ (.bool true)).drew = W4 at HS4 ⊢
  have hza2 : W4.cell? ⟨pa, 2, none⟩ = some (.slice A2 la2.length c2) := (blk_cell HS4.out.ha 2).trans rfl
  go_wp2
  go_loopw [39] (fun n w' => ∃ (i : Nat) (img2 : List Int) (used2 : List Bool), n = .int .i64 i ∧ i ≤ la2.length ∧ Aside0 (IS w1 w' pi pu pa pb pt pv gi ci gu cu ni nu #[.int .i64 a0, vA1, .slice A2 la2.length c2] #[.int .i64 b0, .slice B1 lb1.length d1, .slice B2 lb2.length d2] (.slice T tob.length ct) img2 used2) ∧ Aside0 (isoL (isoV b0 lb1 la2 lb2 tob k) (fun t e => system_next.f k b0 lb1 lb2 t e) tob s t (la2.drop i) img2 used2 = some (r, img', used'))) (fun n _ => la2.length - (intOf n).toNat)
  case atStart => exact ⟨0, _, _, rfl, Nat.zero_le _, HS4, H⟩
  case round =>
   clear hza2 HS4 H; obtain ⟨i, img2, used2, rfl, hi, HS5, H5⟩ := hrel
   by_cases hlt : i < la2.length
   rotate_left
   ·have h1 := H5.out; rw [List.drop_eq_nil_of_le (by omega), isoL] at h1; obtain ⟨e1, e2⟩ := Prod.mk.inj (Option.some.inj h1); obtain ⟨rfl, rfl⟩ := Prod.mk.inj e2; subst e1; clear h1 H5; have k5 : decide ((i : Int) < (la2.length : Int)) = false := decide_eq_false (by omega)
    go_wp2
    go_ret
    exact ⟨rfl, HS5.out⟩
   have h1 := H5.out; rw [List.drop_eq_getElem_cons hlt, isoL] at h1; have hrd : rd_T46 la2 (i : Int) = la2[i] := by unfold rd_T46; rw [Int.toNat_natCast, List.getD_eq_getElem?_getD, List.getElem?_eq_getElem hlt]; rfl
   obtain ⟨ad, e1, hx0, hx1, hx2⟩ := at_T46 HRA.out (i : Int) (by omega) (by omega); obtain rfl : A2 = some ad := e1; rw [hrd, Int.toNat_natCast] at hx0 hx1 hx2; clear hrd; have HLA := Aside0.mk HRA.out.2.1
   generalize la2[i] = x at *
   obtain ⟨f0, f1, f2⟩ := x; replace hx0 : w1.cell? (ad.add (i * 3)) = some (.int .i64 f0) := hx0; replace hx1 : w1.cell? ⟨(ad.add (i * 3)).block, (ad.add (i * 3)).off + 1, none⟩ = some (.int .i64 f1) := hx1; replace hx2 : w1.cell? ⟨(ad.add (i * 3)).block, (ad.add (i * 3)).off + 2, none⟩ = some (.int .i64 f2) := hx2; replace hx0 := (HS5.out.below.cell (World.block_lt_of_cell? _ _ hx0)).trans hx0; replace hx1 := (HS5.out.below.cell (World.block_lt_of_cell? _ _ hx1)).trans hx1; replace hx2 := (HS5.out.below.cell (World.block_lt_of_cell? _ _ hx2)).trans hx2; have k5 : decide ((i : Int) < (la2.length : Int)) = true := decide_eq_true (by omega)
   by_cases c6 : f0 = s
   rotate_left
   ·rw [if_neg c6] at h1; have H6 := Aside0.mk h1; clear h1 H5; have k6 : (f0 == s) = false := beq_eq_false_iff_ne.mpr c6; have k7 : (f0 != s) = true := bne_iff_ne.mpr c6
    go_wp2_with (first | ((with_reducible refine gate_dst (N := 12) rfl ?_); refine sq_box 12 #[.int .i64 0, .int .i64 0, .int .i64 0] 46 ?_; intro gx hg wB hbox hb; have HG := Aside0.mk (Nat.le_of_eq hg.symm); have HBX := Aside0.mk hbox; have HBB := Aside0.mk hb; clear hg hbox hb; have hcz0 : wB.cell? ⟨gx, 0, none⟩ = some (.int .i64 0) := tq_q HBX 0; have hcz1 : wB.cell? ⟨gx, 1, none⟩ = some (.int .i64 0) := tq_q HBX 1; have hcz2 : wB.cell? ⟨gx, 2, none⟩ = some (.int .i64 0) := tq_q HBX 2; have hfz0 := blk_frozen HBX.out 0; have hfz1 := blk_frozen HBX.out 1; have hfz2 := blk_frozen HBX.out 2))
    have hw : wrap64 ((i : Int) + 1) = ((i + 1 : Nat) : Int) := by have := HLA.out; unfold wrap64; omega
    exact ⟨⟨i + 1, img2, used2, by rw [hw], hlt, ⟨HS5.out.step (below_set (below_set (below_set HBB.out HG.out) HG.out) HG.out)⟩, H6⟩, by rw [hw]; exact meas_lt _ _ hlt⟩
   rw [if_pos c6] at h1
   by_cases c7 : 0 ≤ f1 ∧ f1 < (tob.length : Int)
   rotate_left
   ·rw [if_neg c7] at h1; simp at h1
   rw [if_pos c7] at h1; obtain ⟨q, hq, h2⟩ := Option.bind_eq_some_iff.mp h1; obtain ⟨aT, eT, hxT0⟩ := Kd.at_int HRT.out f1 c7.1 c7.2; obtain rfl : T = some aT := eT; have HXT := Aside0.mk hxT0; have HQ := Aside0.mk hq; have H6 := Aside0.mk h2; clear h1 h2 hq H5 hxT0
   generalize rd tob f1 = m at HXT HQ
   have k6 : (f0 == s) = true := beq_iff_eq.mpr c6; have k7 : (f0 != s) = false := bne_eq_false_iff_eq.mpr c6; clear c6
   go_wp2_with (first | ((with_reducible refine gate_dst (N := 12) rfl ?_); refine sq_box 12 #[.int .i64 0, .int .i64 0, .int .i64 0] 46 ?_; intro gx hg wB hbox hb; have HG := Aside0.mk (Nat.le_of_eq hg.symm); have HBX := Aside0.mk hbox; have HBB := Aside0.mk hb; clear hg hbox hb; have hcz0 : wB.cell? ⟨gx, 0, none⟩ = some (.int .i64 0) := tq_q HBX 0; have hcz1 : wB.cell? ⟨gx, 1, none⟩ = some (.int .i64 0) := tq_q HBX 1; have hcz2 : wB.cell? ⟨gx, 2, none⟩ = some (.int .i64 0) := tq_q HBX 2; have hfz0 := blk_frozen HBX.out 0; have hfz1 := blk_frozen HBX.out 1; have hfz2 := blk_frozen HBX.out 2))
   have hs6 := HS5.out.step (below_set (j := 2) (v := .int .i64 f2) (below_set (j := 1) (v := .int .i64 f1) (below_set (j := 0) (v := .int .i64 f0) HBB.out HG.out) HG.out) HG.out); have hbx := blk_put (blk_put (blk_put HBX.out 0 (.int .i64 f0) rfl) 1 (.int .i64 f1) rfl) 2 (.int .i64 f2) rfl; clear hcz0 hcz1 hcz2 hfz0 hfz1 hfz2 hx0 hx1 hx2 HBX HBB HG HS5
   generalize ((wB.setCell ⟨gx, 0, none⟩ (.int .i64 f0)).setCell ⟨gx, 1, none⟩ (.int .i64 f1)).setCell ⟨gx, 2, none⟩ (.int .i64 f2) = W6 at hs6 hbx ⊢
   have HS6 := Aside0.mk (hs6.step (below_drew1 (Below.refl _ _))); have HBX6 := Aside0.mk (blk_drew hbx); clear hs6 hbx; obtain ⟨p7, q7⟩ := c7; replace p7 := eq_true p7; replace q7 := eq_true q7; refine start_ (n := 9) (S := fun w' => w'.cell? ⟨pb, 0, none⟩ = some (.int .i64 b0) ∧ w'.cell? ⟨pb, 1, none⟩ = some (.slice B1 lb1.length d1) ∧ w'.cell? ⟨pb, 2, none⟩ = some (.slice B2 lb2.length d2) ∧ w'.cell? ⟨pt, 0, none⟩ = some (.slice (some aT) tob.length ct) ∧ w'.cell? ⟨gx, 1, none⟩ = some (.int .i64 f1) ∧ w'.cell? (aT.add f1.toNat) = some (.int .i64 m)) (ds := []) #[false, false, false, false, false, false, false, false, false] (by kernel_rfl) rfl rfl ⟨(blk_cell HS6.out.hb 0).trans rfl, (blk_cell HS6.out.hb 1).trans rfl, (blk_cell HS6.out.hb 2).trans rfl, (blk_cell HS6.out.ht 0).trans rfl, tq_q HBX6 1, (HS6.out.below.cell (World.block_lt_of_cell? _ _ HXT.out)).trans HXT.out⟩ (fun hHeld => ?_)
   generalize W6.drew = W7 at HS6 HBX6 hHeld ⊢
   refine pure_ (i := 1) (N := some 48) (v := ?_) (a' := ?_) (sqm 9 2) rfl rfl (by kernel_rfl) (fun _ _ _ h => h) (Or.inl ⟨by rfl, ?_⟩) ?_ ?_; rotate_left
   ·intro w'
    go_simp
    with_reducible rfl
   rotate_left
   ·simp only [Act.put, List.setIfInBounds_toArray, List.set_cons_zero, List.set_cons_succ, i64_w, i32_w]
    rfl
   refine pure_ (i := 3) (N := some 50) (v := ?_) (a' := ?_) (sqm 9 10) rfl rfl (by kernel_rfl) (fun _ _ _ h => h) (Or.inl ⟨by rfl, ?_⟩) ?_ ?_; rotate_left
   ·intro w'
    go_simp
    with_reducible rfl
   rotate_left
   ·simp only [Act.put, List.setIfInBounds_toArray, List.set_cons_zero, List.set_cons_succ, i64_w, i32_w]
    rfl
   refine take_ (i := 0) (N := some 47) (v := ?_) (a' := ?_) (sqm 9 11) rfl rfl (by kernel_rfl) (fun _ _ _ h => h) (Or.inl ⟨by rfl, ?_⟩) hHeld ?_ ?_; rotate_left
   ·rintro w' ⟨s0, s1, s2, s3, s4, s5⟩
    go_simp
    with_reducible rfl
   rotate_left
   ·simp only [Act.put, List.setIfInBounds_toArray, List.set_cons_zero, List.set_cons_succ, i64_w, i32_w]
    rfl
   refine take_ (i := 2) (N := some 49) (v := ?_) (a' := ?_) (sqm 9 15) rfl rfl (by kernel_rfl) (fun _ _ _ h => h) (Or.inl ⟨by rfl, ?_⟩) hHeld ?_ ?_; rotate_left
   ·rintro w' ⟨s0, s1, s2, s3, s4, s5⟩
    go_simp
    with_reducible rfl
   rotate_left
   ·simp only [Act.put, List.setIfInBounds_toArray, List.set_cons_zero, List.set_cons_succ, i64_w, i32_w]
    rfl
   refine take_ (i := 4) (N := some 51) (v := ?_) (a' := ?_) (sqm 9 31) rfl rfl (by kernel_rfl) (fun _ _ _ h => h) (Or.inl ⟨by rfl, ?_⟩) hHeld ?_ ?_; rotate_left
   ·rintro w' ⟨s0, s1, s2, s3, s4, s5⟩
    go_simp
    with_reducible rfl
   rotate_left
   ·simp only [Act.put, List.setIfInBounds_toArray, List.set_cons_zero, List.set_cons_succ, i64_w, i32_w]
    rfl
   refine pure_ (i := 5) (N := some 52) (v := ?_) (a' := ?_) (sqm 9 63) rfl rfl (by kernel_rfl) (fun _ _ _ h => h) (Or.inl ⟨by rfl, ?_⟩) ?_ ?_; rotate_left
   ·intro w'
    go_simp
    with_reducible rfl
   rotate_left
   ·simp only [Act.put, List.setIfInBounds_toArray, List.set_cons_zero, List.set_cons_succ, i64_w, i32_w]
    rfl
   refine take_ (i := 6) (N := some 53) (v := ?_) (a' := ?_) (sqm 9 127) rfl rfl (by kernel_rfl) (fun _ _ _ h => h) (Or.inl ⟨by rfl, ?_⟩) hHeld ?_ ?_; rotate_left
   ·rintro w' ⟨s0, s1, s2, s3, s4, s5⟩
    go_simp
    with_reducible rfl
   rotate_left
   ·simp only [Act.put, List.setIfInBounds_toArray, List.set_cons_zero, List.set_cons_succ, i64_w, i32_w]
    rfl
   refine one_ (i := 7) (N := some 54) (sqm 9 255) rfl rfl (by kernel_rfl) (by decide) (fun K hK => ?_); refine goes_ Tryd.func29 (by kernel_rfl) rfl #[.agg #[.int .i64 b0, .slice B1 lb1.length d1, .slice B2 lb2.length d2], .int .i64 t, .int .i64 m] (by rfl) rfl rfl (by (try simp only [List.map_toArray, List.map_cons, List.map_nil]); first | done | rfl) ?_; refine (system_next.calls k b0 _ _ lb1 _ _ lb2 t m q _ (Kd.C_below HRB1.out HS6.out.below) HCB1.out (Kd.C_below HRB2.out HS6.out.below) HCB2.out HQ.out).mono ?_
   rintro e w' ⟨rfl, hb7⟩
   refine ⟨_, rfl, ?_⟩; have HS8 := Aside0.mk (HS6.out.step hb7); have HBX8 := Aside0.mk (blk_below HBX6.out hb7); clear hb7 HS6 HBX6 HQ hHeld; refine hK.out _ _ ⟨(blk_cell HS8.out.hb 0).trans rfl, (blk_cell HS8.out.hb 1).trans rfl, (blk_cell HS8.out.hb 2).trans rfl, (blk_cell HS8.out.ht 0).trans rfl, tq_q HBX8 1, (HS8.out.below.cell (World.block_lt_of_cell? _ _ HXT.out)).trans HXT.out⟩ (fun hHeld => ?_); clear hK K; refine norm_ (a' := ?_) ?_ ?_; rotate_left
   ·show Act.put _ (some 54) _ = _
    simp only [Act.put, List.setIfInBounds_toArray, List.set_cons_zero, List.set_cons_succ, i64_w, i32_w]
    rfl
   refine pure_ (i := 8) (N := some 13) (v := ?_) (a' := ?_) (sqm 9 511) rfl rfl (by kernel_rfl) (fun _ _ _ h => h) (Or.inl ⟨by rfl, ?_⟩) ?_ ?_; rotate_left
   ·intro w'
    go_simp
    with_reducible rfl
   rotate_left
   ·simp only [Act.put, List.setIfInBounds_toArray, List.set_cons_zero, List.set_cons_succ, i64_w, i32_w]
    rfl
   refine done_ (by kernel_rfl) ?_; clear hHeld; have hzv : w'.cell? ⟨pv, 0, none⟩ = some (.func (.func 28) #[] #[.pointer (some ⟨pi, 0, none⟩), .pointer (some ⟨pu, 0, none⟩), .pointer (some ⟨pa, 0, none⟩), .pointer (some ⟨pb, 0, none⟩), .pointer (some ⟨pt, 0, none⟩), .pointer (some ⟨pv, 0, none⟩)]) := (blk_cell HS8.out.hv 0).trans rfl; have hzx : w'.cell? ⟨gx, 2, none⟩ = some (.int .i64 f2) := tq_q HBX8 2
   by_cases c8 : q < 0
   ·have h2 := H6.out; rw [if_pos c8] at h2; obtain ⟨e1, e2⟩ := Prod.mk.inj (Option.some.inj h2); obtain ⟨rfl, rfl⟩ := Prod.mk.inj e2; subst e1; clear h2 H6; have k8 : decide (q < 0) = true := decide_eq_true c8
    go_wp2
    go_ret
    exact ⟨rfl, HS8.out⟩
   have h2 := H6.out; rw [if_neg c8] at h2; obtain ⟨⟨r3, img3, used3⟩, hv3, h3⟩ := Option.bind_eq_some_iff.mp h2; have HV := Aside0.mk hv3; have H7 := Aside0.mk h3; clear h2 h3 hv3 H6; have k8 : decide (q < 0) = false := decide_eq_false c8
   cases r3 with
   | false =>
    have h3 := H7.out; rw [if_neg (show ¬ (false = true) by decide)] at h3; obtain ⟨e1, e2⟩ := Prod.mk.inj (Option.some.inj h3); obtain ⟨rfl, rfl⟩ := Prod.mk.inj e2; subst e1; clear h3 H7
    go_wp2_with (first | ((with_reducible refine gate_calleeV 28 rfl ?_); refine gate_guard (by rfl) ?_; dsimp only; refine goesC_ (some 62) rfl rfl #[.pointer (some ⟨pi, 0, none⟩), .pointer (some ⟨pu, 0, none⟩), .pointer (some ⟨pa, 0, none⟩), .pointer (some ⟨pb, 0, none⟩), .pointer (some ⟨pt, 0, none⟩), .pointer (some ⟨pv, 0, none⟩)] Tryd.func28 (by kernel_rfl) rfl #[.int .i64 f2, .int .i64 q] #[.int .i64 f2, .int .i64 q, .pointer (some ⟨pi, 0, none⟩), .pointer (some ⟨pu, 0, none⟩), .pointer (some ⟨pa, 0, none⟩), .pointer (some ⟨pb, 0, none⟩), .pointer (some ⟨pt, 0, none⟩), .pointer (some ⟨pv, 0, none⟩)] rfl (by (try simp only [List.map_toArray, List.map_cons, List.map_nil]); first | done | rfl) rfl rfl ?_; refine (IH.out f2 q _ img2 img3 used2 used3 _ HS8.out HV.out).mono ?_; rintro e w9 ⟨rfl, hs9⟩; refine ⟨_, rfl, ?_⟩; have HS9 := Aside0.mk hs9; clear hs9))
    go_ret
    exact ⟨rfl, HS9.out⟩
   | true =>
    have h3 := H7.out; rw [if_pos rfl] at h3; have H8 := Aside0.mk h3; clear h3 H7
    go_wp2_with (first | ((with_reducible refine gate_calleeV 28 rfl ?_); refine gate_guard (by rfl) ?_; dsimp only; refine goesC_ (some 62) rfl rfl #[.pointer (some ⟨pi, 0, none⟩), .pointer (some ⟨pu, 0, none⟩), .pointer (some ⟨pa, 0, none⟩), .pointer (some ⟨pb, 0, none⟩), .pointer (some ⟨pt, 0, none⟩), .pointer (some ⟨pv, 0, none⟩)] Tryd.func28 (by kernel_rfl) rfl #[.int .i64 f2, .int .i64 q] #[.int .i64 f2, .int .i64 q, .pointer (some ⟨pi, 0, none⟩), .pointer (some ⟨pu, 0, none⟩), .pointer (some ⟨pa, 0, none⟩), .pointer (some ⟨pb, 0, none⟩), .pointer (some ⟨pt, 0, none⟩), .pointer (some ⟨pv, 0, none⟩)] rfl (by (try simp only [List.map_toArray, List.map_cons, List.map_nil]); first | done | rfl) rfl rfl ?_; refine (IH.out f2 q _ img2 img3 used2 used3 _ HS8.out HV.out).mono ?_; rintro e w9 ⟨rfl, hs9⟩; refine ⟨_, rfl, ?_⟩; have HS9 := Aside0.mk hs9; clear hs9))
    have hw : wrap64 ((i : Int) + 1) = ((i + 1 : Nat) : Int) := by have := HLA.out; unfold wrap64; omega
    exact ⟨⟨i + 1, img3, used3, by rw [hw], hlt, HS9, H8⟩, by rw [hw]; exact meas_lt _ _ hlt⟩
/-- The two boxes. -/
structure AB (w w' : World) (pa pb : Nat) (ca cb : Array Value) : Prop where
 below : Below w.heap.size w w'
 ha : w'.heap[pa]? = some (.cells ca 25 (0, 0))
 hb : w'.heap[pb]? = some (.cells cb 25 (0, 0))
theorem AB.step {w w' w2 : World} {pa pb : Nat} {ca cb : Array Value} (h : AB w w' pa pb ca cb) (b : Below w'.heap.size w' w2) : AB w w2 pa pb ca cb := ⟨below_step h.below b, blk_below h.ha b, blk_below h.hb b⟩

structure FS (w1 w : World) (pi pu pa pb pt gi ci gu cu ni nu : Nat) (ca cb : Array Value) (vt : Value) (img : List Int) (used : List Bool) : Prop where
 below : Below w1.heap.size w1 w
 hi : w.heap[pi]? = some (.cells #[.slice (some ⟨gi, 0, none⟩) ni ci] 37 (0, 0))
 hu : w.heap[pu]? = some (.cells #[.slice (some ⟨gu, 0, none⟩) nu cu] 53 (0, 0))
 ha : w.heap[pa]? = some (.cells ca 25 (0, 0))
 hb : w.heap[pb]? = some (.cells cb 25 (0, 0))
 ht : w.heap[pt]? = some (.cells #[vt] 37 (0, 0))
 ri : (Kd.int .i64).R 3 w w1.heap.size (fun _ => True) (.slice (some ⟨gi, 0, none⟩) ni ci) img
 ru : Kd.bool.R 4 w w1.heap.size (fun _ => True) (.slice (some ⟨gu, 0, none⟩) nu cu) used
 li : img.length = ni
 lu : used.length = nu
theorem FS.seti {w1 w : World} {pi pu pa pb pt gi ci gu cu ni nu : Nat} {ca cb : Array Value} {vt : Value} {img : List Int} {used : List Bool} (h : FS w1 w pi pu pa pb pt gi ci gu cu ni nu ca cb vt img used) (n1 : 0 < ni) (s t : Int) : FS w1 (w.setCell ⟨gi, s.toNat, none⟩ (.int .i64 t)) pi pu pa pb pt gi ci gu cu ni nu ca cb vt (img.set s.toNat t) used := by
 obtain ⟨i1, q1⟩ := Kd.R_own h.ri
 obtain ⟨c1, o1⟩ := own_typed q1 gi rfl
 obtain ⟨g, c, e, hb, _⟩ := Kd.R_form h.ri (by rw [h.li]; exact n1)
 injection e with e
 injection e with e
 injection e with e
 subst e
 exact ⟨below_set h.below hb, blk_far h.hi (blk_ne h.hi o1 (by decide)) _, blk_far h.hu (blk_ne h.hu o1 (by decide)) _, blk_far h.ha (blk_ne h.ha o1 (by decide)) _, blk_far h.hb (blk_ne h.hb o1 (by decide)) _, blk_far h.ht (blk_ne h.ht o1 (by decide)) _, Kd.R_putn h.ri s t, Kd.R_set h.ru o1 (by decide) _ _, by rw [List.length_set]; exact h.li, h.lu⟩
theorem FS.close {w1 w w' : World} {pi pu pa pb pt pv gi ci gu cu ni nu : Nat} {ca cb : Array Value} {vt : Value} {img : List Int} {used : List Bool} (h : FS w1 w pi pu pa pb pt gi ci gu cu ni nu ca cb vt img used) (b : Below w.heap.size w w')
  (hv : w'.heap[pv]? = some (.cells #[.func (.func 28) #[] #[.pointer (some ⟨pi, 0, none⟩), .pointer (some ⟨pu, 0, none⟩), .pointer (some ⟨pa, 0, none⟩), .pointer (some ⟨pb, 0, none⟩), .pointer (some ⟨pt, 0, none⟩), .pointer (some ⟨pv, 0, none⟩)]] 54 (0, 0))) : IS w1 w' pi pu pa pb pt pv gi ci gu cu ni nu ca cb vt img used :=
 ⟨below_step h.below b, blk_below h.hi b, blk_below h.hu b, blk_below h.ha b, blk_below h.hb b, blk_below h.ht b, hv, Kd.R_below h.ri b, Kd.R_below h.ru b, h.li, h.lu⟩
theorem isoV_pos {b0 : Int} {lb1 : List ByteArray} {la2 lb2 : List S46} {tob : List Int} {k n m : Nat} {q : Bool × List Int × List Bool} (h : isoV b0 lb1 la2 lb2 tob k (List.replicate n (-1)) (List.replicate m false) 0 0 = some q) : 0 < n ∧ 0 < m := by
 cases k with
 | zero => simp [isoV] at h
 | succ k =>
  rw [isoV] at h
  simp only [List.length_replicate] at h
  by_cases c1 : (0 : Int) ≤ 0 ∧ (0 : Int) < (n : Int)
  rotate_left
  ·rw [if_neg c1] at h; simp at h
  rw [if_pos c1] at h
  have hn : 0 < n := by omega
  have hr : ¬ 0 ≤ rd (List.replicate n (-1 : Int)) 0 := by
   unfold rd
   obtain ⟨n', rfl⟩ : ∃ n', n = n' + 1 := ⟨n - 1, by omega⟩
   simp [List.replicate_succ]
  rw [if_neg hr] at h
  by_cases c2 : (0 : Int) ≤ 0 ∧ (0 : Int) < (m : Int)
  rotate_left
  ·rw [if_neg c2] at h; simp at h
  exact ⟨hn, by omega⟩
theorem fill_step (n i : Nat) (h : i < n) : (List.replicate i (-1 : Int) ++ List.replicate (n - i) 0).set i (-1) = List.replicate (i + 1) (-1) ++ List.replicate (n - (i + 1)) 0 := by
 rw [List.set_append_right _ _ (by simp), List.length_replicate, Nat.sub_self, show n - i = (n - (i + 1)) + 1 by omega, List.replicate_succ, List.set_cons_zero, List.replicate_succ', List.append_assoc]
 rfl
theorem run_store_func_ (P : Program) (w : World) (a : Addr) (m : Mode) (f : Fn) (x y : Array Value) : (store a (.func f x y) m).run P w = stored P w a (.func f x y) m := run_store P w a _ m rfl
attribute [local go_sem] run_store_func_
set_option maxHeartbeats 4000000 in
set_option maxRecDepth 1000000 in
theorem system_Iso.deep (k n0 m0 : Nat) (A0_1 : Option Addr) (c0_1 : Nat) (l0_1 : List ByteArray) (A0_2 : Option Addr) (c0_2 : Nat) (l0_2 : List (S46)) (A1_1 : Option Addr) (c1_1 : Nat) (l1_1 : List ByteArray) (A1_2 : Option Addr) (c1_2 : Nat) (l1_2 : List (S46)) (r1 : List Int) (r2 : Bool) (w : World) (hr0_1 : Kd.C Kd.string w A0_1 l0_1.length l0_1) (hc0_1 : l0_1.length ≤ c0_1) (hr0_2 : Kd.C k46 w A0_2 l0_2.length l0_2) (hc0_2 : l0_2.length ≤ c0_2) (hr1_1 : Kd.C Kd.string w A1_1 l1_1.length l1_1) (hc1_1 : l1_1.length ≤ c1_1) (hr1_2 : Kd.C k46 w A1_2 l1_2.length l1_2) (hc1_2 : l1_2.length ≤ c1_2)
  (hd1 : system_Deterministic.f k (n0 : Int) l0_1 l0_2 = some true) (hd2 : system_Reachable.f k (n0 : Int) l0_1 l0_2 = some true) (hd3 : system_Deterministic.f k (m0 : Int) l1_1 l1_2 = some true) (hd4 : system_Reachable.f k (m0 : Int) l1_1 l1_2 = some true) (e5 : (n0 : Int) = (m0 : Int)) (e6 : l0_2.length = l1_2.length) (tob : List Int) (he : system_events.f k (n0 : Int) l0_1 l0_2 (m0 : Int) l1_1 l1_2 = some (tob, true)) (m1 : n0 ≤ 17592186044416) (m3 : m0 ≤ 17592186044416) (q1 : Bool) (q2 : List Int) (q3 : List Bool)
  (hq : isoV (m0 : Int) l1_1 l0_2 l1_2 tob k (List.replicate n0 (-1)) (List.replicate m0 false) 0 0 = some (q1, q2, q3)) (h : (if q1 = true then some (q2, true) else some ([], false)) = some (r1, r2)) :
  Calls Tryd.prog 12 #[.agg #[.int .i64 (n0 : Int), .slice A0_1 l0_1.length c0_1, .slice A0_2 l0_2.length c0_2], .agg #[.int .i64 (m0 : Int), .slice A1_1 l1_1.length c1_1, .slice A1_2 l1_2.length c1_2]] w fun e w' => ∃ v0_ : Value, e = .returned (.tuple #[v0_, .bool r2]) ∧ Kd.R (Kd.int .i64) 3 w' w.heap.size (fun _ => True) v0_ r1 ∧ Below w.heap.size w w' := by
 have hu25 := Tryd.underlying25; have HR0_1 := Aside0.mk hr0_1; have HC0_1 := Aside0.mk hc0_1; have HR0_2 := Aside0.mk hr0_2; have HC0_2 := Aside0.mk hc0_2; have HR1_1 := Aside0.mk hr1_1; have HC1_1 := Aside0.mk hc1_1; have HR1_2 := Aside0.mk hr1_2; have HC1_2 := Aside0.mk hc1_2; have HN := Aside0.mk (isoV_pos hq); have HD1 := Aside0.mk hd1; have HD2 := Aside0.mk hd2; have HD3 := Aside0.mk hd3; have HD4 := Aside0.mk hd4; have HE := Aside0.mk he; have HM1 := Aside0.mk m1; have HM3 := Aside0.mk m3; have HQ := Aside0.mk hq; have H := Aside0.mk h; have k5 : ((n0 : Int) == (m0 : Int)) = true := beq_iff_eq.mpr e5; have k6 : ((n0 : Int) != (m0 : Int)) = false := bne_eq_false_iff_eq.mpr e5; have k7 : ((l0_2.length : Int) == (l1_2.length : Int)) = true := beq_iff_eq.mpr (by omega); have k8 : ((l0_2.length : Int) != (l1_2.length : Int)) = false := bne_eq_false_iff_eq.mpr (by omega); have k9 : (l0_2.length == l1_2.length) = true := beq_iff_eq.mpr e6; have k10 : (l0_2.length != l1_2.length) = false := bne_eq_false_iff_eq.mpr e6; have k11 : (n0 == m0) = true := beq_iff_eq.mpr (by omega); have k12 : (n0 != m0) = false := bne_eq_false_iff_eq.mpr (by omega); clear hr0_1 hc0_1 hr0_2 hc0_2 hr1_1 hc1_1 hr1_2 hc1_2 hd1 hd2 hd3 hd4 he m1 m3 hq h e5 e6
 go_enter Tryd.func12, Tryd.ntmps12
 go_wp2_with (first | ((with_reducible refine gate_dst (N := 2) rfl ?_); refine sq_box 2 #[.int .i64 (n0 : Int), .slice A0_1 l0_1.length c0_1, .slice A0_2 l0_2.length c0_2] 25 ?_; intro pa hpa wa hba hbb; have HA := Aside0.mk hba; have HW := Aside0.mk hbb; clear hpa hba hbb) | ((with_reducible refine gate_dst (N := 3) rfl ?_); refine sq_box 3 #[.int .i64 (m0 : Int), .slice A1_1 l1_1.length c1_1, .slice A1_2 l1_2.length c1_2] 25 ?_; intro pb hpb wb hba hbb; have HAB := Aside0.mk (AB.mk (below_step HW.out hbb) (blk_below HA.out hbb) hba); clear hpb hba hbb; obtain ⟨hza0, hza1, hza2⟩ := tq_p3 (w := wb) HAB.out.ha; obtain ⟨hzb0, hzb1, hzb2⟩ := tq_p3 (w := wb) HAB.out.hb) | ((with_reducible refine gate_callee (f := 16) rfl ?_); refine sq_goes (some 13) Tryd.func16 #[.agg #[.int .i64 (n0 : Int), .slice A0_1 l0_1.length c0_1, .slice A0_2 l0_2.length c0_2]] ?_; refine (system_Deterministic.calls k (n0 : Int) _ _ l0_1 _ _ l0_2 true _ (Kd.C_below HR0_1.out HAB.out.below) HC0_1.out (Kd.C_below HR0_2.out HAB.out.below) HC0_2.out HD1.out).mono ?_; rintro e w3 ⟨rfl, hb⟩; refine ⟨_, rfl, ?_⟩; have HAB := Aside0.mk (HAB.out.step hb); clear hb; obtain ⟨hza0, hza1, hza2⟩ := tq_p3 (w := w3) HAB.out.ha; obtain ⟨hzb0, hzb1, hzb2⟩ := tq_p3 (w := w3) HAB.out.hb) | (go_at_call 17; (with_reducible refine (system_Reachable.calls k (n0 : Int) _ _ l0_1 _ _ l0_2 true _ (Kd.C_below HR0_1.out HAB.out.below) HC0_1.out (Kd.C_below HR0_2.out HAB.out.below) HC0_2.out HD2.out).mono ?_); rintro e w4 ⟨rfl, hb⟩; have HAB := Aside0.mk (HAB.out.step hb); clear hb; obtain ⟨hza0, hza1, hza2⟩ := tq_p3 (w := w4) HAB.out.ha; obtain ⟨hzb0, hzb1, hzb2⟩ := tq_p3 (w := w4) HAB.out.hb) | (go_at_call 16; (with_reducible refine (system_Deterministic.calls k (m0 : Int) _ _ l1_1 _ _ l1_2 true _ (Kd.C_below HR1_1.out HAB.out.below) HC1_1.out (Kd.C_below HR1_2.out HAB.out.below) HC1_2.out HD3.out).mono ?_); rintro e w4 ⟨rfl, hb⟩; have HAB := Aside0.mk (HAB.out.step hb); clear hb; obtain ⟨hza0, hza1, hza2⟩ := tq_p3 (w := w4) HAB.out.ha; obtain ⟨hzb0, hzb1, hzb2⟩ := tq_p3 (w := w4) HAB.out.hb) | (go_at_call 17; (with_reducible refine (system_Reachable.calls k (m0 : Int) _ _ l1_1 _ _ l1_2 true _ (Kd.C_below HR1_1.out HAB.out.below) HC1_1.out (Kd.C_below HR1_2.out HAB.out.below) HC1_2.out HD4.out).mono ?_); rintro e w4 ⟨rfl, hb⟩; have HAB := Aside0.mk (HAB.out.step hb); clear hb; obtain ⟨hza0, hza1, hza2⟩ := tq_p3 (w := w4) HAB.out.ha; obtain ⟨hzb0, hzb1, hzb2⟩ := tq_p3 (w := w4) HAB.out.hb) | ((with_reducible refine gate_callee (f := 27) rfl ?_); refine sq_goes (some 49) Tryd.func27 #[.agg #[.int .i64 (n0 : Int), .slice A0_1 l0_1.length c0_1, .slice A0_2 l0_2.length c0_2], .agg #[.int .i64 (m0 : Int), .slice A1_1 l1_1.length c1_1, .slice A1_2 l1_2.length c1_2]] ?_; refine (system_events.calls k (n0 : Int) _ _ l0_1 _ _ l0_2 (m0 : Int) _ _ l1_1 _ _ l1_2 tob true _ (Kd.C_below HR0_1.out HAB.out.below) HC0_1.out (Kd.C_below HR0_2.out HAB.out.below) HC0_2.out (Kd.C_below HR1_1.out HAB.out.below) HC1_1.out (Kd.C_below HR1_2.out HAB.out.below) HC1_2.out HE.out).mono ?_; rintro e w5 ⟨vT, rfl, ro, hb⟩; refine ⟨_, rfl, ?_⟩; have HAB := Aside0.mk (HAB.out.step hb); have HW5 := Aside0.mk HAB.out.below; obtain ⟨T, ct, rfl, hct, hcT⟩ := Kd.R_reads ro; have HCT := Aside0.mk hcT; clear hb ro hcT hct; obtain ⟨hza0, hza1, hza2⟩ := tq_p3 (w := w5) HAB.out.ha; obtain ⟨hzb0, hzb1, hzb2⟩ := tq_p3 (w := w5) HAB.out.hb) | ((with_reducible refine gate_dst (N := 6) rfl ?_); refine sq_box 6 #[.slice none 0 0] 37 ?_; intro pt hpt w6 hbx hbb; have HB6 := Aside0.mk (below_set (j := 0) (v := .slice T tob.length ct) hbb (Nat.le_of_eq hpt.symm)); have HPT := Aside0.mk (blk_put hbx 0 (.slice T tob.length ct) (cs' := #[.slice T tob.length ct]) rfl); have HAB := Aside0.mk (HAB.out.step HB6.out); have hzt : w6.cell? ⟨pt, 0, none⟩ = some (.slice none 0 0) := (blk_cell hbx 0).trans rfl; have hft := blk_frozen hbx 0; clear hpt hbx hbb; have hza0 : (w6.setCell ⟨pt, 0, none⟩ (.slice T tob.length ct)).cell? ⟨pa, 0, none⟩ = some (.int .i64 (n0 : Int)) := (blk_cell HAB.out.ha 0).trans rfl; have hza1 : (w6.setCell ⟨pt, 0, none⟩ (.slice T tob.length ct)).cell? ⟨pa, 1, none⟩ = some (.slice A0_1 l0_1.length c0_1) := (blk_cell HAB.out.ha 1).trans rfl; have hza2 : (w6.setCell ⟨pt, 0, none⟩ (.slice T tob.length ct)).cell? ⟨pa, 2, none⟩ = some (.slice A0_2 l0_2.length c0_2) := (blk_cell HAB.out.ha 2).trans rfl; have hzb0 : (w6.setCell ⟨pt, 0, none⟩ (.slice T tob.length ct)).cell? ⟨pb, 0, none⟩ = some (.int .i64 (m0 : Int)) := (blk_cell HAB.out.hb 0).trans rfl; have hzb1 : (w6.setCell ⟨pt, 0, none⟩ (.slice T tob.length ct)).cell? ⟨pb, 1, none⟩ = some (.slice A1_1 l1_1.length c1_1) := (blk_cell HAB.out.hb 1).trans rfl; have hzb2 : (w6.setCell ⟨pt, 0, none⟩ (.slice T tob.length ct)).cell? ⟨pb, 2, none⟩ = some (.slice A1_2 l1_2.length c1_2) := (blk_cell HAB.out.hb 2).trans rfl) | ((with_reducible refine gate_dst (N := 56) rfl ?_); refine Kd.R_make (Kd.int .i64) _ 3 rfl (N := 56) rfl 37 _ _ rfl (n0 : Int) rfl rfl Tryd.underlying37 (.int .i64 0) 8 info3 rfl (by decide) (by omega) (0 : Int) (ok := fun _ => True) (okp := fun _ => True) rfl (fun _ hk => hk) trivial (by omega) (by have := HM1.out; have := HM3.out; simp only [Int.toNat_natCast]; omega) (Below.refl _ _) (Nat.le_refl _) ?_; intro vi w7 ho hb _ _; simp only [Int.toNat_natCast] at ho; obtain ⟨gi, ci, rfl, _, _, _⟩ := Kd.R_form ho (by simp only [List.length_replicate]; exact HN.out.1); simp only [List.length_replicate] at ho ⊢; have HI := Aside0.mk (Kd.R_lower ho HB6.out.size); have HB7 := Aside0.mk (below_step HB6.out hb); have HAB := Aside0.mk (HAB.out.step hb); have HPT := Aside0.mk (blk_below HPT.out hb); clear ho hb; obtain ⟨hza0, hza1, hza2⟩ := tq_p3 (w := w7) HAB.out.ha; obtain ⟨hzb0, hzb1, hzb2⟩ := tq_p3 (w := w7) HAB.out.hb) | ((with_reducible refine gate_dst (N := 8) rfl ?_); refine sq_box 8 #[.slice none 0 0] 37 ?_; intro pi hpi w8 hbx hbb; have hb := below_set (j := 0) (v := .slice (some ⟨gi, 0, none⟩) n0 ci) hbb (Nat.le_of_eq hpi.symm); have HPI := Aside0.mk (blk_put hbx 0 (.slice (some ⟨gi, 0, none⟩) n0 ci) (cs' := #[.slice (some ⟨gi, 0, none⟩) n0 ci]) rfl); have HAB := Aside0.mk (HAB.out.step hb); have HPT := Aside0.mk (blk_below HPT.out hb); have HI := Aside0.mk (Kd.R_below HI.out hb); have HB8 := Aside0.mk (below_step HB7.out hb); have hzi0 : w8.cell? ⟨pi, 0, none⟩ = some (.slice none 0 0) := (blk_cell hbx 0).trans rfl; have hfi0 := blk_frozen hbx 0; clear hpi hbx hbb hb; have hza0 : (w8.setCell ⟨pi, 0, none⟩ (.slice (some ⟨gi, 0, none⟩) n0 ci)).cell? ⟨pa, 0, none⟩ = some (.int .i64 (n0 : Int)) := (blk_cell HAB.out.ha 0).trans rfl; have hza1 : (w8.setCell ⟨pi, 0, none⟩ (.slice (some ⟨gi, 0, none⟩) n0 ci)).cell? ⟨pa, 1, none⟩ = some (.slice A0_1 l0_1.length c0_1) := (blk_cell HAB.out.ha 1).trans rfl; have hza2 : (w8.setCell ⟨pi, 0, none⟩ (.slice (some ⟨gi, 0, none⟩) n0 ci)).cell? ⟨pa, 2, none⟩ = some (.slice A0_2 l0_2.length c0_2) := (blk_cell HAB.out.ha 2).trans rfl; have hzb0 : (w8.setCell ⟨pi, 0, none⟩ (.slice (some ⟨gi, 0, none⟩) n0 ci)).cell? ⟨pb, 0, none⟩ = some (.int .i64 (m0 : Int)) := (blk_cell HAB.out.hb 0).trans rfl; have hzb1 : (w8.setCell ⟨pi, 0, none⟩ (.slice (some ⟨gi, 0, none⟩) n0 ci)).cell? ⟨pb, 1, none⟩ = some (.slice A1_1 l1_1.length c1_1) := (blk_cell HAB.out.hb 1).trans rfl; have hzb2 : (w8.setCell ⟨pi, 0, none⟩ (.slice (some ⟨gi, 0, none⟩) n0 ci)).cell? ⟨pb, 2, none⟩ = some (.slice A1_2 l1_2.length c1_2) := (blk_cell HAB.out.hb 2).trans rfl) | ((with_reducible refine gate_dst (N := 59) rfl ?_); refine Kd.R_make (Kd.bool) _ 4 rfl (N := 59) rfl 53 _ _ rfl (m0 : Int) rfl rfl Tryd.underlying53 (.bool false) 1 info4 rfl (by decide) (by omega) (false) (ok := fun _ => True) (okp := fun _ => True) rfl (fun _ hk => hk) trivial (by omega) (by have := HM1.out; have := HM3.out; simp only [Int.toNat_natCast]; omega) (Below.refl _ _) (Nat.le_refl _) ?_; intro vu w9 ho hb _ _; simp only [Int.toNat_natCast] at ho; obtain ⟨gu, cu, rfl, _, _, _⟩ := Kd.R_form ho (by simp only [List.length_replicate]; exact HN.out.2); simp only [List.length_replicate] at ho ⊢; have HU := Aside0.mk (Kd.R_lower ho HB8.out.size); have HB9 := Aside0.mk (below_step HB8.out hb); have HAB := Aside0.mk (HAB.out.step hb); have HPT := Aside0.mk (blk_below HPT.out hb); have HPI := Aside0.mk (blk_below HPI.out hb); have HI := Aside0.mk (Kd.R_below HI.out hb); clear ho hb; obtain ⟨hza0, hza1, hza2⟩ := tq_p3 (w := w9) HAB.out.ha; obtain ⟨hzb0, hzb1, hzb2⟩ := tq_p3 (w := w9) HAB.out.hb) | ((with_reducible refine gate_dst (N := 9) rfl ?_); refine sq_box 9 #[.slice none 0 0] 53 ?_; intro pu hpu w10 hbx hbb; have hb := below_set (j := 0) (v := .slice (some ⟨gu, 0, none⟩) m0 cu) hbb (Nat.le_of_eq hpu.symm); have HPU := Aside0.mk (blk_put hbx 0 (.slice (some ⟨gu, 0, none⟩) m0 cu) (cs' := #[.slice (some ⟨gu, 0, none⟩) m0 cu]) rfl); have HAB := Aside0.mk (HAB.out.step hb); have HPT := Aside0.mk (blk_below HPT.out hb); have HPI := Aside0.mk (blk_below HPI.out hb); have HI := Aside0.mk (Kd.R_below HI.out hb); have HU := Aside0.mk (Kd.R_below HU.out hb); have HB10 := Aside0.mk (below_step HB9.out hb); have hzu0 : w10.cell? ⟨pu, 0, none⟩ = some (.slice none 0 0) := (blk_cell hbx 0).trans rfl; have hfu0 := blk_frozen hbx 0; have HFS := Aside0.mk (FS.mk HB10.out HPI.out HPU.out HAB.out.ha HAB.out.hb HPT.out HI.out HU.out List.length_replicate List.length_replicate); have hzi : (w10.setCell ⟨pu, 0, none⟩ (.slice (some ⟨gu, 0, none⟩) m0 cu)).cell? ⟨pi, 0, none⟩ = some (.slice (some ⟨gi, 0, none⟩) n0 ci) := tq_q HPI 0; clear hpu hbx hbb hb))
 go_loopw [62] (fun n w' => ∃ (i : Nat), n = .int .i64 i ∧ i ≤ n0 ∧ Aside0 (FS w5 w' pi pu pa pb pt gi ci gu cu n0 m0 #[.int .i64 (n0 : Int), .slice A0_1 l0_1.length c0_1, .slice A0_2 l0_2.length c0_2] #[.int .i64 (m0 : Int), .slice A1_1 l1_1.length c1_1, .slice A1_2 l1_2.length c1_2] (.slice T tob.length ct) (List.replicate i (-1) ++ List.replicate (n0 - i) 0) (List.replicate m0 false))) (fun n _ => n0 - (intOf n).toNat)
 case atStart => exact ⟨0, rfl, Nat.zero_le _, ⟨by simpa using HFS.out⟩⟩
 case round =>
  obtain ⟨i, rfl, hi, HS1⟩ := hrel
  by_cases hlt : i < n0
  ·have hs := HS1.out; have hzi : wr.cell? ⟨pi, 0, none⟩ = some (.slice (some ⟨gi, 0, none⟩) n0 ci) := (blk_cell hs.hi 0).trans rfl; obtain ⟨hx, hf⟩ := Kd.R_celln (0 : Int) hs.ri (i : Int) (by omega) (by omega); rw [Int.toNat_natCast] at hx hf
   generalize hv_ : rdOf (0 : Int) _ (i : Int) = v_ at hx
   replace hx : wr.cell? ⟨gi, i, none⟩ = some (.int .i64 v_) := hx; have hn := hs.seti HN.out.1 (i : Int) (-1); rw [Int.toNat_natCast, fill_step n0 i hlt] at hn; have HS2 := Aside0.mk hn; have d1 : decide ((i : Int) < (n0 : Int)) = true := decide_eq_true (by omega); have q1' : ((i : Int) < (n0 : Int)) = True := eq_true (by omega); clear hs hn hv_ HS1 HFS
   go_wp2
   have hw : wrap64 ((i : Int) + 1) = ((i + 1 : Nat) : Int) := by have := HM1.out; unfold wrap64; omega
   exact ⟨⟨i + 1, by rw [hw], hlt, HS2⟩, by rw [hw]; exact meas_lt _ _ hlt⟩
  have hs := HS1.out; rw [show i = n0 from by omega, Nat.sub_self, List.replicate_zero, List.append_nil] at hs; have HS2 := Aside0.mk hs; have d1 : decide ((i : Int) < (n0 : Int)) = false := decide_eq_false (by omega); clear hs HS1 HFS
  cases q1 with
  | false =>
   have h := H.out; rw [if_neg (show ¬ (false = true) by decide)] at h; obtain ⟨rfl, rfl⟩ := Prod.mk.inj (Option.some.inj h); clear h H
   go_wp2_with (first | ((with_reducible refine gate_dst (N := 11) rfl ?_); refine sq_box 11 #[.nilFunc] 54 ?_; intro pv hpv w11 hbx hbb; have hv := blk_put hbx 0 (.func (.func 28) #[] #[.pointer (some ⟨pi, 0, none⟩), .pointer (some ⟨pu, 0, none⟩), .pointer (some ⟨pa, 0, none⟩), .pointer (some ⟨pb, 0, none⟩), .pointer (some ⟨pt, 0, none⟩), .pointer (some ⟨pv, 0, none⟩)]) (cs' := #[.func (.func 28) #[] #[.pointer (some ⟨pi, 0, none⟩), .pointer (some ⟨pu, 0, none⟩), .pointer (some ⟨pa, 0, none⟩), .pointer (some ⟨pb, 0, none⟩), .pointer (some ⟨pt, 0, none⟩), .pointer (some ⟨pv, 0, none⟩)]]) rfl; have HIS := Aside0.mk (HS2.out.close (below_set (j := 0) (v := .func (.func 28) #[] #[.pointer (some ⟨pi, 0, none⟩), .pointer (some ⟨pu, 0, none⟩), .pointer (some ⟨pa, 0, none⟩), .pointer (some ⟨pb, 0, none⟩), .pointer (some ⟨pt, 0, none⟩), .pointer (some ⟨pv, 0, none⟩)]) hbb (Nat.le_of_eq hpv.symm)) hv); have hz0 : w11.cell? ⟨pv, 0, none⟩ = some .nilFunc := (blk_cell hbx 0).trans rfl; have hf0 := blk_frozen hbx 0; have hzv : (w11.setCell ⟨pv, 0, none⟩ (.func (.func 28) #[] #[.pointer (some ⟨pi, 0, none⟩), .pointer (some ⟨pu, 0, none⟩), .pointer (some ⟨pa, 0, none⟩), .pointer (some ⟨pb, 0, none⟩), .pointer (some ⟨pt, 0, none⟩), .pointer (some ⟨pv, 0, none⟩)])).cell? ⟨pv, 0, none⟩ = some (.func (.func 28) #[] #[.pointer (some ⟨pi, 0, none⟩), .pointer (some ⟨pu, 0, none⟩), .pointer (some ⟨pa, 0, none⟩), .pointer (some ⟨pb, 0, none⟩), .pointer (some ⟨pt, 0, none⟩), .pointer (some ⟨pv, 0, none⟩)]) := (blk_cell hv 0).trans rfl; clear hpv hbx hbb hv) | ((with_reducible refine gate_calleeV 28 rfl ?_); refine goesC_ (some 71) rfl rfl #[.pointer (some ⟨pi, 0, none⟩), .pointer (some ⟨pu, 0, none⟩), .pointer (some ⟨pa, 0, none⟩), .pointer (some ⟨pb, 0, none⟩), .pointer (some ⟨pt, 0, none⟩), .pointer (some ⟨pv, 0, none⟩)] Tryd.func28 (by kernel_rfl) rfl #[.int .i64 0, .int .i64 0] #[.int .i64 0, .int .i64 0, .pointer (some ⟨pi, 0, none⟩), .pointer (some ⟨pu, 0, none⟩), .pointer (some ⟨pa, 0, none⟩), .pointer (some ⟨pb, 0, none⟩), .pointer (some ⟨pt, 0, none⟩), .pointer (some ⟨pv, 0, none⟩)] rfl (by (try simp only [List.map_toArray, List.map_cons, List.map_nil]); first | done | rfl) rfl rfl ?_; refine (Iso_lit.calls (n0 : Int) (.slice A0_1 l0_1.length c0_1) A0_2 c0_2 l0_2 (m0 : Int) A1_1 c1_1 l1_1 A1_2 c1_2 l1_2 T ct tob (Kd.C_below HR0_2.out HW5.out) (Kd.C_below HR1_1.out HW5.out) HC1_1.out (Kd.C_below HR1_2.out HW5.out) HC1_2.out HCT.out k 0 0 _ _ _ _ _ _ HIS.out HQ.out).mono ?_; rintro e w12 ⟨rfl, hs12⟩; refine ⟨_, rfl, ?_⟩; have HS12 := Aside0.mk hs12; have hzi : w12.cell? ⟨pi, 0, none⟩ = some (.slice (some ⟨gi, 0, none⟩) n0 ci) := (blk_cell HS12.out.hi 0).trans rfl; clear hs12))
   go_ret2
   exact ⟨_, rfl, Kd.R_nil _ _ _ _ _, below_step HW5.out HS12.out.below⟩
  | true =>
   have h := H.out; rw [if_pos rfl] at h; obtain ⟨rfl, rfl⟩ := Prod.mk.inj (Option.some.inj h); clear h H
   go_wp2_with (first | ((with_reducible refine gate_dst (N := 11) rfl ?_); refine sq_box 11 #[.nilFunc] 54 ?_; intro pv hpv w11 hbx hbb; have hv := blk_put hbx 0 (.func (.func 28) #[] #[.pointer (some ⟨pi, 0, none⟩), .pointer (some ⟨pu, 0, none⟩), .pointer (some ⟨pa, 0, none⟩), .pointer (some ⟨pb, 0, none⟩), .pointer (some ⟨pt, 0, none⟩), .pointer (some ⟨pv, 0, none⟩)]) (cs' := #[.func (.func 28) #[] #[.pointer (some ⟨pi, 0, none⟩), .pointer (some ⟨pu, 0, none⟩), .pointer (some ⟨pa, 0, none⟩), .pointer (some ⟨pb, 0, none⟩), .pointer (some ⟨pt, 0, none⟩), .pointer (some ⟨pv, 0, none⟩)]]) rfl; have HIS := Aside0.mk (HS2.out.close (below_set (j := 0) (v := .func (.func 28) #[] #[.pointer (some ⟨pi, 0, none⟩), .pointer (some ⟨pu, 0, none⟩), .pointer (some ⟨pa, 0, none⟩), .pointer (some ⟨pb, 0, none⟩), .pointer (some ⟨pt, 0, none⟩), .pointer (some ⟨pv, 0, none⟩)]) hbb (Nat.le_of_eq hpv.symm)) hv); have hz0 : w11.cell? ⟨pv, 0, none⟩ = some .nilFunc := (blk_cell hbx 0).trans rfl; have hf0 := blk_frozen hbx 0; have hzv : (w11.setCell ⟨pv, 0, none⟩ (.func (.func 28) #[] #[.pointer (some ⟨pi, 0, none⟩), .pointer (some ⟨pu, 0, none⟩), .pointer (some ⟨pa, 0, none⟩), .pointer (some ⟨pb, 0, none⟩), .pointer (some ⟨pt, 0, none⟩), .pointer (some ⟨pv, 0, none⟩)])).cell? ⟨pv, 0, none⟩ = some (.func (.func 28) #[] #[.pointer (some ⟨pi, 0, none⟩), .pointer (some ⟨pu, 0, none⟩), .pointer (some ⟨pa, 0, none⟩), .pointer (some ⟨pb, 0, none⟩), .pointer (some ⟨pt, 0, none⟩), .pointer (some ⟨pv, 0, none⟩)]) := (blk_cell hv 0).trans rfl; clear hpv hbx hbb hv) | ((with_reducible refine gate_calleeV 28 rfl ?_); refine goesC_ (some 71) rfl rfl #[.pointer (some ⟨pi, 0, none⟩), .pointer (some ⟨pu, 0, none⟩), .pointer (some ⟨pa, 0, none⟩), .pointer (some ⟨pb, 0, none⟩), .pointer (some ⟨pt, 0, none⟩), .pointer (some ⟨pv, 0, none⟩)] Tryd.func28 (by kernel_rfl) rfl #[.int .i64 0, .int .i64 0] #[.int .i64 0, .int .i64 0, .pointer (some ⟨pi, 0, none⟩), .pointer (some ⟨pu, 0, none⟩), .pointer (some ⟨pa, 0, none⟩), .pointer (some ⟨pb, 0, none⟩), .pointer (some ⟨pt, 0, none⟩), .pointer (some ⟨pv, 0, none⟩)] rfl (by (try simp only [List.map_toArray, List.map_cons, List.map_nil]); first | done | rfl) rfl rfl ?_; refine (Iso_lit.calls (n0 : Int) (.slice A0_1 l0_1.length c0_1) A0_2 c0_2 l0_2 (m0 : Int) A1_1 c1_1 l1_1 A1_2 c1_2 l1_2 T ct tob (Kd.C_below HR0_2.out HW5.out) (Kd.C_below HR1_1.out HW5.out) HC1_1.out (Kd.C_below HR1_2.out HW5.out) HC1_2.out HCT.out k 0 0 _ _ _ _ _ _ HIS.out HQ.out).mono ?_; rintro e w12 ⟨rfl, hs12⟩; refine ⟨_, rfl, ?_⟩; have HS12 := Aside0.mk hs12; have hzi : w12.cell? ⟨pi, 0, none⟩ = some (.slice (some ⟨gi, 0, none⟩) n0 ci) := (blk_cell HS12.out.hi 0).trans rfl; clear hs12))
   go_ret2
   exact ⟨_, rfl, Kd.R_lower HS12.out.ri HW5.out.size, below_step HW5.out HS12.out.below⟩
def isoT (k : Nat) (a0 : Int) (la2 : List S46) (b0 : Int) (lb1 : List ByteArray) (lb2 : List S46) (tob : List Int) : Option (List Int × Bool) :=
 if (0 ≤ a0 ∧ a0.toNat ≤ 17592186044416) ∧ (0 ≤ b0 ∧ b0.toNat ≤ 17592186044416) then (isoV b0 lb1 la2 lb2 tob k (List.replicate a0.toNat (-1)) (List.replicate b0.toNat false) 0 0).bind fun q => (if q.1 = true then some (q.2.1, true) else some ([], false)) else none
def system_Iso.f (k : Nat) (a0_0 : Int) (l0_1 : List ByteArray) (l0_2 : List (S46)) (a1_0 : Int) (l1_1 : List ByteArray) (l1_2 : List (S46)) : Option (List Int × Bool) :=
 (system_Deterministic.f k a0_0 l0_1 l0_2).bind fun d1 => (if d1 = true then (system_Reachable.f k a0_0 l0_1 l0_2).bind fun d2 => (if d2 = true then (system_Deterministic.f k a1_0 l1_1 l1_2).bind fun d3 => (if d3 = true then (system_Reachable.f k a1_0 l1_1 l1_2).bind fun d4 => (if d4 = true then (if a0_0 = a1_0 then (if l0_2.length = l1_2.length then (system_events.f k a0_0 l0_1 l0_2 a1_0 l1_1 l1_2).bind fun p => (if p.2 = true then isoT k a0_0 l0_2 a1_0 l1_1 l1_2 p.1 else some ([], false)) else some ([], false)) else some ([], false)) else some ([], false)) else some ([], false)) else some ([], false)) else some ([], false))
theorem isoT_mono (a0 : Int) (la2 : List S46) (b0 : Int) (lb1 : List ByteArray) (lb2 : List S46) (tob : List Int) (k : Nat) : LeO (isoT k a0 la2 b0 lb1 lb2 tob) (isoT (k + 1) a0 la2 b0 lb1 lb2 tob) := by
 unfold isoT
 split
 ·exact LeO.bind (isoV_mono _ _ _ _ _ k _ _ _ _) (fun q => LeO.refl _)
 ·exact LeO.none _
theorem system_Iso.mono : ∀ a0 a1 a2 a3 a4 a5 k, LeO (system_Iso.f k a0 a1 a2 a3 a4 a5) (system_Iso.f (k + 1) a0 a1 a2 a3 a4 a5) := by
 intro a0 a1 a2 a3 a4 a5 k
 unfold system_Iso.f
 repeat' (with_reducible first | exact LeO.refl _ | exact LeO.none _ | exact isoT_mono _ _ _ _ _ _ k | exact system_Deterministic.mono _ _ _ k | exact system_Reachable.mono _ _ _ k | exact system_events.mono _ _ _ _ _ _ k | refine LeO.ite ?_ ?_ | refine LeO.bind ?_ (fun _ => ?_))
set_option maxHeartbeats 4000000 in
set_option maxRecDepth 1000000 in
theorem system_Iso.calls (k : Nat) (a0_0 : Int) (A0_1 : Option Addr) (c0_1 : Nat) (l0_1 : List ByteArray) (A0_2 : Option Addr) (c0_2 : Nat) (l0_2 : List (S46)) (a1_0 : Int) (A1_1 : Option Addr) (c1_1 : Nat) (l1_1 : List ByteArray) (A1_2 : Option Addr) (c1_2 : Nat) (l1_2 : List (S46)) (r1 : List Int) (r2 : Bool) (w : World) (hr0_1 : Kd.C Kd.string w A0_1 l0_1.length l0_1) (hc0_1 : l0_1.length ≤ c0_1) (hr0_2 : Kd.C k46 w A0_2 l0_2.length l0_2) (hc0_2 : l0_2.length ≤ c0_2) (hr1_1 : Kd.C Kd.string w A1_1 l1_1.length l1_1) (hc1_1 : l1_1.length ≤ c1_1) (hr1_2 : Kd.C k46 w A1_2 l1_2.length l1_2) (hc1_2 : l1_2.length ≤ c1_2) (h : system_Iso.f k a0_0 l0_1 l0_2 a1_0 l1_1 l1_2 = some (r1, r2)) :
  Calls Tryd.prog 12 #[.agg #[.int .i64 a0_0, .slice A0_1 l0_1.length c0_1, .slice A0_2 l0_2.length c0_2], .agg #[.int .i64 a1_0, .slice A1_1 l1_1.length c1_1, .slice A1_2 l1_2.length c1_2]] w fun e w' => ∃ v0_ : Value, e = .returned (.tuple #[v0_, .bool r2]) ∧ Kd.R (Kd.int .i64) 3 w' w.heap.size (fun _ => True) v0_ r1 ∧ Below w.heap.size w w' := by
 have hv30 := Tryd.underlying30; have hu25 := Tryd.underlying25; have HR0_1 := Aside0.mk hr0_1; have HC0_1 := Aside0.mk hc0_1; have HR0_2 := Aside0.mk hr0_2; have HC0_2 := Aside0.mk hc0_2; have HR1_1 := Aside0.mk hr1_1; have HC1_1 := Aside0.mk hc1_1; have HR1_2 := Aside0.mk hr1_2; have HC1_2 := Aside0.mk hc1_2; clear hr0_1 hc0_1 hr0_2 hc0_2 hr1_1 hc1_1 hr1_2 hc1_2
 unfold system_Iso.f at h
 obtain ⟨D1, hd1, h⟩ := Option.bind_eq_some_iff.mp h; have HD1 := Aside0.mk hd1; clear hd1
 cases D1 with
 | false =>
  rw [if_neg (show ¬ (false = true) by decide)] at h; obtain ⟨rfl, rfl⟩ := Prod.mk.inj (Option.some.inj h); clear h
  go_enter Tryd.func12, Tryd.ntmps12
  go_wp2_with (first | ((with_reducible refine gate_dst (N := 2) rfl ?_); refine sq_box 2 #[.int .i64 a0_0, .slice A0_1 l0_1.length c0_1, .slice A0_2 l0_2.length c0_2] 25 ?_; intro pa hpa wa hba hbb; have HA := Aside0.mk hba; have HW := Aside0.mk hbb; clear hpa hba hbb) | ((with_reducible refine gate_dst (N := 3) rfl ?_); refine sq_box 3 #[.int .i64 a1_0, .slice A1_1 l1_1.length c1_1, .slice A1_2 l1_2.length c1_2] 25 ?_; intro pb hpb wb hba hbb; have HAB := Aside0.mk (AB.mk (below_step HW.out hbb) (blk_below HA.out hbb) hba); clear hpb hba hbb; obtain ⟨hza0, hza1, hza2⟩ := tq_p3 (w := wb) HAB.out.ha; obtain ⟨hzb0, hzb1, hzb2⟩ := tq_p3 (w := wb) HAB.out.hb) | ((with_reducible refine gate_callee (f := 16) rfl ?_); refine sq_goes (some 13) Tryd.func16 #[.agg #[.int .i64 a0_0, .slice A0_1 l0_1.length c0_1, .slice A0_2 l0_2.length c0_2]] ?_; refine (system_Deterministic.calls k a0_0 _ _ l0_1 _ _ l0_2 false _ (Kd.C_below HR0_1.out HAB.out.below) HC0_1.out (Kd.C_below HR0_2.out HAB.out.below) HC0_2.out HD1.out).mono ?_; rintro e w3 ⟨rfl, hb⟩; refine ⟨_, rfl, ?_⟩; have HAB := Aside0.mk (HAB.out.step hb); clear hb; obtain ⟨hza0, hza1, hza2⟩ := tq_p3 (w := w3) HAB.out.ha; obtain ⟨hzb0, hzb1, hzb2⟩ := tq_p3 (w := w3) HAB.out.hb))
  go_ret2
  exact ⟨_, rfl, Kd.R_nil _ _ _ _ _, HAB.out.below⟩
 | true =>
  rw [if_pos rfl] at h; obtain ⟨D2, hd2, h⟩ := Option.bind_eq_some_iff.mp h; have HD2 := Aside0.mk hd2; clear hd2
  cases D2 with
  | false =>
   rw [if_neg (show ¬ (false = true) by decide)] at h; obtain ⟨rfl, rfl⟩ := Prod.mk.inj (Option.some.inj h); clear h
   go_enter Tryd.func12, Tryd.ntmps12
   go_wp2_with (first | ((with_reducible refine gate_dst (N := 2) rfl ?_); refine sq_box 2 #[.int .i64 a0_0, .slice A0_1 l0_1.length c0_1, .slice A0_2 l0_2.length c0_2] 25 ?_; intro pa hpa wa hba hbb; have HA := Aside0.mk hba; have HW := Aside0.mk hbb; clear hpa hba hbb) | ((with_reducible refine gate_dst (N := 3) rfl ?_); refine sq_box 3 #[.int .i64 a1_0, .slice A1_1 l1_1.length c1_1, .slice A1_2 l1_2.length c1_2] 25 ?_; intro pb hpb wb hba hbb; have HAB := Aside0.mk (AB.mk (below_step HW.out hbb) (blk_below HA.out hbb) hba); clear hpb hba hbb; obtain ⟨hza0, hza1, hza2⟩ := tq_p3 (w := wb) HAB.out.ha; obtain ⟨hzb0, hzb1, hzb2⟩ := tq_p3 (w := wb) HAB.out.hb) | ((with_reducible refine gate_callee (f := 16) rfl ?_); refine sq_goes (some 13) Tryd.func16 #[.agg #[.int .i64 a0_0, .slice A0_1 l0_1.length c0_1, .slice A0_2 l0_2.length c0_2]] ?_; refine (system_Deterministic.calls k a0_0 _ _ l0_1 _ _ l0_2 true _ (Kd.C_below HR0_1.out HAB.out.below) HC0_1.out (Kd.C_below HR0_2.out HAB.out.below) HC0_2.out HD1.out).mono ?_; rintro e w3 ⟨rfl, hb⟩; refine ⟨_, rfl, ?_⟩; have HAB := Aside0.mk (HAB.out.step hb); clear hb; obtain ⟨hza0, hza1, hza2⟩ := tq_p3 (w := w3) HAB.out.ha; obtain ⟨hzb0, hzb1, hzb2⟩ := tq_p3 (w := w3) HAB.out.hb) | (go_at_call 17; (with_reducible refine (system_Reachable.calls k a0_0 _ _ l0_1 _ _ l0_2 false _ (Kd.C_below HR0_1.out HAB.out.below) HC0_1.out (Kd.C_below HR0_2.out HAB.out.below) HC0_2.out HD2.out).mono ?_); rintro e w4 ⟨rfl, hb⟩; have HAB := Aside0.mk (HAB.out.step hb); clear hb; obtain ⟨hza0, hza1, hza2⟩ := tq_p3 (w := w4) HAB.out.ha; obtain ⟨hzb0, hzb1, hzb2⟩ := tq_p3 (w := w4) HAB.out.hb))
   go_ret2
   exact ⟨_, rfl, Kd.R_nil _ _ _ _ _, HAB.out.below⟩
  | true =>
   rw [if_pos rfl] at h; obtain ⟨D3, hd3, h⟩ := Option.bind_eq_some_iff.mp h; have HD3 := Aside0.mk hd3; clear hd3
   cases D3 with
   | false =>
    rw [if_neg (show ¬ (false = true) by decide)] at h; obtain ⟨rfl, rfl⟩ := Prod.mk.inj (Option.some.inj h); clear h
    go_enter Tryd.func12, Tryd.ntmps12
    go_wp2_with (first | ((with_reducible refine gate_dst (N := 2) rfl ?_); refine sq_box 2 #[.int .i64 a0_0, .slice A0_1 l0_1.length c0_1, .slice A0_2 l0_2.length c0_2] 25 ?_; intro pa hpa wa hba hbb; have HA := Aside0.mk hba; have HW := Aside0.mk hbb; clear hpa hba hbb) | ((with_reducible refine gate_dst (N := 3) rfl ?_); refine sq_box 3 #[.int .i64 a1_0, .slice A1_1 l1_1.length c1_1, .slice A1_2 l1_2.length c1_2] 25 ?_; intro pb hpb wb hba hbb; have HAB := Aside0.mk (AB.mk (below_step HW.out hbb) (blk_below HA.out hbb) hba); clear hpb hba hbb; obtain ⟨hza0, hza1, hza2⟩ := tq_p3 (w := wb) HAB.out.ha; obtain ⟨hzb0, hzb1, hzb2⟩ := tq_p3 (w := wb) HAB.out.hb) | ((with_reducible refine gate_callee (f := 16) rfl ?_); refine sq_goes (some 13) Tryd.func16 #[.agg #[.int .i64 a0_0, .slice A0_1 l0_1.length c0_1, .slice A0_2 l0_2.length c0_2]] ?_; refine (system_Deterministic.calls k a0_0 _ _ l0_1 _ _ l0_2 true _ (Kd.C_below HR0_1.out HAB.out.below) HC0_1.out (Kd.C_below HR0_2.out HAB.out.below) HC0_2.out HD1.out).mono ?_; rintro e w3 ⟨rfl, hb⟩; refine ⟨_, rfl, ?_⟩; have HAB := Aside0.mk (HAB.out.step hb); clear hb; obtain ⟨hza0, hza1, hza2⟩ := tq_p3 (w := w3) HAB.out.ha; obtain ⟨hzb0, hzb1, hzb2⟩ := tq_p3 (w := w3) HAB.out.hb) | (go_at_call 17; (with_reducible refine (system_Reachable.calls k a0_0 _ _ l0_1 _ _ l0_2 true _ (Kd.C_below HR0_1.out HAB.out.below) HC0_1.out (Kd.C_below HR0_2.out HAB.out.below) HC0_2.out HD2.out).mono ?_); rintro e w4 ⟨rfl, hb⟩; have HAB := Aside0.mk (HAB.out.step hb); clear hb; obtain ⟨hza0, hza1, hza2⟩ := tq_p3 (w := w4) HAB.out.ha; obtain ⟨hzb0, hzb1, hzb2⟩ := tq_p3 (w := w4) HAB.out.hb) | (go_at_call 16; (with_reducible refine (system_Deterministic.calls k a1_0 _ _ l1_1 _ _ l1_2 false _ (Kd.C_below HR1_1.out HAB.out.below) HC1_1.out (Kd.C_below HR1_2.out HAB.out.below) HC1_2.out HD3.out).mono ?_); rintro e w4 ⟨rfl, hb⟩; have HAB := Aside0.mk (HAB.out.step hb); clear hb; obtain ⟨hza0, hza1, hza2⟩ := tq_p3 (w := w4) HAB.out.ha; obtain ⟨hzb0, hzb1, hzb2⟩ := tq_p3 (w := w4) HAB.out.hb))
    go_ret2
    exact ⟨_, rfl, Kd.R_nil _ _ _ _ _, HAB.out.below⟩
   | true =>
    rw [if_pos rfl] at h; obtain ⟨D4, hd4, h⟩ := Option.bind_eq_some_iff.mp h; have HD4 := Aside0.mk hd4; clear hd4
    cases D4 with
    | false =>
     rw [if_neg (show ¬ (false = true) by decide)] at h; obtain ⟨rfl, rfl⟩ := Prod.mk.inj (Option.some.inj h); clear h
     go_enter Tryd.func12, Tryd.ntmps12
     go_wp2_with (first | ((with_reducible refine gate_dst (N := 2) rfl ?_); refine sq_box 2 #[.int .i64 a0_0, .slice A0_1 l0_1.length c0_1, .slice A0_2 l0_2.length c0_2] 25 ?_; intro pa hpa wa hba hbb; have HA := Aside0.mk hba; have HW := Aside0.mk hbb; clear hpa hba hbb) | ((with_reducible refine gate_dst (N := 3) rfl ?_); refine sq_box 3 #[.int .i64 a1_0, .slice A1_1 l1_1.length c1_1, .slice A1_2 l1_2.length c1_2] 25 ?_; intro pb hpb wb hba hbb; have HAB := Aside0.mk (AB.mk (below_step HW.out hbb) (blk_below HA.out hbb) hba); clear hpb hba hbb; obtain ⟨hza0, hza1, hza2⟩ := tq_p3 (w := wb) HAB.out.ha; obtain ⟨hzb0, hzb1, hzb2⟩ := tq_p3 (w := wb) HAB.out.hb) | ((with_reducible refine gate_callee (f := 16) rfl ?_); refine sq_goes (some 13) Tryd.func16 #[.agg #[.int .i64 a0_0, .slice A0_1 l0_1.length c0_1, .slice A0_2 l0_2.length c0_2]] ?_; refine (system_Deterministic.calls k a0_0 _ _ l0_1 _ _ l0_2 true _ (Kd.C_below HR0_1.out HAB.out.below) HC0_1.out (Kd.C_below HR0_2.out HAB.out.below) HC0_2.out HD1.out).mono ?_; rintro e w3 ⟨rfl, hb⟩; refine ⟨_, rfl, ?_⟩; have HAB := Aside0.mk (HAB.out.step hb); clear hb; obtain ⟨hza0, hza1, hza2⟩ := tq_p3 (w := w3) HAB.out.ha; obtain ⟨hzb0, hzb1, hzb2⟩ := tq_p3 (w := w3) HAB.out.hb) | (go_at_call 17; (with_reducible refine (system_Reachable.calls k a0_0 _ _ l0_1 _ _ l0_2 true _ (Kd.C_below HR0_1.out HAB.out.below) HC0_1.out (Kd.C_below HR0_2.out HAB.out.below) HC0_2.out HD2.out).mono ?_); rintro e w4 ⟨rfl, hb⟩; have HAB := Aside0.mk (HAB.out.step hb); clear hb; obtain ⟨hza0, hza1, hza2⟩ := tq_p3 (w := w4) HAB.out.ha; obtain ⟨hzb0, hzb1, hzb2⟩ := tq_p3 (w := w4) HAB.out.hb) | (go_at_call 16; (with_reducible refine (system_Deterministic.calls k a1_0 _ _ l1_1 _ _ l1_2 true _ (Kd.C_below HR1_1.out HAB.out.below) HC1_1.out (Kd.C_below HR1_2.out HAB.out.below) HC1_2.out HD3.out).mono ?_); rintro e w4 ⟨rfl, hb⟩; have HAB := Aside0.mk (HAB.out.step hb); clear hb; obtain ⟨hza0, hza1, hza2⟩ := tq_p3 (w := w4) HAB.out.ha; obtain ⟨hzb0, hzb1, hzb2⟩ := tq_p3 (w := w4) HAB.out.hb) | (go_at_call 17; (with_reducible refine (system_Reachable.calls k a1_0 _ _ l1_1 _ _ l1_2 false _ (Kd.C_below HR1_1.out HAB.out.below) HC1_1.out (Kd.C_below HR1_2.out HAB.out.below) HC1_2.out HD4.out).mono ?_); rintro e w4 ⟨rfl, hb⟩; have HAB := Aside0.mk (HAB.out.step hb); clear hb; obtain ⟨hza0, hza1, hza2⟩ := tq_p3 (w := w4) HAB.out.ha; obtain ⟨hzb0, hzb1, hzb2⟩ := tq_p3 (w := w4) HAB.out.hb))
     go_ret2
     exact ⟨_, rfl, Kd.R_nil _ _ _ _ _, HAB.out.below⟩
    | true =>
     rw [if_pos rfl] at h
     by_cases e5 : a0_0 = a1_0
     rotate_left
     ·rw [if_neg e5] at h; have k5 : (a0_0 == a1_0) = false := beq_eq_false_iff_ne.mpr e5; have k6 : (a0_0 != a1_0) = true := bne_iff_ne.mpr e5; clear e5; obtain ⟨rfl, rfl⟩ := Prod.mk.inj (Option.some.inj h); clear h
      go_enter Tryd.func12, Tryd.ntmps12
      go_wp2_with (first | ((with_reducible refine gate_dst (N := 2) rfl ?_); refine sq_box 2 #[.int .i64 a0_0, .slice A0_1 l0_1.length c0_1, .slice A0_2 l0_2.length c0_2] 25 ?_; intro pa hpa wa hba hbb; have HA := Aside0.mk hba; have HW := Aside0.mk hbb; clear hpa hba hbb) | ((with_reducible refine gate_dst (N := 3) rfl ?_); refine sq_box 3 #[.int .i64 a1_0, .slice A1_1 l1_1.length c1_1, .slice A1_2 l1_2.length c1_2] 25 ?_; intro pb hpb wb hba hbb; have HAB := Aside0.mk (AB.mk (below_step HW.out hbb) (blk_below HA.out hbb) hba); clear hpb hba hbb; obtain ⟨hza0, hza1, hza2⟩ := tq_p3 (w := wb) HAB.out.ha; obtain ⟨hzb0, hzb1, hzb2⟩ := tq_p3 (w := wb) HAB.out.hb) | ((with_reducible refine gate_callee (f := 16) rfl ?_); refine sq_goes (some 13) Tryd.func16 #[.agg #[.int .i64 a0_0, .slice A0_1 l0_1.length c0_1, .slice A0_2 l0_2.length c0_2]] ?_; refine (system_Deterministic.calls k a0_0 _ _ l0_1 _ _ l0_2 true _ (Kd.C_below HR0_1.out HAB.out.below) HC0_1.out (Kd.C_below HR0_2.out HAB.out.below) HC0_2.out HD1.out).mono ?_; rintro e w3 ⟨rfl, hb⟩; refine ⟨_, rfl, ?_⟩; have HAB := Aside0.mk (HAB.out.step hb); clear hb; obtain ⟨hza0, hza1, hza2⟩ := tq_p3 (w := w3) HAB.out.ha; obtain ⟨hzb0, hzb1, hzb2⟩ := tq_p3 (w := w3) HAB.out.hb) | (go_at_call 17; (with_reducible refine (system_Reachable.calls k a0_0 _ _ l0_1 _ _ l0_2 true _ (Kd.C_below HR0_1.out HAB.out.below) HC0_1.out (Kd.C_below HR0_2.out HAB.out.below) HC0_2.out HD2.out).mono ?_); rintro e w4 ⟨rfl, hb⟩; have HAB := Aside0.mk (HAB.out.step hb); clear hb; obtain ⟨hza0, hza1, hza2⟩ := tq_p3 (w := w4) HAB.out.ha; obtain ⟨hzb0, hzb1, hzb2⟩ := tq_p3 (w := w4) HAB.out.hb) | (go_at_call 16; (with_reducible refine (system_Deterministic.calls k a1_0 _ _ l1_1 _ _ l1_2 true _ (Kd.C_below HR1_1.out HAB.out.below) HC1_1.out (Kd.C_below HR1_2.out HAB.out.below) HC1_2.out HD3.out).mono ?_); rintro e w4 ⟨rfl, hb⟩; have HAB := Aside0.mk (HAB.out.step hb); clear hb; obtain ⟨hza0, hza1, hza2⟩ := tq_p3 (w := w4) HAB.out.ha; obtain ⟨hzb0, hzb1, hzb2⟩ := tq_p3 (w := w4) HAB.out.hb) | (go_at_call 17; (with_reducible refine (system_Reachable.calls k a1_0 _ _ l1_1 _ _ l1_2 true _ (Kd.C_below HR1_1.out HAB.out.below) HC1_1.out (Kd.C_below HR1_2.out HAB.out.below) HC1_2.out HD4.out).mono ?_); rintro e w4 ⟨rfl, hb⟩; have HAB := Aside0.mk (HAB.out.step hb); clear hb; obtain ⟨hza0, hza1, hza2⟩ := tq_p3 (w := w4) HAB.out.ha; obtain ⟨hzb0, hzb1, hzb2⟩ := tq_p3 (w := w4) HAB.out.hb))
      go_ret2
      exact ⟨_, rfl, Kd.R_nil _ _ _ _ _, HAB.out.below⟩
     rw [if_pos e5] at h; have k5 : (a0_0 == a1_0) = true := beq_iff_eq.mpr e5; have k6 : (a0_0 != a1_0) = false := bne_eq_false_iff_eq.mpr e5
     by_cases e6 : l0_2.length = l1_2.length
     rotate_left
     ·rw [if_neg e6] at h; have k7 : ((l0_2.length : Int) == (l1_2.length : Int)) = false := beq_eq_false_iff_ne.mpr (by omega); have k8 : ((l0_2.length : Int) != (l1_2.length : Int)) = true := bne_iff_ne.mpr (by omega); have k9 : (l0_2.length == l1_2.length) = false := beq_eq_false_iff_ne.mpr e6; have k10 : (l0_2.length != l1_2.length) = true := bne_iff_ne.mpr e6; clear e5 e6; obtain ⟨rfl, rfl⟩ := Prod.mk.inj (Option.some.inj h); clear h
      go_enter Tryd.func12, Tryd.ntmps12
      go_wp2_with (first | ((with_reducible refine gate_dst (N := 2) rfl ?_); refine sq_box 2 #[.int .i64 a0_0, .slice A0_1 l0_1.length c0_1, .slice A0_2 l0_2.length c0_2] 25 ?_; intro pa hpa wa hba hbb; have HA := Aside0.mk hba; have HW := Aside0.mk hbb; clear hpa hba hbb) | ((with_reducible refine gate_dst (N := 3) rfl ?_); refine sq_box 3 #[.int .i64 a1_0, .slice A1_1 l1_1.length c1_1, .slice A1_2 l1_2.length c1_2] 25 ?_; intro pb hpb wb hba hbb; have HAB := Aside0.mk (AB.mk (below_step HW.out hbb) (blk_below HA.out hbb) hba); clear hpb hba hbb; obtain ⟨hza0, hza1, hza2⟩ := tq_p3 (w := wb) HAB.out.ha; obtain ⟨hzb0, hzb1, hzb2⟩ := tq_p3 (w := wb) HAB.out.hb) | ((with_reducible refine gate_callee (f := 16) rfl ?_); refine sq_goes (some 13) Tryd.func16 #[.agg #[.int .i64 a0_0, .slice A0_1 l0_1.length c0_1, .slice A0_2 l0_2.length c0_2]] ?_; refine (system_Deterministic.calls k a0_0 _ _ l0_1 _ _ l0_2 true _ (Kd.C_below HR0_1.out HAB.out.below) HC0_1.out (Kd.C_below HR0_2.out HAB.out.below) HC0_2.out HD1.out).mono ?_; rintro e w3 ⟨rfl, hb⟩; refine ⟨_, rfl, ?_⟩; have HAB := Aside0.mk (HAB.out.step hb); clear hb; obtain ⟨hza0, hza1, hza2⟩ := tq_p3 (w := w3) HAB.out.ha; obtain ⟨hzb0, hzb1, hzb2⟩ := tq_p3 (w := w3) HAB.out.hb) | (go_at_call 17; (with_reducible refine (system_Reachable.calls k a0_0 _ _ l0_1 _ _ l0_2 true _ (Kd.C_below HR0_1.out HAB.out.below) HC0_1.out (Kd.C_below HR0_2.out HAB.out.below) HC0_2.out HD2.out).mono ?_); rintro e w4 ⟨rfl, hb⟩; have HAB := Aside0.mk (HAB.out.step hb); clear hb; obtain ⟨hza0, hza1, hza2⟩ := tq_p3 (w := w4) HAB.out.ha; obtain ⟨hzb0, hzb1, hzb2⟩ := tq_p3 (w := w4) HAB.out.hb) | (go_at_call 16; (with_reducible refine (system_Deterministic.calls k a1_0 _ _ l1_1 _ _ l1_2 true _ (Kd.C_below HR1_1.out HAB.out.below) HC1_1.out (Kd.C_below HR1_2.out HAB.out.below) HC1_2.out HD3.out).mono ?_); rintro e w4 ⟨rfl, hb⟩; have HAB := Aside0.mk (HAB.out.step hb); clear hb; obtain ⟨hza0, hza1, hza2⟩ := tq_p3 (w := w4) HAB.out.ha; obtain ⟨hzb0, hzb1, hzb2⟩ := tq_p3 (w := w4) HAB.out.hb) | (go_at_call 17; (with_reducible refine (system_Reachable.calls k a1_0 _ _ l1_1 _ _ l1_2 true _ (Kd.C_below HR1_1.out HAB.out.below) HC1_1.out (Kd.C_below HR1_2.out HAB.out.below) HC1_2.out HD4.out).mono ?_); rintro e w4 ⟨rfl, hb⟩; have HAB := Aside0.mk (HAB.out.step hb); clear hb; obtain ⟨hza0, hza1, hza2⟩ := tq_p3 (w := w4) HAB.out.ha; obtain ⟨hzb0, hzb1, hzb2⟩ := tq_p3 (w := w4) HAB.out.hb))
      go_ret2
      exact ⟨_, rfl, Kd.R_nil _ _ _ _ _, HAB.out.below⟩
     rw [if_pos e6] at h; have k7 : ((l0_2.length : Int) == (l1_2.length : Int)) = true := beq_iff_eq.mpr (by omega); have k8 : ((l0_2.length : Int) != (l1_2.length : Int)) = false := bne_eq_false_iff_eq.mpr (by omega); have k9 : (l0_2.length == l1_2.length) = true := beq_iff_eq.mpr e6; have k10 : (l0_2.length != l1_2.length) = false := bne_eq_false_iff_eq.mpr e6; have E5 := Aside0.mk e5; have E6 := Aside0.mk e6; clear e5 e6; obtain ⟨⟨tob, ok⟩, he, h⟩ := Option.bind_eq_some_iff.mp h
     cases ok with
     | false =>
      rw [if_neg (show ¬ (false = true) by decide)] at h; obtain ⟨rfl, rfl⟩ := Prod.mk.inj (Option.some.inj h); have HE := Aside0.mk he; clear h he
      go_enter Tryd.func12, Tryd.ntmps12
      go_wp2_with (first | ((with_reducible refine gate_dst (N := 2) rfl ?_); refine sq_box 2 #[.int .i64 a0_0, .slice A0_1 l0_1.length c0_1, .slice A0_2 l0_2.length c0_2] 25 ?_; intro pa hpa wa hba hbb; have HA := Aside0.mk hba; have HW := Aside0.mk hbb; clear hpa hba hbb) | ((with_reducible refine gate_dst (N := 3) rfl ?_); refine sq_box 3 #[.int .i64 a1_0, .slice A1_1 l1_1.length c1_1, .slice A1_2 l1_2.length c1_2] 25 ?_; intro pb hpb wb hba hbb; have HAB := Aside0.mk (AB.mk (below_step HW.out hbb) (blk_below HA.out hbb) hba); clear hpb hba hbb; obtain ⟨hza0, hza1, hza2⟩ := tq_p3 (w := wb) HAB.out.ha; obtain ⟨hzb0, hzb1, hzb2⟩ := tq_p3 (w := wb) HAB.out.hb) | ((with_reducible refine gate_callee (f := 16) rfl ?_); refine sq_goes (some 13) Tryd.func16 #[.agg #[.int .i64 a0_0, .slice A0_1 l0_1.length c0_1, .slice A0_2 l0_2.length c0_2]] ?_; refine (system_Deterministic.calls k a0_0 _ _ l0_1 _ _ l0_2 true _ (Kd.C_below HR0_1.out HAB.out.below) HC0_1.out (Kd.C_below HR0_2.out HAB.out.below) HC0_2.out HD1.out).mono ?_; rintro e w3 ⟨rfl, hb⟩; refine ⟨_, rfl, ?_⟩; have HAB := Aside0.mk (HAB.out.step hb); clear hb; obtain ⟨hza0, hza1, hza2⟩ := tq_p3 (w := w3) HAB.out.ha; obtain ⟨hzb0, hzb1, hzb2⟩ := tq_p3 (w := w3) HAB.out.hb) | (go_at_call 17; (with_reducible refine (system_Reachable.calls k a0_0 _ _ l0_1 _ _ l0_2 true _ (Kd.C_below HR0_1.out HAB.out.below) HC0_1.out (Kd.C_below HR0_2.out HAB.out.below) HC0_2.out HD2.out).mono ?_); rintro e w4 ⟨rfl, hb⟩; have HAB := Aside0.mk (HAB.out.step hb); clear hb; obtain ⟨hza0, hza1, hza2⟩ := tq_p3 (w := w4) HAB.out.ha; obtain ⟨hzb0, hzb1, hzb2⟩ := tq_p3 (w := w4) HAB.out.hb) | (go_at_call 16; (with_reducible refine (system_Deterministic.calls k a1_0 _ _ l1_1 _ _ l1_2 true _ (Kd.C_below HR1_1.out HAB.out.below) HC1_1.out (Kd.C_below HR1_2.out HAB.out.below) HC1_2.out HD3.out).mono ?_); rintro e w4 ⟨rfl, hb⟩; have HAB := Aside0.mk (HAB.out.step hb); clear hb; obtain ⟨hza0, hza1, hza2⟩ := tq_p3 (w := w4) HAB.out.ha; obtain ⟨hzb0, hzb1, hzb2⟩ := tq_p3 (w := w4) HAB.out.hb) | (go_at_call 17; (with_reducible refine (system_Reachable.calls k a1_0 _ _ l1_1 _ _ l1_2 true _ (Kd.C_below HR1_1.out HAB.out.below) HC1_1.out (Kd.C_below HR1_2.out HAB.out.below) HC1_2.out HD4.out).mono ?_); rintro e w4 ⟨rfl, hb⟩; have HAB := Aside0.mk (HAB.out.step hb); clear hb; obtain ⟨hza0, hza1, hza2⟩ := tq_p3 (w := w4) HAB.out.ha; obtain ⟨hzb0, hzb1, hzb2⟩ := tq_p3 (w := w4) HAB.out.hb) | ((with_reducible refine gate_callee (f := 27) rfl ?_); refine sq_goes (some 49) Tryd.func27 #[.agg #[.int .i64 a0_0, .slice A0_1 l0_1.length c0_1, .slice A0_2 l0_2.length c0_2], .agg #[.int .i64 a1_0, .slice A1_1 l1_1.length c1_1, .slice A1_2 l1_2.length c1_2]] ?_; refine (system_events.calls k a0_0 _ _ l0_1 _ _ l0_2 a1_0 _ _ l1_1 _ _ l1_2 tob false _ (Kd.C_below HR0_1.out HAB.out.below) HC0_1.out (Kd.C_below HR0_2.out HAB.out.below) HC0_2.out (Kd.C_below HR1_1.out HAB.out.below) HC1_1.out (Kd.C_below HR1_2.out HAB.out.below) HC1_2.out HE.out).mono ?_; rintro e w5 ⟨vT, rfl, ro, hb⟩; refine ⟨_, rfl, ?_⟩; have HAB := Aside0.mk (HAB.out.step hb); have HW5 := Aside0.mk HAB.out.below; obtain ⟨T, ct, rfl, hct, hcT⟩ := Kd.R_reads ro; have HCT := Aside0.mk hcT; clear hb ro hcT hct; obtain ⟨hza0, hza1, hza2⟩ := tq_p3 (w := w5) HAB.out.ha; obtain ⟨hzb0, hzb1, hzb2⟩ := tq_p3 (w := w5) HAB.out.hb) | ((with_reducible refine gate_dst (N := 6) rfl ?_); refine sq_box 6 #[.slice none 0 0] 37 ?_; intro pt hpt w6 hbx hbb; have HB6 := Aside0.mk (below_set (j := 0) (v := .slice T tob.length ct) hbb (Nat.le_of_eq hpt.symm)); have HPT := Aside0.mk (blk_put hbx 0 (.slice T tob.length ct) (cs' := #[.slice T tob.length ct]) rfl); have HAB := Aside0.mk (HAB.out.step HB6.out); have hzt : w6.cell? ⟨pt, 0, none⟩ = some (.slice none 0 0) := (blk_cell hbx 0).trans rfl; have hft := blk_frozen hbx 0; clear hpt hbx hbb; have hza0 : (w6.setCell ⟨pt, 0, none⟩ (.slice T tob.length ct)).cell? ⟨pa, 0, none⟩ = some (.int .i64 a0_0) := (blk_cell HAB.out.ha 0).trans rfl; have hza1 : (w6.setCell ⟨pt, 0, none⟩ (.slice T tob.length ct)).cell? ⟨pa, 1, none⟩ = some (.slice A0_1 l0_1.length c0_1) := (blk_cell HAB.out.ha 1).trans rfl; have hza2 : (w6.setCell ⟨pt, 0, none⟩ (.slice T tob.length ct)).cell? ⟨pa, 2, none⟩ = some (.slice A0_2 l0_2.length c0_2) := (blk_cell HAB.out.ha 2).trans rfl; have hzb0 : (w6.setCell ⟨pt, 0, none⟩ (.slice T tob.length ct)).cell? ⟨pb, 0, none⟩ = some (.int .i64 a1_0) := (blk_cell HAB.out.hb 0).trans rfl; have hzb1 : (w6.setCell ⟨pt, 0, none⟩ (.slice T tob.length ct)).cell? ⟨pb, 1, none⟩ = some (.slice A1_1 l1_1.length c1_1) := (blk_cell HAB.out.hb 1).trans rfl; have hzb2 : (w6.setCell ⟨pt, 0, none⟩ (.slice T tob.length ct)).cell? ⟨pb, 2, none⟩ = some (.slice A1_2 l1_2.length c1_2) := (blk_cell HAB.out.hb 2).trans rfl))
      go_ret2
      exact ⟨_, rfl, Kd.R_nil _ _ _ _ _, HAB.out.below⟩
     | true =>
      rw [if_pos rfl] at h
      unfold isoT at h
      by_cases e7 : (0 ≤ a0_0 ∧ a0_0.toNat ≤ 17592186044416) ∧ (0 ≤ a1_0 ∧ a1_0.toNat ≤ 17592186044416)
      rotate_left
      ·rw [if_neg e7] at h; simp at h
      rw [if_pos e7] at h; obtain ⟨⟨q1, q2, q3⟩, hq, h9⟩ := Option.bind_eq_some_iff.mp h; clear h; obtain ⟨⟨m0, m1⟩, m2, m3⟩ := e7; obtain ⟨n0, rfl⟩ := Int.eq_ofNat_of_zero_le m0; obtain ⟨m0', rfl⟩ := Int.eq_ofNat_of_zero_le m2
      simp only [Int.toNat_natCast] at m1 m3 hq
      exact system_Iso.deep k n0 m0' A0_1 c0_1 l0_1 A0_2 c0_2 l0_2 A1_1 c1_1 l1_1 A1_2 c1_2 l1_2 r1 r2 w HR0_1.out HC0_1.out HR0_2.out HC0_2.out HR1_1.out HC1_1.out HR1_2.out HC1_2.out HD1.out HD2.out HD3.out HD4.out E5.out E6.out tob he m1 m3 q1 q2 q3 hq h9
/-! ### petrinetlaw45_cycle: function 13 -/
def petrinetlaw45_cycle.f  : Option (Int × List ByteArray × (List (S46))) := some (2, (([(⟨#[97]⟩ : ByteArray), (⟨#[98]⟩ : ByteArray)] : List ByteArray)), (([(⟨0, 0, 1⟩ : S46), (⟨1, 1, 0⟩ : S46)] : List (S46))))
set_option maxHeartbeats 8000000 in
set_option maxRecDepth 100000 in
theorem petrinetlaw45_cycle.calls  (r1 : Int) (r2 : List ByteArray) (r3 : List (S46)) (w : World) (h : petrinetlaw45_cycle.f  = some (r1, r2, r3)) :
  Calls Tryd.prog 13 #[] w fun e w' => ∃ v1_ v2_ : Value, e = .returned (.agg #[.int .i64 r1, v1_, v2_]) ∧ Kd.R Kd.string 9 w' w.heap.size (fun _ => True) v1_ r2 ∧ Kd.R k46 46 w' w.heap.size (fun _ => True) v2_ r3 ∧ Below w.heap.size w w' := by
 have hv30 := Tryd.underlying30; have hu25 := Tryd.underlying25; have hu46 := Tryd.underlying46; have HB := Aside0.mk (Below.refl w.heap.size w); have H : (some (2, (([(⟨#[97]⟩ : ByteArray), (⟨#[98]⟩ : ByteArray)] : List ByteArray)), (([(⟨0, 0, 1⟩ : S46), (⟨1, 1, 0⟩ : S46)] : List (S46))))) = some (r1, r2, r3) := h; clear h; obtain ⟨y157, hy157⟩ : ∃ y_ : List ByteArray, y_ = (([(⟨#[97]⟩ : ByteArray), (⟨#[98]⟩ : ByteArray)] : List ByteArray)) := ⟨_, rfl⟩; replace H : (some (2, y157, (([(⟨0, 0, 1⟩ : S46), (⟨1, 1, 0⟩ : S46)] : List (S46))))) = some (r1, r2, r3) := by first | (rw [hy157]; exact H) | exact H
 have Ny157 := Aside0.mk hy157; clear hy157; obtain ⟨y160, hy160⟩ : ∃ y_ : List (S46), y_ = (([(⟨0, 0, 1⟩ : S46), (⟨1, 1, 0⟩ : S46)] : List (S46))) := ⟨_, rfl⟩; replace H : (some (2, y157, y160)) = some (r1, r2, r3) := by first | (rw [hy160]; exact H) | exact H
 have Ny160 := Aside0.mk hy160; clear hy160
 simp only [Option.some.injEq, Prod.mk.injEq] at H
 obtain ⟨rfl, rfl, rfl⟩ := H
 go_enter Tryd.func13, Tryd.ntmps13
 go_wp2_with (first | ((with_reducible refine gate_dst (N := 0) rfl ?_); refine sq_box 0 #[.int .i64 0, .slice none 0 0, .slice none 0 0] 25 ?_; intro gb156 hg w1 hbox hb; have BK156 := Aside0.mk hbox; have GW156 := tq_w HB hg; have GE156 := tq_w HB hg; replace HB := tq_s HB hb; clear hb hbox hg) | ((with_reducible refine gate_dst (N := 1) rfl ?_); refine Kd.R_lit Kd.string _ 9 ?hg (N := 1) ?hd (xs := ([(⟨#[97]⟩ : ByteArray), (⟨#[98]⟩ : ByteArray)] : List ByteArray)) (inner := [.string (⟨#[97]⟩ : ByteArray), .string (⟨#[98]⟩ : ByteArray)]) (ok := fun _ => True) (okp := fun _ => True) ?hr ?hp (fun _ hk => hk) trivial (Below.refl _ _) (Nat.le_refl _) (by simp) ?_; (case hd => rfl); (case hg => rfl); (case hr => first | (go_simp; done) | (go_simp; rfl)); (case hp => exact (Reps.one (show Kd.M Kd.string _ _ _ (⟨#[97]⟩ : ByteArray) [.string (⟨#[97]⟩ : ByteArray)] from rfl) (Reps.one (show Kd.M Kd.string _ _ _ (⟨#[98]⟩ : ByteArray) [.string (⟨#[98]⟩ : ByteArray)] from rfl) (Reps.none _ _)))); intro v158 w2 ho3 hb hg_ hnew_; clear hg_ hnew_; (first | rw [← Ny157.out] at ho3 | (simp only [Int.reduceToNat] at ho3; rw [← Ny157.out] at ho3)); have HO159 := Aside0.mk (Kd.R_lower ho3 (below_size (sq_bs HB.out))); replace BK156 := tq_k BK156 hb; replace HB := tq_s HB hb; clear hb ho3) | ((with_reducible refine gate_dst (N := 4) rfl ?_); refine Kd.R_lit k46 _ 46 ?hg (N := 4) ?hd (xs := ([(⟨0, 0, 1⟩ : S46), (⟨1, 1, 0⟩ : S46)] : List (S46))) (inner := [.int .i64 0, .int .i64 0, .int .i64 1, .int .i64 1, .int .i64 1, .int .i64 0]) (ok := fun _ => True) (okp := fun _ => True) ?hr ?hp (fun _ hk => hk) trivial (Below.refl _ _) (Nat.le_refl _) (by simp) ?_; (case hd => rfl); (case hg => rfl); (case hr => first | (go_simp; done) | (go_simp; rfl)); (case hp => exact (Reps.c3 (show Kd.M k46 _ _ _ (⟨0, 0, 1⟩ : S46) [.int .i64 0, .int .i64 0, .int .i64 1] from (k46_mkM _ _ _ (⟨0, 0, 1⟩ : S46) )) (Reps.c3 (show Kd.M k46 _ _ _ (⟨1, 1, 0⟩ : S46) [.int .i64 1, .int .i64 1, .int .i64 0] from (k46_mkM _ _ _ (⟨1, 1, 0⟩ : S46) )) (Reps.none _ _)))); intro v161 w4 ho5 hb hg_ hnew_; clear hg_ hnew_; (first | rw [← Ny160.out] at ho5 | (simp only [Int.reduceToNat] at ho5; rw [← Ny160.out] at ho5)); replace HO159 := tq_r HO159 hb; have HO162 := Aside0.mk (Kd.R_lower ho5 (below_size (sq_bs HB.out))); replace BK156 := tq_k BK156 hb; replace HB := tq_s HB hb; clear hb ho5; obtain ⟨Ao6, co6, eo6⟩ := Kd.R_slice HO162.out; subst eo6; obtain ⟨Ao7, co7, eo7⟩ := Kd.R_slice HO159.out; subst eo7; obtain ⟨hcz8_0, hcz8_1, hcz8_2, hfz8_0, hfz8_1, hfz8_2⟩ := tq_3 (w := w4) BK156))
 refine bodyPost_ret (results_cell_row rfl _ _ gb156 25 #[.int .i64 2, .slice Ao7 y157.length co7, .slice Ao6 y160.length co6] (0, 0) _ rfl (by refine tq_b ?_; refine blk_put (cs := #[.int .i64 2, .slice Ao7 y157.length co7, .slice none 0 0]) ?_ 2 _ rfl; refine tq_b ?_; refine blk_put (cs := #[.int .i64 2, .slice none 0 0, .slice none 0 0]) ?_ 1 _ rfl; refine tq_b ?_; refine blk_put (cs := #[.int .i64 0, .slice none 0 0, .slice none 0 0]) ?_ 0 _ rfl; refine tq_b ?_; exact BK156.out) Tryd.underlying25 rfl (by kernel_rfl)) rfl ?_
 exact ⟨_, _, by first | rfl | (simp [errW_none, errW_some] <;> rfl) | (simp [*, errW_none, errW_some] <;> rfl), by (with_reducible repeat (first | apply Kd.R_alloc | apply Kd.R_drewN | apply Kd.R_drew)); exact Kd.R_mono (Kd.R_far (p := ⟨gb156, 2, none⟩) (Kd.R_far (p := ⟨gb156, 1, none⟩) (Kd.R_far (p := ⟨gb156, 0, none⟩) (Kd.R_types HO159.out BK156.out (by decide)) (fun _ hk => hk.2) (.int .i64 2)) (fun _ hk => hk.2) (.slice Ao7 y157.length co7)) (fun _ hk => hk.2) (.slice Ao6 y160.length co6)) (fun _ hk => trivial), by (with_reducible repeat (first | apply Kd.R_alloc | apply Kd.R_drewN | apply Kd.R_drew)); exact Kd.R_mono (Kd.R_far (p := ⟨gb156, 2, none⟩) (Kd.R_far (p := ⟨gb156, 1, none⟩) (Kd.R_far (p := ⟨gb156, 0, none⟩) (Kd.R_types HO162.out BK156.out (by decide)) (fun _ hk => hk.2) (.int .i64 2)) (fun _ hk => hk.2) (.slice Ao7 y157.length co7)) (fun _ hk => hk.2) (.slice Ao6 y160.length co6)) (fun _ hk => trivial), sq_bs HB.out⟩
/-! ### petrinetref04_Same: function 14 -/
def petrinetref04_Same.l0 : Nat → List Int → List Int → Int → Option (Bool)
 | 0, _, _, _ => none
 | k + 1, x0, x1, x5 => if x5 < (x0.length : Int) then (if 0 ≤ x5 then (if x5 < (x1.length : Int) then (if (rd x0 x5) = (rd x1 x5) then (petrinetref04_Same.l0 k x0 x1 (wrap64 (x5 + 1))) else (some false)) else (none)) else (none)) else (some true)
def petrinetref04_Same.f (k : Nat) (l0 : List Int) (l1 : List Int) : Option (Bool) := if (l0.length : Int) = (l1.length : Int) then (petrinetref04_Same.l0 k l0 l1 0) else (some false)
theorem petrinetref04_Same.mono_l : ∀ k, (∀ y0 y1 y2, LeO (petrinetref04_Same.l0 k y0 y1 y2) (petrinetref04_Same.l0 (k + 1) y0 y1 y2))
 | 0 => fun _ _ _ r h => by simp [petrinetref04_Same.l0] at h
 | k + 1 => by
  have ih0 := petrinetref04_Same.mono_l k
  ·intro y0 y1 y2
   unfold petrinetref04_Same.l0
   repeat' (with_reducible first | exact ih0 _ _ _ | exact LeO.refl _ | exact LeO.none _ | refine LeO.ite ?_ ?_ | refine LeO.bind ?_ (fun _ => ?_))
theorem petrinetref04_Same.mono : ∀ a0 a1 k, LeO (petrinetref04_Same.f k a0 a1) (petrinetref04_Same.f (k + 1) a0 a1) := by
 intro a0 a1 k
 have ih0 := petrinetref04_Same.mono_l k
 unfold petrinetref04_Same.f
 repeat' (with_reducible first | exact ih0 _ _ _ | exact LeO.refl _ | exact LeO.none _ | refine LeO.ite ?_ ?_ | refine LeO.bind ?_ (fun _ => ?_))
set_option maxHeartbeats 8000000 in
set_option maxRecDepth 100000 in
theorem petrinetref04_Same.calls (k : Nat) (A0 : Option Addr) (c0 : Nat) (l0 : List Int) (A1 : Option Addr) (c1 : Nat) (l1 : List Int) (r : Bool) (w : World) (hr0 : Kd.C (Kd.int .i64) w A0 l0.length l0) (hc0 : l0.length ≤ c0) (hr1 : Kd.C (Kd.int .i64) w A1 l1.length l1) (hc1 : l1.length ≤ c1) (h : petrinetref04_Same.f k l0 l1 = some r) :
  Calls Tryd.prog 14 #[.slice A0 l0.length c0, .slice A1 l1.length c1] w fun e w' => e = .returned (.bool r) ∧ Drawn0 w w' := by
 have hv30 := Tryd.underlying30; have HR0 := Aside0.mk hr0; have HC0 := Aside0.mk hc0; clear hr0 hc0; have HR1 := Aside0.mk hr1; have HC1 := Aside0.mk hc1; clear hr1 hc1; have H : (if (l0.length : Int) = (l1.length : Int) then (petrinetref04_Same.l0 k l0 l1 0) else (some false)) = some r := h; clear h; revert H; refine tq_rr (fun c3 H => ?_) (fun c3 H => ?_); rotate_left
 ·obtain ⟨c3b0, c3b1⟩ := tq_n c3; have c3b2 : (l0.length == l1.length) = false := by first | simpa using c3 | (simp at c3 ⊢; omega)
  obtain rfl := Option.some.inj H
  go_enter Tryd.func14, Tryd.ntmps14
  go_wp2
  repeat (go_quiet (fail); try go_wp2)
  go_ret
  exact ⟨by first | rfl | (simp; done) | (simp [*]; done), by repeat (first | exact Drawn0.refl _ | apply Drawn0.step)⟩
 obtain ⟨c3b0, c3b1⟩ := tq_e c3; have c3b2 : (l0.length == l1.length) = true := by first | simpa using c3 | (simp at c3 ⊢; omega)
 clear c3; have H' := Aside0.mk H; clear H
 go_enter Tryd.func14, Tryd.ntmps14
 go_wp2
 repeat (go_quiet (fail); try go_wp2)
 go_loopg [5] k (fun kq v5 w' => ∃ (x5_1 : Int), v5 = .int .i64 x5_1 ∧ Aside0 (petrinetref04_Same.l0 kq l0 l1 x5_1 = some r) ∧ Aside0 (kq ≤ k) ∧ Drawn0 w w')
 case atStart => exact ⟨(0), tq_z, H', ⟨Nat.le_refl _⟩, by repeat (first | exact Drawn0.refl _ | apply Drawn0.step)⟩
 case round =>
  clear H'
  try clear c3b0
  try clear c3b1
  try clear c3b2
  obtain ⟨x5_1, rfl, HA, HK1, ⟨m1, rfl⟩⟩ := hrel
  cases gk with
  | zero => exact absurd HA.out (by simp [petrinetref04_Same.l0])
  | succ k1 =>
   have H := HA.out; clear HA
   simp only [petrinetref04_Same.l0] at H
   revert H; refine tq_dd (fun c4b0 H => ?_) (fun c4b0 H => ?_); rotate_left
   ·obtain rfl := Option.some.inj H
    go_wp2
    repeat (go_quiet (fail); try go_wp2)
    go_ret
    exact ⟨by first | rfl | (simp; done) | (simp [*]; done), by repeat (first | exact Drawn0.refl _ | apply Drawn0.step)⟩
   revert H; refine tq_i1 fun c5b0 H => ?_; revert H; refine tq_i1 fun c6b0 H => ?_; have HH_ := Aside0.mk H; clear H; have p163 : 0 ≤ (x5_1 : Int) := sq_d; have q163 : x5_1 < (l0.length : Int) := sq_d; have LQ163 := Aside0.mk q163; obtain ⟨ad163, e163, hx163_0⟩ := Kd.at_int HR0.out x5_1 p163 q163; cases e163; replace p163 := eq_true p163; replace q163 := eq_true q163; have p164 : 0 ≤ (x5_1 : Int) := sq_d; have q164 : x5_1 < (l1.length : Int) := sq_d; have LQ164 := Aside0.mk q164; obtain ⟨ad164, e164, hx164_0⟩ := Kd.at_int HR1.out x5_1 p164 q164; cases e164; replace p164 := eq_true p164; replace q164 := eq_true q164; have H := HH_.out; clear HH_; revert H; refine tq_rr (fun c7 H => ?_) (fun c7 H => ?_); rotate_left
   ·obtain ⟨c7b0, c7b1⟩ := tq_n c7; obtain rfl := Option.some.inj H
    go_wp2
    repeat (go_quiet (fail); try go_wp2)
    go_ret
    exact ⟨by first | rfl | (simp; done) | (simp [*]; done), by repeat (first | exact Drawn0.refl _ | apply Drawn0.step)⟩
   obtain ⟨c7b0, c7b1⟩ := tq_e c7; clear c7; have H' := Aside0.mk H; clear H
   go_wp2
   repeat (go_quiet (fail); try go_wp2)
   go_roundg k1
   case measure => have := HK1.out; omega
   case rel => exact ⟨(wrap64 (x5_1 + 1)), tq_z, H', ⟨by have := HK1.out; omega⟩, by repeat (first | exact Drawn0.refl _ | apply Drawn0.step)⟩
/-! ### system_Next: function 15 -/
def system_Next.f (k : Nat) (a0_0 : Int) (l0_1 : List ByteArray) (l0_2 : List (S46)) (a1 : Int) (a2 : Int) : Option (Int) := (system_valid.f k a0_0 l0_1 l0_2).bind fun t166 => (if t166 = true then ((system_next.f k a0_0 l0_1 l0_2 a1 a2).bind fun t167 => (some t167)) else (some (-1)))
theorem system_Next.mono : ∀ a0 a1 a2 a3 a4 k, LeO (system_Next.f k a0 a1 a2 a3 a4) (system_Next.f (k + 1) a0 a1 a2 a3 a4) := by
 intro a0 a1 a2 a3 a4 k
 unfold system_Next.f
 repeat' (with_reducible first | exact system_next.mono _ _ _ _ _ _ | exact system_valid.mono _ _ _ _ | exact LeO.refl _ | exact LeO.none _ | refine LeO.ite ?_ ?_ | refine LeO.bind ?_ (fun _ => ?_))
set_option maxHeartbeats 8000000 in
set_option maxRecDepth 100000 in
theorem system_Next.calls (k : Nat) (a0_0 : Int) (A0_1 : Option Addr) (c0_1 : Nat) (l0_1 : List ByteArray) (A0_2 : Option Addr) (c0_2 : Nat) (l0_2 : List (S46)) (a1 : Int) (a2 : Int) (r : Int) (w : World) (hr0_1 : Kd.C Kd.string w A0_1 l0_1.length l0_1) (hc0_1 : l0_1.length ≤ c0_1) (hr0_2 : Kd.C k46 w A0_2 l0_2.length l0_2) (hc0_2 : l0_2.length ≤ c0_2) (h : system_Next.f k a0_0 l0_1 l0_2 a1 a2 = some r) :
  Calls Tryd.prog 15 #[.agg #[.int .i64 a0_0, .slice A0_1 l0_1.length c0_1, .slice A0_2 l0_2.length c0_2], .int .i64 a1, .int .i64 a2] w fun e w' => e = .returned (.int .i64 r) ∧ Below w.heap.size w w' := by
 have hv30 := Tryd.underlying30; have hu25 := Tryd.underlying25; have HR0_1 := Aside0.mk hr0_1; have HC0_1 := Aside0.mk hc0_1; clear hr0_1 hc0_1; have HR0_2 := Aside0.mk hr0_2; have HC0_2 := Aside0.mk hc0_2; clear hr0_2 hc0_2; have HB := Aside0.mk (Below.refl w.heap.size w); have H : ((system_valid.f k a0_0 l0_1 l0_2).bind fun t166 => (if t166 = true then ((system_next.f k a0_0 l0_1 l0_2 a1 a2).bind fun t167 => (some t167)) else (some (-1)))) = some r := h; clear h; revert H; refine tq_o fun t166 A4 H => ?_; cases t166
 ·replace H := tq_f H; obtain rfl := Option.some.inj H
  go_enter Tryd.func15, Tryd.ntmps15
  go_wp2_with (first | ((with_reducible refine gate_dst (N := 3) rfl ?_); refine sq_box 3 #[.int .i64 a0_0, .slice A0_1 l0_1.length c0_1, .slice A0_2 l0_2.length c0_2] 25 ?_; intro gb165 hg w12 hbox hb; have BK165 := Aside0.mk hbox; have GW165 := tq_w HB hg; have GE165 := tq_w HB hg; replace HB := tq_s HB hb; clear hb hbox hg; obtain ⟨hcz13_0, hcz13_1, hcz13_2, hfz13_0, hfz13_1, hfz13_2⟩ := tq_3 (w := w12) BK165) | ((with_reducible refine gate_callee (f := 30) rfl ?_); refine sq_goes (some 8) Tryd.func30 #[.agg #[.int .i64 a0_0, .slice A0_1 l0_1.length c0_1, .slice A0_2 l0_2.length c0_2]] ?_; (with_reducible refine (system_valid.calls k a0_0 _ _ l0_1 _ _ l0_2 false _ ?s1 ?s2 ?s3 ?s4 A4.out).mono ?_); (case s1 => exact tq_c HR0_1 HB); (case s2 => exact HC0_1.out); (case s3 => exact tq_c HR0_2 HB); (case s4 => exact HC0_2.out); rintro e w14 ⟨rfl, hb⟩; refine ⟨_, rfl, ?_⟩; replace BK165 := tq_k BK165 hb; replace HB := tq_s HB hb; (try clear hb)))
  go_ret
  exact tq_v (sq_bs HB.out)
 replace H := tq_t H; revert H; refine tq_o fun t167 A6 H => ?_; obtain rfl := Option.some.inj H
 go_enter Tryd.func15, Tryd.ntmps15
 go_wp2_with (first | ((with_reducible refine gate_dst (N := 3) rfl ?_); refine sq_box 3 #[.int .i64 a0_0, .slice A0_1 l0_1.length c0_1, .slice A0_2 l0_2.length c0_2] 25 ?_; intro gb165 hg w7 hbox hb; have BK165 := Aside0.mk hbox; have GW165 := tq_w HB hg; have GE165 := tq_w HB hg; replace HB := tq_s HB hb; clear hb hbox hg; obtain ⟨hcz8_0, hcz8_1, hcz8_2, hfz8_0, hfz8_1, hfz8_2⟩ := tq_3 (w := w7) BK165) | ((with_reducible refine gate_callee (f := 30) rfl ?_); refine sq_goes (some 8) Tryd.func30 #[.agg #[.int .i64 a0_0, .slice A0_1 l0_1.length c0_1, .slice A0_2 l0_2.length c0_2]] ?_; (with_reducible refine (system_valid.calls k a0_0 _ _ l0_1 _ _ l0_2 true _ ?s1 ?s2 ?s3 ?s4 A4.out).mono ?_); (case s1 => exact tq_c HR0_1 HB); (case s2 => exact HC0_1.out); (case s3 => exact tq_c HR0_2 HB); (case s4 => exact HC0_2.out); rintro e w9 ⟨rfl, hb⟩; refine ⟨_, rfl, ?_⟩; replace BK165 := tq_k BK165 hb; replace HB := tq_s HB hb; (try clear hb); obtain ⟨hcz10_0, hcz10_1, hcz10_2, hfz10_0, hfz10_1, hfz10_2⟩ := tq_3 (w := w9) BK165) | ((with_reducible refine gate_callee (f := 29) rfl ?_); refine sq_goes (some 13) Tryd.func29 #[.agg #[.int .i64 a0_0, .slice A0_1 l0_1.length c0_1, .slice A0_2 l0_2.length c0_2], .int .i64 a1, .int .i64 a2] ?_; (with_reducible refine (system_next.calls k a0_0 _ _ l0_1 _ _ l0_2 a1 a2 t167 _ ?s1 ?s2 ?s3 ?s4 A6.out).mono ?_); (case s1 => exact tq_c HR0_1 HB); (case s2 => exact HC0_1.out); (case s3 => exact tq_c HR0_2 HB); (case s4 => exact HC0_2.out); rintro e w11 ⟨rfl, hb⟩; refine ⟨_, rfl, ?_⟩; replace BK165 := tq_k BK165 hb; replace HB := tq_s HB hb; (try clear hb)))
 go_ret
 exact tq_v (sq_bs HB.out)
end Go.Proofs.YtcnliampiibpbaaDoor.PAll
