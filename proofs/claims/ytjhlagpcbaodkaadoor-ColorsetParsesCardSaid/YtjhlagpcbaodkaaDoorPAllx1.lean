/- Lean functions for the Go functions of this seat, each with the proof that the call returns what the Lean function says; or the row of a law, over such a function. Printed by a program of ours (wip/tools/myprint.py), with hand-written texts where that one cannot. No condition but the ones written. -/
import Derived.Test.YtjhlagpcbaodkaaDoorPAllx0
namespace Go.Proofs.YtjhlagpcbaodkaaDoor.PAll
open Go.RowKit Go.Proofs.YtjhlagpcbaodkaaDoorW.PrintWords Go.Proofs.YtjhlagpcbaodkaaDoorW.PrintLast Go.Proofs.YtjhlagpcbaodkaaDoorW.PrintMore
attribute [local go_sem] max2_int min2_int max_two min_two max_three min_three max_four min_four   -- for this text's walks alone
set_option linter.unusedVariables false
set_option linter.unusedSimpArgs false

/-- What a listed package-level variable holds: strconv's table of powers of ten. -/
structure LaidW (w : World) : Prop where
  low : 0 < w.heap.size
  tab : Lib.TabIs Tryd.prog w "internal/strconv.uint64pow10" .u64 Lib.pow10Tab
theorem laid_g0 : Tryd.prog.globalNamed "internal/strconv.uint64pow10" = some 0 := by kernel_rfl
theorem LaidW.below {w W : World} (h : LaidW w) (hb : Below w.heap.size w W) : LaidW W := by
  have hs := hb.size
  have hl := h.low
  exact ⟨by omega, var?_below hb laid_g0 (by omega) h.tab⟩

/-- What the listed package-level variables hold: strconv's table of powers of ten, its two sentinels. -/
structure LaidE (w : World) : Prop where
  toW : LaidW w
  low1 : 1 < w.heap.size
  low2 : 2 < w.heap.size
  syn : ∃ tp p, w.var? Tryd.prog "strconv.ErrSyntax" = some #[.iface tp p]
  rng : ∃ tp p, w.var? Tryd.prog "strconv.ErrRange" = some #[.iface tp p]
theorem laid_g1 : Tryd.prog.globalNamed "strconv.ErrSyntax" = some 1 := by kernel_rfl
theorem laid_g2 : Tryd.prog.globalNamed "strconv.ErrRange" = some 2 := by kernel_rfl
theorem LaidE.below {w W : World} (h : LaidE w) (hb : Below w.heap.size w W) : LaidE W := by
  have hs := hb.size
  have h1 := h.low1
  have h2 := h.low2
  refine ⟨h.toW.below hb, by omega, by omega, ?_, ?_⟩
  · obtain ⟨tp, p, e⟩ := h.syn
    exact ⟨tp, p, var?_below hb laid_g1 (by omega) e⟩
  · obtain ⟨tp, p, e⟩ := h.rng
    exact ⟨tp, p, var?_below hb laid_g2 (by omega) e⟩

/-! ### colorset_Name: function 10 -/
/-- May the byte stand at a place of a name: a small letter or '_' anywhere; a digit or '.' behind the first. -/
def nmByte (c i : Nat) : Bool := (decide (97 ≤ c ∧ c ≤ 122) || decide (c = 95)) || (decide (i ≠ 0) && (decide (48 ≤ c ∧ c ≤ 57) || decide (c = 46)))
def nmFrom (s : ByteArray) : Nat → Nat → Bool
  | 0, _ => true
  | n + 1, pos => if h : pos < s.size then (nmByte (s[pos]'h).toNat pos && nmFrom s n (pos + 1)) else true
def colorset_Name.f (a0 : ByteArray) : Option Bool := some (decide (1 ≤ a0.size ∧ a0.size ≤ 16) && nmFrom a0 a0.size 0)
theorem nm_round (s : ByteArray) (pos : Nat) (hp : pos < s.size) : ∃ c d : Nat, Utf8.decode s pos = (c, d) ∧
    (nmByte c pos = true → d = 1 ∧ nmFrom s (s.size - pos) pos = nmFrom s (s.size - (pos + 1)) (pos + 1)) ∧ (nmByte c pos = false → nmFrom s (s.size - pos) pos = false) := by
  have e : s.size - pos = (s.size - (pos + 1)) + 1 := by omega
  by_cases ha : (s[pos]'hp).toNat < 128
  · refine ⟨(s[pos]'hp).toNat, 1, decode_ascii s pos hp ha, fun h => ⟨rfl, ?_⟩, fun h => ?_⟩
    · rw [e, nmFrom, dif_pos hp, h, Bool.true_and]
    · rw [e, nmFrom, dif_pos hp, h, Bool.false_and]
  · have hd := decode_high s pos hp (by omega)
    refine ⟨(Utf8.decode s pos).1, (Utf8.decode s pos).2, rfl, fun h => ?_, fun _ => ?_⟩
    · unfold nmByte at h; simp at h; omega
    · have hb : nmByte (s[pos]'hp).toNat pos = false := by unfold nmByte; simp; omega
      rw [e, nmFrom, dif_pos hp, hb, Bool.false_and]
set_option maxHeartbeats 4000000 in
set_option maxRecDepth 1000000 in
theorem colorset_Name.calls (a0 : ByteArray) (r : Bool) (w : World) (h : colorset_Name.f a0 = some r) :
    Calls Tryd.prog 10 #[.string a0] w fun e w' => e = .returned (.bool r) ∧ Below w.heap.size w w' := by
  obtain rfl := Option.some.inj h
  clear h
  go_enter Tryd.func10, Tryd.ntmps10
  by_cases h1 : 1 ≤ a0.size ∧ a0.size ≤ 16
  · have t1 : ((a0.size : Int) < 1) = False := by simp; omega
    have t2 : ((a0.size : Int) > 16) = False := by simp; omega
    go_wp2
    go_loopw [2] (fun n w' => ∃ pos : Nat, n = .bool false ∧ w' = w.iter a0 pos ∧ pos ≤ a0.size ∧ nmFrom a0 (a0.size - pos) pos = nmFrom a0 a0.size 0) (fun _ w' => a0.size - w'.iterPos w.heap.size)
    case atStart => exact ⟨0, rfl, rfl, by omega, rfl⟩
    case round =>
      obtain ⟨pos, rfl, rfl, hle, hc⟩ := hrel
      by_cases hp : pos < a0.size
      · obtain ⟨c, d, hdec, hK1, hK2⟩ := nm_round a0 pos hp
        have hnx : ∀ ty, (Instr.next (.pointer (some ⟨w.heap.size, 0, none⟩)) true ty).run Tryd.prog (w.iter a0 pos) = .ok (.tuple #[.bool true, .int .i64 pos, .int .i32 c]) (w.iter a0 (pos + d)) := fun ty => by
          rw [run_next_any w a0 pos ty hp, hdec]
        clear hdec
        go_wp2
        all_goals first
          | (have hb : nmByte c pos = true := by (clear hK1 hK2 hc hnx t1 t2; unfold nmByte; first | (simp_all; done) | (simp_all; omega) | grind)
             obtain ⟨rfl, hk⟩ := hK1 hb
             refine ⟨⟨pos + 1, rfl, ?_, by omega, by rw [← hc, hk]⟩, ?_⟩
             · first | rfl | (congr 1; omega)
             · simp; omega)
          | (have hb : nmByte c pos = false := by (clear hK1 hK2 hc hnx t1 t2; unfold nmByte; first | (simp_all; done) | (simp_all; omega) | grind)
             go_ret
             have hf := hK2 hb
             rw [hc] at hf
             rw [hf]
             exact ⟨by simp, below_alloc (Below.refl _ _) _⟩)
      · have hnx : ∀ ty, (Instr.next (.pointer (some ⟨w.heap.size, 0, none⟩)) true ty).run Tryd.prog (w.iter a0 pos) = _ := fun ty => run_next_end w a0 pos ty hp
        go_wp2
        go_ret
        have e : pos = a0.size := by omega
        subst e
        rw [← hc, Nat.sub_self]
        exact ⟨by simp [nmFrom, h1], below_alloc (Below.refl _ _) _⟩
  · by_cases h2 : a0.size < 1
    · have t1 : ((a0.size : Int) < 1) = True := by simp; omega
      go_wp2
      go_ret
      exact ⟨by rw [decide_eq_false h1]; rfl, Below.refl _ _⟩
    · have t1 : ((a0.size : Int) < 1) = False := by simp; omega
      have t2 : ((a0.size : Int) > 16) = True := by simp; omega
      go_wp2
      go_ret
      exact ⟨by rw [decide_eq_false h1]; rfl, Below.refl _ _⟩


end Go.Proofs.YtjhlagpcbaodkaaDoor.PAll
