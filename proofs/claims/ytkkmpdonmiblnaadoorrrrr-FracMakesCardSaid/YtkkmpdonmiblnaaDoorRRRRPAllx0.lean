/- Lean functions for the Go functions of this seat, each with the proof that the call returns what the Lean function says; or the row of a law, over such a function. Printed by a program of ours (wip/tools/myprint.py), with hand-written texts where that one cannot. No condition but the ones written. -/
import Derived.Test.YtkkmpdonmiblnaaDoorRRRRProg
import Derived.Below
import Derived.Deep.Draws
import Derived.Deep.AppendLies
import Derived.Maps.AppendAt
import Derived.OwnWalk
import Derived.Laws.BytesArg
import Derived.Laws.MakeOwn
import Derived.Laws.OwnMore
import Derived.Deep.OwnRows
import Derived.Tactics
import Derived.Lib.ConvBytes
import Derived.Laws.Slices
import Derived.WalkKit
import Derived.KernelRfl
import Derived.RowKit3
import Derived.Deep.LoopGhost
import Derived.Deep.QuietTactic
import Derived.BigQuiet
import Derived.WideLaws
import Derived.Deep.DeepCutAuto
import Derived.Deep.CutBlock
import Derived.Deep.RegionHeld3
import Derived.Laws.Rows
import Derived.Lib.AppendStr
import Derived.ArgAppend
import Derived.Laws.IdiomCopy
import Derived.OrdersHeld
import Derived.Laws.BitsLemmas
import Derived.RowKit
import Derived.WalkSmall
import Derived.Lib.AppendIntMem
import Derived.LoopTactic
import Derived.Laws.RangeAny
import Derived.Laws.RangeString
import Derived.Test.YtkkmpdonmiblnaaDoorRRRRShelf
import Derived.Test.YtkkmpdonmiblnaaDoorRRRRCopyW
import Derived.Test.YtkkmpdonmiblnaaDoorRRRRWWords
import Derived.Test.YtkkmpdonmiblnaaDoorRRRRWLast
import Derived.Test.YtkkmpdonmiblnaaDoorRRRRWTab
import Derived.Test.YtkkmpdonmiblnaaDoorRRRRWFour
import Derived.Test.YtkkmpdonmiblnaaDoorRRRRWQPut
import Derived.Test.YtkkmpdonmiblnaaDoorRRRRWApart
import Derived.Test.YtkkmpdonmiblnaaDoorRRRRWArr
import Derived.Test.YtkkmpdonmiblnaaDoorRRRRWZeros
import Derived.Test.YtkkmpdonmiblnaaDoorRRRRWFoot
import Derived.Test.YtkkmpdonmiblnaaDoorRRRRWKept
import Derived.Test.YtkkmpdonmiblnaaDoorRRRRWShare
import Derived.Test.YtkkmpdonmiblnaaDoorRRRRWN
import Derived.Test.YtkkmpdonmiblnaaDoorRRRRWFootNe
import Derived.Test.YtkkmpdonmiblnaaDoorRRRRWAt
import Derived.Test.YtkkmpdonmiblnaaDoorRRRRWEqStruct
import Derived.Test.YtkkmpdonmiblnaaDoorRRRRWRepsOne
import Derived.Test.YtkkmpdonmiblnaaDoorRRRRWInv
import Derived.Test.YtkkmpdonmiblnaaDoorRRRRWInvWords
import Derived.Test.YtkkmpdonmiblnaaDoorRRRRWGuard
import Derived.Test.YtkkmpdonmiblnaaDoorRRRRWNEv
import Derived.Test.YtkkmpdonmiblnaaDoorRRRRWMore
namespace Go.Proofs.YtkkmpdonmiblnaaDoorRRRR.PAll
open Go.RowKit Go.Proofs.YtkkmpdonmiblnaaDoorRRRRW.PrintWords Go.Proofs.YtkkmpdonmiblnaaDoorRRRRW.PrintLast Go.Proofs.YtkkmpdonmiblnaaDoorRRRRW.PrintMore
attribute [local go_sem] max2_int min2_int max_two min_two max_three min_three max_four min_four   -- for this text's walks alone
set_option linter.unusedVariables false
set_option linter.unusedSimpArgs false



def errW : Option Int → Value
  | none => .nilIface
  | some c => .iface 0 (.int .i64 c)
theorem lit_size_ (l : List UInt8) : (ByteArray.mk l.toArray).size = l.length := rfl
theorem errW_none : errW none = .nilIface := rfl
theorem errW_some (c : Int) : errW (some c) = .iface 0 (.int .i64 c) := rfl

theorem info5 : (Tryd.prog.info? 5).map (fun i => (i.zero, i.size, i.bytes)) = some (some (.int .u8 0), 1, 1) := by kernel_rfl
-- the values' own types
/-! #### struct type 56 -/
structure S56 where
  f0 : Int
  f1 : Int
def z56 : S56 := ⟨(0 : Int), (0 : Int)⟩
def k56 : Kd S56 := Kd.iso (Kd.pair (Kd.int .u64) (Kd.int .u64)) (fun x : S56 => (x.f0, x.f1))
theorem k56_open {w : World} {x : S56} {cs : List Value} (h : k56.K w x cs) : cs = [.int .u64 x.f0, .int .u64 x.f1] := by
  obtain ⟨_, _, rfl, rfl, rfl⟩ := h
  exact rfl
theorem k56_openM {w : World} {base : Nat} {ok : Nat → Prop} {x : S56} {cs : List Value} (h : k56.M w base ok x cs) : cs = [.int .u64 x.f0, .int .u64 x.f1] := by
  obtain ⟨_, _, rfl, rfl, rfl⟩ := h
  exact rfl
theorem k56_mk (w : World) (x : S56)  : k56.K w x [.int .u64 x.f0, .int .u64 x.f1] := ⟨[.int .u64 x.f0], [.int .u64 x.f1], rfl, rfl, rfl⟩
theorem k56_mkM (w : World) (base : Nat) (ok : Nat → Prop) (x : S56)  : k56.M w base ok x [.int .u64 x.f0, .int .u64 x.f1] := ⟨[.int .u64 x.f0], [.int .u64 x.f1], rfl, rfl, rfl⟩
def rd_T56 (xs : List S56) (i : Int) : S56 := xs.getD i.toNat z56
theorem at_T56 {w : World} {A : Option Addr} {n : Nat} {xs : List S56} (h : Kd.C k56 w A n xs) (i : Int) (h0 : 0 ≤ i) (h1 : i < n) : ∃ ad , A = some ad ∧ w.cell? (ad.add (i.toNat * 2)) = some (.int .u64 (rd_T56 xs i).f0) ∧ w.cell? ⟨(ad.add (i.toNat * 2)).block, (ad.add (i.toNat * 2)).off + 1, none⟩ = some (.int .u64 (rd_T56 xs i).f1) := by
  obtain ⟨ad, c, e, _, hK, hc0⟩ := Kd.C_get h z56 i h0 h1
  have hc : ∀ j u, c[j]? = some u → w.cell? (ad.add (i.toNat * 2 + j)) = some u := hc0
  obtain rfl := k56_open hK
  exact ⟨ad, e, hc 0 _ rfl, by rw [← add_field _ _ 1 (by omega)]; exact hc 1 _ rfl⟩

end Go.Proofs.YtkkmpdonmiblnaaDoorRRRR.PAll
