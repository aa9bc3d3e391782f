/- Lean functions for the Go functions of this seat, each with the proof that the call returns what the Lean function says; or the row of a law, over such a function. Printed by a program of ours (wip/tools/myprint.py), with hand-written texts where that one cannot. No condition but the ones written. -/
import Derived.Test.YtoobmfofkeaibaaDoorProg
import Derived.Below
import Derived.Deep.Draws
import Derived.Deep.AppendLies
import Derived.Maps.AppendAt
import Derived.OwnWalk
import Derived.Laws.BytesArg
import Derived.Laws.MakeOwn
import Derived.Laws.OwnMore
import Derived.Deep.OwnRows
import Derived.Tactics
import Derived.Lib.ConvBytes
import Derived.Laws.Slices
import Derived.WalkKit
import Derived.KernelRfl
import Derived.RowKit3
import Derived.Deep.LoopGhost
import Derived.Deep.QuietTactic
import Derived.BigQuiet
import Derived.WideLaws
import Derived.Deep.DeepCutAuto
import Derived.Deep.CutBlock
import Derived.Deep.RegionHeld3
import Derived.Laws.Rows
import Derived.Lib.AppendStr
import Derived.ArgAppend
import Derived.Laws.IdiomCopy
import Derived.OrdersHeld
import Derived.Laws.BitsLemmas
import Derived.RowKit
import Derived.WalkSmall
import Derived.Lib.AppendIntMem
import Derived.Test.YtoobmfofkeaibaaDoorShelf
import Derived.Test.YtoobmfofkeaibaaDoorCopyW
import Derived.Test.YtoobmfofkeaibaaDoorWWords
import Derived.Test.YtoobmfofkeaibaaDoorWLast
import Derived.Test.YtoobmfofkeaibaaDoorWTab
import Derived.Test.YtoobmfofkeaibaaDoorWFour
import Derived.Test.YtoobmfofkeaibaaDoorWQPut
import Derived.Test.YtoobmfofkeaibaaDoorWApart
import Derived.Test.YtoobmfofkeaibaaDoorWArr
import Derived.Test.YtoobmfofkeaibaaDoorWZeros
import Derived.Test.YtoobmfofkeaibaaDoorWFoot
import Derived.Test.YtoobmfofkeaibaaDoorWKept
import Derived.Test.YtoobmfofkeaibaaDoorWShare
import Derived.Test.YtoobmfofkeaibaaDoorWN
import Derived.Test.YtoobmfofkeaibaaDoorWFootNe
import Derived.Test.YtoobmfofkeaibaaDoorWAt
import Derived.Test.YtoobmfofkeaibaaDoorWEqStruct
import Derived.Test.YtoobmfofkeaibaaDoorWRepsOne
import Derived.Test.YtoobmfofkeaibaaDoorWInv
import Derived.Test.YtoobmfofkeaibaaDoorWInvWords
import Derived.Test.YtoobmfofkeaibaaDoorWGuard
import Derived.Test.YtoobmfofkeaibaaDoorWNEv
import Derived.Test.YtoobmfofkeaibaaDoorWMore
namespace Go.Proofs.YtoobmfofkeaibaaDoor.PAll
open Go.RowKit Go.Proofs.YtoobmfofkeaibaaDoorW.PrintWords Go.Proofs.YtoobmfofkeaibaaDoorW.PrintLast Go.Proofs.YtoobmfofkeaibaaDoorW.PrintMore
attribute [local go_sem] max2_int min2_int max_two min_two max_three min_three max_four min_four   -- for this text's walks alone
set_option linter.unusedVariables false
set_option linter.unusedSimpArgs false



def errW : Option Int → Value
  | none => .nilIface
  | some c => .iface 0 (.int .i64 c)
theorem lit_size_ (l : List UInt8) : (ByteArray.mk l.toArray).size = l.length := rfl
theorem errW_none : errW none = .nilIface := rfl
theorem errW_some (c : Int) : errW (some c) = .iface 0 (.int .i64 c) := rfl

theorem info3 : (Tryd.prog.info? 3).map (fun i => (i.zero, i.size, i.bytes)) = some (some (.int .i64 0), 1, 8) := by kernel_rfl
theorem info9 : (Tryd.prog.info? 9).map (fun i => (i.zero, i.size, i.bytes)) = some (some (.string ⟨#[]⟩), 1, 16) := by kernel_rfl
-- the values' own types

end Go.Proofs.YtoobmfofkeaibaaDoor.PAll
