/- Lean functions for the Go functions of this seat, each with the proof that the call returns what the Lean function says; or the row of a law, over such a function. Printed by a program of ours (wip/tools/myprint.py), with hand-written texts where that one cannot. No condition but the ones written. -/
import Derived.Test.YtdkfnhcegafliaaDoorProg
import Derived.Below
import Derived.Deep.Draws
import Derived.Deep.AppendLies
import Derived.Maps.AppendAt
import Derived.OwnWalk
import Derived.Laws.BytesArg
import Derived.Laws.MakeOwn
import Derived.Laws.OwnMore
import Derived.Deep.OwnRows
import Derived.Tactics
import Derived.Lib.ConvBytes
import Derived.Laws.Slices
import Derived.WalkKit
import Derived.KernelRfl
import Derived.RowKit3
import Derived.Deep.LoopGhost
import Derived.Deep.QuietTactic
import Derived.BigQuiet
import Derived.WideLaws
import Derived.Deep.DeepCutAuto
import Derived.Deep.CutBlock
import Derived.Deep.RegionHeld3
import Derived.Laws.Rows
import Derived.Lib.AppendStr
import Derived.ArgAppend
import Derived.Laws.IdiomCopy
import Derived.OrdersHeld
import Derived.Laws.BitsLemmas
import Derived.RowKit
import Derived.WalkSmall
import Derived.Lib.AppendIntMem
import Derived.LoopTactic
import Derived.Laws.RangeAny
import Derived.Laws.RangeString
import Derived.Test.YtdkfnhcegafliaaDoorShelf
import Derived.Test.YtdkfnhcegafliaaDoorCopyW
import Derived.Test.YtdkfnhcegafliaaDoorWWords
import Derived.Test.YtdkfnhcegafliaaDoorWLast
import Derived.Test.YtdkfnhcegafliaaDoorWTab
import Derived.Test.YtdkfnhcegafliaaDoorWFour
import Derived.Test.YtdkfnhcegafliaaDoorWQPut
import Derived.Test.YtdkfnhcegafliaaDoorWApart
import Derived.Test.YtdkfnhcegafliaaDoorWArr
import Derived.Test.YtdkfnhcegafliaaDoorWZeros
import Derived.Test.YtdkfnhcegafliaaDoorWFoot
import Derived.Test.YtdkfnhcegafliaaDoorWKept
import Derived.Test.YtdkfnhcegafliaaDoorWShare
import Derived.Test.YtdkfnhcegafliaaDoorWN
import Derived.Test.YtdkfnhcegafliaaDoorWFootNe
import Derived.Test.YtdkfnhcegafliaaDoorWAt
import Derived.Test.YtdkfnhcegafliaaDoorWEqStruct
import Derived.Test.YtdkfnhcegafliaaDoorWRepsOne
import Derived.Test.YtdkfnhcegafliaaDoorWInv
import Derived.Test.YtdkfnhcegafliaaDoorWInvWords
import Derived.Test.YtdkfnhcegafliaaDoorWGuard
import Derived.Test.YtdkfnhcegafliaaDoorWNEv
import Derived.Test.YtdkfnhcegafliaaDoorWMore
namespace Go.Proofs.YtdkfnhcegafliaaDoor.PAll
open Go.RowKit Go.Proofs.YtdkfnhcegafliaaDoorW.PrintWords Go.Proofs.YtdkfnhcegafliaaDoorW.PrintLast Go.Proofs.YtdkfnhcegafliaaDoorW.PrintMore
attribute [local go_sem] max2_int min2_int max_two min_two max_three min_three max_four min_four   -- for this text's walks alone
set_option linter.unusedVariables false
set_option linter.unusedSimpArgs false



def errW : Option Int → Value
  | none => .nilIface
  | some c => .iface 0 (.int .i64 c)
theorem lit_size_ (l : List UInt8) : (ByteArray.mk l.toArray).size = l.length := rfl
theorem errW_none : errW none = .nilIface := rfl
theorem errW_some (c : Int) : errW (some c) = .iface 0 (.int .i64 c) := rfl

theorem info5 : (Tryd.prog.info? 5).map (fun i => (i.zero, i.size, i.bytes)) = some (some (.int .u8 0), 1, 1) := by kernel_rfl
-- the values' own types

end Go.Proofs.YtdkfnhcegafliaaDoor.PAll
