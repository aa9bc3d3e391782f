/- Lean functions for the Go functions of this seat, each with the proof that the call returns what the Lean function says; or the row of a law, over such a function. Printed by a program of ours (wip/tools/myprint.py), with hand-written texts where that one cannot. No condition but the ones written. -/
import Derived.Test.YtkkmpdonmiblnaaDoorRRRRPAllx0
import Derived.Test.YtkkmpdonmiblnaaDoorRRRRPAllx3
import Derived.Test.YtkkmpdonmiblnaaDoorRRRRPAllx5
import Derived.Test.YtkkmpdonmiblnaaDoorRRRRPAllx6
namespace Go.Proofs.YtkkmpdonmiblnaaDoorRRRR.PAll
open Go.RowKit Go.Proofs.YtkkmpdonmiblnaaDoorRRRRW.PrintWords Go.Proofs.YtkkmpdonmiblnaaDoorRRRRW.PrintLast Go.Proofs.YtkkmpdonmiblnaaDoorRRRRW.PrintMore
attribute [local go_sem] max2_int min2_int max_two min_two max_three min_three max_four min_four   -- for this text's walks alone
set_option linter.unusedVariables false
set_option linter.unusedSimpArgs false

end Go.Proofs.YtkkmpdonmiblnaaDoorRRRR.PAll
