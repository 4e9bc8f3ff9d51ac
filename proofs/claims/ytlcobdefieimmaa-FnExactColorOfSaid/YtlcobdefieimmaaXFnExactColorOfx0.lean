/- What functions of the program compute, as plain Lean functions, and that Go's calls come to just that: written by wip/tools/xprint.py for the law FnExactColorOf. -/
import Derived.Test.YtlcobdefieimmaaProg
import Derived.Below
import Derived.Deep.Draws
import Derived.Deep.AppendLies
import Derived.Maps.AppendAt
import Derived.OwnWalk
import Derived.Laws.BytesArg
import Derived.Laws.MakeOwn
import Derived.Laws.OwnMore
import Derived.Deep.OwnRows
import Derived.Tactics
import Derived.Lib.ConvBytes
import Derived.Laws.Slices
import Derived.WalkKit
import Derived.KernelRfl
import Derived.RowKit3
import Derived.Deep.LoopGhost
import Derived.Deep.QuietTactic
import Derived.BigQuiet
import Derived.WideLaws
import Derived.Deep.DeepCutAuto
import Derived.Deep.CutBlock
import Derived.Deep.RegionHeld3
import Derived.Laws.Rows
import Derived.Lib.AppendStr
import Derived.ArgAppend
import Derived.Laws.IdiomCopy
import Derived.OrdersHeld
import Derived.Laws.BitsLemmas
import Derived.RowKit
import Derived.Test.YtlcobdefieimmaaWWords
import Derived.Test.YtlcobdefieimmaaWLast
import Derived.Test.YtlcobdefieimmaaWTab
import Derived.Test.YtlcobdefieimmaaWFour
import Derived.Test.YtlcobdefieimmaaWQPut
import Derived.Test.YtlcobdefieimmaaWApart
import Derived.Test.YtlcobdefieimmaaWArr
import Derived.Test.YtlcobdefieimmaaWZeros
import Derived.Test.YtlcobdefieimmaaWFoot
import Derived.Test.YtlcobdefieimmaaWKept
import Derived.Test.YtlcobdefieimmaaWShare
import Derived.Test.YtlcobdefieimmaaWN
import Derived.Test.YtlcobdefieimmaaWFootNe
import Derived.Test.YtlcobdefieimmaaWAt
import Derived.Test.YtlcobdefieimmaaWEqStruct
import Derived.Test.YtlcobdefieimmaaWRepsOne
import Derived.Test.YtlcobdefieimmaaWInv
import Derived.Test.YtlcobdefieimmaaWInvWords
import Derived.Test.YtlcobdefieimmaaWGuard
import Derived.Test.YtlcobdefieimmaaWNEv
import Derived.Test.YtlcobdefieimmaaWMore
namespace Go.Proofs.Ytlcobdefieimmaa.XFnExactColorOf
open Go.RowKit Go.Proofs.YtlcobdefieimmaaW.PrintWords Go.Proofs.YtlcobdefieimmaaW.PrintLast Go.Proofs.YtlcobdefieimmaaW.PrintMore
attribute [local go_sem] max2_int min2_int max_two min_two max_three min_three max_four min_four   -- for this text's walks alone
set_option linter.unusedVariables false
set_option linter.unusedSimpArgs false



def errW : Option Int → Value
  | none => .nilIface
  | some c => .iface 0 (.int .i64 c)
theorem errW_none : errW none = .nilIface := rfl
theorem errW_some (c : Int) : errW (some c) = .iface 0 (.int .i64 c) := rfl

-- the values' own types

end Go.Proofs.Ytlcobdefieimmaa.XFnExactColorOf
