-- written by the session's own program (wip/prt.py) over the kit's print: not print.sh's own text
import Derived.Test.YtljcenlecofbdaaProg
import Derived.Below
import Derived.Deep.Draws
import Derived.Deep.AppendLies
import Derived.Maps.AppendAt
import Derived.OwnWalk
import Derived.Laws.BytesArg
import Derived.Laws.MakeOwn
import Derived.Laws.OwnMore
import Derived.Deep.OwnRows
import Derived.Tactics
import Derived.Lib.ConvBytes
import Derived.Laws.Slices
import Derived.WalkKit
import Derived.KernelRfl
import Derived.RowKit3
import Derived.Deep.LoopGhost
import Derived.Deep.QuietTactic
import Derived.BigQuiet
import Derived.WideLaws
import Derived.Deep.DeepCutAuto
import Derived.Deep.CutBlock
import Derived.Deep.RegionHeld3
import Derived.Laws.Rows
import Derived.Lib.AppendStr
import Derived.ArgAppend
import Derived.Laws.IdiomCopy
import Derived.OrdersHeld
import Derived.Laws.BitsLemmas
import Derived.RowKit
import Derived.Test.YtljcenlecofbdaaGfTab
import Derived.Test.YtljcenlecofbdaaWWords
import Derived.Test.YtljcenlecofbdaaWLast
import Derived.Test.YtljcenlecofbdaaWTab
import Derived.Test.YtljcenlecofbdaaWFour
import Derived.Test.YtljcenlecofbdaaWQPut
import Derived.Test.YtljcenlecofbdaaWApart
import Derived.Test.YtljcenlecofbdaaWArr
import Derived.Test.YtljcenlecofbdaaWZeros
import Derived.Test.YtljcenlecofbdaaWFoot
import Derived.Test.YtljcenlecofbdaaWKept
import Derived.Test.YtljcenlecofbdaaWShare
import Derived.Test.YtljcenlecofbdaaWN
import Derived.Test.YtljcenlecofbdaaWFootNe
import Derived.Test.YtljcenlecofbdaaWAt
import Derived.Test.YtljcenlecofbdaaWEqStruct
import Derived.Test.YtljcenlecofbdaaWRepsOne
import Derived.Test.YtljcenlecofbdaaWInv
import Derived.Test.YtljcenlecofbdaaWInvWords
import Derived.Test.YtljcenlecofbdaaWGuard
import Derived.Test.YtljcenlecofbdaaWNEv
import Derived.Test.YtljcenlecofbdaaWMore
namespace Go.Proofs.Ytljcenlecofbdaa.PA
open Go.RowKit Go.Proofs.YtljcenlecofbdaaW.PrintWords Go.Proofs.YtljcenlecofbdaaW.PrintLast Go.Proofs.YtljcenlecofbdaaW.PrintMore
attribute [local go_sem] max2_int min2_int max_two min_two max_three min_three max_four min_four   -- for this text's walks alone
set_option linter.unusedVariables false
set_option linter.unusedSimpArgs false



def errW : Option Int → Value
  | none => .nilIface
  | some c => .iface 0 (.int .i64 c)
theorem errW_none : errW none = .nilIface := rfl
theorem errW_some (c : Int) : errW (some c) = .iface 0 (.int .i64 c) := rfl

theorem info4 : (Try.prog.info? 4).map (fun i => (i.zero, i.size, i.bytes)) = some (some (.bool false), 1, 1) := by kernel_rfl
-- the values' own types

end Go.Proofs.Ytljcenlecofbdaa.PA
