-- written by the session's own program (wip/prt.py) over the kit's print: not print.sh's own text
import Derived.Test.YtkmcjmhnoccedaaProg
import Derived.Below
import Derived.Deep.Draws
import Derived.Deep.AppendLies
import Derived.Maps.AppendAt
import Derived.OwnWalk
import Derived.Laws.BytesArg
import Derived.Laws.MakeOwn
import Derived.Laws.OwnMore
import Derived.Deep.OwnRows
import Derived.Tactics
import Derived.Lib.ConvBytes
import Derived.Laws.Slices
import Derived.WalkKit
import Derived.KernelRfl
import Derived.RowKit3
import Derived.Deep.LoopGhost
import Derived.Deep.QuietTactic
import Derived.BigQuiet
import Derived.WideLaws
import Derived.Deep.DeepCutAuto
import Derived.Deep.CutBlock
import Derived.Deep.RegionHeld3
import Derived.Laws.Rows
import Derived.Lib.AppendStr
import Derived.ArgAppend
import Derived.Laws.IdiomCopy
import Derived.OrdersHeld
import Derived.Laws.BitsLemmas
import Derived.RowKit
import Derived.Test.YtkmcjmhnoccedaaCopy
import Derived.Test.YtkmcjmhnoccedaaHK
import Derived.Test.YtkmcjmhnoccedaaWWords
import Derived.Test.YtkmcjmhnoccedaaWLast
import Derived.Test.YtkmcjmhnoccedaaWTab
import Derived.Test.YtkmcjmhnoccedaaWFour
import Derived.Test.YtkmcjmhnoccedaaWQPut
import Derived.Test.YtkmcjmhnoccedaaWApart
import Derived.Test.YtkmcjmhnoccedaaWArr
import Derived.Test.YtkmcjmhnoccedaaWZeros
import Derived.Test.YtkmcjmhnoccedaaWFoot
import Derived.Test.YtkmcjmhnoccedaaWKept
import Derived.Test.YtkmcjmhnoccedaaWShare
import Derived.Test.YtkmcjmhnoccedaaWN
import Derived.Test.YtkmcjmhnoccedaaWFootNe
import Derived.Test.YtkmcjmhnoccedaaWAt
import Derived.Test.YtkmcjmhnoccedaaWEqStruct
import Derived.Test.YtkmcjmhnoccedaaWRepsOne
import Derived.Test.YtkmcjmhnoccedaaWInv
import Derived.Test.YtkmcjmhnoccedaaWInvWords
import Derived.Test.YtkmcjmhnoccedaaWGuard
import Derived.Test.YtkmcjmhnoccedaaWNEv
import Derived.Test.YtkmcjmhnoccedaaWMore
namespace Go.Proofs.Ytkmcjmhnoccedaa.PC
open Go.RowKit Go.Proofs.YtkmcjmhnoccedaaW.PrintWords Go.Proofs.YtkmcjmhnoccedaaW.PrintLast Go.Proofs.YtkmcjmhnoccedaaW.PrintMore
attribute [local go_sem] max2_int min2_int max_two min_two max_three min_three max_four min_four   -- for this text's walks alone
set_option linter.unusedVariables false
set_option linter.unusedSimpArgs false



def errW : Option Int → Value
  | none => .nilIface
  | some c => .iface 0 (.int .i64 c)
theorem errW_none : errW none = .nilIface := rfl
theorem errW_some (c : Int) : errW (some c) = .iface 0 (.int .i64 c) := rfl

theorem info3 : (Try.prog.info? 3).map (fun i => (i.zero, i.size, i.bytes)) = some (some (.int .i64 0), 1, 8) := by kernel_rfl
theorem info4 : (Try.prog.info? 4).map (fun i => (i.zero, i.size, i.bytes)) = some (some (.bool false), 1, 1) := by kernel_rfl
-- the values' own types

end Go.Proofs.Ytkmcjmhnoccedaa.PC
