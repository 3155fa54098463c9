-- Written by a program of this session (wip/tools/hp.py) over the kit's print; nothing here is trusted: Lean checks it.
import Derived.Test.YtimfeiobdcmhnaaProg
import Derived.Below
import Derived.Deep.Draws
import Derived.Deep.AppendLies
import Derived.Maps.AppendAt
import Derived.OwnWalk
import Derived.Laws.BytesArg
import Derived.Laws.MakeOwn
import Derived.Laws.OwnMore
import Derived.Deep.OwnRows
import Derived.Tactics
import Derived.Lib.ConvBytes
import Derived.Laws.Slices
import Derived.WalkKit
import Derived.KernelRfl
import Derived.RowKit3
import Derived.Deep.LoopGhost
import Derived.Deep.QuietTactic
import Derived.BigQuiet
import Derived.WideLaws
import Derived.Deep.DeepCutAuto
import Derived.Deep.CutBlock
import Derived.Deep.RegionHeld3
import Derived.Laws.Rows
import Derived.Lib.AppendStr
import Derived.ArgAppend
import Derived.Laws.IdiomCopy
import Derived.OrdersHeld
import Derived.Laws.BitsLemmas
import Derived.RowKit
import Derived.Test.YtimfeiobdcmhnaaWWords
import Derived.Test.YtimfeiobdcmhnaaWLast
import Derived.Test.YtimfeiobdcmhnaaWTab
import Derived.Test.YtimfeiobdcmhnaaWFour
import Derived.Test.YtimfeiobdcmhnaaWQPut
import Derived.Test.YtimfeiobdcmhnaaWApart
import Derived.Test.YtimfeiobdcmhnaaWArr
import Derived.Test.YtimfeiobdcmhnaaWZeros
import Derived.Test.YtimfeiobdcmhnaaWFoot
import Derived.Test.YtimfeiobdcmhnaaWKept
import Derived.Test.YtimfeiobdcmhnaaWShare
import Derived.Test.YtimfeiobdcmhnaaWN
import Derived.Test.YtimfeiobdcmhnaaWFootNe
import Derived.Test.YtimfeiobdcmhnaaWAt
import Derived.Test.YtimfeiobdcmhnaaWEqStruct
import Derived.Test.YtimfeiobdcmhnaaWRepsOne
import Derived.Test.YtimfeiobdcmhnaaWInv
import Derived.Test.YtimfeiobdcmhnaaWInvWords
import Derived.Test.YtimfeiobdcmhnaaWGuard
import Derived.Test.YtimfeiobdcmhnaaWNEv
import Derived.Test.YtimfeiobdcmhnaaWMore
namespace Go.Proofs.Ytimfeiobdcmhnaa.PU
open Go.RowKit Go.Proofs.YtimfeiobdcmhnaaW.PrintWords Go.Proofs.YtimfeiobdcmhnaaW.PrintLast Go.Proofs.YtimfeiobdcmhnaaW.PrintMore
attribute [local go_sem] max2_int min2_int max_two min_two max_three min_three max_four min_four   -- for this text's walks alone
set_option linter.unusedVariables false
set_option linter.unusedSimpArgs false



def errW : Option Int → Value
  | none => .nilIface
  | some c => .iface 0 (.int .i64 c)
theorem errW_none : errW none = .nilIface := rfl
theorem errW_some (c : Int) : errW (some c) = .iface 0 (.int .i64 c) := rfl

-- the values' own types

end Go.Proofs.Ytimfeiobdcmhnaa.PU
