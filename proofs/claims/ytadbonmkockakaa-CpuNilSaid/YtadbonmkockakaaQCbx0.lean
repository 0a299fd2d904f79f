-- Written by a program of this session (wip/pr.py).
import Derived.Test.YtadbonmkockakaaProg
import Derived.Below
import Derived.Deep.Draws
import Derived.Deep.AppendLies
import Derived.Maps.AppendAt
import Derived.OwnWalk
import Derived.Laws.BytesArg
import Derived.Laws.MakeOwn
import Derived.Laws.OwnMore
import Derived.Deep.OwnRows
import Derived.Tactics
import Derived.Lib.ConvBytes
import Derived.Laws.Slices
import Derived.WalkKit
import Derived.KernelRfl
import Derived.RowKit3
import Derived.Deep.LoopGhost
import Derived.Deep.QuietTactic
import Derived.BigQuiet
import Derived.WideLaws
import Derived.Deep.DeepCutAuto
import Derived.Deep.CutBlock
import Derived.Deep.RegionHeld3
import Derived.Laws.Rows
import Derived.Lib.AppendStr
import Derived.ArgAppend
import Derived.Laws.IdiomCopy
import Derived.OrdersHeld
import Derived.Laws.BitsLemmas
import Derived.RowKit
import Derived.Test.YtadbonmkockakaaWWords
import Derived.Test.YtadbonmkockakaaWLast
import Derived.Test.YtadbonmkockakaaWTab
import Derived.Test.YtadbonmkockakaaWFour
import Derived.Test.YtadbonmkockakaaWQPut
import Derived.Test.YtadbonmkockakaaWApart
import Derived.Test.YtadbonmkockakaaWArr
import Derived.Test.YtadbonmkockakaaWZeros
import Derived.Test.YtadbonmkockakaaWFoot
import Derived.Test.YtadbonmkockakaaWKept
import Derived.Test.YtadbonmkockakaaWShare
import Derived.Test.YtadbonmkockakaaWN
import Derived.Test.YtadbonmkockakaaWFootNe
import Derived.Test.YtadbonmkockakaaWAt
import Derived.Test.YtadbonmkockakaaWEqStruct
import Derived.Test.YtadbonmkockakaaWRepsOne
import Derived.Test.YtadbonmkockakaaWInv
import Derived.Test.YtadbonmkockakaaWInvWords
import Derived.Test.YtadbonmkockakaaWGuard
import Derived.Test.YtadbonmkockakaaWNEv
import Derived.Test.YtadbonmkockakaaWMore
namespace Go.Proofs.Ytadbonmkockakaa.QCb
open Go.RowKit Go.Proofs.YtadbonmkockakaaW.PrintWords Go.Proofs.YtadbonmkockakaaW.PrintLast Go.Proofs.YtadbonmkockakaaW.PrintMore
attribute [local go_sem] max2_int min2_int max_two min_two max_three min_three max_four min_four   -- for this text's walks alone
set_option linter.unusedVariables false
set_option linter.unusedSimpArgs false



def errW : Option Int → Value
  | none => .nilIface
  | some c => .iface 0 (.int .i64 c)
theorem errW_none : errW none = .nilIface := rfl
theorem errW_some (c : Int) : errW (some c) = .iface 0 (.int .i64 c) := rfl

-- the values' own types

end Go.Proofs.Ytadbonmkockakaa.QCb
