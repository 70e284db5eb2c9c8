/- Each theorem X.calls says that the Go function X answers what the plain function X.f computes, whatever the world (written by wip/tools/myprint.py: the kit's print over contracts that are given). -/
import Derived.Test.YtljckmiphkoipaaProg
import Derived.Below
import Derived.Deep.Draws
import Derived.Deep.AppendLies
import Derived.Maps.AppendAt
import Derived.OwnWalk
import Derived.Laws.BytesArg
import Derived.Laws.MakeOwn
import Derived.Laws.OwnMore
import Derived.Deep.OwnRows
import Derived.Tactics
import Derived.Lib.ConvBytes
import Derived.Laws.Slices
import Derived.WalkKit
import Derived.KernelRfl
import Derived.RowKit3
import Derived.Deep.LoopGhost
import Derived.Deep.QuietTactic
import Derived.BigQuiet
import Derived.WideLaws
import Derived.Deep.DeepCutAuto
import Derived.Deep.CutBlock
import Derived.Deep.RegionHeld3
import Derived.Laws.Rows
import Derived.Lib.AppendStr
import Derived.ArgAppend
import Derived.Laws.IdiomCopy
import Derived.OrdersHeld
import Derived.Laws.BitsLemmas
import Derived.RowKit
import Derived.Test.YtljckmiphkoipaaGivenR
import Derived.Test.YtljckmiphkoipaaWWords
import Derived.Test.YtljckmiphkoipaaWLast
import Derived.Test.YtljckmiphkoipaaWTab
import Derived.Test.YtljckmiphkoipaaWFour
import Derived.Test.YtljckmiphkoipaaWQPut
import Derived.Test.YtljckmiphkoipaaWApart
import Derived.Test.YtljckmiphkoipaaWArr
import Derived.Test.YtljckmiphkoipaaWZeros
import Derived.Test.YtljckmiphkoipaaWFoot
import Derived.Test.YtljckmiphkoipaaWKept
import Derived.Test.YtljckmiphkoipaaWShare
import Derived.Test.YtljckmiphkoipaaWN
import Derived.Test.YtljckmiphkoipaaWFootNe
import Derived.Test.YtljckmiphkoipaaWAt
import Derived.Test.YtljckmiphkoipaaWEqStruct
import Derived.Test.YtljckmiphkoipaaWRepsOne
import Derived.Test.YtljckmiphkoipaaWInv
import Derived.Test.YtljckmiphkoipaaWInvWords
import Derived.Test.YtljckmiphkoipaaWGuard
import Derived.Test.YtljckmiphkoipaaWNEv
import Derived.Test.YtljckmiphkoipaaWMore
namespace Go.Proofs.Ytljckmiphkoipaa.PRd
open Go.RowKit Go.Proofs.YtljckmiphkoipaaW.PrintWords Go.Proofs.YtljckmiphkoipaaW.PrintLast Go.Proofs.YtljckmiphkoipaaW.PrintMore
attribute [local go_sem] max2_int min2_int max_two min_two max_three min_three max_four min_four   -- for this text's walks alone
set_option linter.unusedVariables false
set_option linter.unusedSimpArgs false



def errW : Option Int → Value
  | none => .nilIface
  | some c => .iface 0 (.int .i64 c)
theorem errW_none : errW none = .nilIface := rfl
theorem errW_some (c : Int) : errW (some c) = .iface 0 (.int .i64 c) := rfl

theorem info3 : (Try.prog.info? 3).map (fun i => (i.zero, i.size, i.bytes)) = some (some (.int .i64 0), 1, 8) := by kernel_rfl
-- the values' own types

end Go.Proofs.Ytljckmiphkoipaa.PRd
