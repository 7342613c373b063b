-- Laid by myprint.py, a program of this repo, out of the kit's printer and this repo's own texts (wip/hand).
import Derived.Test.YtelcpfanjjfgdaaProg
import Derived.Below
import Derived.Deep.Draws
import Derived.Deep.AppendLies
import Derived.Maps.AppendAt
import Derived.OwnWalk
import Derived.Laws.BytesArg
import Derived.Laws.MakeOwn
import Derived.Laws.OwnMore
import Derived.Deep.OwnRows
import Derived.Tactics
import Derived.Lib.ConvBytes
import Derived.Laws.Slices
import Derived.WalkKit
import Derived.KernelRfl
import Derived.RowKit3
import Derived.Deep.LoopGhost
import Derived.Deep.QuietTactic
import Derived.BigQuiet
import Derived.WideLaws
import Derived.Deep.DeepCutAuto
import Derived.Deep.CutBlock
import Derived.Deep.RegionHeld3
import Derived.Laws.Rows
import Derived.Lib.AppendStr
import Derived.ArgAppend
import Derived.Laws.IdiomCopy
import Derived.OrdersHeld
import Derived.Laws.BitsLemmas
import Derived.RowKit
import Derived.Test.YtelcpfanjjfgdaaWWords
import Derived.Test.YtelcpfanjjfgdaaWLast
import Derived.Test.YtelcpfanjjfgdaaWTab
import Derived.Test.YtelcpfanjjfgdaaWFour
import Derived.Test.YtelcpfanjjfgdaaWQPut
import Derived.Test.YtelcpfanjjfgdaaWApart
import Derived.Test.YtelcpfanjjfgdaaWArr
import Derived.Test.YtelcpfanjjfgdaaWZeros
import Derived.Test.YtelcpfanjjfgdaaWFoot
import Derived.Test.YtelcpfanjjfgdaaWKept
import Derived.Test.YtelcpfanjjfgdaaWShare
import Derived.Test.YtelcpfanjjfgdaaWN
import Derived.Test.YtelcpfanjjfgdaaWFootNe
import Derived.Test.YtelcpfanjjfgdaaWAt
import Derived.Test.YtelcpfanjjfgdaaWEqStruct
import Derived.Test.YtelcpfanjjfgdaaWRepsOne
import Derived.Test.YtelcpfanjjfgdaaWInv
import Derived.Test.YtelcpfanjjfgdaaWInvWords
import Derived.Test.YtelcpfanjjfgdaaWGuard
import Derived.Test.YtelcpfanjjfgdaaWNEv
import Derived.Test.YtelcpfanjjfgdaaWMore
namespace Go.Proofs.Ytelcpfanjjfgdaa.HFnSealed
open Go.RowKit Go.Proofs.YtelcpfanjjfgdaaW.PrintWords Go.Proofs.YtelcpfanjjfgdaaW.PrintLast Go.Proofs.YtelcpfanjjfgdaaW.PrintMore
attribute [local go_sem] max2_int min2_int max_two min_two max_three min_three max_four min_four   -- for this text's walks alone
set_option linter.unusedVariables false
set_option linter.unusedSimpArgs false



def errW : Option Int → Value
  | none => .nilIface
  | some c => .iface 0 (.int .i64 c)
theorem errW_none : errW none = .nilIface := rfl
theorem errW_some (c : Int) : errW (some c) = .iface 0 (.int .i64 c) := rfl

theorem info2 : (Try.prog.info? 2).map (fun i => (i.zero, i.size, i.bytes)) = some (some (.int .i64 0), 1, 8) := by kernel_rfl
theorem info5 : (Try.prog.info? 5).map (fun i => (i.zero, i.size, i.bytes)) = some (some (.int .u8 0), 1, 1) := by kernel_rfl
-- the values' own types

end Go.Proofs.Ytelcpfanjjfgdaa.HFnSealed
