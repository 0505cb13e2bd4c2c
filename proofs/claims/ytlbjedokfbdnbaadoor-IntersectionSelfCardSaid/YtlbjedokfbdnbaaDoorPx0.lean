-- Written by a program of this session (wip/gen.py, over the kit's print).
import Derived.Test.YtlbjedokfbdnbaaDoorProg
import Derived.Below
import Derived.Deep.Draws
import Derived.Deep.AppendLies
import Derived.Maps.AppendAt
import Derived.OwnWalk
import Derived.Laws.BytesArg
import Derived.Laws.MakeOwn
import Derived.Laws.OwnMore
import Derived.Deep.OwnRows
import Derived.Tactics
import Derived.Lib.ConvBytes
import Derived.Laws.Slices
import Derived.WalkKit
import Derived.KernelRfl
import Derived.RowKit3
import Derived.Deep.LoopGhost
import Derived.Deep.QuietTactic
import Derived.BigQuiet
import Derived.WideLaws
import Derived.Deep.DeepCutAuto
import Derived.Deep.CutBlock
import Derived.Deep.RegionHeld3
import Derived.Laws.Rows
import Derived.Lib.AppendStr
import Derived.ArgAppend
import Derived.Laws.IdiomCopy
import Derived.OrdersHeld
import Derived.Laws.BitsLemmas
import Derived.RowKit
import Derived.Test.YtlbjedokfbdnbaaDoorWWords
import Derived.Test.YtlbjedokfbdnbaaDoorWLast
import Derived.Test.YtlbjedokfbdnbaaDoorWTab
import Derived.Test.YtlbjedokfbdnbaaDoorWFour
import Derived.Test.YtlbjedokfbdnbaaDoorWQPut
import Derived.Test.YtlbjedokfbdnbaaDoorWApart
import Derived.Test.YtlbjedokfbdnbaaDoorWArr
import Derived.Test.YtlbjedokfbdnbaaDoorWZeros
import Derived.Test.YtlbjedokfbdnbaaDoorWFoot
import Derived.Test.YtlbjedokfbdnbaaDoorWKept
import Derived.Test.YtlbjedokfbdnbaaDoorWShare
import Derived.Test.YtlbjedokfbdnbaaDoorWN
import Derived.Test.YtlbjedokfbdnbaaDoorWFootNe
import Derived.Test.YtlbjedokfbdnbaaDoorWAt
import Derived.Test.YtlbjedokfbdnbaaDoorWEqStruct
import Derived.Test.YtlbjedokfbdnbaaDoorWRepsOne
import Derived.Test.YtlbjedokfbdnbaaDoorWInv
import Derived.Test.YtlbjedokfbdnbaaDoorWInvWords
import Derived.Test.YtlbjedokfbdnbaaDoorWGuard
import Derived.Test.YtlbjedokfbdnbaaDoorWNEv
import Derived.Test.YtlbjedokfbdnbaaDoorWMore
namespace Go.Proofs.YtlbjedokfbdnbaaDoor.P
open Go.RowKit Go.Proofs.YtlbjedokfbdnbaaDoorW.PrintWords Go.Proofs.YtlbjedokfbdnbaaDoorW.PrintLast Go.Proofs.YtlbjedokfbdnbaaDoorW.PrintMore
attribute [local go_sem] max2_int min2_int max_two min_two max_three min_three max_four min_four   -- for this text's walks alone
set_option linter.unusedVariables false
set_option linter.unusedSimpArgs false



def errW : Option Int → Value
  | none => .nilIface
  | some c => .iface 0 (.int .i64 c)
theorem errW_none : errW none = .nilIface := rfl
theorem errW_some (c : Int) : errW (some c) = .iface 0 (.int .i64 c) := rfl

theorem info26 : (Tryd.prog.info? 26).map (fun i => (i.zero, i.size, i.bytes)) = some (some (.int .u64 0), 1, 8) := by kernel_rfl
-- the values' own types

end Go.Proofs.YtlbjedokfbdnbaaDoor.P
