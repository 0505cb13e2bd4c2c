-- Written by a program of this session (wip/gen.py, over the kit's print).
import Derived.Test.YtiookappidgofaaDoorProg
import Derived.Below
import Derived.Deep.Draws
import Derived.Deep.AppendLies
import Derived.Maps.AppendAt
import Derived.OwnWalk
import Derived.Laws.BytesArg
import Derived.Laws.MakeOwn
import Derived.Laws.OwnMore
import Derived.Deep.OwnRows
import Derived.Tactics
import Derived.Lib.ConvBytes
import Derived.Laws.Slices
import Derived.WalkKit
import Derived.KernelRfl
import Derived.RowKit3
import Derived.Deep.LoopGhost
import Derived.Deep.QuietTactic
import Derived.BigQuiet
import Derived.WideLaws
import Derived.Deep.DeepCutAuto
import Derived.Deep.CutBlock
import Derived.Deep.RegionHeld3
import Derived.Laws.Rows
import Derived.Lib.AppendStr
import Derived.ArgAppend
import Derived.Laws.IdiomCopy
import Derived.OrdersHeld
import Derived.Laws.BitsLemmas
import Derived.RowKit
import Derived.Test.YtiookappidgofaaDoorWWords
import Derived.Test.YtiookappidgofaaDoorWLast
import Derived.Test.YtiookappidgofaaDoorWTab
import Derived.Test.YtiookappidgofaaDoorWFour
import Derived.Test.YtiookappidgofaaDoorWQPut
import Derived.Test.YtiookappidgofaaDoorWApart
import Derived.Test.YtiookappidgofaaDoorWArr
import Derived.Test.YtiookappidgofaaDoorWZeros
import Derived.Test.YtiookappidgofaaDoorWFoot
import Derived.Test.YtiookappidgofaaDoorWKept
import Derived.Test.YtiookappidgofaaDoorWShare
import Derived.Test.YtiookappidgofaaDoorWN
import Derived.Test.YtiookappidgofaaDoorWFootNe
import Derived.Test.YtiookappidgofaaDoorWAt
import Derived.Test.YtiookappidgofaaDoorWEqStruct
import Derived.Test.YtiookappidgofaaDoorWRepsOne
import Derived.Test.YtiookappidgofaaDoorWInv
import Derived.Test.YtiookappidgofaaDoorWInvWords
import Derived.Test.YtiookappidgofaaDoorWGuard
import Derived.Test.YtiookappidgofaaDoorWNEv
import Derived.Test.YtiookappidgofaaDoorWMore
namespace Go.Proofs.YtiookappidgofaaDoor.P
open Go.RowKit Go.Proofs.YtiookappidgofaaDoorW.PrintWords Go.Proofs.YtiookappidgofaaDoorW.PrintLast Go.Proofs.YtiookappidgofaaDoorW.PrintMore
attribute [local go_sem] max2_int min2_int max_two min_two max_three min_three max_four min_four   -- for this text's walks alone
set_option linter.unusedVariables false
set_option linter.unusedSimpArgs false



def errW : Option Int → Value
  | none => .nilIface
  | some c => .iface 0 (.int .i64 c)
theorem errW_none : errW none = .nilIface := rfl
theorem errW_some (c : Int) : errW (some c) = .iface 0 (.int .i64 c) := rfl

theorem info24 : (Tryd.prog.info? 24).map (fun i => (i.zero, i.size, i.bytes)) = some (some (.int .u64 0), 1, 8) := by kernel_rfl
-- the values' own types

end Go.Proofs.YtiookappidgofaaDoor.P
