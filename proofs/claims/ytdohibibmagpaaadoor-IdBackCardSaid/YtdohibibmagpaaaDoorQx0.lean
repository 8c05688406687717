-- written by a program of this session (wip/myprint: a patched printer): not by hand
import Derived.Test.YtdohibibmagpaaaDoorProg
import Derived.Below
import Derived.Deep.Draws
import Derived.Deep.AppendLies
import Derived.Maps.AppendAt
import Derived.OwnWalk
import Derived.Laws.BytesArg
import Derived.Laws.MakeOwn
import Derived.Laws.OwnMore
import Derived.Deep.OwnRows
import Derived.Tactics
import Derived.Lib.ConvBytes
import Derived.Laws.Slices
import Derived.WalkKit
import Derived.KernelRfl
import Derived.RowKit3
import Derived.Deep.LoopGhost
import Derived.Deep.QuietTactic
import Derived.BigQuiet
import Derived.WideLaws
import Derived.Deep.DeepCutAuto
import Derived.Deep.CutBlock
import Derived.Deep.RegionHeld3
import Derived.Laws.Rows
import Derived.Lib.AppendStr
import Derived.ArgAppend
import Derived.Laws.IdiomCopy
import Derived.OrdersHeld
import Derived.Laws.BitsLemmas
import Derived.RowKit
import Derived.Test.YtdohibibmagpaaaDoorWWords
import Derived.Test.YtdohibibmagpaaaDoorWLast
import Derived.Test.YtdohibibmagpaaaDoorWTab
import Derived.Test.YtdohibibmagpaaaDoorWFour
import Derived.Test.YtdohibibmagpaaaDoorWQPut
import Derived.Test.YtdohibibmagpaaaDoorWApart
import Derived.Test.YtdohibibmagpaaaDoorWArr
import Derived.Test.YtdohibibmagpaaaDoorWZeros
import Derived.Test.YtdohibibmagpaaaDoorWFoot
import Derived.Test.YtdohibibmagpaaaDoorWKept
import Derived.Test.YtdohibibmagpaaaDoorWShare
import Derived.Test.YtdohibibmagpaaaDoorWN
import Derived.Test.YtdohibibmagpaaaDoorWFootNe
import Derived.Test.YtdohibibmagpaaaDoorWAt
import Derived.Test.YtdohibibmagpaaaDoorWEqStruct
import Derived.Test.YtdohibibmagpaaaDoorWRepsOne
import Derived.Test.YtdohibibmagpaaaDoorWInv
import Derived.Test.YtdohibibmagpaaaDoorWInvWords
import Derived.Test.YtdohibibmagpaaaDoorWGuard
import Derived.Test.YtdohibibmagpaaaDoorWNEv
import Derived.Test.YtdohibibmagpaaaDoorWMore
namespace Go.Proofs.YtdohibibmagpaaaDoor.Q
open Go.RowKit Go.Proofs.YtdohibibmagpaaaDoorW.PrintWords Go.Proofs.YtdohibibmagpaaaDoorW.PrintLast Go.Proofs.YtdohibibmagpaaaDoorW.PrintMore
attribute [local go_sem] max2_int min2_int max_two min_two max_three min_three max_four min_four   -- for this text's walks alone
set_option linter.unusedVariables false
set_option linter.unusedSimpArgs false



def errW : Option Int → Value
  | none => .nilIface
  | some c => .iface 68 (.int .i64 c)
theorem errW_none : errW none = .nilIface := rfl
theorem errW_some (c : Int) : errW (some c) = .iface 68 (.int .i64 c) := rfl

theorem info3 : (Tryd.prog.info? 3).map (fun i => (i.zero, i.size, i.bytes)) = some (some (.int .i64 0), 1, 8) := by kernel_rfl
theorem info5 : (Tryd.prog.info? 5).map (fun i => (i.zero, i.size, i.bytes)) = some (some (.int .u8 0), 1, 1) := by kernel_rfl
-- the values' own types

end Go.Proofs.YtdohibibmagpaaaDoor.Q
