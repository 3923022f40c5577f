/- Proved: contracts of functions that FnExactPutNumber reaches (a print of the kit's program, parted and shortened by squeeze.py). No statement of the seat is proved here. -/
import Derived.Test.YtophipaadjoecaaProg
import Derived.Below
import Derived.Deep.Draws
import Derived.Deep.AppendLies
import Derived.Maps.AppendAt
import Derived.OwnWalk
import Derived.Laws.BytesArg
import Derived.Laws.MakeOwn
import Derived.Laws.OwnMore
import Derived.Deep.OwnRows
import Derived.Tactics
import Derived.Lib.ConvBytes
import Derived.Laws.Slices
import Derived.WalkKit
import Derived.KernelRfl
import Derived.RowKit3
import Derived.Deep.LoopGhost
import Derived.Deep.QuietTactic
import Derived.BigQuiet
import Derived.WideLaws
import Derived.Deep.DeepCutAuto
import Derived.Deep.CutBlock
import Derived.Deep.RegionHeld3
import Derived.Laws.Rows
import Derived.Lib.AppendStr
import Derived.ArgAppend
import Derived.Laws.IdiomCopy
import Derived.OrdersHeld
import Derived.Laws.BitsLemmas
import Derived.RowKit
import Derived.Test.YtophipaadjoecaaWWords
import Derived.Test.YtophipaadjoecaaWLast
import Derived.Test.YtophipaadjoecaaWTab
import Derived.Test.YtophipaadjoecaaWFour
import Derived.Test.YtophipaadjoecaaWQPut
import Derived.Test.YtophipaadjoecaaWApart
import Derived.Test.YtophipaadjoecaaWArr
import Derived.Test.YtophipaadjoecaaWZeros
import Derived.Test.YtophipaadjoecaaWFoot
import Derived.Test.YtophipaadjoecaaWKept
import Derived.Test.YtophipaadjoecaaWShare
import Derived.Test.YtophipaadjoecaaWN
import Derived.Test.YtophipaadjoecaaWFootNe
import Derived.Test.YtophipaadjoecaaWAt
import Derived.Test.YtophipaadjoecaaWEqStruct
import Derived.Test.YtophipaadjoecaaWRepsOne
import Derived.Test.YtophipaadjoecaaWInv
import Derived.Test.YtophipaadjoecaaWInvWords
import Derived.Test.YtophipaadjoecaaWGuard
import Derived.Test.YtophipaadjoecaaWNEv
import Derived.Test.YtophipaadjoecaaWMore
namespace Go.Proofs.Ytophipaadjoecaa.QFnExactPutNumber
open Go.RowKit Go.Proofs.YtophipaadjoecaaW.PrintWords Go.Proofs.YtophipaadjoecaaW.PrintLast Go.Proofs.YtophipaadjoecaaW.PrintMore
attribute [local go_sem] max2_int min2_int max_two min_two max_three min_three max_four min_four   -- for this text's walks alone
set_option linter.unusedVariables false
set_option linter.unusedSimpArgs false



def errW : Option Int → Value
  | none => .nilIface
  | some c => .iface 0 (.int .i64 c)
theorem errW_none : errW none = .nilIface := rfl
theorem errW_some (c : Int) : errW (some c) = .iface 0 (.int .i64 c) := rfl

theorem info5 : (Try.prog.info? 5).map (fun i => (i.zero, i.size, i.bytes)) = some (some (.int .u8 0), 1, 1) := by kernel_rfl
-- the values' own types

end Go.Proofs.Ytophipaadjoecaa.QFnExactPutNumber
