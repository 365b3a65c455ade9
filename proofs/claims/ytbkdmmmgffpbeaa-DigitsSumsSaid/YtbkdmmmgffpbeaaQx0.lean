/- Laid by this session's own program (wip/drive.py) out of the translation: functions of the Go code as plain Lean functions, proofs that the code comes to them, a law's row (for every input it returns true, and its arguments read as before); no condition. Lean checks it. -/
import Derived.Test.YtbkdmmmgffpbeaaProg
import Derived.Below
import Derived.Deep.Draws
import Derived.Deep.AppendLies
import Derived.Maps.AppendAt
import Derived.OwnWalk
import Derived.Laws.BytesArg
import Derived.Laws.MakeOwn
import Derived.Laws.OwnMore
import Derived.Deep.OwnRows
import Derived.Tactics
import Derived.Lib.ConvBytes
import Derived.Laws.Slices
import Derived.WalkKit
import Derived.KernelRfl
import Derived.RowKit3
import Derived.Deep.LoopGhost
import Derived.Deep.QuietTactic
import Derived.BigQuiet
import Derived.WideLaws
import Derived.Deep.DeepCutAuto
import Derived.Deep.CutBlock
import Derived.Deep.RegionHeld3
import Derived.Laws.Rows
import Derived.Lib.AppendStr
import Derived.ArgAppend
import Derived.Laws.IdiomCopy
import Derived.OrdersHeld
import Derived.Laws.BitsLemmas
import Derived.RowKit
import Derived.Lib.Hide
import Derived.Laws.Cover1
import Derived.Test.YtbkdmmmgffpbeaaWWords
import Derived.Test.YtbkdmmmgffpbeaaWLast
import Derived.Test.YtbkdmmmgffpbeaaWTab
import Derived.Test.YtbkdmmmgffpbeaaWFour
import Derived.Test.YtbkdmmmgffpbeaaWQPut
import Derived.Test.YtbkdmmmgffpbeaaWApart
import Derived.Test.YtbkdmmmgffpbeaaWArr
import Derived.Test.YtbkdmmmgffpbeaaWZeros
import Derived.Test.YtbkdmmmgffpbeaaWFoot
import Derived.Test.YtbkdmmmgffpbeaaWKept
import Derived.Test.YtbkdmmmgffpbeaaWShare
import Derived.Test.YtbkdmmmgffpbeaaWN
import Derived.Test.YtbkdmmmgffpbeaaWFootNe
import Derived.Test.YtbkdmmmgffpbeaaWAt
import Derived.Test.YtbkdmmmgffpbeaaWEqStruct
import Derived.Test.YtbkdmmmgffpbeaaWRepsOne
import Derived.Test.YtbkdmmmgffpbeaaWInv
import Derived.Test.YtbkdmmmgffpbeaaWInvWords
import Derived.Test.YtbkdmmmgffpbeaaWGuard
import Derived.Test.YtbkdmmmgffpbeaaWNEv
import Derived.Test.YtbkdmmmgffpbeaaWMore
namespace Go.Proofs.Ytbkdmmmgffpbeaa.Q
open Go.RowKit Go.Proofs.YtbkdmmmgffpbeaaW.PrintWords Go.Proofs.YtbkdmmmgffpbeaaW.PrintLast Go.Proofs.YtbkdmmmgffpbeaaW.PrintMore
attribute [local go_sem] max2_int min2_int max_two min_two max_three min_three max_four min_four   -- for this text's walks alone
set_option linter.unusedVariables false
set_option linter.unusedSimpArgs false



def errW : Option Int → Value
  | none => .nilIface
  | some c => .iface 0 (.int .i64 c)
theorem errW_none : errW none = .nilIface := rfl
theorem errW_some (c : Int) : errW (some c) = .iface 0 (.int .i64 c) := rfl

theorem info5 : (Try.prog.info? 5).map (fun i => (i.zero, i.size, i.bytes)) = some (some (.int .u8 0), 1, 1) := by kernel_rfl
-- the values' own types

end Go.Proofs.Ytbkdmmmgffpbeaa.Q
