-- Laid by a program of this session (a changed copy of the kit's printer); Lean checks every line.
import Derived.Test.YtcnmedbhmkknlaaProg
import Derived.Below
import Derived.Deep.Draws
import Derived.Deep.AppendLies
import Derived.Maps.AppendAt
import Derived.OwnWalk
import Derived.Laws.BytesArg
import Derived.Laws.MakeOwn
import Derived.Laws.OwnMore
import Derived.Deep.OwnRows
import Derived.Tactics
import Derived.Lib.ConvBytes
import Derived.Laws.Slices
import Derived.WalkKit
import Derived.KernelRfl
import Derived.RowKit3
import Derived.Deep.LoopGhost
import Derived.Deep.QuietTactic
import Derived.BigQuiet
import Derived.WideLaws
import Derived.Deep.DeepCutAuto
import Derived.Deep.CutBlock
import Derived.Deep.RegionHeld3
import Derived.Laws.Rows
import Derived.Lib.AppendStr
import Derived.ArgAppend
import Derived.Laws.IdiomCopy
import Derived.OrdersHeld
import Derived.Laws.BitsLemmas
import Derived.RowKit
import Derived.Test.YtcnmedbhmkknlaaWWords
import Derived.Test.YtcnmedbhmkknlaaWLast
import Derived.Test.YtcnmedbhmkknlaaWTab
import Derived.Test.YtcnmedbhmkknlaaWFour
import Derived.Test.YtcnmedbhmkknlaaWQPut
import Derived.Test.YtcnmedbhmkknlaaWApart
import Derived.Test.YtcnmedbhmkknlaaWArr
import Derived.Test.YtcnmedbhmkknlaaWZeros
import Derived.Test.YtcnmedbhmkknlaaWFoot
import Derived.Test.YtcnmedbhmkknlaaWKept
import Derived.Test.YtcnmedbhmkknlaaWShare
import Derived.Test.YtcnmedbhmkknlaaWN
import Derived.Test.YtcnmedbhmkknlaaWFootNe
import Derived.Test.YtcnmedbhmkknlaaWAt
import Derived.Test.YtcnmedbhmkknlaaWEqStruct
import Derived.Test.YtcnmedbhmkknlaaWRepsOne
import Derived.Test.YtcnmedbhmkknlaaWInv
import Derived.Test.YtcnmedbhmkknlaaWInvWords
import Derived.Test.YtcnmedbhmkknlaaWGuard
import Derived.Test.YtcnmedbhmkknlaaWNEv
import Derived.Test.YtcnmedbhmkknlaaWMore
namespace Go.Proofs.Ytcnmedbhmkknlaa.PFnExactGetText
open Go.RowKit Go.Proofs.YtcnmedbhmkknlaaW.PrintWords Go.Proofs.YtcnmedbhmkknlaaW.PrintLast Go.Proofs.YtcnmedbhmkknlaaW.PrintMore
attribute [local go_sem] max2_int min2_int max_two min_two max_three min_three max_four min_four   -- for this text's walks alone
set_option linter.unusedVariables false
set_option linter.unusedSimpArgs false



def errW : Option Int → Value
  | none => .nilIface
  | some c => .iface 0 (.int .i64 c)
theorem errW_none : errW none = .nilIface := rfl
theorem errW_some (c : Int) : errW (some c) = .iface 0 (.int .i64 c) := rfl

theorem info5 : (Try.prog.info? 5).map (fun i => (i.zero, i.size, i.bytes)) = some (some (.int .u8 0), 1, 1) := by kernel_rfl
-- the values' own types

end Go.Proofs.Ytcnmedbhmkknlaa.PFnExactGetText
