-- by a patched copy of the print (wip/tools/patch_print.py)
import Derived.Test.YtgajdaijkoomcaaProg
import Derived.Below
import Derived.Deep.Draws
import Derived.Deep.AppendLies
import Derived.Maps.AppendAt
import Derived.OwnWalk
import Derived.Laws.BytesArg
import Derived.Laws.MakeOwn
import Derived.Laws.OwnMore
import Derived.Deep.OwnRows
import Derived.Tactics
import Derived.Lib.ConvBytes
import Derived.Laws.Slices
import Derived.WalkKit
import Derived.KernelRfl
import Derived.RowKit3
import Derived.Deep.LoopGhost
import Derived.Deep.QuietTactic
import Derived.BigQuiet
import Derived.WideLaws
import Derived.Deep.DeepCutAuto
import Derived.Deep.CutBlock
import Derived.Deep.RegionHeld3
import Derived.Laws.Rows
import Derived.Lib.AppendStr
import Derived.ArgAppend
import Derived.Laws.IdiomCopy
import Derived.OrdersHeld
import Derived.Laws.BitsLemmas
import Derived.RowKit
import Derived.Test.YtgajdaijkoomcaaWWords
import Derived.Test.YtgajdaijkoomcaaWLast
import Derived.Test.YtgajdaijkoomcaaWTab
import Derived.Test.YtgajdaijkoomcaaWFour
import Derived.Test.YtgajdaijkoomcaaWQPut
import Derived.Test.YtgajdaijkoomcaaWApart
import Derived.Test.YtgajdaijkoomcaaWArr
import Derived.Test.YtgajdaijkoomcaaWZeros
import Derived.Test.YtgajdaijkoomcaaWFoot
import Derived.Test.YtgajdaijkoomcaaWKept
import Derived.Test.YtgajdaijkoomcaaWShare
import Derived.Test.YtgajdaijkoomcaaWN
import Derived.Test.YtgajdaijkoomcaaWFootNe
import Derived.Test.YtgajdaijkoomcaaWAt
import Derived.Test.YtgajdaijkoomcaaWEqStruct
import Derived.Test.YtgajdaijkoomcaaWRepsOne
import Derived.Test.YtgajdaijkoomcaaWInv
import Derived.Test.YtgajdaijkoomcaaWInvWords
import Derived.Test.YtgajdaijkoomcaaWGuard
import Derived.Test.YtgajdaijkoomcaaWNEv
import Derived.Test.YtgajdaijkoomcaaWMore
namespace Go.Proofs.Ytgajdaijkoomcaa.PFnExactWordBytes
open Go.RowKit Go.Proofs.YtgajdaijkoomcaaW.PrintWords Go.Proofs.YtgajdaijkoomcaaW.PrintLast Go.Proofs.YtgajdaijkoomcaaW.PrintMore
attribute [local go_sem] max2_int min2_int max_two min_two max_three min_three max_four min_four   -- for this text's walks alone
set_option linter.unusedVariables false
set_option linter.unusedSimpArgs false



def errW : Option Int → Value
  | none => .nilIface
  | some c => .iface 0 (.int .i64 c)
theorem errW_none : errW none = .nilIface := rfl
theorem errW_some (c : Int) : errW (some c) = .iface 0 (.int .i64 c) := rfl

theorem info5 : (Try.prog.info? 5).map (fun i => (i.zero, i.size, i.bytes)) = some (some (.int .u8 0), 1, 1) := by kernel_rfl
-- the values' own types

end Go.Proofs.Ytgajdaijkoomcaa.PFnExactWordBytes
