-- by a patched copy of the print (wip/tools/patch_print.py)
import Derived.Test.YtfcnangllgaliaaProg
import Derived.Below
import Derived.Deep.Draws
import Derived.Deep.AppendLies
import Derived.Maps.AppendAt
import Derived.OwnWalk
import Derived.Laws.BytesArg
import Derived.Laws.MakeOwn
import Derived.Laws.OwnMore
import Derived.Deep.OwnRows
import Derived.Tactics
import Derived.Lib.ConvBytes
import Derived.Laws.Slices
import Derived.WalkKit
import Derived.KernelRfl
import Derived.RowKit3
import Derived.Deep.LoopGhost
import Derived.Deep.QuietTactic
import Derived.BigQuiet
import Derived.WideLaws
import Derived.Deep.DeepCutAuto
import Derived.Deep.CutBlock
import Derived.Deep.RegionHeld3
import Derived.Laws.Rows
import Derived.Lib.AppendStr
import Derived.ArgAppend
import Derived.Laws.IdiomCopy
import Derived.OrdersHeld
import Derived.Laws.BitsLemmas
import Derived.RowKit
import Derived.Test.YtfcnangllgaliaaShelf
import Derived.Test.YtfcnangllgaliaaWWords
import Derived.Test.YtfcnangllgaliaaWLast
import Derived.Test.YtfcnangllgaliaaWTab
import Derived.Test.YtfcnangllgaliaaWFour
import Derived.Test.YtfcnangllgaliaaWQPut
import Derived.Test.YtfcnangllgaliaaWApart
import Derived.Test.YtfcnangllgaliaaWArr
import Derived.Test.YtfcnangllgaliaaWZeros
import Derived.Test.YtfcnangllgaliaaWFoot
import Derived.Test.YtfcnangllgaliaaWKept
import Derived.Test.YtfcnangllgaliaaWShare
import Derived.Test.YtfcnangllgaliaaWN
import Derived.Test.YtfcnangllgaliaaWFootNe
import Derived.Test.YtfcnangllgaliaaWAt
import Derived.Test.YtfcnangllgaliaaWEqStruct
import Derived.Test.YtfcnangllgaliaaWRepsOne
import Derived.Test.YtfcnangllgaliaaWInv
import Derived.Test.YtfcnangllgaliaaWInvWords
import Derived.Test.YtfcnangllgaliaaWGuard
import Derived.Test.YtfcnangllgaliaaWNEv
import Derived.Test.YtfcnangllgaliaaWMore
namespace Go.Proofs.Ytfcnangllgaliaa.PFnExactRecordLine
open Go.RowKit Go.Proofs.YtfcnangllgaliaaW.PrintWords Go.Proofs.YtfcnangllgaliaaW.PrintLast Go.Proofs.YtfcnangllgaliaaW.PrintMore
attribute [local go_sem] max2_int min2_int max_two min_two max_three min_three max_four min_four   -- for this text's walks alone
set_option linter.unusedVariables false
set_option linter.unusedSimpArgs false



def errW : Option Int → Value
  | none => .nilIface
  | some c => .iface 0 (.int .i64 c)
theorem errW_none : errW none = .nilIface := rfl
theorem errW_some (c : Int) : errW (some c) = .iface 0 (.int .i64 c) := rfl

theorem info5 : (Try.prog.info? 5).map (fun i => (i.zero, i.size, i.bytes)) = some (some (.int .u8 0), 1, 1) := by kernel_rfl
-- the values' own types

end Go.Proofs.Ytfcnangllgaliaa.PFnExactRecordLine
