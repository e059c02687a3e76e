-- Written by this session's copy of the print (wip/tools): Lean checks it.
import Derived.Test.YtljcbimhdoklbaaProg
import Derived.Below
import Derived.Deep.Draws
import Derived.Deep.AppendLies
import Derived.Maps.AppendAt
import Derived.OwnWalk
import Derived.Laws.BytesArg
import Derived.Laws.MakeOwn
import Derived.Laws.OwnMore
import Derived.Deep.OwnRows
import Derived.Tactics
import Derived.Lib.ConvBytes
import Derived.Laws.Slices
import Derived.WalkKit
import Derived.KernelRfl
import Derived.RowKit3
import Derived.Deep.LoopGhost
import Derived.Deep.QuietTactic
import Derived.BigQuiet
import Derived.WideLaws
import Derived.Deep.DeepCutAuto
import Derived.Deep.CutBlock
import Derived.Deep.RegionHeld3
import Derived.Laws.Rows
import Derived.Lib.AppendStr
import Derived.ArgAppend
import Derived.Laws.IdiomCopy
import Derived.OrdersHeld
import Derived.Laws.BitsLemmas
import Derived.RowKit
import Derived.Test.YtljcbimhdoklbaaWVal
import Derived.Test.YtljcbimhdoklbaaWWords
import Derived.Test.YtljcbimhdoklbaaWLast
import Derived.Test.YtljcbimhdoklbaaWTab
import Derived.Test.YtljcbimhdoklbaaWFour
import Derived.Test.YtljcbimhdoklbaaWQPut
import Derived.Test.YtljcbimhdoklbaaWApart
import Derived.Test.YtljcbimhdoklbaaWArr
import Derived.Test.YtljcbimhdoklbaaWZeros
import Derived.Test.YtljcbimhdoklbaaWFoot
import Derived.Test.YtljcbimhdoklbaaWKept
import Derived.Test.YtljcbimhdoklbaaWShare
import Derived.Test.YtljcbimhdoklbaaWN
import Derived.Test.YtljcbimhdoklbaaWFootNe
import Derived.Test.YtljcbimhdoklbaaWAt
import Derived.Test.YtljcbimhdoklbaaWEqStruct
import Derived.Test.YtljcbimhdoklbaaWRepsOne
import Derived.Test.YtljcbimhdoklbaaWInv
import Derived.Test.YtljcbimhdoklbaaWInvWords
import Derived.Test.YtljcbimhdoklbaaWGuard
import Derived.Test.YtljcbimhdoklbaaWNEv
import Derived.Test.YtljcbimhdoklbaaWMore
namespace Go.Proofs.Ytljcbimhdoklbaa.R
open Go.RowKit Go.Proofs.YtljcbimhdoklbaaW.PrintWords Go.Proofs.YtljcbimhdoklbaaW.PrintLast Go.Proofs.YtljcbimhdoklbaaW.PrintMore
attribute [local go_sem] max2_int min2_int max_two min_two max_three min_three max_four min_four   -- for this text's walks alone
set_option linter.unusedVariables false
set_option linter.unusedSimpArgs false



def errW : Option Int → Value
  | none => .nilIface
  | some c => .iface 0 (.int .i64 c)
theorem errW_none : errW none = .nilIface := rfl
theorem errW_some (c : Int) : errW (some c) = .iface 0 (.int .i64 c) := rfl

theorem info3 : (Try.prog.info? 3).map (fun i => (i.zero, i.size, i.bytes)) = some (some (.int .i64 0), 1, 8) := by kernel_rfl
-- the values' own types

end Go.Proofs.Ytljcbimhdoklbaa.R
