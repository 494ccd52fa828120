/- The functions that the statement EraNears reaches, each as a plain Lean function, with a proof that the Go code comes to its answers; no condition. -/
import Derived.Test.YtilbkdlbbnkgdaaProg
import Derived.Below
import Derived.Deep.Draws
import Derived.Deep.AppendLies
import Derived.Maps.AppendAt
import Derived.OwnWalk
import Derived.Laws.BytesArg
import Derived.Laws.MakeOwn
import Derived.Laws.OwnMore
import Derived.Deep.OwnRows
import Derived.Tactics
import Derived.Lib.ConvBytes
import Derived.Laws.Slices
import Derived.WalkKit
import Derived.KernelRfl
import Derived.RowKit3
import Derived.Deep.LoopGhost
import Derived.Deep.QuietTactic
import Derived.BigQuiet
import Derived.WideLaws
import Derived.Deep.DeepCutAuto
import Derived.Deep.CutBlock
import Derived.Deep.RegionHeld3
import Derived.Laws.Rows
import Derived.Lib.AppendStr
import Derived.ArgAppend
import Derived.Laws.IdiomCopy
import Derived.OrdersHeld
import Derived.Laws.BitsLemmas
import Derived.RowKit
import Derived.Test.YtilbkdlbbnkgdaaWWords
import Derived.Test.YtilbkdlbbnkgdaaWLast
import Derived.Test.YtilbkdlbbnkgdaaWTab
import Derived.Test.YtilbkdlbbnkgdaaWFour
import Derived.Test.YtilbkdlbbnkgdaaWQPut
import Derived.Test.YtilbkdlbbnkgdaaWApart
import Derived.Test.YtilbkdlbbnkgdaaWArr
import Derived.Test.YtilbkdlbbnkgdaaWZeros
import Derived.Test.YtilbkdlbbnkgdaaWFoot
import Derived.Test.YtilbkdlbbnkgdaaWKept
import Derived.Test.YtilbkdlbbnkgdaaWShare
import Derived.Test.YtilbkdlbbnkgdaaWN
import Derived.Test.YtilbkdlbbnkgdaaWFootNe
import Derived.Test.YtilbkdlbbnkgdaaWAt
import Derived.Test.YtilbkdlbbnkgdaaWEqStruct
import Derived.Test.YtilbkdlbbnkgdaaWRepsOne
import Derived.Test.YtilbkdlbbnkgdaaWInv
import Derived.Test.YtilbkdlbbnkgdaaWInvWords
import Derived.Test.YtilbkdlbbnkgdaaWGuard
import Derived.Test.YtilbkdlbbnkgdaaWNEv
import Derived.Test.YtilbkdlbbnkgdaaWMore
namespace Go.Proofs.Ytilbkdlbbnkgdaa.MEraNears
open Go.RowKit Go.Proofs.YtilbkdlbbnkgdaaW.PrintWords Go.Proofs.YtilbkdlbbnkgdaaW.PrintLast Go.Proofs.YtilbkdlbbnkgdaaW.PrintMore
attribute [local go_sem] max2_int min2_int max_two min_two max_three min_three max_four min_four   -- for this text's walks alone
set_option linter.unusedVariables false
set_option linter.unusedSimpArgs false



def errW : Option Int → Value
  | none => .nilIface
  | some c => .iface 0 (.int .i64 c)
theorem errW_none : errW none = .nilIface := rfl
theorem errW_some (c : Int) : errW (some c) = .iface 0 (.int .i64 c) := rfl

theorem info2 : (Try.prog.info? 2).map (fun i => (i.zero, i.size, i.bytes)) = some (some (.int .i64 0), 1, 8) := by kernel_rfl
-- the values' own types

end Go.Proofs.Ytilbkdlbbnkgdaa.MEraNears
