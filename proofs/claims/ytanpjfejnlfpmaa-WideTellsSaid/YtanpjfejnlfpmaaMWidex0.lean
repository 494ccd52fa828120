/- Functions that the statements of this seat reach, each as a plain Lean function, with a proof that the Go code comes to its answers; no condition. -/
import Derived.Test.YtanpjfejnlfpmaaProg
import Derived.Below
import Derived.Deep.Draws
import Derived.Deep.AppendLies
import Derived.Maps.AppendAt
import Derived.OwnWalk
import Derived.Laws.BytesArg
import Derived.Laws.MakeOwn
import Derived.Laws.OwnMore
import Derived.Deep.OwnRows
import Derived.Tactics
import Derived.Lib.ConvBytes
import Derived.Laws.Slices
import Derived.WalkKit
import Derived.KernelRfl
import Derived.RowKit3
import Derived.Deep.LoopGhost
import Derived.Deep.QuietTactic
import Derived.BigQuiet
import Derived.WideLaws
import Derived.Deep.DeepCutAuto
import Derived.Deep.CutBlock
import Derived.Deep.RegionHeld3
import Derived.Laws.Rows
import Derived.Lib.AppendStr
import Derived.ArgAppend
import Derived.Laws.IdiomCopy
import Derived.OrdersHeld
import Derived.Laws.BitsLemmas
import Derived.RowKit
import Derived.Test.YtanpjfejnlfpmaaWWords
import Derived.Test.YtanpjfejnlfpmaaWLast
import Derived.Test.YtanpjfejnlfpmaaWTab
import Derived.Test.YtanpjfejnlfpmaaWFour
import Derived.Test.YtanpjfejnlfpmaaWQPut
import Derived.Test.YtanpjfejnlfpmaaWApart
import Derived.Test.YtanpjfejnlfpmaaWArr
import Derived.Test.YtanpjfejnlfpmaaWZeros
import Derived.Test.YtanpjfejnlfpmaaWFoot
import Derived.Test.YtanpjfejnlfpmaaWKept
import Derived.Test.YtanpjfejnlfpmaaWShare
import Derived.Test.YtanpjfejnlfpmaaWN
import Derived.Test.YtanpjfejnlfpmaaWFootNe
import Derived.Test.YtanpjfejnlfpmaaWAt
import Derived.Test.YtanpjfejnlfpmaaWEqStruct
import Derived.Test.YtanpjfejnlfpmaaWRepsOne
import Derived.Test.YtanpjfejnlfpmaaWInv
import Derived.Test.YtanpjfejnlfpmaaWInvWords
import Derived.Test.YtanpjfejnlfpmaaWGuard
import Derived.Test.YtanpjfejnlfpmaaWNEv
import Derived.Test.YtanpjfejnlfpmaaWMore
namespace Go.Proofs.Ytanpjfejnlfpmaa.MWide
open Go.RowKit Go.Proofs.YtanpjfejnlfpmaaW.PrintWords Go.Proofs.YtanpjfejnlfpmaaW.PrintLast Go.Proofs.YtanpjfejnlfpmaaW.PrintMore
attribute [local go_sem] max2_int min2_int max_two min_two max_three min_three max_four min_four   -- for this text's walks alone
set_option linter.unusedVariables false
set_option linter.unusedSimpArgs false



def errW : Option Int → Value
  | none => .nilIface
  | some c => .iface 0 (.int .i64 c)
theorem errW_none : errW none = .nilIface := rfl
theorem errW_some (c : Int) : errW (some c) = .iface 0 (.int .i64 c) := rfl

-- the values' own types

end Go.Proofs.Ytanpjfejnlfpmaa.MWide
