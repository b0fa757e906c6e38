/- The functions that the laws of this seat reach, as Lean functions, and for each the proof that the Go code comes to just these answers (lines written by the kit's print for these claims, joined by a program of ours; where a remark says so, by hand). Conditions: none. -/
import Derived.Test.YtjenbokdcbppoaaProg
import Derived.Below
import Derived.Deep.Draws
import Derived.Deep.AppendLies
import Derived.Maps.AppendAt
import Derived.OwnWalk
import Derived.Laws.BytesArg
import Derived.Laws.MakeOwn
import Derived.Laws.OwnMore
import Derived.Deep.OwnRows
import Derived.Tactics
import Derived.Lib.ConvBytes
import Derived.Laws.Slices
import Derived.WalkKit
import Derived.KernelRfl
import Derived.RowKit3
import Derived.Deep.LoopGhost
import Derived.Deep.QuietTactic
import Derived.BigQuiet
import Derived.WideLaws
import Derived.Deep.DeepCutAuto
import Derived.Deep.CutBlock
import Derived.Deep.RegionHeld3
import Derived.Laws.Rows
import Derived.Lib.AppendStr
import Derived.ArgAppend
import Derived.Laws.IdiomCopy
import Derived.OrdersHeld
import Derived.Laws.BitsLemmas
import Derived.RowKit
import Derived.Test.YtjenbokdcbppoaaWWords
import Derived.Test.YtjenbokdcbppoaaWLast
import Derived.Test.YtjenbokdcbppoaaWTab
import Derived.Test.YtjenbokdcbppoaaWFour
import Derived.Test.YtjenbokdcbppoaaWQPut
import Derived.Test.YtjenbokdcbppoaaWApart
import Derived.Test.YtjenbokdcbppoaaWArr
import Derived.Test.YtjenbokdcbppoaaWZeros
import Derived.Test.YtjenbokdcbppoaaWFoot
import Derived.Test.YtjenbokdcbppoaaWKept
import Derived.Test.YtjenbokdcbppoaaWShare
import Derived.Test.YtjenbokdcbppoaaWN
import Derived.Test.YtjenbokdcbppoaaWFootNe
import Derived.Test.YtjenbokdcbppoaaWAt
import Derived.Test.YtjenbokdcbppoaaWEqStruct
import Derived.Test.YtjenbokdcbppoaaWRepsOne
import Derived.Test.YtjenbokdcbppoaaWInv
import Derived.Test.YtjenbokdcbppoaaWInvWords
import Derived.Test.YtjenbokdcbppoaaWGuard
import Derived.Test.YtjenbokdcbppoaaWNEv
import Derived.Test.YtjenbokdcbppoaaWMore
import Derived.Laws.Externs
import Derived.Test.YtjenbokdcbppoaaShelf
namespace Go.Proofs.Ytjenbokdcbppoaa.Fn
open Go.RowKit Go.Proofs.YtjenbokdcbppoaaW.PrintWords Go.Proofs.YtjenbokdcbppoaaW.PrintLast Go.Proofs.YtjenbokdcbppoaaW.PrintMore
attribute [local go_sem] max2_int min2_int max_two min_two max_three min_three max_four min_four   -- for this text's walks alone
set_option linter.unusedVariables false
set_option linter.unusedSimpArgs false
def errW : Option Int → Value
  | none => .nilIface
  | some c => .iface 0 (.int .i64 c)
theorem errW_none : errW none = .nilIface := rfl
theorem errW_some (c : Int) : errW (some c) = .iface 0 (.int .i64 c) := rfl

-- the values' own types

end Go.Proofs.Ytjenbokdcbppoaa.Fn
