/- The functions that the laws of this seat reach, as Lean functions, and for each the proof that the Go code comes to just these answers (lines written by the kit's print for these claims, joined by a program of ours; where a remark says so, by hand). Conditions: none. -/
import Derived.Test.YtfjcanleekmagaaProg
import Derived.Below
import Derived.Deep.Draws
import Derived.Deep.AppendLies
import Derived.Maps.AppendAt
import Derived.OwnWalk
import Derived.Laws.BytesArg
import Derived.Laws.MakeOwn
import Derived.Laws.OwnMore
import Derived.Deep.OwnRows
import Derived.Tactics
import Derived.Lib.ConvBytes
import Derived.Laws.Slices
import Derived.WalkKit
import Derived.KernelRfl
import Derived.RowKit3
import Derived.Deep.LoopGhost
import Derived.Deep.QuietTactic
import Derived.BigQuiet
import Derived.WideLaws
import Derived.Deep.DeepCutAuto
import Derived.Deep.CutBlock
import Derived.Deep.RegionHeld3
import Derived.Laws.Rows
import Derived.Lib.AppendStr
import Derived.ArgAppend
import Derived.Laws.IdiomCopy
import Derived.OrdersHeld
import Derived.Laws.BitsLemmas
import Derived.RowKit
import Derived.Test.YtfjcanleekmagaaWWords
import Derived.Test.YtfjcanleekmagaaWLast
import Derived.Test.YtfjcanleekmagaaWTab
import Derived.Test.YtfjcanleekmagaaWFour
import Derived.Test.YtfjcanleekmagaaWQPut
import Derived.Test.YtfjcanleekmagaaWApart
import Derived.Test.YtfjcanleekmagaaWArr
import Derived.Test.YtfjcanleekmagaaWZeros
import Derived.Test.YtfjcanleekmagaaWFoot
import Derived.Test.YtfjcanleekmagaaWKept
import Derived.Test.YtfjcanleekmagaaWShare
import Derived.Test.YtfjcanleekmagaaWN
import Derived.Test.YtfjcanleekmagaaWFootNe
import Derived.Test.YtfjcanleekmagaaWAt
import Derived.Test.YtfjcanleekmagaaWEqStruct
import Derived.Test.YtfjcanleekmagaaWRepsOne
import Derived.Test.YtfjcanleekmagaaWInv
import Derived.Test.YtfjcanleekmagaaWInvWords
import Derived.Test.YtfjcanleekmagaaWGuard
import Derived.Test.YtfjcanleekmagaaWNEv
import Derived.Test.YtfjcanleekmagaaWMore
import Derived.Test.YtfjcanleekmagaaShelf
namespace Go.Proofs.Ytfjcanleekmagaa.Fn
open Go.RowKit Go.Proofs.YtfjcanleekmagaaW.PrintWords Go.Proofs.YtfjcanleekmagaaW.PrintLast Go.Proofs.YtfjcanleekmagaaW.PrintMore
attribute [local go_sem] max2_int min2_int max_two min_two max_three min_three max_four min_four   -- for this text's walks alone
set_option linter.unusedVariables false
set_option linter.unusedSimpArgs false
def errW : Option Int → Value
  | none => .nilIface
  | some c => .iface 0 (.int .i64 c)
theorem errW_none : errW none = .nilIface := rfl
theorem errW_some (c : Int) : errW (some c) = .iface 0 (.int .i64 c) := rfl

theorem info3 : (Try.prog.info? 3).map (fun i => (i.zero, i.size, i.bytes)) = some (some (.int .i64 0), 1, 8) := by kernel_rfl
theorem info5 : (Try.prog.info? 5).map (fun i => (i.zero, i.size, i.bytes)) = some (some (.int .u8 0), 1, 1) := by kernel_rfl
theorem info25 : (Try.prog.info? 25).map (fun i => (i.zero, i.size, i.bytes)) = some (some (.int .u64 0), 1, 8) := by kernel_rfl
-- the values' own types

end Go.Proofs.Ytfjcanleekmagaa.Fn
