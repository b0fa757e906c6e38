/- The functions that the laws of this seat reach, as Lean functions, and for each the proof that the Go code comes to just these answers (lines written by the kit's print for these claims, joined by a program of ours; where a remark says so, by hand). Conditions: none. -/
import Derived.Test.YtbkenaekgmbiiaaProg
import Derived.Below
import Derived.Deep.Draws
import Derived.Deep.AppendLies
import Derived.Maps.AppendAt
import Derived.OwnWalk
import Derived.Laws.BytesArg
import Derived.Laws.MakeOwn
import Derived.Laws.OwnMore
import Derived.Deep.OwnRows
import Derived.Tactics
import Derived.Lib.ConvBytes
import Derived.Laws.Slices
import Derived.WalkKit
import Derived.KernelRfl
import Derived.RowKit3
import Derived.Deep.LoopGhost
import Derived.Deep.QuietTactic
import Derived.BigQuiet
import Derived.WideLaws
import Derived.Deep.DeepCutAuto
import Derived.Deep.CutBlock
import Derived.Deep.RegionHeld3
import Derived.Laws.Rows
import Derived.Lib.AppendStr
import Derived.ArgAppend
import Derived.Laws.IdiomCopy
import Derived.OrdersHeld
import Derived.Laws.BitsLemmas
import Derived.RowKit
import Derived.Test.YtbkenaekgmbiiaaWWords
import Derived.Test.YtbkenaekgmbiiaaWLast
import Derived.Test.YtbkenaekgmbiiaaWTab
import Derived.Test.YtbkenaekgmbiiaaWFour
import Derived.Test.YtbkenaekgmbiiaaWQPut
import Derived.Test.YtbkenaekgmbiiaaWApart
import Derived.Test.YtbkenaekgmbiiaaWArr
import Derived.Test.YtbkenaekgmbiiaaWZeros
import Derived.Test.YtbkenaekgmbiiaaWFoot
import Derived.Test.YtbkenaekgmbiiaaWKept
import Derived.Test.YtbkenaekgmbiiaaWShare
import Derived.Test.YtbkenaekgmbiiaaWN
import Derived.Test.YtbkenaekgmbiiaaWFootNe
import Derived.Test.YtbkenaekgmbiiaaWAt
import Derived.Test.YtbkenaekgmbiiaaWEqStruct
import Derived.Test.YtbkenaekgmbiiaaWRepsOne
import Derived.Test.YtbkenaekgmbiiaaWInv
import Derived.Test.YtbkenaekgmbiiaaWInvWords
import Derived.Test.YtbkenaekgmbiiaaWGuard
import Derived.Test.YtbkenaekgmbiiaaWNEv
import Derived.Test.YtbkenaekgmbiiaaWMore
import Derived.Lib.SlBytesConst
namespace Go.Proofs.Ytbkenaekgmbiiaa.Fn
open Go.RowKit Go.Proofs.YtbkenaekgmbiiaaW.PrintWords Go.Proofs.YtbkenaekgmbiiaaW.PrintLast Go.Proofs.YtbkenaekgmbiiaaW.PrintMore
attribute [local go_sem] max2_int min2_int max_two min_two max_three min_three max_four min_four   -- for this text's walks alone
set_option linter.unusedVariables false
set_option linter.unusedSimpArgs false
def errW : Option Int → Value
  | none => .nilIface
  | some c => .iface 0 (.int .i64 c)
theorem errW_none : errW none = .nilIface := rfl
theorem errW_some (c : Int) : errW (some c) = .iface 0 (.int .i64 c) := rfl

theorem info5 : (Try.prog.info? 5).map (fun i => (i.zero, i.size, i.bytes)) = some (some (.int .u8 0), 1, 1) := by kernel_rfl
-- the values' own types
theorem info24 : (Try.prog.info? 24).map (fun i => (i.zero, i.size, i.bytes)) = some (some (.int .u32 0), 1, 4) := by kernel_rfl

theorem eqA44 (d : Nat) (w : World) (x0 y0 : Int) (x1 y1 : Int) :
    (Op.equalIn (d + 2) 44 (.agg #[.int .u64 x0, .int .u64 x1]) (.agg #[.int .u64 y0, .int .u64 y1])).run Try.prog w = .ok (x0 == y0 && (x1 == y1)) w := by
  refine eqA_of Try.underlying44 (by kernel_rfl) ?_
  refine eqf_cons (by rfl) (by go_simp; rfl) (by go_simp; rfl) (by go_simp) ?_
  exact eqf_last (by rfl) (by go_simp; rfl) (by go_simp; rfl) (by go_simp)

end Go.Proofs.Ytbkenaekgmbiiaa.Fn
