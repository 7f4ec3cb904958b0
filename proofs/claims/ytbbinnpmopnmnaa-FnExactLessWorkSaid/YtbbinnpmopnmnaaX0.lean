/- Functions of the translation as plain Lean functions, and contracts: each call answers what its function says; no conditions beyond those typed. Written by this session's program. -/
import Derived.Test.YtbbinnpmopnmnaaProg
import Derived.Below
import Derived.Deep.Draws
import Derived.Deep.AppendLies
import Derived.Maps.AppendAt
import Derived.OwnWalk
import Derived.Laws.BytesArg
import Derived.Laws.MakeOwn
import Derived.Laws.OwnMore
import Derived.Deep.OwnRows
import Derived.Tactics
import Derived.Lib.ConvBytes
import Derived.Laws.Slices
import Derived.WalkKit
import Derived.KernelRfl
import Derived.RowKit3
import Derived.Deep.LoopGhost
import Derived.Deep.QuietTactic
import Derived.BigQuiet
import Derived.WideLaws
import Derived.Deep.DeepCutAuto
import Derived.Deep.CutBlock
import Derived.Deep.RegionHeld3
import Derived.Laws.Rows
import Derived.Lib.AppendStr
import Derived.ArgAppend
import Derived.Laws.IdiomCopy
import Derived.OrdersHeld
import Derived.Laws.BitsLemmas
import Derived.RowKit
import Derived.Test.YtbbinnpmopnmnaaWWords
import Derived.Test.YtbbinnpmopnmnaaWLast
import Derived.Test.YtbbinnpmopnmnaaWTab
import Derived.Test.YtbbinnpmopnmnaaWFour
import Derived.Test.YtbbinnpmopnmnaaWQPut
import Derived.Test.YtbbinnpmopnmnaaWApart
import Derived.Test.YtbbinnpmopnmnaaWArr
import Derived.Test.YtbbinnpmopnmnaaWZeros
import Derived.Test.YtbbinnpmopnmnaaWFoot
import Derived.Test.YtbbinnpmopnmnaaWKept
import Derived.Test.YtbbinnpmopnmnaaWShare
import Derived.Test.YtbbinnpmopnmnaaWN
import Derived.Test.YtbbinnpmopnmnaaWFootNe
import Derived.Test.YtbbinnpmopnmnaaWAt
import Derived.Test.YtbbinnpmopnmnaaWEqStruct
import Derived.Test.YtbbinnpmopnmnaaWRepsOne
import Derived.Test.YtbbinnpmopnmnaaWInv
import Derived.Test.YtbbinnpmopnmnaaWInvWords
import Derived.Test.YtbbinnpmopnmnaaWGuard
import Derived.Test.YtbbinnpmopnmnaaWNEv
import Derived.Test.YtbbinnpmopnmnaaWMore
namespace Go.Proofs.Ytbbinnpmopnmnaa.X
open Go.RowKit Go.Proofs.YtbbinnpmopnmnaaW.PrintWords Go.Proofs.YtbbinnpmopnmnaaW.PrintLast Go.Proofs.YtbbinnpmopnmnaaW.PrintMore
attribute [local go_sem] max2_int min2_int max_two min_two max_three min_three max_four min_four   -- for this text's walks alone
set_option linter.unusedVariables false
set_option linter.unusedSimpArgs false



def errW : Option Int → Value
  | none => .nilIface
  | some c => .iface 0 (.int .i64 c)
theorem errW_none : errW none = .nilIface := rfl
theorem errW_some (c : Int) : errW (some c) = .iface 0 (.int .i64 c) := rfl

theorem info3 : (Try.prog.info? 3).map (fun i => (i.zero, i.size, i.bytes)) = some (some (.int .i64 0), 1, 8) := by kernel_rfl
-- the values' own types

end Go.Proofs.Ytbbinnpmopnmnaa.X
