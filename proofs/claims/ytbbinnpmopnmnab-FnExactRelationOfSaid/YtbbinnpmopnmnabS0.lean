/- Functions of the translation as plain Lean functions, and contracts: each call answers what its function says; no conditions beyond those typed. Written by this session's program. -/
import Derived.Test.YtbbinnpmopnmnabProg
import Derived.Below
import Derived.Deep.Draws
import Derived.Deep.AppendLies
import Derived.Maps.AppendAt
import Derived.OwnWalk
import Derived.Laws.BytesArg
import Derived.Laws.MakeOwn
import Derived.Laws.OwnMore
import Derived.Deep.OwnRows
import Derived.Tactics
import Derived.Lib.ConvBytes
import Derived.Laws.Slices
import Derived.WalkKit
import Derived.KernelRfl
import Derived.RowKit3
import Derived.Deep.LoopGhost
import Derived.Deep.QuietTactic
import Derived.BigQuiet
import Derived.WideLaws
import Derived.Deep.DeepCutAuto
import Derived.Deep.CutBlock
import Derived.Deep.RegionHeld3
import Derived.Laws.Rows
import Derived.Lib.AppendStr
import Derived.ArgAppend
import Derived.Laws.IdiomCopy
import Derived.OrdersHeld
import Derived.Laws.BitsLemmas
import Derived.RowKit
import Derived.Lib.SliceRun
import Derived.Test.YtbbinnpmopnmnabWWords
import Derived.Test.YtbbinnpmopnmnabWLast
import Derived.Test.YtbbinnpmopnmnabWTab
import Derived.Test.YtbbinnpmopnmnabWFour
import Derived.Test.YtbbinnpmopnmnabWQPut
import Derived.Test.YtbbinnpmopnmnabWApart
import Derived.Test.YtbbinnpmopnmnabWArr
import Derived.Test.YtbbinnpmopnmnabWZeros
import Derived.Test.YtbbinnpmopnmnabWFoot
import Derived.Test.YtbbinnpmopnmnabWKept
import Derived.Test.YtbbinnpmopnmnabWShare
import Derived.Test.YtbbinnpmopnmnabWN
import Derived.Test.YtbbinnpmopnmnabWFootNe
import Derived.Test.YtbbinnpmopnmnabWAt
import Derived.Test.YtbbinnpmopnmnabWEqStruct
import Derived.Test.YtbbinnpmopnmnabWRepsOne
import Derived.Test.YtbbinnpmopnmnabWInv
import Derived.Test.YtbbinnpmopnmnabWInvWords
import Derived.Test.YtbbinnpmopnmnabWGuard
import Derived.Test.YtbbinnpmopnmnabWNEv
import Derived.Test.YtbbinnpmopnmnabWMore
namespace Go.Proofs.Ytbbinnpmopnmnab.S
open Go.RowKit Go.Proofs.YtbbinnpmopnmnabW.PrintWords Go.Proofs.YtbbinnpmopnmnabW.PrintLast Go.Proofs.YtbbinnpmopnmnabW.PrintMore
attribute [local go_sem] max2_int min2_int max_two min_two max_three min_three max_four min_four   -- for this text's walks alone
set_option linter.unusedVariables false
set_option linter.unusedSimpArgs false



def errW : Option Int → Value
  | none => .nilIface
  | some c => .iface 0 (.int .i64 c)
theorem errW_none : errW none = .nilIface := rfl
theorem errW_some (c : Int) : errW (some c) = .iface 0 (.int .i64 c) := rfl

-- the values' own types

end Go.Proofs.Ytbbinnpmopnmnab.S
