/- Functions of the translation as plain Lean functions, and contracts: each call answers what its function says; no conditions beyond those typed. Written by this session's program. -/
import Derived.Test.YtmffllogaboklabProg
import Derived.Below
import Derived.Deep.Draws
import Derived.Deep.AppendLies
import Derived.Maps.AppendAt
import Derived.OwnWalk
import Derived.Laws.BytesArg
import Derived.Laws.MakeOwn
import Derived.Laws.OwnMore
import Derived.Deep.OwnRows
import Derived.Tactics
import Derived.Lib.ConvBytes
import Derived.Laws.Slices
import Derived.WalkKit
import Derived.KernelRfl
import Derived.RowKit3
import Derived.Deep.LoopGhost
import Derived.Deep.QuietTactic
import Derived.BigQuiet
import Derived.WideLaws
import Derived.Deep.DeepCutAuto
import Derived.Deep.CutBlock
import Derived.Deep.RegionHeld3
import Derived.Laws.Rows
import Derived.Lib.AppendStr
import Derived.ArgAppend
import Derived.Laws.IdiomCopy
import Derived.OrdersHeld
import Derived.Laws.BitsLemmas
import Derived.RowKit
import Derived.Lib.SliceRun
import Derived.Test.YtmffllogaboklabWWords
import Derived.Test.YtmffllogaboklabWLast
import Derived.Test.YtmffllogaboklabWTab
import Derived.Test.YtmffllogaboklabWFour
import Derived.Test.YtmffllogaboklabWQPut
import Derived.Test.YtmffllogaboklabWApart
import Derived.Test.YtmffllogaboklabWArr
import Derived.Test.YtmffllogaboklabWZeros
import Derived.Test.YtmffllogaboklabWFoot
import Derived.Test.YtmffllogaboklabWKept
import Derived.Test.YtmffllogaboklabWShare
import Derived.Test.YtmffllogaboklabWN
import Derived.Test.YtmffllogaboklabWFootNe
import Derived.Test.YtmffllogaboklabWAt
import Derived.Test.YtmffllogaboklabWEqStruct
import Derived.Test.YtmffllogaboklabWRepsOne
import Derived.Test.YtmffllogaboklabWInv
import Derived.Test.YtmffllogaboklabWInvWords
import Derived.Test.YtmffllogaboklabWGuard
import Derived.Test.YtmffllogaboklabWNEv
import Derived.Test.YtmffllogaboklabWMore
namespace Go.Proofs.Ytmffllogaboklab.S
open Go.RowKit Go.Proofs.YtmffllogaboklabW.PrintWords Go.Proofs.YtmffllogaboklabW.PrintLast Go.Proofs.YtmffllogaboklabW.PrintMore
attribute [local go_sem] max2_int min2_int max_two min_two max_three min_three max_four min_four   -- for this text's walks alone
set_option linter.unusedVariables false
set_option linter.unusedSimpArgs false



def errW : Option Int → Value
  | none => .nilIface
  | some c => .iface 0 (.int .i64 c)
theorem errW_none : errW none = .nilIface := rfl
theorem errW_some (c : Int) : errW (some c) = .iface 0 (.int .i64 c) := rfl

theorem info3 : (Try.prog.info? 3).map (fun i => (i.zero, i.size, i.bytes)) = some (some (.int .i64 0), 1, 8) := by kernel_rfl
-- the values' own types

end Go.Proofs.Ytmffllogaboklab.S
