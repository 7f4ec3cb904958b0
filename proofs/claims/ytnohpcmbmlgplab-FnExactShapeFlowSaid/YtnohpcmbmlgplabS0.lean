/- Functions of the translation as plain Lean functions, and contracts: each call answers what its function says; no conditions beyond those typed. Written by this session's program. -/
import Derived.Test.YtnohpcmbmlgplabProg
import Derived.Below
import Derived.Deep.Draws
import Derived.Deep.AppendLies
import Derived.Maps.AppendAt
import Derived.OwnWalk
import Derived.Laws.BytesArg
import Derived.Laws.MakeOwn
import Derived.Laws.OwnMore
import Derived.Deep.OwnRows
import Derived.Tactics
import Derived.Lib.ConvBytes
import Derived.Laws.Slices
import Derived.WalkKit
import Derived.KernelRfl
import Derived.RowKit3
import Derived.Deep.LoopGhost
import Derived.Deep.QuietTactic
import Derived.BigQuiet
import Derived.WideLaws
import Derived.Deep.DeepCutAuto
import Derived.Deep.CutBlock
import Derived.Deep.RegionHeld3
import Derived.Laws.Rows
import Derived.Lib.AppendStr
import Derived.ArgAppend
import Derived.Laws.IdiomCopy
import Derived.OrdersHeld
import Derived.Laws.BitsLemmas
import Derived.RowKit
import Derived.Lib.SliceRun
import Derived.Test.YtnohpcmbmlgplabWWords
import Derived.Test.YtnohpcmbmlgplabWLast
import Derived.Test.YtnohpcmbmlgplabWTab
import Derived.Test.YtnohpcmbmlgplabWFour
import Derived.Test.YtnohpcmbmlgplabWQPut
import Derived.Test.YtnohpcmbmlgplabWApart
import Derived.Test.YtnohpcmbmlgplabWArr
import Derived.Test.YtnohpcmbmlgplabWZeros
import Derived.Test.YtnohpcmbmlgplabWFoot
import Derived.Test.YtnohpcmbmlgplabWKept
import Derived.Test.YtnohpcmbmlgplabWShare
import Derived.Test.YtnohpcmbmlgplabWN
import Derived.Test.YtnohpcmbmlgplabWFootNe
import Derived.Test.YtnohpcmbmlgplabWAt
import Derived.Test.YtnohpcmbmlgplabWEqStruct
import Derived.Test.YtnohpcmbmlgplabWRepsOne
import Derived.Test.YtnohpcmbmlgplabWInv
import Derived.Test.YtnohpcmbmlgplabWInvWords
import Derived.Test.YtnohpcmbmlgplabWGuard
import Derived.Test.YtnohpcmbmlgplabWNEv
import Derived.Test.YtnohpcmbmlgplabWMore
namespace Go.Proofs.Ytnohpcmbmlgplab.S
open Go.RowKit Go.Proofs.YtnohpcmbmlgplabW.PrintWords Go.Proofs.YtnohpcmbmlgplabW.PrintLast Go.Proofs.YtnohpcmbmlgplabW.PrintMore
attribute [local go_sem] max2_int min2_int max_two min_two max_three min_three max_four min_four   -- for this text's walks alone
set_option linter.unusedVariables false
set_option linter.unusedSimpArgs false



def errW : Option Int → Value
  | none => .nilIface
  | some c => .iface 0 (.int .i64 c)
theorem errW_none : errW none = .nilIface := rfl
theorem errW_some (c : Int) : errW (some c) = .iface 0 (.int .i64 c) := rfl

theorem info3 : (Try.prog.info? 3).map (fun i => (i.zero, i.size, i.bytes)) = some (some (.int .i64 0), 1, 8) := by kernel_rfl
-- the values' own types

end Go.Proofs.Ytnohpcmbmlgplab.S
