/-
  No cell of these rows narrows 'for every input' (looked for: loops, veiled, ifaces, maps, wideKeys, modest, calm, conditions, laid).
  DERIVED. THE GIVEN ROWS OF THIS SEAT. 6 by the template 'for every input the law returns true; each argument reads behind the call as it read before'; 0 by the template 'total and deterministic' (their statements: YtmffllogaboklagTotals.lean).
  GIVEN WITH THE SEED: the statements are not yours to turn. If you find one false, say at which input.
  Laid BY PROGRAM, IN A SANDBOX (cutbox-rows.mjs): the forced cells as the released guide's own fill.sh prints them over the translation a3b2fe6dd5745de2… (all of the seat's roots in one cut). By AI agents, Wed Nov 11 2026. No macro, syntax, notation, axiom, sorry.
-/
import Derived.Test.YtmffllogaboklagChecked
import GoSem.Claim
import GoSem.ClaimJoined
import GoSem.ClaimMapViews
import Derived.JoinedTies
import Derived.KernelRfl
namespace Go.Proofs.Ytmffllogaboklag
/- THE CELL 'sum', in the pinned program and in every row, IS THE sha256 OF THE DUMP (.gsa) THAT YtmffllogaboklagProg.lean LOADS. Nothing in Lean hashes anything: it is a label: what it is worth is what the hold of that sum in a sandbox is worth. -/
noncomputable def Try.pinned : Pinned := { name := "ytmffllogaboklag", sum := "a3b2fe6dd5745de2a25166ec3ea9f1e1998c71c89dc66190d52ff7620c23baed", checked := Try.checked }
namespace Rows
def none {H : Type} : Left H := { results := [], args := [] }

/-- 'laws.FnExactIsHeap': WHATEVER THE INPUT: true; the input reads as it did. -/
def fnExactIsHeapSpec : ChangeSpec := { name := "fnExactIsHeap", fn := fun _ => fun
  | [d] => { results := [.lit (.bool true)], args := [d] }
  | _ => none }
def fnExactIsHeapRow : OpenClaim := { program := "ytmffllogaboklag", sum := "a3b2fe6dd5745de2a25166ec3ea9f1e1998c71c89dc66190d52ff7620c23baed", func := "loop.example/g00527/laws.FnExactIsHeap", spec := "fnExactIsHeap", unfollowed := true, recurses := true, apart := false }
def FnExactIsHeapSaid : Prop := fnExactIsHeapRow.holds Try.pinned (OpenSpec.ofChange fnExactIsHeapSpec)

/-- ITS FALSE NEIGHBOUR: 'it returns false'. Refute it at one input. -/
def fnExactIsHeapWrong : ChangeSpec := { name := "fnExactIsHeap", fn := fun _ => fun
  | [d] => { results := [.lit (.bool false)], args := [d] }
  | _ => none }
def FnExactIsHeapWrongFalsely : Prop := fnExactIsHeapRow.holds Try.pinned (OpenSpec.ofChange fnExactIsHeapWrong)

/-- 'laws.FnExactPushHeap': WHATEVER THE INPUT: true; the input reads as it did. -/
def fnExactPushHeapSpec : ChangeSpec := { name := "fnExactPushHeap", fn := fun _ => fun
  | [d1, d2] => { results := [.lit (.bool true)], args := [d1, d2] }
  | _ => none }
def fnExactPushHeapRow : OpenClaim := { program := "ytmffllogaboklag", sum := "a3b2fe6dd5745de2a25166ec3ea9f1e1998c71c89dc66190d52ff7620c23baed", func := "loop.example/g00527/laws.FnExactPushHeap", spec := "fnExactPushHeap", unfollowed := true, recurses := true, apart := false }
def FnExactPushHeapSaid : Prop := fnExactPushHeapRow.holds Try.pinned (OpenSpec.ofChange fnExactPushHeapSpec)

/-- ITS FALSE NEIGHBOUR: 'it returns false'. Refute it at one input. -/
def fnExactPushHeapWrong : ChangeSpec := { name := "fnExactPushHeap", fn := fun _ => fun
  | [d1, d2] => { results := [.lit (.bool false)], args := [d1, d2] }
  | _ => none }
def FnExactPushHeapWrongFalsely : Prop := fnExactPushHeapRow.holds Try.pinned (OpenSpec.ofChange fnExactPushHeapWrong)

/-- 'laws.FnExactPopHeap': WHATEVER THE INPUT: true; the input reads as it did. -/
def fnExactPopHeapSpec : ChangeSpec := { name := "fnExactPopHeap", fn := fun _ => fun
  | [d] => { results := [.lit (.bool true)], args := [d] }
  | _ => none }
def fnExactPopHeapRow : OpenClaim := { program := "ytmffllogaboklag", sum := "a3b2fe6dd5745de2a25166ec3ea9f1e1998c71c89dc66190d52ff7620c23baed", func := "loop.example/g00527/laws.FnExactPopHeap", spec := "fnExactPopHeap", unfollowed := true, recurses := true, apart := false }
def FnExactPopHeapSaid : Prop := fnExactPopHeapRow.holds Try.pinned (OpenSpec.ofChange fnExactPopHeapSpec)

/-- ITS FALSE NEIGHBOUR: 'it returns false'. Refute it at one input. -/
def fnExactPopHeapWrong : ChangeSpec := { name := "fnExactPopHeap", fn := fun _ => fun
  | [d] => { results := [.lit (.bool false)], args := [d] }
  | _ => none }
def FnExactPopHeapWrongFalsely : Prop := fnExactPopHeapRow.holds Try.pinned (OpenSpec.ofChange fnExactPopHeapWrong)

/-- 'laws.FnExactMakeHeap': WHATEVER THE INPUT: true; the input reads as it did. -/
def fnExactMakeHeapSpec : ChangeSpec := { name := "fnExactMakeHeap", fn := fun _ => fun
  | [d] => { results := [.lit (.bool true)], args := [d] }
  | _ => none }
def fnExactMakeHeapRow : OpenClaim := { program := "ytmffllogaboklag", sum := "a3b2fe6dd5745de2a25166ec3ea9f1e1998c71c89dc66190d52ff7620c23baed", func := "loop.example/g00527/laws.FnExactMakeHeap", spec := "fnExactMakeHeap", unfollowed := true, recurses := true, apart := false }
def FnExactMakeHeapSaid : Prop := fnExactMakeHeapRow.holds Try.pinned (OpenSpec.ofChange fnExactMakeHeapSpec)

/-- ITS FALSE NEIGHBOUR: 'it returns false'. Refute it at one input. -/
def fnExactMakeHeapWrong : ChangeSpec := { name := "fnExactMakeHeap", fn := fun _ => fun
  | [d] => { results := [.lit (.bool false)], args := [d] }
  | _ => none }
def FnExactMakeHeapWrongFalsely : Prop := fnExactMakeHeapRow.holds Try.pinned (OpenSpec.ofChange fnExactMakeHeapWrong)

/-- 'laws.FnExactStepsToMake': WHATEVER THE INPUT: true; the input reads as it did. -/
def fnExactStepsToMakeSpec : ChangeSpec := { name := "fnExactStepsToMake", fn := fun _ => fun
  | [d] => { results := [.lit (.bool true)], args := [d] }
  | _ => none }
def fnExactStepsToMakeRow : OpenClaim := { program := "ytmffllogaboklag", sum := "a3b2fe6dd5745de2a25166ec3ea9f1e1998c71c89dc66190d52ff7620c23baed", func := "loop.example/g00527/laws.FnExactStepsToMake", spec := "fnExactStepsToMake", unfollowed := true, recurses := true, apart := false }
def FnExactStepsToMakeSaid : Prop := fnExactStepsToMakeRow.holds Try.pinned (OpenSpec.ofChange fnExactStepsToMakeSpec)

/-- ITS FALSE NEIGHBOUR: 'it returns false'. Refute it at one input. -/
def fnExactStepsToMakeWrong : ChangeSpec := { name := "fnExactStepsToMake", fn := fun _ => fun
  | [d] => { results := [.lit (.bool false)], args := [d] }
  | _ => none }
def FnExactStepsToMakeWrongFalsely : Prop := fnExactStepsToMakeRow.holds Try.pinned (OpenSpec.ofChange fnExactStepsToMakeWrong)

/-- 'laws.FnExactSortWork': WHATEVER THE INPUT: true; the input reads as it did. -/
def fnExactSortWorkSpec : ChangeSpec := { name := "fnExactSortWork", fn := fun _ => fun
  | [d] => { results := [.lit (.bool true)], args := [d] }
  | _ => none }
def fnExactSortWorkRow : OpenClaim := { program := "ytmffllogaboklag", sum := "a3b2fe6dd5745de2a25166ec3ea9f1e1998c71c89dc66190d52ff7620c23baed", func := "loop.example/g00527/laws.FnExactSortWork", spec := "fnExactSortWork", unfollowed := true, recurses := true, apart := false }
def FnExactSortWorkSaid : Prop := fnExactSortWorkRow.holds Try.pinned (OpenSpec.ofChange fnExactSortWorkSpec)

/-- ITS FALSE NEIGHBOUR: 'it returns false'. Refute it at one input. -/
def fnExactSortWorkWrong : ChangeSpec := { name := "fnExactSortWork", fn := fun _ => fun
  | [d] => { results := [.lit (.bool false)], args := [d] }
  | _ => none }
def FnExactSortWorkWrongFalsely : Prop := fnExactSortWorkRow.holds Try.pinned (OpenSpec.ofChange fnExactSortWorkWrong)

/- THE SECOND FORM. 'bulk': how many values and letters a reading holds, each counted each time it is reached (what is shared counts as often as it is met; a slice's spare places count too). A statement '..UptoSaid' is the law's where the arguments, and the package variables that the reading takes, are together of bulk at most 1048576: NARROWER than '..Said'. Prove '..Said' where nothing that the law and all that it calls make is longer than what came in: it says more and counts as full. Else prove '..UptoSaid'. A law counts once. -/
mutual
def uptoBulk {H : Type} : DataW H → Nat
  | .lit (.string bytes) => bytes.length + 1
  | .lit _ => 1
  | .nil => 1
  | .ptr d => uptoBulk d + 1
  | .slice elems spare => uptoBulkAll elems + uptoBulkAll spare + 1
  | .agg parts => uptoBulkAll parts + 1
  | .iface _ d => uptoBulk d + 1
  | .map entries => uptoBulkEntries entries + 1
  | .held _ => 1
def uptoBulkAll {H : Type} : List (DataW H) → Nat
  | [] => 0
  | d :: r => uptoBulk d + uptoBulkAll r
def uptoBulkEntries {H : Type} : List (Lit × DataW H) → Nat
  | [] => 0
  | x :: r => uptoBulkEntry x + uptoBulkEntries r
def uptoBulkEntry {H : Type} : Lit × DataW H → Nat
  | (.string bytes, d) => bytes.length + uptoBulk d + 1
  | (_, d) => uptoBulk d + 1
 end
def uptoSmall : (H : Type) → List (DataW H) → Bool := fun _ ds => decide (uptoBulkAll ds ≤ 1048576)
def OpenSpec.upto (s : _root_.Go.ChangeSpec) : _root_.Go.OpenSpec := { _root_.Go.OpenSpec.ofChange s with cond := some uptoSmall }

/-- 'laws.FnExactIsHeap', WHERE WHAT IT READS IS OF BULK AT MOST 1048576: true; the input reads as it did. -/
def fnExactIsHeapUptoRow : OpenClaim := { program := "ytmffllogaboklag", sum := "a3b2fe6dd5745de2a25166ec3ea9f1e1998c71c89dc66190d52ff7620c23baed", func := "loop.example/g00527/laws.FnExactIsHeap", spec := "fnExactIsHeap", unfollowed := true, recurses := true, apart := false, narrowed := true }
def FnExactIsHeapUptoSaid : Prop := fnExactIsHeapUptoRow.holds Try.pinned (OpenSpec.upto fnExactIsHeapSpec)

/-- 'laws.FnExactPushHeap', WHERE WHAT IT READS IS OF BULK AT MOST 1048576: true; the input reads as it did. -/
def fnExactPushHeapUptoRow : OpenClaim := { program := "ytmffllogaboklag", sum := "a3b2fe6dd5745de2a25166ec3ea9f1e1998c71c89dc66190d52ff7620c23baed", func := "loop.example/g00527/laws.FnExactPushHeap", spec := "fnExactPushHeap", unfollowed := true, recurses := true, apart := false, narrowed := true }
def FnExactPushHeapUptoSaid : Prop := fnExactPushHeapUptoRow.holds Try.pinned (OpenSpec.upto fnExactPushHeapSpec)

/-- 'laws.FnExactPopHeap', WHERE WHAT IT READS IS OF BULK AT MOST 1048576: true; the input reads as it did. -/
def fnExactPopHeapUptoRow : OpenClaim := { program := "ytmffllogaboklag", sum := "a3b2fe6dd5745de2a25166ec3ea9f1e1998c71c89dc66190d52ff7620c23baed", func := "loop.example/g00527/laws.FnExactPopHeap", spec := "fnExactPopHeap", unfollowed := true, recurses := true, apart := false, narrowed := true }
def FnExactPopHeapUptoSaid : Prop := fnExactPopHeapUptoRow.holds Try.pinned (OpenSpec.upto fnExactPopHeapSpec)

/-- 'laws.FnExactMakeHeap', WHERE WHAT IT READS IS OF BULK AT MOST 1048576: true; the input reads as it did. -/
def fnExactMakeHeapUptoRow : OpenClaim := { program := "ytmffllogaboklag", sum := "a3b2fe6dd5745de2a25166ec3ea9f1e1998c71c89dc66190d52ff7620c23baed", func := "loop.example/g00527/laws.FnExactMakeHeap", spec := "fnExactMakeHeap", unfollowed := true, recurses := true, apart := false, narrowed := true }
def FnExactMakeHeapUptoSaid : Prop := fnExactMakeHeapUptoRow.holds Try.pinned (OpenSpec.upto fnExactMakeHeapSpec)

/-- 'laws.FnExactStepsToMake', WHERE WHAT IT READS IS OF BULK AT MOST 1048576: true; the input reads as it did. -/
def fnExactStepsToMakeUptoRow : OpenClaim := { program := "ytmffllogaboklag", sum := "a3b2fe6dd5745de2a25166ec3ea9f1e1998c71c89dc66190d52ff7620c23baed", func := "loop.example/g00527/laws.FnExactStepsToMake", spec := "fnExactStepsToMake", unfollowed := true, recurses := true, apart := false, narrowed := true }
def FnExactStepsToMakeUptoSaid : Prop := fnExactStepsToMakeUptoRow.holds Try.pinned (OpenSpec.upto fnExactStepsToMakeSpec)

/-- 'laws.FnExactSortWork', WHERE WHAT IT READS IS OF BULK AT MOST 1048576: true; the input reads as it did. -/
def fnExactSortWorkUptoRow : OpenClaim := { program := "ytmffllogaboklag", sum := "a3b2fe6dd5745de2a25166ec3ea9f1e1998c71c89dc66190d52ff7620c23baed", func := "loop.example/g00527/laws.FnExactSortWork", spec := "fnExactSortWork", unfollowed := true, recurses := true, apart := false, narrowed := true }
def FnExactSortWorkUptoSaid : Prop := fnExactSortWorkUptoRow.holds Try.pinned (OpenSpec.upto fnExactSortWorkSpec)

end Rows
end Go.Proofs.Ytmffllogaboklag
