/-
  No cell of these rows narrows 'for every input' (looked for: loops, veiled, ifaces, maps, wideKeys, modest, calm, conditions, laid).
  DERIVED. THE GIVEN ROWS OF THIS SEAT. 6 by the template 'for every input the law returns true; each argument reads behind the call as it read before'; 0 by the template 'total and deterministic' (their statements: YtbbinnpmopnmnabTotals.lean).
  GIVEN WITH THE SEED: the statements are not yours to turn. If you find one false, say at which input.
  Laid BY PROGRAM, IN A SANDBOX (cutbox-rows.mjs): the forced cells as the released guide's own fill.sh prints them over the translation 06dea9ec7554dda0… (all of the seat's roots in one cut). By AI agents, Wed Nov 11 2026. No macro, syntax, notation, axiom, sorry.
-/
import Derived.Test.YtbbinnpmopnmnabChecked
import GoSem.Claim
import GoSem.ClaimJoined
import GoSem.ClaimMapViews
import Derived.JoinedTies
import Derived.KernelRfl
namespace Go.Proofs.Ytbbinnpmopnmnab
/- THE CELL 'sum', in the pinned program and in every row, IS THE sha256 OF THE DUMP (.gsa) THAT YtbbinnpmopnmnabProg.lean LOADS. Nothing in Lean hashes anything: it is a label: what it is worth is what the hold of that sum in a sandbox is worth. -/
noncomputable def Try.pinned : Pinned := { name := "ytbbinnpmopnmnab", sum := "06dea9ec7554dda0ff9944df6f2bd2cb6121b4c2098c634b235aafa04d0a026c", checked := Try.checked }
namespace Rows
def none {H : Type} : Left H := { results := [], args := [] }

/-- 'laws.FnExactTickBucket': WHATEVER THE INPUT: true; the input reads as it did. -/
def fnExactTickBucketSpec : ChangeSpec := { name := "fnExactTickBucket", fn := fun _ => fun
  | [d] => { results := [.lit (.bool true)], args := [d] }
  | _ => none }
def fnExactTickBucketRow : OpenClaim := { program := "ytbbinnpmopnmnab", sum := "06dea9ec7554dda0ff9944df6f2bd2cb6121b4c2098c634b235aafa04d0a026c", func := "loop.example/g00527/laws.FnExactTickBucket", spec := "fnExactTickBucket", apart := false }
def FnExactTickBucketSaid : Prop := fnExactTickBucketRow.holds Try.pinned (OpenSpec.ofChange fnExactTickBucketSpec)

/-- ITS FALSE NEIGHBOUR: 'it returns false'. Refute it at one input. -/
def fnExactTickBucketWrong : ChangeSpec := { name := "fnExactTickBucket", fn := fun _ => fun
  | [d] => { results := [.lit (.bool false)], args := [d] }
  | _ => none }
def FnExactTickBucketWrongFalsely : Prop := fnExactTickBucketRow.holds Try.pinned (OpenSpec.ofChange fnExactTickBucketWrong)

/-- 'laws.FnExactGoodSpans': WHATEVER THE INPUT: true; the input reads as it did. -/
def fnExactGoodSpansSpec : ChangeSpec := { name := "fnExactGoodSpans", fn := fun _ => fun
  | [d] => { results := [.lit (.bool true)], args := [d] }
  | _ => none }
def fnExactGoodSpansRow : OpenClaim := { program := "ytbbinnpmopnmnab", sum := "06dea9ec7554dda0ff9944df6f2bd2cb6121b4c2098c634b235aafa04d0a026c", func := "loop.example/g00527/laws.FnExactGoodSpans", spec := "fnExactGoodSpans", apart := false }
def FnExactGoodSpansSaid : Prop := fnExactGoodSpansRow.holds Try.pinned (OpenSpec.ofChange fnExactGoodSpansSpec)

/-- ITS FALSE NEIGHBOUR: 'it returns false'. Refute it at one input. -/
def fnExactGoodSpansWrong : ChangeSpec := { name := "fnExactGoodSpans", fn := fun _ => fun
  | [d] => { results := [.lit (.bool false)], args := [d] }
  | _ => none }
def FnExactGoodSpansWrongFalsely : Prop := fnExactGoodSpansRow.holds Try.pinned (OpenSpec.ofChange fnExactGoodSpansWrong)

/-- 'laws.FnExactGoodAgain': WHATEVER THE INPUT: true; the input reads as it did. -/
def fnExactGoodAgainSpec : ChangeSpec := { name := "fnExactGoodAgain", fn := fun _ => fun
  | [d] => { results := [.lit (.bool true)], args := [d] }
  | _ => none }
def fnExactGoodAgainRow : OpenClaim := { program := "ytbbinnpmopnmnab", sum := "06dea9ec7554dda0ff9944df6f2bd2cb6121b4c2098c634b235aafa04d0a026c", func := "loop.example/g00527/laws.FnExactGoodAgain", spec := "fnExactGoodAgain", unfollowed := true, recurses := true, apart := false }
def FnExactGoodAgainSaid : Prop := fnExactGoodAgainRow.holds Try.pinned (OpenSpec.ofChange fnExactGoodAgainSpec)

/-- ITS FALSE NEIGHBOUR: 'it returns false'. Refute it at one input. -/
def fnExactGoodAgainWrong : ChangeSpec := { name := "fnExactGoodAgain", fn := fun _ => fun
  | [d] => { results := [.lit (.bool false)], args := [d] }
  | _ => none }
def FnExactGoodAgainWrongFalsely : Prop := fnExactGoodAgainRow.holds Try.pinned (OpenSpec.ofChange fnExactGoodAgainWrong)

/-- 'laws.FnExactGoodTasks': WHATEVER THE INPUT: true; the input reads as it did. -/
def fnExactGoodTasksSpec : ChangeSpec := { name := "fnExactGoodTasks", fn := fun _ => fun
  | [d] => { results := [.lit (.bool true)], args := [d] }
  | _ => none }
def fnExactGoodTasksRow : OpenClaim := { program := "ytbbinnpmopnmnab", sum := "06dea9ec7554dda0ff9944df6f2bd2cb6121b4c2098c634b235aafa04d0a026c", func := "loop.example/g00527/laws.FnExactGoodTasks", spec := "fnExactGoodTasks", unfollowed := true, recurses := true, apart := false }
def FnExactGoodTasksSaid : Prop := fnExactGoodTasksRow.holds Try.pinned (OpenSpec.ofChange fnExactGoodTasksSpec)

/-- ITS FALSE NEIGHBOUR: 'it returns false'. Refute it at one input. -/
def fnExactGoodTasksWrong : ChangeSpec := { name := "fnExactGoodTasks", fn := fun _ => fun
  | [d] => { results := [.lit (.bool false)], args := [d] }
  | _ => none }
def FnExactGoodTasksWrongFalsely : Prop := fnExactGoodTasksRow.holds Try.pinned (OpenSpec.ofChange fnExactGoodTasksWrong)

/-- 'laws.FnExactPutText': WHATEVER THE INPUT: true; the input reads as it did. -/
def fnExactPutTextSpec : ChangeSpec := { name := "fnExactPutText", fn := fun _ => fun
  | [d] => { results := [.lit (.bool true)], args := [d] }
  | _ => none }
def fnExactPutTextRow : OpenClaim := { program := "ytbbinnpmopnmnab", sum := "06dea9ec7554dda0ff9944df6f2bd2cb6121b4c2098c634b235aafa04d0a026c", func := "loop.example/g00527/laws.FnExactPutText", spec := "fnExactPutText", apart := false }
def FnExactPutTextSaid : Prop := fnExactPutTextRow.holds Try.pinned (OpenSpec.ofChange fnExactPutTextSpec)

/-- ITS FALSE NEIGHBOUR: 'it returns false'. Refute it at one input. -/
def fnExactPutTextWrong : ChangeSpec := { name := "fnExactPutText", fn := fun _ => fun
  | [d] => { results := [.lit (.bool false)], args := [d] }
  | _ => none }
def FnExactPutTextWrongFalsely : Prop := fnExactPutTextRow.holds Try.pinned (OpenSpec.ofChange fnExactPutTextWrong)

/-- 'laws.FnExactRelationOf': WHATEVER THE INPUT: true; the input reads as it did. -/
def fnExactRelationOfSpec : ChangeSpec := { name := "fnExactRelationOf", fn := fun _ => fun
  | [d1, d2] => { results := [.lit (.bool true)], args := [d1, d2] }
  | _ => none }
def fnExactRelationOfRow : OpenClaim := { program := "ytbbinnpmopnmnab", sum := "06dea9ec7554dda0ff9944df6f2bd2cb6121b4c2098c634b235aafa04d0a026c", func := "loop.example/g00527/laws.FnExactRelationOf", spec := "fnExactRelationOf", apart := false }
def FnExactRelationOfSaid : Prop := fnExactRelationOfRow.holds Try.pinned (OpenSpec.ofChange fnExactRelationOfSpec)

/-- ITS FALSE NEIGHBOUR: 'it returns false'. Refute it at one input. -/
def fnExactRelationOfWrong : ChangeSpec := { name := "fnExactRelationOf", fn := fun _ => fun
  | [d1, d2] => { results := [.lit (.bool false)], args := [d1, d2] }
  | _ => none }
def FnExactRelationOfWrongFalsely : Prop := fnExactRelationOfRow.holds Try.pinned (OpenSpec.ofChange fnExactRelationOfWrong)

/- THE SECOND FORM. 'bulk': how many values and letters a reading holds, each counted each time it is reached (what is shared counts as often as it is met; a slice's spare places count too). A statement '..UptoSaid' is the law's where the arguments, and the package variables that the reading takes, are together of bulk at most 1048576: NARROWER than '..Said'. Prove '..Said' where nothing that the law and all that it calls make is longer than what came in: it says more and counts as full. Else prove '..UptoSaid'. A law counts once. -/
mutual
def uptoBulk {H : Type} : DataW H → Nat
  | .lit (.string bytes) => bytes.length + 1
  | .lit _ => 1
  | .nil => 1
  | .ptr d => uptoBulk d + 1
  | .slice elems spare => uptoBulkAll elems + uptoBulkAll spare + 1
  | .agg parts => uptoBulkAll parts + 1
  | .iface _ d => uptoBulk d + 1
  | .map entries => uptoBulkEntries entries + 1
  | .held _ => 1
def uptoBulkAll {H : Type} : List (DataW H) → Nat
  | [] => 0
  | d :: r => uptoBulk d + uptoBulkAll r
def uptoBulkEntries {H : Type} : List (Lit × DataW H) → Nat
  | [] => 0
  | x :: r => uptoBulkEntry x + uptoBulkEntries r
def uptoBulkEntry {H : Type} : Lit × DataW H → Nat
  | (.string bytes, d) => bytes.length + uptoBulk d + 1
  | (_, d) => uptoBulk d + 1
 end
def uptoSmall : (H : Type) → List (DataW H) → Bool := fun _ ds => decide (uptoBulkAll ds ≤ 1048576)
def OpenSpec.upto (s : _root_.Go.ChangeSpec) : _root_.Go.OpenSpec := { _root_.Go.OpenSpec.ofChange s with cond := some uptoSmall }

/-- 'laws.FnExactTickBucket', WHERE WHAT IT READS IS OF BULK AT MOST 1048576: true; the input reads as it did. -/
def fnExactTickBucketUptoRow : OpenClaim := { program := "ytbbinnpmopnmnab", sum := "06dea9ec7554dda0ff9944df6f2bd2cb6121b4c2098c634b235aafa04d0a026c", func := "loop.example/g00527/laws.FnExactTickBucket", spec := "fnExactTickBucket", apart := false, narrowed := true }
def FnExactTickBucketUptoSaid : Prop := fnExactTickBucketUptoRow.holds Try.pinned (OpenSpec.upto fnExactTickBucketSpec)

/-- 'laws.FnExactGoodSpans', WHERE WHAT IT READS IS OF BULK AT MOST 1048576: true; the input reads as it did. -/
def fnExactGoodSpansUptoRow : OpenClaim := { program := "ytbbinnpmopnmnab", sum := "06dea9ec7554dda0ff9944df6f2bd2cb6121b4c2098c634b235aafa04d0a026c", func := "loop.example/g00527/laws.FnExactGoodSpans", spec := "fnExactGoodSpans", apart := false, narrowed := true }
def FnExactGoodSpansUptoSaid : Prop := fnExactGoodSpansUptoRow.holds Try.pinned (OpenSpec.upto fnExactGoodSpansSpec)

/-- 'laws.FnExactGoodAgain', WHERE WHAT IT READS IS OF BULK AT MOST 1048576: true; the input reads as it did. -/
def fnExactGoodAgainUptoRow : OpenClaim := { program := "ytbbinnpmopnmnab", sum := "06dea9ec7554dda0ff9944df6f2bd2cb6121b4c2098c634b235aafa04d0a026c", func := "loop.example/g00527/laws.FnExactGoodAgain", spec := "fnExactGoodAgain", unfollowed := true, recurses := true, apart := false, narrowed := true }
def FnExactGoodAgainUptoSaid : Prop := fnExactGoodAgainUptoRow.holds Try.pinned (OpenSpec.upto fnExactGoodAgainSpec)

/-- 'laws.FnExactGoodTasks', WHERE WHAT IT READS IS OF BULK AT MOST 1048576: true; the input reads as it did. -/
def fnExactGoodTasksUptoRow : OpenClaim := { program := "ytbbinnpmopnmnab", sum := "06dea9ec7554dda0ff9944df6f2bd2cb6121b4c2098c634b235aafa04d0a026c", func := "loop.example/g00527/laws.FnExactGoodTasks", spec := "fnExactGoodTasks", unfollowed := true, recurses := true, apart := false, narrowed := true }
def FnExactGoodTasksUptoSaid : Prop := fnExactGoodTasksUptoRow.holds Try.pinned (OpenSpec.upto fnExactGoodTasksSpec)

/-- 'laws.FnExactPutText', WHERE WHAT IT READS IS OF BULK AT MOST 1048576: true; the input reads as it did. -/
def fnExactPutTextUptoRow : OpenClaim := { program := "ytbbinnpmopnmnab", sum := "06dea9ec7554dda0ff9944df6f2bd2cb6121b4c2098c634b235aafa04d0a026c", func := "loop.example/g00527/laws.FnExactPutText", spec := "fnExactPutText", apart := false, narrowed := true }
def FnExactPutTextUptoSaid : Prop := fnExactPutTextUptoRow.holds Try.pinned (OpenSpec.upto fnExactPutTextSpec)

/-- 'laws.FnExactRelationOf', WHERE WHAT IT READS IS OF BULK AT MOST 1048576: true; the input reads as it did. -/
def fnExactRelationOfUptoRow : OpenClaim := { program := "ytbbinnpmopnmnab", sum := "06dea9ec7554dda0ff9944df6f2bd2cb6121b4c2098c634b235aafa04d0a026c", func := "loop.example/g00527/laws.FnExactRelationOf", spec := "fnExactRelationOf", apart := false, narrowed := true }
def FnExactRelationOfUptoSaid : Prop := fnExactRelationOfUptoRow.holds Try.pinned (OpenSpec.upto fnExactRelationOfSpec)

end Rows
end Go.Proofs.Ytbbinnpmopnmnab
