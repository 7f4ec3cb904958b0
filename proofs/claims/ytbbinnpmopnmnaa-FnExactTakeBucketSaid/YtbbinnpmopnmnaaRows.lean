/-
  No cell of these rows narrows 'for every input' (looked for: loops, veiled, ifaces, maps, wideKeys, modest, calm, conditions, laid).
  DERIVED. THE GIVEN ROWS OF THIS SEAT. 6 by the template 'for every input the law returns true; each argument reads behind the call as it read before'; 0 by the template 'total and deterministic' (their statements: YtbbinnpmopnmnaaTotals.lean).
  GIVEN WITH THE SEED: the statements are not yours to turn. If you find one false, say at which input.
  Laid BY PROGRAM, IN A SANDBOX (cutbox-rows.mjs): the forced cells as the released guide's own fill.sh prints them over the translation 26e666d94b24ab2a… (all of the seat's roots in one cut). By AI agents, Wed Nov 11 2026. No macro, syntax, notation, axiom, sorry.
-/
import Derived.Test.YtbbinnpmopnmnaaChecked
import GoSem.Claim
import GoSem.ClaimJoined
import GoSem.ClaimMapViews
import Derived.JoinedTies
import Derived.KernelRfl
namespace Go.Proofs.Ytbbinnpmopnmnaa
/- THE CELL 'sum', in the pinned program and in every row, IS THE sha256 OF THE DUMP (.gsa) THAT YtbbinnpmopnmnaaProg.lean LOADS. Nothing in Lean hashes anything: it is a label: what it is worth is what the hold of that sum in a sandbox is worth. -/
noncomputable def Try.pinned : Pinned := { name := "ytbbinnpmopnmnaa", sum := "26e666d94b24ab2a9b277962640c2e74f6e9accf765754bb361999c367edc34a", checked := Try.checked }
namespace Rows
def none {H : Type} : Left H := { results := [], args := [] }

/-- 'laws.FnExactConstants': WHATEVER THE INPUT: true; the input reads as it did. -/
def fnExactConstantsSpec : ChangeSpec := { name := "fnExactConstants", fn := fun _ => fun
  | [] => { results := [.lit (.bool true)], args := [] }
  | _ => none }
def fnExactConstantsRow : OpenClaim := { program := "ytbbinnpmopnmnaa", sum := "26e666d94b24ab2a9b277962640c2e74f6e9accf765754bb361999c367edc34a", func := "loop.example/g00527/laws.FnExactConstants", spec := "fnExactConstants", apart := false }
def FnExactConstantsSaid : Prop := fnExactConstantsRow.holds Try.pinned (OpenSpec.ofChange fnExactConstantsSpec)

/-- ITS FALSE NEIGHBOUR: 'it returns false'. Refute it at one input. -/
def fnExactConstantsWrong : ChangeSpec := { name := "fnExactConstants", fn := fun _ => fun
  | [] => { results := [.lit (.bool false)], args := [] }
  | _ => none }
def FnExactConstantsWrongFalsely : Prop := fnExactConstantsRow.holds Try.pinned (OpenSpec.ofChange fnExactConstantsWrong)

/-- 'laws.FnExactGoodBucket': WHATEVER THE INPUT: true; the input reads as it did. -/
def fnExactGoodBucketSpec : ChangeSpec := { name := "fnExactGoodBucket", fn := fun _ => fun
  | [d] => { results := [.lit (.bool true)], args := [d] }
  | _ => none }
def fnExactGoodBucketRow : OpenClaim := { program := "ytbbinnpmopnmnaa", sum := "26e666d94b24ab2a9b277962640c2e74f6e9accf765754bb361999c367edc34a", func := "loop.example/g00527/laws.FnExactGoodBucket", spec := "fnExactGoodBucket", apart := false }
def FnExactGoodBucketSaid : Prop := fnExactGoodBucketRow.holds Try.pinned (OpenSpec.ofChange fnExactGoodBucketSpec)

/-- ITS FALSE NEIGHBOUR: 'it returns false'. Refute it at one input. -/
def fnExactGoodBucketWrong : ChangeSpec := { name := "fnExactGoodBucket", fn := fun _ => fun
  | [d] => { results := [.lit (.bool false)], args := [d] }
  | _ => none }
def FnExactGoodBucketWrongFalsely : Prop := fnExactGoodBucketRow.holds Try.pinned (OpenSpec.ofChange fnExactGoodBucketWrong)

/-- 'laws.FnExactNewBucket': WHATEVER THE INPUT: true; the input reads as it did. -/
def fnExactNewBucketSpec : ChangeSpec := { name := "fnExactNewBucket", fn := fun _ => fun
  | [d1, d2] => { results := [.lit (.bool true)], args := [d1, d2] }
  | _ => none }
def fnExactNewBucketRow : OpenClaim := { program := "ytbbinnpmopnmnaa", sum := "26e666d94b24ab2a9b277962640c2e74f6e9accf765754bb361999c367edc34a", func := "loop.example/g00527/laws.FnExactNewBucket", spec := "fnExactNewBucket", apart := false }
def FnExactNewBucketSaid : Prop := fnExactNewBucketRow.holds Try.pinned (OpenSpec.ofChange fnExactNewBucketSpec)

/-- ITS FALSE NEIGHBOUR: 'it returns false'. Refute it at one input. -/
def fnExactNewBucketWrong : ChangeSpec := { name := "fnExactNewBucket", fn := fun _ => fun
  | [d1, d2] => { results := [.lit (.bool false)], args := [d1, d2] }
  | _ => none }
def FnExactNewBucketWrongFalsely : Prop := fnExactNewBucketRow.holds Try.pinned (OpenSpec.ofChange fnExactNewBucketWrong)

/-- 'laws.FnExactSizeOf': WHATEVER THE INPUT: true; the input reads as it did. -/
def fnExactSizeOfSpec : ChangeSpec := { name := "fnExactSizeOf", fn := fun _ => fun
  | [d] => { results := [.lit (.bool true)], args := [d] }
  | _ => none }
def fnExactSizeOfRow : OpenClaim := { program := "ytbbinnpmopnmnaa", sum := "26e666d94b24ab2a9b277962640c2e74f6e9accf765754bb361999c367edc34a", func := "loop.example/g00527/laws.FnExactSizeOf", spec := "fnExactSizeOf", apart := false }
def FnExactSizeOfSaid : Prop := fnExactSizeOfRow.holds Try.pinned (OpenSpec.ofChange fnExactSizeOfSpec)

/-- ITS FALSE NEIGHBOUR: 'it returns false'. Refute it at one input. -/
def fnExactSizeOfWrong : ChangeSpec := { name := "fnExactSizeOf", fn := fun _ => fun
  | [d] => { results := [.lit (.bool false)], args := [d] }
  | _ => none }
def FnExactSizeOfWrongFalsely : Prop := fnExactSizeOfRow.holds Try.pinned (OpenSpec.ofChange fnExactSizeOfWrong)

/-- 'laws.FnExactTakeBucket': WHATEVER THE INPUT: true; the input reads as it did. -/
def fnExactTakeBucketSpec : ChangeSpec := { name := "fnExactTakeBucket", fn := fun _ => fun
  | [d1, d2] => { results := [.lit (.bool true)], args := [d1, d2] }
  | _ => none }
def fnExactTakeBucketRow : OpenClaim := { program := "ytbbinnpmopnmnaa", sum := "26e666d94b24ab2a9b277962640c2e74f6e9accf765754bb361999c367edc34a", func := "loop.example/g00527/laws.FnExactTakeBucket", spec := "fnExactTakeBucket", apart := false }
def FnExactTakeBucketSaid : Prop := fnExactTakeBucketRow.holds Try.pinned (OpenSpec.ofChange fnExactTakeBucketSpec)

/-- ITS FALSE NEIGHBOUR: 'it returns false'. Refute it at one input. -/
def fnExactTakeBucketWrong : ChangeSpec := { name := "fnExactTakeBucket", fn := fun _ => fun
  | [d1, d2] => { results := [.lit (.bool false)], args := [d1, d2] }
  | _ => none }
def FnExactTakeBucketWrongFalsely : Prop := fnExactTakeBucketRow.holds Try.pinned (OpenSpec.ofChange fnExactTakeBucketWrong)

/-- 'laws.FnExactLessWork': WHATEVER THE INPUT: true; the input reads as it did. -/
def fnExactLessWorkSpec : ChangeSpec := { name := "fnExactLessWork", fn := fun _ => fun
  | [d1, d2] => { results := [.lit (.bool true)], args := [d1, d2] }
  | _ => none }
def fnExactLessWorkRow : OpenClaim := { program := "ytbbinnpmopnmnaa", sum := "26e666d94b24ab2a9b277962640c2e74f6e9accf765754bb361999c367edc34a", func := "loop.example/g00527/laws.FnExactLessWork", spec := "fnExactLessWork", apart := false }
def FnExactLessWorkSaid : Prop := fnExactLessWorkRow.holds Try.pinned (OpenSpec.ofChange fnExactLessWorkSpec)

/-- ITS FALSE NEIGHBOUR: 'it returns false'. Refute it at one input. -/
def fnExactLessWorkWrong : ChangeSpec := { name := "fnExactLessWork", fn := fun _ => fun
  | [d1, d2] => { results := [.lit (.bool false)], args := [d1, d2] }
  | _ => none }
def FnExactLessWorkWrongFalsely : Prop := fnExactLessWorkRow.holds Try.pinned (OpenSpec.ofChange fnExactLessWorkWrong)

/- THE SECOND FORM. 'bulk': how many values and letters a reading holds, each counted each time it is reached (what is shared counts as often as it is met; a slice's spare places count too). A statement '..UptoSaid' is the law's where the arguments, and the package variables that the reading takes, are together of bulk at most 1048576: NARROWER than '..Said'. Prove '..Said' where nothing that the law and all that it calls make is longer than what came in: it says more and counts as full. Else prove '..UptoSaid'. A law counts once. -/
mutual
def uptoBulk {H : Type} : DataW H → Nat
  | .lit (.string bytes) => bytes.length + 1
  | .lit _ => 1
  | .nil => 1
  | .ptr d => uptoBulk d + 1
  | .slice elems spare => uptoBulkAll elems + uptoBulkAll spare + 1
  | .agg parts => uptoBulkAll parts + 1
  | .iface _ d => uptoBulk d + 1
  | .map entries => uptoBulkEntries entries + 1
  | .held _ => 1
def uptoBulkAll {H : Type} : List (DataW H) → Nat
  | [] => 0
  | d :: r => uptoBulk d + uptoBulkAll r
def uptoBulkEntries {H : Type} : List (Lit × DataW H) → Nat
  | [] => 0
  | x :: r => uptoBulkEntry x + uptoBulkEntries r
def uptoBulkEntry {H : Type} : Lit × DataW H → Nat
  | (.string bytes, d) => bytes.length + uptoBulk d + 1
  | (_, d) => uptoBulk d + 1
 end
def uptoSmall : (H : Type) → List (DataW H) → Bool := fun _ ds => decide (uptoBulkAll ds ≤ 1048576)
def OpenSpec.upto (s : _root_.Go.ChangeSpec) : _root_.Go.OpenSpec := { _root_.Go.OpenSpec.ofChange s with cond := some uptoSmall }

/-- 'laws.FnExactConstants', WHERE WHAT IT READS IS OF BULK AT MOST 1048576: true; the input reads as it did. -/
def fnExactConstantsUptoRow : OpenClaim := { program := "ytbbinnpmopnmnaa", sum := "26e666d94b24ab2a9b277962640c2e74f6e9accf765754bb361999c367edc34a", func := "loop.example/g00527/laws.FnExactConstants", spec := "fnExactConstants", apart := false, narrowed := true }
def FnExactConstantsUptoSaid : Prop := fnExactConstantsUptoRow.holds Try.pinned (OpenSpec.upto fnExactConstantsSpec)

/-- 'laws.FnExactGoodBucket', WHERE WHAT IT READS IS OF BULK AT MOST 1048576: true; the input reads as it did. -/
def fnExactGoodBucketUptoRow : OpenClaim := { program := "ytbbinnpmopnmnaa", sum := "26e666d94b24ab2a9b277962640c2e74f6e9accf765754bb361999c367edc34a", func := "loop.example/g00527/laws.FnExactGoodBucket", spec := "fnExactGoodBucket", apart := false, narrowed := true }
def FnExactGoodBucketUptoSaid : Prop := fnExactGoodBucketUptoRow.holds Try.pinned (OpenSpec.upto fnExactGoodBucketSpec)

/-- 'laws.FnExactNewBucket', WHERE WHAT IT READS IS OF BULK AT MOST 1048576: true; the input reads as it did. -/
def fnExactNewBucketUptoRow : OpenClaim := { program := "ytbbinnpmopnmnaa", sum := "26e666d94b24ab2a9b277962640c2e74f6e9accf765754bb361999c367edc34a", func := "loop.example/g00527/laws.FnExactNewBucket", spec := "fnExactNewBucket", apart := false, narrowed := true }
def FnExactNewBucketUptoSaid : Prop := fnExactNewBucketUptoRow.holds Try.pinned (OpenSpec.upto fnExactNewBucketSpec)

/-- 'laws.FnExactSizeOf', WHERE WHAT IT READS IS OF BULK AT MOST 1048576: true; the input reads as it did. -/
def fnExactSizeOfUptoRow : OpenClaim := { program := "ytbbinnpmopnmnaa", sum := "26e666d94b24ab2a9b277962640c2e74f6e9accf765754bb361999c367edc34a", func := "loop.example/g00527/laws.FnExactSizeOf", spec := "fnExactSizeOf", apart := false, narrowed := true }
def FnExactSizeOfUptoSaid : Prop := fnExactSizeOfUptoRow.holds Try.pinned (OpenSpec.upto fnExactSizeOfSpec)

/-- 'laws.FnExactTakeBucket', WHERE WHAT IT READS IS OF BULK AT MOST 1048576: true; the input reads as it did. -/
def fnExactTakeBucketUptoRow : OpenClaim := { program := "ytbbinnpmopnmnaa", sum := "26e666d94b24ab2a9b277962640c2e74f6e9accf765754bb361999c367edc34a", func := "loop.example/g00527/laws.FnExactTakeBucket", spec := "fnExactTakeBucket", apart := false, narrowed := true }
def FnExactTakeBucketUptoSaid : Prop := fnExactTakeBucketUptoRow.holds Try.pinned (OpenSpec.upto fnExactTakeBucketSpec)

/-- 'laws.FnExactLessWork', WHERE WHAT IT READS IS OF BULK AT MOST 1048576: true; the input reads as it did. -/
def fnExactLessWorkUptoRow : OpenClaim := { program := "ytbbinnpmopnmnaa", sum := "26e666d94b24ab2a9b277962640c2e74f6e9accf765754bb361999c367edc34a", func := "loop.example/g00527/laws.FnExactLessWork", spec := "fnExactLessWork", apart := false, narrowed := true }
def FnExactLessWorkUptoSaid : Prop := fnExactLessWorkUptoRow.holds Try.pinned (OpenSpec.upto fnExactLessWorkSpec)

end Rows
end Go.Proofs.Ytbbinnpmopnmnaa
