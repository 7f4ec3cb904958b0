/-
  No cell of these rows narrows 'for every input' (looked for: loops, veiled, ifaces, maps, wideKeys, modest, calm, conditions, laid).
  DERIVED. THE GIVEN ROWS OF THIS SEAT. 6 by the template 'for every input the law returns true; each argument reads behind the call as it read before'; 0 by the template 'total and deterministic' (their statements: YtmffllogaboklabTotals.lean).
  GIVEN WITH THE SEED: the statements are not yours to turn. If you find one false, say at which input.
  Laid BY PROGRAM, IN A SANDBOX (cutbox-rows.mjs): the forced cells as the released guide's own fill.sh prints them over the translation 421298a376986445… (all of the seat's roots in one cut). By AI agents, Wed Nov 11 2026. No macro, syntax, notation, axiom, sorry.
-/
import Derived.Test.YtmffllogaboklabChecked
import GoSem.Claim
import GoSem.ClaimJoined
import GoSem.ClaimMapViews
import Derived.JoinedTies
import Derived.KernelRfl
namespace Go.Proofs.Ytmffllogaboklab
/- THE CELL 'sum', in the pinned program and in every row, IS THE sha256 OF THE DUMP (.gsa) THAT YtmffllogaboklabProg.lean LOADS. Nothing in Lean hashes anything: it is a label: what it is worth is what the hold of that sum in a sandbox is worth. -/
noncomputable def Try.pinned : Pinned := { name := "ytmffllogaboklab", sum := "421298a3769864456a5b1101fcb0672f62508864f057ae1e94c58c955440e371", checked := Try.checked }
namespace Rows
def none {H : Type} : Left H := { results := [], args := [] }

/-- 'laws.FnExactConforms': WHATEVER THE INPUT: true; the input reads as it did. -/
def fnExactConformsSpec : ChangeSpec := { name := "fnExactConforms", fn := fun _ => fun
  | [d1, d2, d3] => { results := [.lit (.bool true)], args := [d1, d2, d3] }
  | _ => none }
def fnExactConformsRow : OpenClaim := { program := "ytmffllogaboklab", sum := "421298a3769864456a5b1101fcb0672f62508864f057ae1e94c58c955440e371", func := "loop.example/g00527/laws.FnExactConforms", spec := "fnExactConforms", unfollowed := true, recurses := true, apart := false }
def FnExactConformsSaid : Prop := fnExactConformsRow.holds Try.pinned (OpenSpec.ofChange fnExactConformsSpec)

/-- ITS FALSE NEIGHBOUR: 'it returns false'. Refute it at one input. -/
def fnExactConformsWrong : ChangeSpec := { name := "fnExactConforms", fn := fun _ => fun
  | [d1, d2, d3] => { results := [.lit (.bool false)], args := [d1, d2, d3] }
  | _ => none }
def FnExactConformsWrongFalsely : Prop := fnExactConformsRow.holds Try.pinned (OpenSpec.ofChange fnExactConformsWrong)

/-- 'laws.FnExactPassThrough': WHATEVER THE INPUT: true; the input reads as it did. -/
def fnExactPassThroughSpec : ChangeSpec := { name := "fnExactPassThrough", fn := fun _ => fun
  | [d1, d2] => { results := [.lit (.bool true)], args := [d1, d2] }
  | _ => none }
def fnExactPassThroughRow : OpenClaim := { program := "ytmffllogaboklab", sum := "421298a3769864456a5b1101fcb0672f62508864f057ae1e94c58c955440e371", func := "loop.example/g00527/laws.FnExactPassThrough", spec := "fnExactPassThrough", unfollowed := true, recurses := true, apart := false }
def FnExactPassThroughSaid : Prop := fnExactPassThroughRow.holds Try.pinned (OpenSpec.ofChange fnExactPassThroughSpec)

/-- ITS FALSE NEIGHBOUR: 'it returns false'. Refute it at one input. -/
def fnExactPassThroughWrong : ChangeSpec := { name := "fnExactPassThrough", fn := fun _ => fun
  | [d1, d2] => { results := [.lit (.bool false)], args := [d1, d2] }
  | _ => none }
def FnExactPassThroughWrongFalsely : Prop := fnExactPassThroughRow.holds Try.pinned (OpenSpec.ofChange fnExactPassThroughWrong)

/-- 'laws.FnExactShapeFlow': WHATEVER THE INPUT: true; the input reads as it did. -/
def fnExactShapeFlowSpec : ChangeSpec := { name := "fnExactShapeFlow", fn := fun _ => fun
  | [d1, d2, d3] => { results := [.lit (.bool true)], args := [d1, d2, d3] }
  | _ => none }
def fnExactShapeFlowRow : OpenClaim := { program := "ytmffllogaboklab", sum := "421298a3769864456a5b1101fcb0672f62508864f057ae1e94c58c955440e371", func := "loop.example/g00527/laws.FnExactShapeFlow", spec := "fnExactShapeFlow", unfollowed := true, recurses := true, apart := false }
def FnExactShapeFlowSaid : Prop := fnExactShapeFlowRow.holds Try.pinned (OpenSpec.ofChange fnExactShapeFlowSpec)

/-- ITS FALSE NEIGHBOUR: 'it returns false'. Refute it at one input. -/
def fnExactShapeFlowWrong : ChangeSpec := { name := "fnExactShapeFlow", fn := fun _ => fun
  | [d1, d2, d3] => { results := [.lit (.bool false)], args := [d1, d2, d3] }
  | _ => none }
def FnExactShapeFlowWrongFalsely : Prop := fnExactShapeFlowRow.holds Try.pinned (OpenSpec.ofChange fnExactShapeFlowWrong)

/-- 'laws.FnExactMissingIn': WHATEVER THE INPUT: true; the input reads as it did. -/
def fnExactMissingInSpec : ChangeSpec := { name := "fnExactMissingIn", fn := fun _ => fun
  | [d1, d2] => { results := [.lit (.bool true)], args := [d1, d2] }
  | _ => none }
def fnExactMissingInRow : OpenClaim := { program := "ytmffllogaboklab", sum := "421298a3769864456a5b1101fcb0672f62508864f057ae1e94c58c955440e371", func := "loop.example/g00527/laws.FnExactMissingIn", spec := "fnExactMissingIn", apart := false }
def FnExactMissingInSaid : Prop := fnExactMissingInRow.holds Try.pinned (OpenSpec.ofChange fnExactMissingInSpec)

/-- ITS FALSE NEIGHBOUR: 'it returns false'. Refute it at one input. -/
def fnExactMissingInWrong : ChangeSpec := { name := "fnExactMissingIn", fn := fun _ => fun
  | [d1, d2] => { results := [.lit (.bool false)], args := [d1, d2] }
  | _ => none }
def FnExactMissingInWrongFalsely : Prop := fnExactMissingInRow.holds Try.pinned (OpenSpec.ofChange fnExactMissingInWrong)

/-- 'laws.FnExactLengthOf': WHATEVER THE INPUT: true; the input reads as it did. -/
def fnExactLengthOfSpec : ChangeSpec := { name := "fnExactLengthOf", fn := fun _ => fun
  | [d] => { results := [.lit (.bool true)], args := [d] }
  | _ => none }
def fnExactLengthOfRow : OpenClaim := { program := "ytmffllogaboklab", sum := "421298a3769864456a5b1101fcb0672f62508864f057ae1e94c58c955440e371", func := "loop.example/g00527/laws.FnExactLengthOf", spec := "fnExactLengthOf", apart := false }
def FnExactLengthOfSaid : Prop := fnExactLengthOfRow.holds Try.pinned (OpenSpec.ofChange fnExactLengthOfSpec)

/-- ITS FALSE NEIGHBOUR: 'it returns false'. Refute it at one input. -/
def fnExactLengthOfWrong : ChangeSpec := { name := "fnExactLengthOf", fn := fun _ => fun
  | [d] => { results := [.lit (.bool false)], args := [d] }
  | _ => none }
def FnExactLengthOfWrongFalsely : Prop := fnExactLengthOfRow.holds Try.pinned (OpenSpec.ofChange fnExactLengthOfWrong)

/-- 'laws.FnExactHasPoint': WHATEVER THE INPUT: true; the input reads as it did. -/
def fnExactHasPointSpec : ChangeSpec := { name := "fnExactHasPoint", fn := fun _ => fun
  | [d1, d2] => { results := [.lit (.bool true)], args := [d1, d2] }
  | _ => none }
def fnExactHasPointRow : OpenClaim := { program := "ytmffllogaboklab", sum := "421298a3769864456a5b1101fcb0672f62508864f057ae1e94c58c955440e371", func := "loop.example/g00527/laws.FnExactHasPoint", spec := "fnExactHasPoint", unfollowed := true, recurses := true, apart := false }
def FnExactHasPointSaid : Prop := fnExactHasPointRow.holds Try.pinned (OpenSpec.ofChange fnExactHasPointSpec)

/-- ITS FALSE NEIGHBOUR: 'it returns false'. Refute it at one input. -/
def fnExactHasPointWrong : ChangeSpec := { name := "fnExactHasPoint", fn := fun _ => fun
  | [d1, d2] => { results := [.lit (.bool false)], args := [d1, d2] }
  | _ => none }
def FnExactHasPointWrongFalsely : Prop := fnExactHasPointRow.holds Try.pinned (OpenSpec.ofChange fnExactHasPointWrong)

/- THE SECOND FORM. 'bulk': how many values and letters a reading holds, each counted each time it is reached (what is shared counts as often as it is met; a slice's spare places count too). A statement '..UptoSaid' is the law's where the arguments, and the package variables that the reading takes, are together of bulk at most 1048576: NARROWER than '..Said'. Prove '..Said' where nothing that the law and all that it calls make is longer than what came in: it says more and counts as full. Else prove '..UptoSaid'. A law counts once. -/
mutual
def uptoBulk {H : Type} : DataW H → Nat
  | .lit (.string bytes) => bytes.length + 1
  | .lit _ => 1
  | .nil => 1
  | .ptr d => uptoBulk d + 1
  | .slice elems spare => uptoBulkAll elems + uptoBulkAll spare + 1
  | .agg parts => uptoBulkAll parts + 1
  | .iface _ d => uptoBulk d + 1
  | .map entries => uptoBulkEntries entries + 1
  | .held _ => 1
def uptoBulkAll {H : Type} : List (DataW H) → Nat
  | [] => 0
  | d :: r => uptoBulk d + uptoBulkAll r
def uptoBulkEntries {H : Type} : List (Lit × DataW H) → Nat
  | [] => 0
  | x :: r => uptoBulkEntry x + uptoBulkEntries r
def uptoBulkEntry {H : Type} : Lit × DataW H → Nat
  | (.string bytes, d) => bytes.length + uptoBulk d + 1
  | (_, d) => uptoBulk d + 1
 end
def uptoSmall : (H : Type) → List (DataW H) → Bool := fun _ ds => decide (uptoBulkAll ds ≤ 1048576)
def OpenSpec.upto (s : _root_.Go.ChangeSpec) : _root_.Go.OpenSpec := { _root_.Go.OpenSpec.ofChange s with cond := some uptoSmall }

/-- 'laws.FnExactConforms', WHERE WHAT IT READS IS OF BULK AT MOST 1048576: true; the input reads as it did. -/
def fnExactConformsUptoRow : OpenClaim := { program := "ytmffllogaboklab", sum := "421298a3769864456a5b1101fcb0672f62508864f057ae1e94c58c955440e371", func := "loop.example/g00527/laws.FnExactConforms", spec := "fnExactConforms", unfollowed := true, recurses := true, apart := false, narrowed := true }
def FnExactConformsUptoSaid : Prop := fnExactConformsUptoRow.holds Try.pinned (OpenSpec.upto fnExactConformsSpec)

/-- 'laws.FnExactPassThrough', WHERE WHAT IT READS IS OF BULK AT MOST 1048576: true; the input reads as it did. -/
def fnExactPassThroughUptoRow : OpenClaim := { program := "ytmffllogaboklab", sum := "421298a3769864456a5b1101fcb0672f62508864f057ae1e94c58c955440e371", func := "loop.example/g00527/laws.FnExactPassThrough", spec := "fnExactPassThrough", unfollowed := true, recurses := true, apart := false, narrowed := true }
def FnExactPassThroughUptoSaid : Prop := fnExactPassThroughUptoRow.holds Try.pinned (OpenSpec.upto fnExactPassThroughSpec)

/-- 'laws.FnExactShapeFlow', WHERE WHAT IT READS IS OF BULK AT MOST 1048576: true; the input reads as it did. -/
def fnExactShapeFlowUptoRow : OpenClaim := { program := "ytmffllogaboklab", sum := "421298a3769864456a5b1101fcb0672f62508864f057ae1e94c58c955440e371", func := "loop.example/g00527/laws.FnExactShapeFlow", spec := "fnExactShapeFlow", unfollowed := true, recurses := true, apart := false, narrowed := true }
def FnExactShapeFlowUptoSaid : Prop := fnExactShapeFlowUptoRow.holds Try.pinned (OpenSpec.upto fnExactShapeFlowSpec)

/-- 'laws.FnExactMissingIn', WHERE WHAT IT READS IS OF BULK AT MOST 1048576: true; the input reads as it did. -/
def fnExactMissingInUptoRow : OpenClaim := { program := "ytmffllogaboklab", sum := "421298a3769864456a5b1101fcb0672f62508864f057ae1e94c58c955440e371", func := "loop.example/g00527/laws.FnExactMissingIn", spec := "fnExactMissingIn", apart := false, narrowed := true }
def FnExactMissingInUptoSaid : Prop := fnExactMissingInUptoRow.holds Try.pinned (OpenSpec.upto fnExactMissingInSpec)

/-- 'laws.FnExactLengthOf', WHERE WHAT IT READS IS OF BULK AT MOST 1048576: true; the input reads as it did. -/
def fnExactLengthOfUptoRow : OpenClaim := { program := "ytmffllogaboklab", sum := "421298a3769864456a5b1101fcb0672f62508864f057ae1e94c58c955440e371", func := "loop.example/g00527/laws.FnExactLengthOf", spec := "fnExactLengthOf", apart := false, narrowed := true }
def FnExactLengthOfUptoSaid : Prop := fnExactLengthOfUptoRow.holds Try.pinned (OpenSpec.upto fnExactLengthOfSpec)

/-- 'laws.FnExactHasPoint', WHERE WHAT IT READS IS OF BULK AT MOST 1048576: true; the input reads as it did. -/
def fnExactHasPointUptoRow : OpenClaim := { program := "ytmffllogaboklab", sum := "421298a3769864456a5b1101fcb0672f62508864f057ae1e94c58c955440e371", func := "loop.example/g00527/laws.FnExactHasPoint", spec := "fnExactHasPoint", unfollowed := true, recurses := true, apart := false, narrowed := true }
def FnExactHasPointUptoSaid : Prop := fnExactHasPointUptoRow.holds Try.pinned (OpenSpec.upto fnExactHasPointSpec)

end Rows
end Go.Proofs.Ytmffllogaboklab
