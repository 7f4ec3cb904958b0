/-
  No cell of these rows narrows 'for every input' (looked for: loops, veiled, ifaces, maps, wideKeys, modest, calm, conditions, laid).
  DERIVED. THE GIVEN ROWS OF THIS SEAT. 6 by the template 'for every input the law returns true; each argument reads behind the call as it read before'; 0 by the template 'total and deterministic' (their statements: YtmffllogaboklafTotals.lean).
  GIVEN WITH THE SEED: the statements are not yours to turn. If you find one false, say at which input.
  Laid BY PROGRAM, IN A SANDBOX (cutbox-rows.mjs): the forced cells as the released guide's own fill.sh prints them over the translation b11d1cd5c60eddae… (all of the seat's roots in one cut). By AI agents, Wed Nov 11 2026. No macro, syntax, notation, axiom, sorry.
-/
import Derived.Test.YtmffllogaboklafChecked
import GoSem.Claim
import GoSem.ClaimJoined
import GoSem.ClaimMapViews
import Derived.JoinedTies
import Derived.KernelRfl
namespace Go.Proofs.Ytmffllogaboklaf
/- THE CELL 'sum', in the pinned program and in every row, IS THE sha256 OF THE DUMP (.gsa) THAT YtmffllogaboklafProg.lean LOADS. Nothing in Lean hashes anything: it is a label: what it is worth is what the hold of that sum in a sandbox is worth. -/
noncomputable def Try.pinned : Pinned := { name := "ytmffllogaboklaf", sum := "b11d1cd5c60eddae494ab2f1b126c0f96415e4265354ddeb2c310c5731419878", checked := Try.checked }
namespace Rows
def none {H : Type} : Left H := { results := [], args := [] }

/-- 'laws.FnExactByEnd': WHATEVER THE INPUT: true; the input reads as it did. -/
def fnExactByEndSpec : ChangeSpec := { name := "fnExactByEnd", fn := fun _ => fun
  | [d] => { results := [.lit (.bool true)], args := [d] }
  | _ => none }
def fnExactByEndRow : OpenClaim := { program := "ytmffllogaboklaf", sum := "b11d1cd5c60eddae494ab2f1b126c0f96415e4265354ddeb2c310c5731419878", func := "loop.example/g00527/laws.FnExactByEnd", spec := "fnExactByEnd", unfollowed := true, recurses := true, apart := false }
def FnExactByEndSaid : Prop := fnExactByEndRow.holds Try.pinned (OpenSpec.ofChange fnExactByEndSpec)

/-- ITS FALSE NEIGHBOUR: 'it returns false'. Refute it at one input. -/
def fnExactByEndWrong : ChangeSpec := { name := "fnExactByEnd", fn := fun _ => fun
  | [d] => { results := [.lit (.bool false)], args := [d] }
  | _ => none }
def FnExactByEndWrongFalsely : Prop := fnExactByEndRow.holds Try.pinned (OpenSpec.ofChange fnExactByEndWrong)

/-- 'laws.FnExactBestMany': WHATEVER THE INPUT: true; the input reads as it did. -/
def fnExactBestManySpec : ChangeSpec := { name := "fnExactBestMany", fn := fun _ => fun
  | [d] => { results := [.lit (.bool true)], args := [d] }
  | _ => none }
def fnExactBestManyRow : OpenClaim := { program := "ytmffllogaboklaf", sum := "b11d1cd5c60eddae494ab2f1b126c0f96415e4265354ddeb2c310c5731419878", func := "loop.example/g00527/laws.FnExactBestMany", spec := "fnExactBestMany", unfollowed := true, recurses := true, apart := false }
def FnExactBestManySaid : Prop := fnExactBestManyRow.holds Try.pinned (OpenSpec.ofChange fnExactBestManySpec)

/-- ITS FALSE NEIGHBOUR: 'it returns false'. Refute it at one input. -/
def fnExactBestManyWrong : ChangeSpec := { name := "fnExactBestMany", fn := fun _ => fun
  | [d] => { results := [.lit (.bool false)], args := [d] }
  | _ => none }
def FnExactBestManyWrongFalsely : Prop := fnExactBestManyRow.holds Try.pinned (OpenSpec.ofChange fnExactBestManyWrong)

/-- 'laws.FnExactMooreOrder': WHATEVER THE INPUT: true; the input reads as it did. -/
def fnExactMooreOrderSpec : ChangeSpec := { name := "fnExactMooreOrder", fn := fun _ => fun
  | [d] => { results := [.lit (.bool true)], args := [d] }
  | _ => none }
def fnExactMooreOrderRow : OpenClaim := { program := "ytmffllogaboklaf", sum := "b11d1cd5c60eddae494ab2f1b126c0f96415e4265354ddeb2c310c5731419878", func := "loop.example/g00527/laws.FnExactMooreOrder", spec := "fnExactMooreOrder", unfollowed := true, recurses := true, apart := false }
def FnExactMooreOrderSaid : Prop := fnExactMooreOrderRow.holds Try.pinned (OpenSpec.ofChange fnExactMooreOrderSpec)

/-- ITS FALSE NEIGHBOUR: 'it returns false'. Refute it at one input. -/
def fnExactMooreOrderWrong : ChangeSpec := { name := "fnExactMooreOrder", fn := fun _ => fun
  | [d] => { results := [.lit (.bool false)], args := [d] }
  | _ => none }
def FnExactMooreOrderWrongFalsely : Prop := fnExactMooreOrderRow.holds Try.pinned (OpenSpec.ofChange fnExactMooreOrderWrong)

/-- 'laws.FnExactLateMany': WHATEVER THE INPUT: true; the input reads as it did. -/
def fnExactLateManySpec : ChangeSpec := { name := "fnExactLateMany", fn := fun _ => fun
  | [d1, d2] => { results := [.lit (.bool true)], args := [d1, d2] }
  | _ => none }
def fnExactLateManyRow : OpenClaim := { program := "ytmffllogaboklaf", sum := "b11d1cd5c60eddae494ab2f1b126c0f96415e4265354ddeb2c310c5731419878", func := "loop.example/g00527/laws.FnExactLateMany", spec := "fnExactLateMany", unfollowed := true, recurses := true, apart := false }
def FnExactLateManySaid : Prop := fnExactLateManyRow.holds Try.pinned (OpenSpec.ofChange fnExactLateManySpec)

/-- ITS FALSE NEIGHBOUR: 'it returns false'. Refute it at one input. -/
def fnExactLateManyWrong : ChangeSpec := { name := "fnExactLateMany", fn := fun _ => fun
  | [d1, d2] => { results := [.lit (.bool false)], args := [d1, d2] }
  | _ => none }
def FnExactLateManyWrongFalsely : Prop := fnExactLateManyRow.holds Try.pinned (OpenSpec.ofChange fnExactLateManyWrong)

/-- 'laws.FnExactLatenessOf': WHATEVER THE INPUT: true; the input reads as it did. -/
def fnExactLatenessOfSpec : ChangeSpec := { name := "fnExactLatenessOf", fn := fun _ => fun
  | [d1, d2] => { results := [.lit (.bool true)], args := [d1, d2] }
  | _ => none }
def fnExactLatenessOfRow : OpenClaim := { program := "ytmffllogaboklaf", sum := "b11d1cd5c60eddae494ab2f1b126c0f96415e4265354ddeb2c310c5731419878", func := "loop.example/g00527/laws.FnExactLatenessOf", spec := "fnExactLatenessOf", unfollowed := true, recurses := true, apart := false }
def FnExactLatenessOfSaid : Prop := fnExactLatenessOfRow.holds Try.pinned (OpenSpec.ofChange fnExactLatenessOfSpec)

/-- ITS FALSE NEIGHBOUR: 'it returns false'. Refute it at one input. -/
def fnExactLatenessOfWrong : ChangeSpec := { name := "fnExactLatenessOf", fn := fun _ => fun
  | [d1, d2] => { results := [.lit (.bool false)], args := [d1, d2] }
  | _ => none }
def FnExactLatenessOfWrongFalsely : Prop := fnExactLatenessOfRow.holds Try.pinned (OpenSpec.ofChange fnExactLatenessOfWrong)

/-- 'laws.FnExactCompletionsOf': WHATEVER THE INPUT: true; the input reads as it did. -/
def fnExactCompletionsOfSpec : ChangeSpec := { name := "fnExactCompletionsOf", fn := fun _ => fun
  | [d1, d2] => { results := [.lit (.bool true)], args := [d1, d2] }
  | _ => none }
def fnExactCompletionsOfRow : OpenClaim := { program := "ytmffllogaboklaf", sum := "b11d1cd5c60eddae494ab2f1b126c0f96415e4265354ddeb2c310c5731419878", func := "loop.example/g00527/laws.FnExactCompletionsOf", spec := "fnExactCompletionsOf", unfollowed := true, recurses := true, apart := false }
def FnExactCompletionsOfSaid : Prop := fnExactCompletionsOfRow.holds Try.pinned (OpenSpec.ofChange fnExactCompletionsOfSpec)

/-- ITS FALSE NEIGHBOUR: 'it returns false'. Refute it at one input. -/
def fnExactCompletionsOfWrong : ChangeSpec := { name := "fnExactCompletionsOf", fn := fun _ => fun
  | [d1, d2] => { results := [.lit (.bool false)], args := [d1, d2] }
  | _ => none }
def FnExactCompletionsOfWrongFalsely : Prop := fnExactCompletionsOfRow.holds Try.pinned (OpenSpec.ofChange fnExactCompletionsOfWrong)

/- THE SECOND FORM. 'bulk': how many values and letters a reading holds, each counted each time it is reached (what is shared counts as often as it is met; a slice's spare places count too). A statement '..UptoSaid' is the law's where the arguments, and the package variables that the reading takes, are together of bulk at most 1048576: NARROWER than '..Said'. Prove '..Said' where nothing that the law and all that it calls make is longer than what came in: it says more and counts as full. Else prove '..UptoSaid'. A law counts once. -/
mutual
def uptoBulk {H : Type} : DataW H → Nat
  | .lit (.string bytes) => bytes.length + 1
  | .lit _ => 1
  | .nil => 1
  | .ptr d => uptoBulk d + 1
  | .slice elems spare => uptoBulkAll elems + uptoBulkAll spare + 1
  | .agg parts => uptoBulkAll parts + 1
  | .iface _ d => uptoBulk d + 1
  | .map entries => uptoBulkEntries entries + 1
  | .held _ => 1
def uptoBulkAll {H : Type} : List (DataW H) → Nat
  | [] => 0
  | d :: r => uptoBulk d + uptoBulkAll r
def uptoBulkEntries {H : Type} : List (Lit × DataW H) → Nat
  | [] => 0
  | x :: r => uptoBulkEntry x + uptoBulkEntries r
def uptoBulkEntry {H : Type} : Lit × DataW H → Nat
  | (.string bytes, d) => bytes.length + uptoBulk d + 1
  | (_, d) => uptoBulk d + 1
 end
def uptoSmall : (H : Type) → List (DataW H) → Bool := fun _ ds => decide (uptoBulkAll ds ≤ 1048576)
def OpenSpec.upto (s : _root_.Go.ChangeSpec) : _root_.Go.OpenSpec := { _root_.Go.OpenSpec.ofChange s with cond := some uptoSmall }

/-- 'laws.FnExactByEnd', WHERE WHAT IT READS IS OF BULK AT MOST 1048576: true; the input reads as it did. -/
def fnExactByEndUptoRow : OpenClaim := { program := "ytmffllogaboklaf", sum := "b11d1cd5c60eddae494ab2f1b126c0f96415e4265354ddeb2c310c5731419878", func := "loop.example/g00527/laws.FnExactByEnd", spec := "fnExactByEnd", unfollowed := true, recurses := true, apart := false, narrowed := true }
def FnExactByEndUptoSaid : Prop := fnExactByEndUptoRow.holds Try.pinned (OpenSpec.upto fnExactByEndSpec)

/-- 'laws.FnExactBestMany', WHERE WHAT IT READS IS OF BULK AT MOST 1048576: true; the input reads as it did. -/
def fnExactBestManyUptoRow : OpenClaim := { program := "ytmffllogaboklaf", sum := "b11d1cd5c60eddae494ab2f1b126c0f96415e4265354ddeb2c310c5731419878", func := "loop.example/g00527/laws.FnExactBestMany", spec := "fnExactBestMany", unfollowed := true, recurses := true, apart := false, narrowed := true }
def FnExactBestManyUptoSaid : Prop := fnExactBestManyUptoRow.holds Try.pinned (OpenSpec.upto fnExactBestManySpec)

/-- 'laws.FnExactMooreOrder', WHERE WHAT IT READS IS OF BULK AT MOST 1048576: true; the input reads as it did. -/
def fnExactMooreOrderUptoRow : OpenClaim := { program := "ytmffllogaboklaf", sum := "b11d1cd5c60eddae494ab2f1b126c0f96415e4265354ddeb2c310c5731419878", func := "loop.example/g00527/laws.FnExactMooreOrder", spec := "fnExactMooreOrder", unfollowed := true, recurses := true, apart := false, narrowed := true }
def FnExactMooreOrderUptoSaid : Prop := fnExactMooreOrderUptoRow.holds Try.pinned (OpenSpec.upto fnExactMooreOrderSpec)

/-- 'laws.FnExactLateMany', WHERE WHAT IT READS IS OF BULK AT MOST 1048576: true; the input reads as it did. -/
def fnExactLateManyUptoRow : OpenClaim := { program := "ytmffllogaboklaf", sum := "b11d1cd5c60eddae494ab2f1b126c0f96415e4265354ddeb2c310c5731419878", func := "loop.example/g00527/laws.FnExactLateMany", spec := "fnExactLateMany", unfollowed := true, recurses := true, apart := false, narrowed := true }
def FnExactLateManyUptoSaid : Prop := fnExactLateManyUptoRow.holds Try.pinned (OpenSpec.upto fnExactLateManySpec)

/-- 'laws.FnExactLatenessOf', WHERE WHAT IT READS IS OF BULK AT MOST 1048576: true; the input reads as it did. -/
def fnExactLatenessOfUptoRow : OpenClaim := { program := "ytmffllogaboklaf", sum := "b11d1cd5c60eddae494ab2f1b126c0f96415e4265354ddeb2c310c5731419878", func := "loop.example/g00527/laws.FnExactLatenessOf", spec := "fnExactLatenessOf", unfollowed := true, recurses := true, apart := false, narrowed := true }
def FnExactLatenessOfUptoSaid : Prop := fnExactLatenessOfUptoRow.holds Try.pinned (OpenSpec.upto fnExactLatenessOfSpec)

/-- 'laws.FnExactCompletionsOf', WHERE WHAT IT READS IS OF BULK AT MOST 1048576: true; the input reads as it did. -/
def fnExactCompletionsOfUptoRow : OpenClaim := { program := "ytmffllogaboklaf", sum := "b11d1cd5c60eddae494ab2f1b126c0f96415e4265354ddeb2c310c5731419878", func := "loop.example/g00527/laws.FnExactCompletionsOf", spec := "fnExactCompletionsOf", unfollowed := true, recurses := true, apart := false, narrowed := true }
def FnExactCompletionsOfUptoSaid : Prop := fnExactCompletionsOfUptoRow.holds Try.pinned (OpenSpec.upto fnExactCompletionsOfSpec)

end Rows
end Go.Proofs.Ytmffllogaboklaf
