/-
  No cell of these rows narrows 'for every input' (looked for: loops, veiled, ifaces, maps, wideKeys, modest, calm, conditions, laid).
  DERIVED. THE GIVEN ROWS OF THIS SEAT. 6 by the template 'for every input the law returns true; each argument reads behind the call as it read before'; 0 by the template 'total and deterministic' (their statements: YtmffllogaboklaaTotals.lean).
  GIVEN WITH THE SEED: the statements are not yours to turn. If you find one false, say at which input.
  Laid BY PROGRAM, IN A SANDBOX (cutbox-rows.mjs): the forced cells as the released guide's own fill.sh prints them over the translation 2cebb5e9920757d6… (all of the seat's roots in one cut). By AI agents, Wed Nov 11 2026. No macro, syntax, notation, axiom, sorry.
-/
import Derived.Test.YtmffllogaboklaaChecked
import GoSem.Claim
import GoSem.ClaimJoined
import GoSem.ClaimMapViews
import Derived.JoinedTies
import Derived.KernelRfl
namespace Go.Proofs.Ytmffllogaboklaa
/- THE CELL 'sum', in the pinned program and in every row, IS THE sha256 OF THE DUMP (.gsa) THAT YtmffllogaboklaaProg.lean LOADS. Nothing in Lean hashes anything: it is a label: what it is worth is what the hold of that sum in a sandbox is worth. -/
noncomputable def Try.pinned : Pinned := { name := "ytmffllogaboklaa", sum := "2cebb5e9920757d60fc9a76170e07da3648944982a873a875ff3103f9542510c", checked := Try.checked }
namespace Rows
def none {H : Type} : Left H := { results := [], args := [] }

/-- 'laws.FnExactPutWide': WHATEVER THE INPUT: true; the input reads as it did. -/
def fnExactPutWideSpec : ChangeSpec := { name := "fnExactPutWide", fn := fun _ => fun
  | [d1, d2] => { results := [.lit (.bool true)], args := [d1, d2] }
  | _ => none }
def fnExactPutWideRow : OpenClaim := { program := "ytmffllogaboklaa", sum := "2cebb5e9920757d60fc9a76170e07da3648944982a873a875ff3103f9542510c", func := "loop.example/g00527/laws.FnExactPutWide", spec := "fnExactPutWide", apart := false }
def FnExactPutWideSaid : Prop := fnExactPutWideRow.holds Try.pinned (OpenSpec.ofChange fnExactPutWideSpec)

/-- ITS FALSE NEIGHBOUR: 'it returns false'. Refute it at one input. -/
def fnExactPutWideWrong : ChangeSpec := { name := "fnExactPutWide", fn := fun _ => fun
  | [d1, d2] => { results := [.lit (.bool false)], args := [d1, d2] }
  | _ => none }
def FnExactPutWideWrongFalsely : Prop := fnExactPutWideRow.holds Try.pinned (OpenSpec.ofChange fnExactPutWideWrong)

/-- 'laws.FnExactGetNumber': WHATEVER THE INPUT: true; the input reads as it did. -/
def fnExactGetNumberSpec : ChangeSpec := { name := "fnExactGetNumber", fn := fun _ => fun
  | [d1, d2] => { results := [.lit (.bool true)], args := [d1, d2] }
  | _ => none }
def fnExactGetNumberRow : OpenClaim := { program := "ytmffllogaboklaa", sum := "2cebb5e9920757d60fc9a76170e07da3648944982a873a875ff3103f9542510c", func := "loop.example/g00527/laws.FnExactGetNumber", spec := "fnExactGetNumber", apart := false }
def FnExactGetNumberSaid : Prop := fnExactGetNumberRow.holds Try.pinned (OpenSpec.ofChange fnExactGetNumberSpec)

/-- ITS FALSE NEIGHBOUR: 'it returns false'. Refute it at one input. -/
def fnExactGetNumberWrong : ChangeSpec := { name := "fnExactGetNumber", fn := fun _ => fun
  | [d1, d2] => { results := [.lit (.bool false)], args := [d1, d2] }
  | _ => none }
def FnExactGetNumberWrongFalsely : Prop := fnExactGetNumberRow.holds Try.pinned (OpenSpec.ofChange fnExactGetNumberWrong)

/-- 'laws.FnExactPutNumber': WHATEVER THE INPUT: true; the input reads as it did. -/
def fnExactPutNumberSpec : ChangeSpec := { name := "fnExactPutNumber", fn := fun _ => fun
  | [d] => { results := [.lit (.bool true)], args := [d] }
  | _ => none }
def fnExactPutNumberRow : OpenClaim := { program := "ytmffllogaboklaa", sum := "2cebb5e9920757d60fc9a76170e07da3648944982a873a875ff3103f9542510c", func := "loop.example/g00527/laws.FnExactPutNumber", spec := "fnExactPutNumber", apart := false }
def FnExactPutNumberSaid : Prop := fnExactPutNumberRow.holds Try.pinned (OpenSpec.ofChange fnExactPutNumberSpec)

/-- ITS FALSE NEIGHBOUR: 'it returns false'. Refute it at one input. -/
def fnExactPutNumberWrong : ChangeSpec := { name := "fnExactPutNumber", fn := fun _ => fun
  | [d] => { results := [.lit (.bool false)], args := [d] }
  | _ => none }
def FnExactPutNumberWrongFalsely : Prop := fnExactPutNumberRow.holds Try.pinned (OpenSpec.ofChange fnExactPutNumberWrong)

/-- 'laws.FnExactGetText': WHATEVER THE INPUT: true; the input reads as it did. -/
def fnExactGetTextSpec : ChangeSpec := { name := "fnExactGetText", fn := fun _ => fun
  | [d1, d2] => { results := [.lit (.bool true)], args := [d1, d2] }
  | _ => none }
def fnExactGetTextRow : OpenClaim := { program := "ytmffllogaboklaa", sum := "2cebb5e9920757d60fc9a76170e07da3648944982a873a875ff3103f9542510c", func := "loop.example/g00527/laws.FnExactGetText", spec := "fnExactGetText", apart := false }
def FnExactGetTextSaid : Prop := fnExactGetTextRow.holds Try.pinned (OpenSpec.ofChange fnExactGetTextSpec)

/-- ITS FALSE NEIGHBOUR: 'it returns false'. Refute it at one input. -/
def fnExactGetTextWrong : ChangeSpec := { name := "fnExactGetText", fn := fun _ => fun
  | [d1, d2] => { results := [.lit (.bool false)], args := [d1, d2] }
  | _ => none }
def FnExactGetTextWrongFalsely : Prop := fnExactGetTextRow.holds Try.pinned (OpenSpec.ofChange fnExactGetTextWrong)

/-- 'laws.FnExactPutList': WHATEVER THE INPUT: true; the input reads as it did. -/
def fnExactPutListSpec : ChangeSpec := { name := "fnExactPutList", fn := fun _ => fun
  | [d] => { results := [.lit (.bool true)], args := [d] }
  | _ => none }
def fnExactPutListRow : OpenClaim := { program := "ytmffllogaboklaa", sum := "2cebb5e9920757d60fc9a76170e07da3648944982a873a875ff3103f9542510c", func := "loop.example/g00527/laws.FnExactPutList", spec := "fnExactPutList", apart := false }
def FnExactPutListSaid : Prop := fnExactPutListRow.holds Try.pinned (OpenSpec.ofChange fnExactPutListSpec)

/-- ITS FALSE NEIGHBOUR: 'it returns false'. Refute it at one input. -/
def fnExactPutListWrong : ChangeSpec := { name := "fnExactPutList", fn := fun _ => fun
  | [d] => { results := [.lit (.bool false)], args := [d] }
  | _ => none }
def FnExactPutListWrongFalsely : Prop := fnExactPutListRow.holds Try.pinned (OpenSpec.ofChange fnExactPutListWrong)

/-- 'laws.FnExactGetList': WHATEVER THE INPUT: true; the input reads as it did. -/
def fnExactGetListSpec : ChangeSpec := { name := "fnExactGetList", fn := fun _ => fun
  | [d] => { results := [.lit (.bool true)], args := [d] }
  | _ => none }
def fnExactGetListRow : OpenClaim := { program := "ytmffllogaboklaa", sum := "2cebb5e9920757d60fc9a76170e07da3648944982a873a875ff3103f9542510c", func := "loop.example/g00527/laws.FnExactGetList", spec := "fnExactGetList", apart := false }
def FnExactGetListSaid : Prop := fnExactGetListRow.holds Try.pinned (OpenSpec.ofChange fnExactGetListSpec)

/-- ITS FALSE NEIGHBOUR: 'it returns false'. Refute it at one input. -/
def fnExactGetListWrong : ChangeSpec := { name := "fnExactGetList", fn := fun _ => fun
  | [d] => { results := [.lit (.bool false)], args := [d] }
  | _ => none }
def FnExactGetListWrongFalsely : Prop := fnExactGetListRow.holds Try.pinned (OpenSpec.ofChange fnExactGetListWrong)

/- THE SECOND FORM. 'bulk': how many values and letters a reading holds, each counted each time it is reached (what is shared counts as often as it is met; a slice's spare places count too). A statement '..UptoSaid' is the law's where the arguments, and the package variables that the reading takes, are together of bulk at most 1048576: NARROWER than '..Said'. Prove '..Said' where nothing that the law and all that it calls make is longer than what came in: it says more and counts as full. Else prove '..UptoSaid'. A law counts once. -/
mutual
def uptoBulk {H : Type} : DataW H → Nat
  | .lit (.string bytes) => bytes.length + 1
  | .lit _ => 1
  | .nil => 1
  | .ptr d => uptoBulk d + 1
  | .slice elems spare => uptoBulkAll elems + uptoBulkAll spare + 1
  | .agg parts => uptoBulkAll parts + 1
  | .iface _ d => uptoBulk d + 1
  | .map entries => uptoBulkEntries entries + 1
  | .held _ => 1
def uptoBulkAll {H : Type} : List (DataW H) → Nat
  | [] => 0
  | d :: r => uptoBulk d + uptoBulkAll r
def uptoBulkEntries {H : Type} : List (Lit × DataW H) → Nat
  | [] => 0
  | x :: r => uptoBulkEntry x + uptoBulkEntries r
def uptoBulkEntry {H : Type} : Lit × DataW H → Nat
  | (.string bytes, d) => bytes.length + uptoBulk d + 1
  | (_, d) => uptoBulk d + 1
 end
def uptoSmall : (H : Type) → List (DataW H) → Bool := fun _ ds => decide (uptoBulkAll ds ≤ 1048576)
def OpenSpec.upto (s : _root_.Go.ChangeSpec) : _root_.Go.OpenSpec := { _root_.Go.OpenSpec.ofChange s with cond := some uptoSmall }

/-- 'laws.FnExactPutWide', WHERE WHAT IT READS IS OF BULK AT MOST 1048576: true; the input reads as it did. -/
def fnExactPutWideUptoRow : OpenClaim := { program := "ytmffllogaboklaa", sum := "2cebb5e9920757d60fc9a76170e07da3648944982a873a875ff3103f9542510c", func := "loop.example/g00527/laws.FnExactPutWide", spec := "fnExactPutWide", apart := false, narrowed := true }
def FnExactPutWideUptoSaid : Prop := fnExactPutWideUptoRow.holds Try.pinned (OpenSpec.upto fnExactPutWideSpec)

/-- 'laws.FnExactGetNumber', WHERE WHAT IT READS IS OF BULK AT MOST 1048576: true; the input reads as it did. -/
def fnExactGetNumberUptoRow : OpenClaim := { program := "ytmffllogaboklaa", sum := "2cebb5e9920757d60fc9a76170e07da3648944982a873a875ff3103f9542510c", func := "loop.example/g00527/laws.FnExactGetNumber", spec := "fnExactGetNumber", apart := false, narrowed := true }
def FnExactGetNumberUptoSaid : Prop := fnExactGetNumberUptoRow.holds Try.pinned (OpenSpec.upto fnExactGetNumberSpec)

/-- 'laws.FnExactPutNumber', WHERE WHAT IT READS IS OF BULK AT MOST 1048576: true; the input reads as it did. -/
def fnExactPutNumberUptoRow : OpenClaim := { program := "ytmffllogaboklaa", sum := "2cebb5e9920757d60fc9a76170e07da3648944982a873a875ff3103f9542510c", func := "loop.example/g00527/laws.FnExactPutNumber", spec := "fnExactPutNumber", apart := false, narrowed := true }
def FnExactPutNumberUptoSaid : Prop := fnExactPutNumberUptoRow.holds Try.pinned (OpenSpec.upto fnExactPutNumberSpec)

/-- 'laws.FnExactGetText', WHERE WHAT IT READS IS OF BULK AT MOST 1048576: true; the input reads as it did. -/
def fnExactGetTextUptoRow : OpenClaim := { program := "ytmffllogaboklaa", sum := "2cebb5e9920757d60fc9a76170e07da3648944982a873a875ff3103f9542510c", func := "loop.example/g00527/laws.FnExactGetText", spec := "fnExactGetText", apart := false, narrowed := true }
def FnExactGetTextUptoSaid : Prop := fnExactGetTextUptoRow.holds Try.pinned (OpenSpec.upto fnExactGetTextSpec)

/-- 'laws.FnExactPutList', WHERE WHAT IT READS IS OF BULK AT MOST 1048576: true; the input reads as it did. -/
def fnExactPutListUptoRow : OpenClaim := { program := "ytmffllogaboklaa", sum := "2cebb5e9920757d60fc9a76170e07da3648944982a873a875ff3103f9542510c", func := "loop.example/g00527/laws.FnExactPutList", spec := "fnExactPutList", apart := false, narrowed := true }
def FnExactPutListUptoSaid : Prop := fnExactPutListUptoRow.holds Try.pinned (OpenSpec.upto fnExactPutListSpec)

/-- 'laws.FnExactGetList', WHERE WHAT IT READS IS OF BULK AT MOST 1048576: true; the input reads as it did. -/
def fnExactGetListUptoRow : OpenClaim := { program := "ytmffllogaboklaa", sum := "2cebb5e9920757d60fc9a76170e07da3648944982a873a875ff3103f9542510c", func := "loop.example/g00527/laws.FnExactGetList", spec := "fnExactGetList", apart := false, narrowed := true }
def FnExactGetListUptoSaid : Prop := fnExactGetListUptoRow.holds Try.pinned (OpenSpec.upto fnExactGetListSpec)

end Rows
end Go.Proofs.Ytmffllogaboklaa
