/-
  No cell of these rows narrows 'for every input' (looked for: loops, veiled, ifaces, maps, wideKeys, modest, calm, conditions, laid).
  DERIVED. THE GIVEN ROWS OF THIS SEAT. 4 by the template 'for every input the law returns true; each argument reads behind the call as it read before'; 0 by the template 'total and deterministic' (their statements: YtobnbhkfbdlioaaTotals.lean).
  GIVEN WITH THE SEED: the statements are not yours to turn. If you find one false, say at which input.
  Laid BY PROGRAM, IN A SANDBOX (cutbox-rows.mjs): the forced cells as the released guide's own fill.sh prints them over the translation c21b90b489c55d0d… (all of the seat's roots in one cut). By AI agents, Wed Nov 11 2026. No macro, syntax, notation, axiom, sorry.
-/
import Derived.Test.YtobnbhkfbdlioaaChecked
import GoSem.Claim
import GoSem.ClaimJoined
import GoSem.ClaimMapViews
import Derived.JoinedTies
import Derived.KernelRfl
namespace Go.Proofs.Ytobnbhkfbdlioaa
/- THE CELL 'sum', in the pinned program and in every row, IS THE sha256 OF THE DUMP (.gsa) THAT YtobnbhkfbdlioaaProg.lean LOADS. Nothing in Lean hashes anything: it is a label: what it is worth is what the hold of that sum in a sandbox is worth. -/
noncomputable def Try.pinned : Pinned := { name := "ytobnbhkfbdlioaa", sum := "c21b90b489c55d0d65805351dd5758861ef6991c027b952db39a162a77011ae4", checked := Try.checked }
namespace Rows
def none {H : Type} : Left H := { results := [], args := [] }

/-- 'laws.FnExactAddSpan': WHATEVER THE INPUT: true; the input reads as it did. -/
def fnExactAddSpanSpec : ChangeSpec := { name := "fnExactAddSpan", fn := fun _ => fun
  | [d1, d2] => { results := [.lit (.bool true)], args := [d1, d2] }
  | _ => none }
def fnExactAddSpanRow : OpenClaim := { program := "ytobnbhkfbdlioaa", sum := "c21b90b489c55d0d65805351dd5758861ef6991c027b952db39a162a77011ae4", func := "loop.example/g00527/laws.FnExactAddSpan", spec := "fnExactAddSpan", unfollowed := true, recurses := true, apart := false }
def FnExactAddSpanSaid : Prop := fnExactAddSpanRow.holds Try.pinned (OpenSpec.ofChange fnExactAddSpanSpec)

/-- ITS FALSE NEIGHBOUR: 'it returns false'. Refute it at one input. -/
def fnExactAddSpanWrong : ChangeSpec := { name := "fnExactAddSpan", fn := fun _ => fun
  | [d1, d2] => { results := [.lit (.bool false)], args := [d1, d2] }
  | _ => none }
def FnExactAddSpanWrongFalsely : Prop := fnExactAddSpanRow.holds Try.pinned (OpenSpec.ofChange fnExactAddSpanWrong)

/-- 'laws.FnExactJoinSpans': WHATEVER THE INPUT: true; the input reads as it did. -/
def fnExactJoinSpansSpec : ChangeSpec := { name := "fnExactJoinSpans", fn := fun _ => fun
  | [d1, d2] => { results := [.lit (.bool true)], args := [d1, d2] }
  | _ => none }
def fnExactJoinSpansRow : OpenClaim := { program := "ytobnbhkfbdlioaa", sum := "c21b90b489c55d0d65805351dd5758861ef6991c027b952db39a162a77011ae4", func := "loop.example/g00527/laws.FnExactJoinSpans", spec := "fnExactJoinSpans", unfollowed := true, recurses := true, apart := false }
def FnExactJoinSpansSaid : Prop := fnExactJoinSpansRow.holds Try.pinned (OpenSpec.ofChange fnExactJoinSpansSpec)

/-- ITS FALSE NEIGHBOUR: 'it returns false'. Refute it at one input. -/
def fnExactJoinSpansWrong : ChangeSpec := { name := "fnExactJoinSpans", fn := fun _ => fun
  | [d1, d2] => { results := [.lit (.bool false)], args := [d1, d2] }
  | _ => none }
def FnExactJoinSpansWrongFalsely : Prop := fnExactJoinSpansRow.holds Try.pinned (OpenSpec.ofChange fnExactJoinSpansWrong)

/-- 'laws.FnExactCutSpan': WHATEVER THE INPUT: true; the input reads as it did. -/
def fnExactCutSpanSpec : ChangeSpec := { name := "fnExactCutSpan", fn := fun _ => fun
  | [d1, d2] => { results := [.lit (.bool true)], args := [d1, d2] }
  | _ => none }
def fnExactCutSpanRow : OpenClaim := { program := "ytobnbhkfbdlioaa", sum := "c21b90b489c55d0d65805351dd5758861ef6991c027b952db39a162a77011ae4", func := "loop.example/g00527/laws.FnExactCutSpan", spec := "fnExactCutSpan", unfollowed := true, recurses := true, apart := false }
def FnExactCutSpanSaid : Prop := fnExactCutSpanRow.holds Try.pinned (OpenSpec.ofChange fnExactCutSpanSpec)

/-- ITS FALSE NEIGHBOUR: 'it returns false'. Refute it at one input. -/
def fnExactCutSpanWrong : ChangeSpec := { name := "fnExactCutSpan", fn := fun _ => fun
  | [d1, d2] => { results := [.lit (.bool false)], args := [d1, d2] }
  | _ => none }
def FnExactCutSpanWrongFalsely : Prop := fnExactCutSpanRow.holds Try.pinned (OpenSpec.ofChange fnExactCutSpanWrong)

/-- 'laws.FnExactMeetSpans': WHATEVER THE INPUT: true; the input reads as it did. -/
def fnExactMeetSpansSpec : ChangeSpec := { name := "fnExactMeetSpans", fn := fun _ => fun
  | [d1, d2] => { results := [.lit (.bool true)], args := [d1, d2] }
  | _ => none }
def fnExactMeetSpansRow : OpenClaim := { program := "ytobnbhkfbdlioaa", sum := "c21b90b489c55d0d65805351dd5758861ef6991c027b952db39a162a77011ae4", func := "loop.example/g00527/laws.FnExactMeetSpans", spec := "fnExactMeetSpans", unfollowed := true, recurses := true, apart := false }
def FnExactMeetSpansSaid : Prop := fnExactMeetSpansRow.holds Try.pinned (OpenSpec.ofChange fnExactMeetSpansSpec)

/-- ITS FALSE NEIGHBOUR: 'it returns false'. Refute it at one input. -/
def fnExactMeetSpansWrong : ChangeSpec := { name := "fnExactMeetSpans", fn := fun _ => fun
  | [d1, d2] => { results := [.lit (.bool false)], args := [d1, d2] }
  | _ => none }
def FnExactMeetSpansWrongFalsely : Prop := fnExactMeetSpansRow.holds Try.pinned (OpenSpec.ofChange fnExactMeetSpansWrong)

/- THE SECOND FORM. 'bulk': how many values and letters a reading holds, each counted each time it is reached (what is shared counts as often as it is met; a slice's spare places count too). A statement '..UptoSaid' is the law's where the arguments, and the package variables that the reading takes, are together of bulk at most 1048576: NARROWER than '..Said'. Prove '..Said' where nothing that the law and all that it calls make is longer than what came in: it says more and counts as full. Else prove '..UptoSaid'. A law counts once. -/
mutual
def uptoBulk {H : Type} : DataW H → Nat
  | .lit (.string bytes) => bytes.length + 1
  | .lit _ => 1
  | .nil => 1
  | .ptr d => uptoBulk d + 1
  | .slice elems spare => uptoBulkAll elems + uptoBulkAll spare + 1
  | .agg parts => uptoBulkAll parts + 1
  | .iface _ d => uptoBulk d + 1
  | .map entries => uptoBulkEntries entries + 1
  | .held _ => 1
def uptoBulkAll {H : Type} : List (DataW H) → Nat
  | [] => 0
  | d :: r => uptoBulk d + uptoBulkAll r
def uptoBulkEntries {H : Type} : List (Lit × DataW H) → Nat
  | [] => 0
  | x :: r => uptoBulkEntry x + uptoBulkEntries r
def uptoBulkEntry {H : Type} : Lit × DataW H → Nat
  | (.string bytes, d) => bytes.length + uptoBulk d + 1
  | (_, d) => uptoBulk d + 1
 end
def uptoSmall : (H : Type) → List (DataW H) → Bool := fun _ ds => decide (uptoBulkAll ds ≤ 1048576)
def OpenSpec.upto (s : _root_.Go.ChangeSpec) : _root_.Go.OpenSpec := { _root_.Go.OpenSpec.ofChange s with cond := some uptoSmall }

/-- 'laws.FnExactAddSpan', WHERE WHAT IT READS IS OF BULK AT MOST 1048576: true; the input reads as it did. -/
def fnExactAddSpanUptoRow : OpenClaim := { program := "ytobnbhkfbdlioaa", sum := "c21b90b489c55d0d65805351dd5758861ef6991c027b952db39a162a77011ae4", func := "loop.example/g00527/laws.FnExactAddSpan", spec := "fnExactAddSpan", unfollowed := true, recurses := true, apart := false, narrowed := true }
def FnExactAddSpanUptoSaid : Prop := fnExactAddSpanUptoRow.holds Try.pinned (OpenSpec.upto fnExactAddSpanSpec)

/-- 'laws.FnExactJoinSpans', WHERE WHAT IT READS IS OF BULK AT MOST 1048576: true; the input reads as it did. -/
def fnExactJoinSpansUptoRow : OpenClaim := { program := "ytobnbhkfbdlioaa", sum := "c21b90b489c55d0d65805351dd5758861ef6991c027b952db39a162a77011ae4", func := "loop.example/g00527/laws.FnExactJoinSpans", spec := "fnExactJoinSpans", unfollowed := true, recurses := true, apart := false, narrowed := true }
def FnExactJoinSpansUptoSaid : Prop := fnExactJoinSpansUptoRow.holds Try.pinned (OpenSpec.upto fnExactJoinSpansSpec)

/-- 'laws.FnExactCutSpan', WHERE WHAT IT READS IS OF BULK AT MOST 1048576: true; the input reads as it did. -/
def fnExactCutSpanUptoRow : OpenClaim := { program := "ytobnbhkfbdlioaa", sum := "c21b90b489c55d0d65805351dd5758861ef6991c027b952db39a162a77011ae4", func := "loop.example/g00527/laws.FnExactCutSpan", spec := "fnExactCutSpan", unfollowed := true, recurses := true, apart := false, narrowed := true }
def FnExactCutSpanUptoSaid : Prop := fnExactCutSpanUptoRow.holds Try.pinned (OpenSpec.upto fnExactCutSpanSpec)

/-- 'laws.FnExactMeetSpans', WHERE WHAT IT READS IS OF BULK AT MOST 1048576: true; the input reads as it did. -/
def fnExactMeetSpansUptoRow : OpenClaim := { program := "ytobnbhkfbdlioaa", sum := "c21b90b489c55d0d65805351dd5758861ef6991c027b952db39a162a77011ae4", func := "loop.example/g00527/laws.FnExactMeetSpans", spec := "fnExactMeetSpans", unfollowed := true, recurses := true, apart := false, narrowed := true }
def FnExactMeetSpansUptoSaid : Prop := fnExactMeetSpansUptoRow.holds Try.pinned (OpenSpec.upto fnExactMeetSpansSpec)

end Rows
end Go.Proofs.Ytobnbhkfbdlioaa
