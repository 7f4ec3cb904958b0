/-
  No cell of these rows narrows 'for every input' (looked for: loops, veiled, ifaces, maps, wideKeys, modest, calm, conditions, laid).
  DERIVED. THE GIVEN ROWS OF THIS SEAT. 6 by the template 'for every input the law returns true; each argument reads behind the call as it read before'; 0 by the template 'total and deterministic' (their statements: YtmffllogabokladTotals.lean).
  GIVEN WITH THE SEED: the statements are not yours to turn. If you find one false, say at which input.
  Laid BY PROGRAM, IN A SANDBOX (cutbox-rows.mjs): the forced cells as the released guide's own fill.sh prints them over the translation 55415aa09a7ad82a… (all of the seat's roots in one cut). By AI agents, Wed Nov 11 2026. No macro, syntax, notation, axiom, sorry.
-/
import Derived.Test.YtmffllogabokladChecked
import GoSem.Claim
import GoSem.ClaimJoined
import GoSem.ClaimMapViews
import Derived.JoinedTies
import Derived.KernelRfl
namespace Go.Proofs.Ytmffllogaboklad
/- THE CELL 'sum', in the pinned program and in every row, IS THE sha256 OF THE DUMP (.gsa) THAT YtmffllogabokladProg.lean LOADS. Nothing in Lean hashes anything: it is a label: what it is worth is what the hold of that sum in a sandbox is worth. -/
noncomputable def Try.pinned : Pinned := { name := "ytmffllogaboklad", sum := "55415aa09a7ad82a2ad03b7e149111db0288059c325138285b98d3fcebcd367b", checked := Try.checked }
namespace Rows
def none {H : Type} : Left H := { results := [], args := [] }

/-- 'laws.FnExactGoodJobs': WHATEVER THE INPUT: true; the input reads as it did. -/
def fnExactGoodJobsSpec : ChangeSpec := { name := "fnExactGoodJobs", fn := fun _ => fun
  | [d] => { results := [.lit (.bool true)], args := [d] }
  | _ => none }
def fnExactGoodJobsRow : OpenClaim := { program := "ytmffllogaboklad", sum := "55415aa09a7ad82a2ad03b7e149111db0288059c325138285b98d3fcebcd367b", func := "loop.example/g00527/laws.FnExactGoodJobs", spec := "fnExactGoodJobs", unfollowed := true, recurses := true, apart := false }
def FnExactGoodJobsSaid : Prop := fnExactGoodJobsRow.holds Try.pinned (OpenSpec.ofChange fnExactGoodJobsSpec)

/-- ITS FALSE NEIGHBOUR: 'it returns false'. Refute it at one input. -/
def fnExactGoodJobsWrong : ChangeSpec := { name := "fnExactGoodJobs", fn := fun _ => fun
  | [d] => { results := [.lit (.bool false)], args := [d] }
  | _ => none }
def FnExactGoodJobsWrongFalsely : Prop := fnExactGoodJobsRow.holds Try.pinned (OpenSpec.ofChange fnExactGoodJobsWrong)

/-- 'laws.FnExactDemandIn': WHATEVER THE INPUT: true; the input reads as it did. -/
def fnExactDemandInSpec : ChangeSpec := { name := "fnExactDemandIn", fn := fun _ => fun
  | [d1, d2, d3] => { results := [.lit (.bool true)], args := [d1, d2, d3] }
  | _ => none }
def fnExactDemandInRow : OpenClaim := { program := "ytmffllogaboklad", sum := "55415aa09a7ad82a2ad03b7e149111db0288059c325138285b98d3fcebcd367b", func := "loop.example/g00527/laws.FnExactDemandIn", spec := "fnExactDemandIn", unfollowed := true, recurses := true, apart := false }
def FnExactDemandInSaid : Prop := fnExactDemandInRow.holds Try.pinned (OpenSpec.ofChange fnExactDemandInSpec)

/-- ITS FALSE NEIGHBOUR: 'it returns false'. Refute it at one input. -/
def fnExactDemandInWrong : ChangeSpec := { name := "fnExactDemandIn", fn := fun _ => fun
  | [d1, d2, d3] => { results := [.lit (.bool false)], args := [d1, d2, d3] }
  | _ => none }
def FnExactDemandInWrongFalsely : Prop := fnExactDemandInRow.holds Try.pinned (OpenSpec.ofChange fnExactDemandInWrong)

/-- 'laws.FnExactFirstOverload': WHATEVER THE INPUT: true; the input reads as it did. -/
def fnExactFirstOverloadSpec : ChangeSpec := { name := "fnExactFirstOverload", fn := fun _ => fun
  | [d] => { results := [.lit (.bool true)], args := [d] }
  | _ => none }
def fnExactFirstOverloadRow : OpenClaim := { program := "ytmffllogaboklad", sum := "55415aa09a7ad82a2ad03b7e149111db0288059c325138285b98d3fcebcd367b", func := "loop.example/g00527/laws.FnExactFirstOverload", spec := "fnExactFirstOverload", unfollowed := true, recurses := true, apart := false }
def FnExactFirstOverloadSaid : Prop := fnExactFirstOverloadRow.holds Try.pinned (OpenSpec.ofChange fnExactFirstOverloadSpec)

/-- ITS FALSE NEIGHBOUR: 'it returns false'. Refute it at one input. -/
def fnExactFirstOverloadWrong : ChangeSpec := { name := "fnExactFirstOverload", fn := fun _ => fun
  | [d] => { results := [.lit (.bool false)], args := [d] }
  | _ => none }
def FnExactFirstOverloadWrongFalsely : Prop := fnExactFirstOverloadRow.holds Try.pinned (OpenSpec.ofChange fnExactFirstOverloadWrong)

/-- 'laws.FnExactEarliestFirst': WHATEVER THE INPUT: true; the input reads as it did. -/
def fnExactEarliestFirstSpec : ChangeSpec := { name := "fnExactEarliestFirst", fn := fun _ => fun
  | [d] => { results := [.lit (.bool true)], args := [d] }
  | _ => none }
def fnExactEarliestFirstRow : OpenClaim := { program := "ytmffllogaboklad", sum := "55415aa09a7ad82a2ad03b7e149111db0288059c325138285b98d3fcebcd367b", func := "loop.example/g00527/laws.FnExactEarliestFirst", spec := "fnExactEarliestFirst", unfollowed := true, recurses := true, apart := false }
def FnExactEarliestFirstSaid : Prop := fnExactEarliestFirstRow.holds Try.pinned (OpenSpec.ofChange fnExactEarliestFirstSpec)

/-- ITS FALSE NEIGHBOUR: 'it returns false'. Refute it at one input. -/
def fnExactEarliestFirstWrong : ChangeSpec := { name := "fnExactEarliestFirst", fn := fun _ => fun
  | [d] => { results := [.lit (.bool false)], args := [d] }
  | _ => none }
def FnExactEarliestFirstWrongFalsely : Prop := fnExactEarliestFirstRow.holds Try.pinned (OpenSpec.ofChange fnExactEarliestFirstWrong)

/-- 'laws.FnExactIsSchedule': WHATEVER THE INPUT: true; the input reads as it did. -/
def fnExactIsScheduleSpec : ChangeSpec := { name := "fnExactIsSchedule", fn := fun _ => fun
  | [d1, d2] => { results := [.lit (.bool true)], args := [d1, d2] }
  | _ => none }
def fnExactIsScheduleRow : OpenClaim := { program := "ytmffllogaboklad", sum := "55415aa09a7ad82a2ad03b7e149111db0288059c325138285b98d3fcebcd367b", func := "loop.example/g00527/laws.FnExactIsSchedule", spec := "fnExactIsSchedule", unfollowed := true, recurses := true, apart := false }
def FnExactIsScheduleSaid : Prop := fnExactIsScheduleRow.holds Try.pinned (OpenSpec.ofChange fnExactIsScheduleSpec)

/-- ITS FALSE NEIGHBOUR: 'it returns false'. Refute it at one input. -/
def fnExactIsScheduleWrong : ChangeSpec := { name := "fnExactIsSchedule", fn := fun _ => fun
  | [d1, d2] => { results := [.lit (.bool false)], args := [d1, d2] }
  | _ => none }
def FnExactIsScheduleWrongFalsely : Prop := fnExactIsScheduleRow.holds Try.pinned (OpenSpec.ofChange fnExactIsScheduleWrong)

/-- 'laws.FnExactCanMeet': WHATEVER THE INPUT: true; the input reads as it did. -/
def fnExactCanMeetSpec : ChangeSpec := { name := "fnExactCanMeet", fn := fun _ => fun
  | [d] => { results := [.lit (.bool true)], args := [d] }
  | _ => none }
def fnExactCanMeetRow : OpenClaim := { program := "ytmffllogaboklad", sum := "55415aa09a7ad82a2ad03b7e149111db0288059c325138285b98d3fcebcd367b", func := "loop.example/g00527/laws.FnExactCanMeet", spec := "fnExactCanMeet", unfollowed := true, recurses := true, apart := false }
def FnExactCanMeetSaid : Prop := fnExactCanMeetRow.holds Try.pinned (OpenSpec.ofChange fnExactCanMeetSpec)

/-- ITS FALSE NEIGHBOUR: 'it returns false'. Refute it at one input. -/
def fnExactCanMeetWrong : ChangeSpec := { name := "fnExactCanMeet", fn := fun _ => fun
  | [d] => { results := [.lit (.bool false)], args := [d] }
  | _ => none }
def FnExactCanMeetWrongFalsely : Prop := fnExactCanMeetRow.holds Try.pinned (OpenSpec.ofChange fnExactCanMeetWrong)

/- THE SECOND FORM. 'bulk': how many values and letters a reading holds, each counted each time it is reached (what is shared counts as often as it is met; a slice's spare places count too). A statement '..UptoSaid' is the law's where the arguments, and the package variables that the reading takes, are together of bulk at most 1048576: NARROWER than '..Said'. Prove '..Said' where nothing that the law and all that it calls make is longer than what came in: it says more and counts as full. Else prove '..UptoSaid'. A law counts once. -/
mutual
def uptoBulk {H : Type} : DataW H → Nat
  | .lit (.string bytes) => bytes.length + 1
  | .lit _ => 1
  | .nil => 1
  | .ptr d => uptoBulk d + 1
  | .slice elems spare => uptoBulkAll elems + uptoBulkAll spare + 1
  | .agg parts => uptoBulkAll parts + 1
  | .iface _ d => uptoBulk d + 1
  | .map entries => uptoBulkEntries entries + 1
  | .held _ => 1
def uptoBulkAll {H : Type} : List (DataW H) → Nat
  | [] => 0
  | d :: r => uptoBulk d + uptoBulkAll r
def uptoBulkEntries {H : Type} : List (Lit × DataW H) → Nat
  | [] => 0
  | x :: r => uptoBulkEntry x + uptoBulkEntries r
def uptoBulkEntry {H : Type} : Lit × DataW H → Nat
  | (.string bytes, d) => bytes.length + uptoBulk d + 1
  | (_, d) => uptoBulk d + 1
 end
def uptoSmall : (H : Type) → List (DataW H) → Bool := fun _ ds => decide (uptoBulkAll ds ≤ 1048576)
def OpenSpec.upto (s : _root_.Go.ChangeSpec) : _root_.Go.OpenSpec := { _root_.Go.OpenSpec.ofChange s with cond := some uptoSmall }

/-- 'laws.FnExactGoodJobs', WHERE WHAT IT READS IS OF BULK AT MOST 1048576: true; the input reads as it did. -/
def fnExactGoodJobsUptoRow : OpenClaim := { program := "ytmffllogaboklad", sum := "55415aa09a7ad82a2ad03b7e149111db0288059c325138285b98d3fcebcd367b", func := "loop.example/g00527/laws.FnExactGoodJobs", spec := "fnExactGoodJobs", unfollowed := true, recurses := true, apart := false, narrowed := true }
def FnExactGoodJobsUptoSaid : Prop := fnExactGoodJobsUptoRow.holds Try.pinned (OpenSpec.upto fnExactGoodJobsSpec)

/-- 'laws.FnExactDemandIn', WHERE WHAT IT READS IS OF BULK AT MOST 1048576: true; the input reads as it did. -/
def fnExactDemandInUptoRow : OpenClaim := { program := "ytmffllogaboklad", sum := "55415aa09a7ad82a2ad03b7e149111db0288059c325138285b98d3fcebcd367b", func := "loop.example/g00527/laws.FnExactDemandIn", spec := "fnExactDemandIn", unfollowed := true, recurses := true, apart := false, narrowed := true }
def FnExactDemandInUptoSaid : Prop := fnExactDemandInUptoRow.holds Try.pinned (OpenSpec.upto fnExactDemandInSpec)

/-- 'laws.FnExactFirstOverload', WHERE WHAT IT READS IS OF BULK AT MOST 1048576: true; the input reads as it did. -/
def fnExactFirstOverloadUptoRow : OpenClaim := { program := "ytmffllogaboklad", sum := "55415aa09a7ad82a2ad03b7e149111db0288059c325138285b98d3fcebcd367b", func := "loop.example/g00527/laws.FnExactFirstOverload", spec := "fnExactFirstOverload", unfollowed := true, recurses := true, apart := false, narrowed := true }
def FnExactFirstOverloadUptoSaid : Prop := fnExactFirstOverloadUptoRow.holds Try.pinned (OpenSpec.upto fnExactFirstOverloadSpec)

/-- 'laws.FnExactEarliestFirst', WHERE WHAT IT READS IS OF BULK AT MOST 1048576: true; the input reads as it did. -/
def fnExactEarliestFirstUptoRow : OpenClaim := { program := "ytmffllogaboklad", sum := "55415aa09a7ad82a2ad03b7e149111db0288059c325138285b98d3fcebcd367b", func := "loop.example/g00527/laws.FnExactEarliestFirst", spec := "fnExactEarliestFirst", unfollowed := true, recurses := true, apart := false, narrowed := true }
def FnExactEarliestFirstUptoSaid : Prop := fnExactEarliestFirstUptoRow.holds Try.pinned (OpenSpec.upto fnExactEarliestFirstSpec)

/-- 'laws.FnExactIsSchedule', WHERE WHAT IT READS IS OF BULK AT MOST 1048576: true; the input reads as it did. -/
def fnExactIsScheduleUptoRow : OpenClaim := { program := "ytmffllogaboklad", sum := "55415aa09a7ad82a2ad03b7e149111db0288059c325138285b98d3fcebcd367b", func := "loop.example/g00527/laws.FnExactIsSchedule", spec := "fnExactIsSchedule", unfollowed := true, recurses := true, apart := false, narrowed := true }
def FnExactIsScheduleUptoSaid : Prop := fnExactIsScheduleUptoRow.holds Try.pinned (OpenSpec.upto fnExactIsScheduleSpec)

/-- 'laws.FnExactCanMeet', WHERE WHAT IT READS IS OF BULK AT MOST 1048576: true; the input reads as it did. -/
def fnExactCanMeetUptoRow : OpenClaim := { program := "ytmffllogaboklad", sum := "55415aa09a7ad82a2ad03b7e149111db0288059c325138285b98d3fcebcd367b", func := "loop.example/g00527/laws.FnExactCanMeet", spec := "fnExactCanMeet", unfollowed := true, recurses := true, apart := false, narrowed := true }
def FnExactCanMeetUptoSaid : Prop := fnExactCanMeetUptoRow.holds Try.pinned (OpenSpec.upto fnExactCanMeetSpec)

end Rows
end Go.Proofs.Ytmffllogaboklad
