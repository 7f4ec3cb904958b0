/-
  No cell of these rows narrows 'for every input' (looked for: loops, veiled, ifaces, maps, wideKeys, modest, calm, conditions, laid).
  DERIVED. THE GIVEN ROWS OF THIS SEAT. 6 by the template 'for every input the law returns true; each argument reads behind the call as it read before'; 0 by the template 'total and deterministic' (their statements: YtmffllogaboklaeTotals.lean).
  GIVEN WITH THE SEED: the statements are not yours to turn. If you find one false, say at which input.
  Laid BY PROGRAM, IN A SANDBOX (cutbox-rows.mjs): the forced cells as the released guide's own fill.sh prints them over the translation 8f8dd478783b4673… (all of the seat's roots in one cut). By AI agents, Wed Nov 11 2026. No macro, syntax, notation, axiom, sorry.
-/
import Derived.Test.YtmffllogaboklaeChecked
import GoSem.Claim
import GoSem.ClaimJoined
import GoSem.ClaimMapViews
import Derived.JoinedTies
import Derived.KernelRfl
namespace Go.Proofs.Ytmffllogaboklae
/- THE CELL 'sum', in the pinned program and in every row, IS THE sha256 OF THE DUMP (.gsa) THAT YtmffllogaboklaeProg.lean LOADS. Nothing in Lean hashes anything: it is a label: what it is worth is what the hold of that sum in a sandbox is worth. -/
noncomputable def Try.pinned : Pinned := { name := "ytmffllogaboklae", sum := "8f8dd478783b467308a641dea70fe87006e18b8165b4676168171a1e243e9600", checked := Try.checked }
namespace Rows
def none {H : Type} : Left H := { results := [], args := [] }

/-- 'laws.FnExactLateIn': WHATEVER THE INPUT: true; the input reads as it did. -/
def fnExactLateInSpec : ChangeSpec := { name := "fnExactLateIn", fn := fun _ => fun
  | [d1, d2] => { results := [.lit (.bool true)], args := [d1, d2] }
  | _ => none }
def fnExactLateInRow : OpenClaim := { program := "ytmffllogaboklae", sum := "8f8dd478783b467308a641dea70fe87006e18b8165b4676168171a1e243e9600", func := "loop.example/g00527/laws.FnExactLateIn", spec := "fnExactLateIn", unfollowed := true, recurses := true, apart := false }
def FnExactLateInSaid : Prop := fnExactLateInRow.holds Try.pinned (OpenSpec.ofChange fnExactLateInSpec)

/-- ITS FALSE NEIGHBOUR: 'it returns false'. Refute it at one input. -/
def fnExactLateInWrong : ChangeSpec := { name := "fnExactLateIn", fn := fun _ => fun
  | [d1, d2] => { results := [.lit (.bool false)], args := [d1, d2] }
  | _ => none }
def FnExactLateInWrongFalsely : Prop := fnExactLateInRow.holds Try.pinned (OpenSpec.ofChange fnExactLateInWrong)

/-- 'laws.FnExactAdmitJob': WHATEVER THE INPUT: true; the input reads as it did. -/
def fnExactAdmitJobSpec : ChangeSpec := { name := "fnExactAdmitJob", fn := fun _ => fun
  | [d1, d2] => { results := [.lit (.bool true)], args := [d1, d2] }
  | _ => none }
def fnExactAdmitJobRow : OpenClaim := { program := "ytmffllogaboklae", sum := "8f8dd478783b467308a641dea70fe87006e18b8165b4676168171a1e243e9600", func := "loop.example/g00527/laws.FnExactAdmitJob", spec := "fnExactAdmitJob", unfollowed := true, recurses := true, apart := false }
def FnExactAdmitJobSaid : Prop := fnExactAdmitJobRow.holds Try.pinned (OpenSpec.ofChange fnExactAdmitJobSpec)

/-- ITS FALSE NEIGHBOUR: 'it returns false'. Refute it at one input. -/
def fnExactAdmitJobWrong : ChangeSpec := { name := "fnExactAdmitJob", fn := fun _ => fun
  | [d1, d2] => { results := [.lit (.bool false)], args := [d1, d2] }
  | _ => none }
def FnExactAdmitJobWrongFalsely : Prop := fnExactAdmitJobRow.holds Try.pinned (OpenSpec.ofChange fnExactAdmitJobWrong)

/-- 'laws.FnExactAllInTime': WHATEVER THE INPUT: true; the input reads as it did. -/
def fnExactAllInTimeSpec : ChangeSpec := { name := "fnExactAllInTime", fn := fun _ => fun
  | [d] => { results := [.lit (.bool true)], args := [d] }
  | _ => none }
def fnExactAllInTimeRow : OpenClaim := { program := "ytmffllogaboklae", sum := "8f8dd478783b467308a641dea70fe87006e18b8165b4676168171a1e243e9600", func := "loop.example/g00527/laws.FnExactAllInTime", spec := "fnExactAllInTime", unfollowed := true, recurses := true, apart := false }
def FnExactAllInTimeSaid : Prop := fnExactAllInTimeRow.holds Try.pinned (OpenSpec.ofChange fnExactAllInTimeSpec)

/-- ITS FALSE NEIGHBOUR: 'it returns false'. Refute it at one input. -/
def fnExactAllInTimeWrong : ChangeSpec := { name := "fnExactAllInTime", fn := fun _ => fun
  | [d] => { results := [.lit (.bool false)], args := [d] }
  | _ => none }
def FnExactAllInTimeWrongFalsely : Prop := fnExactAllInTimeRow.holds Try.pinned (OpenSpec.ofChange fnExactAllInTimeWrong)

/-- 'laws.FnExactFirstDone': WHATEVER THE INPUT: true; the input reads as it did. -/
def fnExactFirstDoneSpec : ChangeSpec := { name := "fnExactFirstDone", fn := fun _ => fun
  | [d1, d2] => { results := [.lit (.bool true)], args := [d1, d2] }
  | _ => none }
def fnExactFirstDoneRow : OpenClaim := { program := "ytmffllogaboklae", sum := "8f8dd478783b467308a641dea70fe87006e18b8165b4676168171a1e243e9600", func := "loop.example/g00527/laws.FnExactFirstDone", spec := "fnExactFirstDone", unfollowed := true, recurses := true, apart := false }
def FnExactFirstDoneSaid : Prop := fnExactFirstDoneRow.holds Try.pinned (OpenSpec.ofChange fnExactFirstDoneSpec)

/-- ITS FALSE NEIGHBOUR: 'it returns false'. Refute it at one input. -/
def fnExactFirstDoneWrong : ChangeSpec := { name := "fnExactFirstDone", fn := fun _ => fun
  | [d1, d2] => { results := [.lit (.bool false)], args := [d1, d2] }
  | _ => none }
def FnExactFirstDoneWrongFalsely : Prop := fnExactFirstDoneRow.holds Try.pinned (OpenSpec.ofChange fnExactFirstDoneWrong)

/-- 'laws.FnExactRunAgain': WHATEVER THE INPUT: true; the input reads as it did. -/
def fnExactRunAgainSpec : ChangeSpec := { name := "fnExactRunAgain", fn := fun _ => fun
  | [d1, d2] => { results := [.lit (.bool true)], args := [d1, d2] }
  | _ => none }
def fnExactRunAgainRow : OpenClaim := { program := "ytmffllogaboklae", sum := "8f8dd478783b467308a641dea70fe87006e18b8165b4676168171a1e243e9600", func := "loop.example/g00527/laws.FnExactRunAgain", spec := "fnExactRunAgain", unfollowed := true, recurses := true, apart := false }
def FnExactRunAgainSaid : Prop := fnExactRunAgainRow.holds Try.pinned (OpenSpec.ofChange fnExactRunAgainSpec)

/-- ITS FALSE NEIGHBOUR: 'it returns false'. Refute it at one input. -/
def fnExactRunAgainWrong : ChangeSpec := { name := "fnExactRunAgain", fn := fun _ => fun
  | [d1, d2] => { results := [.lit (.bool false)], args := [d1, d2] }
  | _ => none }
def FnExactRunAgainWrongFalsely : Prop := fnExactRunAgainRow.holds Try.pinned (OpenSpec.ofChange fnExactRunAgainWrong)

/-- 'laws.FnExactByRate': WHATEVER THE INPUT: true; the input reads as it did. -/
def fnExactByRateSpec : ChangeSpec := { name := "fnExactByRate", fn := fun _ => fun
  | [d] => { results := [.lit (.bool true)], args := [d] }
  | _ => none }
def fnExactByRateRow : OpenClaim := { program := "ytmffllogaboklae", sum := "8f8dd478783b467308a641dea70fe87006e18b8165b4676168171a1e243e9600", func := "loop.example/g00527/laws.FnExactByRate", spec := "fnExactByRate", unfollowed := true, recurses := true, apart := false }
def FnExactByRateSaid : Prop := fnExactByRateRow.holds Try.pinned (OpenSpec.ofChange fnExactByRateSpec)

/-- ITS FALSE NEIGHBOUR: 'it returns false'. Refute it at one input. -/
def fnExactByRateWrong : ChangeSpec := { name := "fnExactByRate", fn := fun _ => fun
  | [d] => { results := [.lit (.bool false)], args := [d] }
  | _ => none }
def FnExactByRateWrongFalsely : Prop := fnExactByRateRow.holds Try.pinned (OpenSpec.ofChange fnExactByRateWrong)

/- THE SECOND FORM. 'bulk': how many values and letters a reading holds, each counted each time it is reached (what is shared counts as often as it is met; a slice's spare places count too). A statement '..UptoSaid' is the law's where the arguments, and the package variables that the reading takes, are together of bulk at most 1048576: NARROWER than '..Said'. Prove '..Said' where nothing that the law and all that it calls make is longer than what came in: it says more and counts as full. Else prove '..UptoSaid'. A law counts once. -/
mutual
def uptoBulk {H : Type} : DataW H → Nat
  | .lit (.string bytes) => bytes.length + 1
  | .lit _ => 1
  | .nil => 1
  | .ptr d => uptoBulk d + 1
  | .slice elems spare => uptoBulkAll elems + uptoBulkAll spare + 1
  | .agg parts => uptoBulkAll parts + 1
  | .iface _ d => uptoBulk d + 1
  | .map entries => uptoBulkEntries entries + 1
  | .held _ => 1
def uptoBulkAll {H : Type} : List (DataW H) → Nat
  | [] => 0
  | d :: r => uptoBulk d + uptoBulkAll r
def uptoBulkEntries {H : Type} : List (Lit × DataW H) → Nat
  | [] => 0
  | x :: r => uptoBulkEntry x + uptoBulkEntries r
def uptoBulkEntry {H : Type} : Lit × DataW H → Nat
  | (.string bytes, d) => bytes.length + uptoBulk d + 1
  | (_, d) => uptoBulk d + 1
 end
def uptoSmall : (H : Type) → List (DataW H) → Bool := fun _ ds => decide (uptoBulkAll ds ≤ 1048576)
def OpenSpec.upto (s : _root_.Go.ChangeSpec) : _root_.Go.OpenSpec := { _root_.Go.OpenSpec.ofChange s with cond := some uptoSmall }

/-- 'laws.FnExactLateIn', WHERE WHAT IT READS IS OF BULK AT MOST 1048576: true; the input reads as it did. -/
def fnExactLateInUptoRow : OpenClaim := { program := "ytmffllogaboklae", sum := "8f8dd478783b467308a641dea70fe87006e18b8165b4676168171a1e243e9600", func := "loop.example/g00527/laws.FnExactLateIn", spec := "fnExactLateIn", unfollowed := true, recurses := true, apart := false, narrowed := true }
def FnExactLateInUptoSaid : Prop := fnExactLateInUptoRow.holds Try.pinned (OpenSpec.upto fnExactLateInSpec)

/-- 'laws.FnExactAdmitJob', WHERE WHAT IT READS IS OF BULK AT MOST 1048576: true; the input reads as it did. -/
def fnExactAdmitJobUptoRow : OpenClaim := { program := "ytmffllogaboklae", sum := "8f8dd478783b467308a641dea70fe87006e18b8165b4676168171a1e243e9600", func := "loop.example/g00527/laws.FnExactAdmitJob", spec := "fnExactAdmitJob", unfollowed := true, recurses := true, apart := false, narrowed := true }
def FnExactAdmitJobUptoSaid : Prop := fnExactAdmitJobUptoRow.holds Try.pinned (OpenSpec.upto fnExactAdmitJobSpec)

/-- 'laws.FnExactAllInTime', WHERE WHAT IT READS IS OF BULK AT MOST 1048576: true; the input reads as it did. -/
def fnExactAllInTimeUptoRow : OpenClaim := { program := "ytmffllogaboklae", sum := "8f8dd478783b467308a641dea70fe87006e18b8165b4676168171a1e243e9600", func := "loop.example/g00527/laws.FnExactAllInTime", spec := "fnExactAllInTime", unfollowed := true, recurses := true, apart := false, narrowed := true }
def FnExactAllInTimeUptoSaid : Prop := fnExactAllInTimeUptoRow.holds Try.pinned (OpenSpec.upto fnExactAllInTimeSpec)

/-- 'laws.FnExactFirstDone', WHERE WHAT IT READS IS OF BULK AT MOST 1048576: true; the input reads as it did. -/
def fnExactFirstDoneUptoRow : OpenClaim := { program := "ytmffllogaboklae", sum := "8f8dd478783b467308a641dea70fe87006e18b8165b4676168171a1e243e9600", func := "loop.example/g00527/laws.FnExactFirstDone", spec := "fnExactFirstDone", unfollowed := true, recurses := true, apart := false, narrowed := true }
def FnExactFirstDoneUptoSaid : Prop := fnExactFirstDoneUptoRow.holds Try.pinned (OpenSpec.upto fnExactFirstDoneSpec)

/-- 'laws.FnExactRunAgain', WHERE WHAT IT READS IS OF BULK AT MOST 1048576: true; the input reads as it did. -/
def fnExactRunAgainUptoRow : OpenClaim := { program := "ytmffllogaboklae", sum := "8f8dd478783b467308a641dea70fe87006e18b8165b4676168171a1e243e9600", func := "loop.example/g00527/laws.FnExactRunAgain", spec := "fnExactRunAgain", unfollowed := true, recurses := true, apart := false, narrowed := true }
def FnExactRunAgainUptoSaid : Prop := fnExactRunAgainUptoRow.holds Try.pinned (OpenSpec.upto fnExactRunAgainSpec)

/-- 'laws.FnExactByRate', WHERE WHAT IT READS IS OF BULK AT MOST 1048576: true; the input reads as it did. -/
def fnExactByRateUptoRow : OpenClaim := { program := "ytmffllogaboklae", sum := "8f8dd478783b467308a641dea70fe87006e18b8165b4676168171a1e243e9600", func := "loop.example/g00527/laws.FnExactByRate", spec := "fnExactByRate", unfollowed := true, recurses := true, apart := false, narrowed := true }
def FnExactByRateUptoSaid : Prop := fnExactByRateUptoRow.holds Try.pinned (OpenSpec.upto fnExactByRateSpec)

end Rows
end Go.Proofs.Ytmffllogaboklae
