/- The row of the law FnExactJoinSpans: for every input that the row speaks of, the call answers true and leaves its arguments as they were; no conditions of ours. -/
import Derived.Test.YtobnbhkfbdlioaaRows
import Derived.Test.YtobnbhkfbdlioaaSj10
import Derived.Test.YtobnbhkfbdlioaaPureFnExactJoinSpans
import Derived.Test.YtobnbhkfbdlioaaOpen
import Derived.WalkKit
import Derived.ProofKit
import Derived.OpenShut
import Derived.ShutString
import Derived.ChangeOld
import Derived.Below
import Derived.SizedLaws
namespace Go.Proofs.Ytobnbhkfbdlioaa.fnExactJoinSpans
open Go.ChangeShapes Go.WideShapes Go.ChangeAt Go.RowKit Go.Joins
open Go.ChangeMaps (open_string shut_string)
set_option linter.unusedVariables false
theorem own : ownKnob Try.prog.godebug = none := by kernel_rfl
theorem laidOut : laidOutB Try.prog = true := by kernel_rfl
set_option maxRecDepth 100000 in
theorem lifted (os : Os) (started : os.Started) (H : Type) (enc : TypeId × Value → H) :
    ReturnsInHanded {} Try.checked os 4 .any (Rows.fnExactJoinSpansSpec.pre6 enc Try.prog Try.f4 Rows.fnExactJoinSpansRow.domain false) (Rows.fnExactJoinSpansSpec.post enc Try.prog Try.f4 false true false false) := by
  refine returnsInHanded_of_change_sized (C := Try.checked) own started (by kernel_rfl) Try.func4
    (ChangeSpec.witness6 (enc := enc) (C := Try.checked) false ⟨#[], #[.slice none 0 0, .slice none 0 0], []⟩ 8 (by kernel_rfl) (by kernel_rfl) (by kernel_rfl) (by kernel_rfl)) ?_
  intro W base args ds gs before hval0 hW hcnd hsz0 _
  have hsz : (DataW.weightsEach Try.prog (Try.f4.params.toList ++ Rows.fnExactJoinSpansSpec.plain.varTypes Try.prog) (ds ++ gs)).all (· ≤ reachBytes) = true := hsz0
  have hval : ∀ (j : Nat) t v, Try.f4.params[j]? = some t → args[j]? = some v → Value.okWide Try.prog W .any base t v := hval0
  have hW' := hW
  obtain ⟨p, q, hA0, hV, rfl, hfz, hnd⟩ := hW
  have hA : DataW.TrodAll enc Try.prog W 0 (fun _ => true) true Try.f4.params.toList args.toList ds p := hA0
  rw [Try.params4] at hA hval hsz
  obtain ⟨v0, vs0, d0, ds0, p0, q0, hargs, rfl, rfl, h0, r0⟩ := trodAll_cons hA
  obtain ⟨v1, vs1, d1, ds1, p1, q1, rfl, rfl, rfl, h1, r1⟩ := trodAll_cons r0
  obtain ⟨rfl, rfl, rfl⟩ := trodAll_nil r1
  obtain rfl : args = #[v0, v1] := by cases args; simp_all
  obtain ⟨rfl, rfl⟩ := trodVars_none hV
  obtain ⟨a0, len0, cap0, rfl⟩ := okWide_slice Try.underlying22 (hval 0 22 v0 rfl rfl)
  have k0 := h0
  have lt0 : ∀ x ∈ p0, x.block < W.heap.size := by obtain ⟨m, hm⟩ := k0; exact DataW.trod_lt m _ _ _ hm
  obtain ⟨l0, hl0, hlc0, hm0, hC0, hw0⟩ := YtobnbhkfbdlioaaOpen.rows2 (d := Sj.k24) (fun x0 x1 => (⟨x0, x1⟩ : Sj.S24)) rfl (fun w x0 x1 => Sj.k24_mk w ⟨x0, x1⟩) Try.underlying22 Try.underlying24 (by kernel_rfl) (by kernel_rfl) Try.underlying3 Try.underlying3 h0
  subst hl0
  have hw0' : ∀ x ∈ l0, (Lit.int .i64 x.f0).wf = true ∧ (Lit.int .i64 x.f1).wf = true := by
    intro x hx
    obtain ⟨b0, b1, rfl, u0, u1⟩ := hw0 x hx
    exact ⟨u0, u1⟩
  obtain ⟨a1, len1, cap1, rfl⟩ := okWide_slice Try.underlying22 (hval 1 22 v1 rfl rfl)
  have k1 := h1
  have lt1 : ∀ x ∈ p1, x.block < W.heap.size := by obtain ⟨m, hm⟩ := k1; exact DataW.trod_lt m _ _ _ hm
  obtain ⟨l1, hl1, hlc1, hm1, hC1, hw1⟩ := YtobnbhkfbdlioaaOpen.rows2 (d := Sj.k24) (fun x0 x1 => (⟨x0, x1⟩ : Sj.S24)) rfl (fun w x0 x1 => Sj.k24_mk w ⟨x0, x1⟩) Try.underlying22 Try.underlying24 (by kernel_rfl) (by kernel_rfl) Try.underlying3 Try.underlying3 h1
  subst hl1
  have hw1' : ∀ x ∈ l1, (Lit.int .i64 x.f0).wf = true ∧ (Lit.int .i64 x.f1).wf = true := by
    intro x hx
    obtain ⟨b0, b1, rfl, u0, u1⟩ := hw1 x hx
    exact ⟨u0, u1⟩
  clear hA0 hval0 hsz0 hsz
  refine (Sj.laws_FnExactJoinSpans.walk Pure.FnExactJoinSpans a0 cap0 l0 a1 cap1 l1 W hm0 hw0' hC0 hlc0 hm1 hw1' hC1 hlc1).mono fun e W' ⟨he, bel⟩ => ?_
  subst he
  exact ⟨_, rfl, _, _, _, [], _, [], hW', trodAll_mk1 (shut_bool Try.underlying4 _), (trodAll_cons_mk (Below.trod laidOut (by kernel_rfl) (of_decide_eq_true (by kernel_rfl)) k0 bel lt0) (trodAll_cons_mk (Below.trod laidOut (by kernel_rfl) (of_decide_eq_true (by kernel_rfl)) k1 bel lt1) trodAll_mk0)), rfl, bel.frame _, fun h => by cases h⟩
theorem over : Rows.fnExactJoinSpansRow.holds Try.pinned (OpenSpec.ofChange Rows.fnExactJoinSpansSpec) :=
  OpenClaim.holds_of_wide 4 Try.f4 rfl rfl rfl rfl rfl rfl rfl ⟨rfl, rfl, rfl, rfl, rfl⟩ rfl rfl rfl rfl rfl (by kernel_rfl) Try.func4 (by kernel_rfl)
    (of_decide_eq_true (by kernel_rfl)) (by unfold Func.isWrapper; first | (rw [if_pos (by decide +kernel)]; kernel_rfl) | (rw [if_neg (by decide +kernel)]; exact ⟨rfl, rfl⟩))
    (fun os started H enc _ => lifted os started H enc)
theorem proved : Rows.FnExactJoinSpansSaid := over
#print axioms proved
end Go.Proofs.Ytobnbhkfbdlioaa.fnExactJoinSpans
namespace Go.Proofs.Ytobnbhkfbdlioaa
/-- The row, under a short name, for the claim. -/
theorem fnExactJoinSpans_holds : Rows.FnExactJoinSpansSaid := fnExactJoinSpans.proved
end Go.Proofs.Ytobnbhkfbdlioaa
