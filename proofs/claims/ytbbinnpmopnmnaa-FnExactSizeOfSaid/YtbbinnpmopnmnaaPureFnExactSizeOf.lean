/- The pure statement of the law FnExactSizeOf: over lists and numbers the law's function answers true. No conditions beyond those typed. -/
import Derived.Test.YtbbinnpmopnmnaaX1
import Derived.Test.YtbbinnpmopnmnaaLib
namespace Go.Proofs.Ytbbinnpmopnmnaa.Pure
open Go.RowKit Go.Proofs.Ytbbinnpmopnmnaa.X Go.Proofs.YtbbinnpmopnmnaaW.PrintWords Go.Proofs.YtbbinnpmopnmnaaLib
set_option linter.unusedVariables false
set_option linter.unusedSimpArgs false

theorem in_eq (x y z : Int) : impl_in.f x y z = some (decide (x ≥ y ∧ x ≤ z)) := by
  unfold impl_in.f
  by_cases h : x ≥ y <;> simp only [h, if_true, if_false, true_and, false_and, decide_false]
theorem sin_eq (x y z : Int) : spec_l1In.f x y z = some (decide (x ≥ y ∧ x ≤ z)) := by
  unfold spec_l1In.f
  by_cases h : x ≥ y <;> simp only [h, if_true, if_false, true_and, false_and, decide_false]
theorem FnExactSizeOf : laws_FnExactSizeOf.Pure := by
  intro a _
  simp only [laws_FnExactSizeOf.f, spec_SizeOf.f, impl_SizeOf.f, spec_l1Number.f, impl_isNumber.f, spec_l1Size.f, impl_sizeOf.f, in_eq, sin_eq, Option.bind_some]
  by_cases h1 : a ≥ 0 ∧ a ≤ 1152921504606846975
  · simp only [h1, decide_true, if_true]
    repeat' split
    all_goals simp_all
  · simp [h1]

end Go.Proofs.Ytbbinnpmopnmnaa.Pure
