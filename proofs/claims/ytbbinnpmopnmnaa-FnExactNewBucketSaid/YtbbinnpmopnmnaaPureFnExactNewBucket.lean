/- The pure statement of the law FnExactNewBucket: over lists and numbers the law's function answers true. No conditions beyond those typed. -/
import Derived.Test.YtbbinnpmopnmnaaX1
import Derived.Test.YtbbinnpmopnmnaaLib
namespace Go.Proofs.Ytbbinnpmopnmnaa.Pure
open Go.RowKit Go.Proofs.Ytbbinnpmopnmnaa.X Go.Proofs.YtbbinnpmopnmnaaW.PrintWords Go.Proofs.YtbbinnpmopnmnaaLib
set_option linter.unusedVariables false
set_option linter.unusedSimpArgs false

theorem in_eq (x y z : Int) : impl_in.f x y z = some (decide (x ≥ y ∧ x ≤ z)) := by
  unfold impl_in.f
  by_cases h : x ≥ y <;> simp only [h, if_true, if_false, true_and, false_and, decide_false]
theorem sin_eq (x y z : Int) : spec_l1In.f x y z = some (decide (x ≥ y ∧ x ≤ z)) := by
  unfold spec_l1In.f
  by_cases h : x ≥ y <;> simp only [h, if_true, if_false, true_and, false_and, decide_false]
theorem FnExactNewBucket : laws_FnExactNewBucket.Pure := by
  intro a b _ _
  simp only [laws_FnExactNewBucket.f, laws_eqBucket.f, spec_NewBucket.f, impl_NewBucket.f, spec_l7Rate.f, impl_isRate.f, in_eq, sin_eq, Option.bind_some]
  by_cases h1 : a ≥ 1 ∧ a ≤ 20 <;> by_cases h2 : b ≥ 1 ∧ b ≤ 60 <;> simp [h1, h2]

end Go.Proofs.Ytbbinnpmopnmnaa.Pure
