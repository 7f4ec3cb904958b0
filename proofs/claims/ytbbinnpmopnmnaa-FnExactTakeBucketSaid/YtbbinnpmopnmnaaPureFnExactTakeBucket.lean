/- The pure statement of the law FnExactTakeBucket: over lists and numbers the law's function answers true. No conditions beyond those typed. -/
import Derived.Test.YtbbinnpmopnmnaaX2
import Derived.Test.YtbbinnpmopnmnaaLib
namespace Go.Proofs.Ytbbinnpmopnmnaa.Pure
open Go.RowKit Go.Proofs.Ytbbinnpmopnmnaa.X Go.Proofs.YtbbinnpmopnmnaaW.PrintWords Go.Proofs.YtbbinnpmopnmnaaLib
set_option linter.unusedVariables false
set_option linter.unusedSimpArgs false

theorem in_eq (x y z : Int) : impl_in.f x y z = some (decide (x ≥ y ∧ x ≤ z)) := by
  unfold impl_in.f
  by_cases h : x ≥ y <;> simp only [h, if_true, if_false, true_and, false_and, decide_false]
theorem sin_eq (x y z : Int) : spec_l1In.f x y z = some (decide (x ≥ y ∧ x ≤ z)) := by
  unfold spec_l1In.f
  by_cases h : x ≥ y <;> simp only [h, if_true, if_false, true_and, false_and, decide_false]
theorem FnExactTakeBucket : laws_FnExactTakeBucket.Pure := by
  intro a b c d _ _ _ _
  simp only [laws_FnExactTakeBucket.f, laws_toBucket.f, laws_eqBucket.f, spec_TakeBucket.f, impl_TakeBucket.f, spec_GoodBucket.f, impl_GoodBucket.f, spec_l7Rate.f, impl_isRate.f, in_eq, sin_eq, Option.bind_some]
  by_cases h1 : a ≥ 1 ∧ a ≤ 20
  · by_cases h2 : b ≥ 1 ∧ b ≤ 60
    · by_cases h3 : c ≥ 0 ∧ c ≤ b
      · simp only [h1, h2, h3, decide_true, if_true]
        by_cases h4 : d ≥ 0 ∧ d ≤ c
        · have h5 : d ≥ 0 ∧ d ≤ 60 := by omega
          have h6 : ¬ d > c := by omega
          simp [h4, h5, h6]
        · by_cases h5 : d ≥ 0 ∧ d ≤ 60
          · have h6 : d > c := by omega
            have h7 : ¬ d ≤ c := by omega
            simp [h4, h5, h6, h7]
          · simp [h4, h5]
      · simp [h1, h2, h3]
    · simp [h1, h2]
  · simp [h1]

end Go.Proofs.Ytbbinnpmopnmnaa.Pure
