/- The pure statement of the law FnExactTickBucket: over lists and numbers the law's function answers true. No conditions beyond those typed. -/
import Derived.Test.YtbbinnpmopnmnabX2
import Derived.Test.YtbbinnpmopnmnabLib
namespace Go.Proofs.Ytbbinnpmopnmnab.Pure
open Go.RowKit Go.Proofs.Ytbbinnpmopnmnab.X Go.Proofs.YtbbinnpmopnmnabW.PrintWords Go.Proofs.YtbbinnpmopnmnabLib
set_option linter.unusedVariables false
set_option linter.unusedSimpArgs false

theorem in_eq (x y z : Int) : impl_in.f x y z = some (decide (x ≥ y ∧ x ≤ z)) := by
  unfold impl_in.f
  by_cases h : x ≥ y <;> simp only [h, if_true, if_false, true_and, false_and, decide_false]
theorem sin_eq (x y z : Int) : spec_l1In.f x y z = some (decide (x ≥ y ∧ x ≤ z)) := by
  unfold spec_l1In.f
  by_cases h : x ≥ y <;> simp only [h, if_true, if_false, true_and, false_and, decide_false]
theorem FnExactTickBucket : laws_FnExactTickBucket.Pure := by
  intro a b c _ _ _
  simp only [laws_FnExactTickBucket.f, laws_toBucket.f, laws_eqBucket.f, spec_TickBucket.f, impl_TickBucket.f, spec_GoodBucket.f, impl_GoodBucket.f, spec_l7Rate.f, impl_isRate.f, spec_l7Tick.f, spec_l1Least.f, in_eq, sin_eq, Option.bind_some]
  by_cases h1 : a ≥ 1 ∧ a ≤ 20
  · by_cases h2 : b ≥ 1 ∧ b ≤ 60
    · by_cases h3 : c ≥ 0 ∧ c ≤ b
      · rw [w64 (by omega) (by omega)]
        unfold Go.Proofs.YtbbinnpmopnmnabW.PrintWords.mn
        by_cases h4 : b < c + a
        · simp [h1, h2, h3, h4]
        · simp [h1, h2, h3, h4]
      · simp [h1, h2, h3]
    · simp [h1, h2]
  · simp [h1]

end Go.Proofs.Ytbbinnpmopnmnab.Pure
