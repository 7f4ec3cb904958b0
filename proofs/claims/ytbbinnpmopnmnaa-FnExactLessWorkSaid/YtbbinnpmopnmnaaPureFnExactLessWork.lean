/- The pure statement of the law FnExactLessWork: over lists and numbers the law's function answers true. No conditions beyond those typed. -/
import Derived.Test.YtbbinnpmopnmnaaX3
import Derived.Test.YtbbinnpmopnmnaaLib
namespace Go.Proofs.Ytbbinnpmopnmnaa.Pure
open Go.RowKit Go.Proofs.Ytbbinnpmopnmnaa.X Go.Proofs.YtbbinnpmopnmnaaW.PrintWords Go.Proofs.YtbbinnpmopnmnaaLib
set_option linter.unusedVariables false
set_option linter.unusedSimpArgs false

theorem in_eq (x y z : Int) : impl_in.f x y z = some (decide (x ≥ y ∧ x ≤ z)) := by
  unfold impl_in.f
  by_cases h : x ≥ y <;> simp only [h, if_true, if_false, true_and, false_and, decide_false]
theorem sin_eq (x y z : Int) : spec_l1In.f x y z = some (decide (x ≥ y ∧ x ≤ z)) := by
  unfold spec_l1In.f
  by_cases h : x ≥ y <;> simp only [h, if_true, if_false, true_and, false_and, decide_false]
/-- Whether work is less than other work. -/
def lessB (a b c d e f : Int) : Bool := if a = d then (if b = e then decide (c < f) else decide (b < e)) else decide (a < d)
theorem less_eq (a b c d e f : Int) : spec_l3Less.f a b c d e f = some (lessB a b c d e f) := by
  unfold spec_l3Less.f lessB
  split
  · split <;> rfl
  · rfl
theorem or_ev (x y z : Int) : Ev (fun k => cmp_Or_int.f k [x, y, z]) (if x = 0 then (if y = 0 then (if z = 0 then 0 else z) else y) else x) := by
  have e1 : wrap64 1 = 1 := w64 (by omega) (by omega)
  have e2 : wrap64 2 = 2 := w64 (by omega) (by omega)
  have e3 : wrap64 3 = 3 := w64 (by omega) (by omega)
  refine ⟨4, fun k hk => ?_⟩
  obtain ⟨n, rfl⟩ : ∃ n, k = n + 4 := ⟨k - 4, by omega⟩
  simp only [cmp_Or_int.f, cmp_Or_int.l0, rd, List.length_cons, List.length_nil]
  by_cases hx : x = 0
  · by_cases hy : y = 0
    · by_cases hz : z = 0
      · simp [hx, hy, hz, e1, e2, e3]
      · simp [hx, hy, hz, e1, e2]
    · simp [hx, hy, e1]
  · simp [hx]
theorem cmp_ev (a b c d e f : Int) (ha : a ≥ 0 ∧ a ≤ 1000000) (hb : b ≥ 0 ∧ b ≤ 1000000) (hc : c ≥ 0 ∧ c ≤ 1000000) (hd : d ≥ 0 ∧ d ≤ 1000000) (he : e ≥ 0 ∧ e ≤ 1000000) (hf : f ≥ 0 ∧ f ≤ 1000000) :
    ∃ r, Ev (fun k => impl_compareWork.f k a b c d e f) r ∧ decide (r < 0) = lessB a b c d e f := by
  refine ⟨if a - d = 0 then (if b - e = 0 then (if c - f = 0 then 0 else c - f) else b - e) else a - d, ?_, ?_⟩
  · unfold impl_compareWork.f
    rw [w64 (by omega) (by omega), w64 (by omega) (by omega), w64 (by omega) (by omega)]
    exact Ev.bind (f := fun _ t => some t) (or_ev _ _ _) (Ev.now _)
  · unfold lessB
    repeat' split
    all_goals first | rfl | (rw [decide_eq_decide]; omega)
theorem FnExactLessWork : laws_FnExactLessWork.Pure := by
  intro a b c d e f _ _ _ _ _ _
  apply Ev.rounds
  simp only [laws_FnExactLessWork.f, laws_toWork.f, spec_LessWork.f, impl_LessWork.f, spec_l3Work.f, impl_isWork.f, in_eq, sin_eq, Option.bind_some]
  by_cases ha : a ≥ 0 ∧ a ≤ 1000000
  · by_cases hb : b ≥ 0 ∧ b ≤ 1000000
    · by_cases hc : c ≥ 0 ∧ c ≤ 1000000
      · by_cases hd : d ≥ 0 ∧ d ≤ 1000000
        · by_cases he : e ≥ 0 ∧ e ≤ 1000000
          · by_cases hf : f ≥ 0 ∧ f ≤ 1000000
            · simp only [ha, hb, hc, hd, he, hf, and_self, decide_true, if_true, Option.bind_some]
              simp only [less_eq, Option.bind_some]
              refine Ev.bind (f := fun _ bt => if (bt.1 != lessB a b c d e f) = true then some false else if (bt.2 != true) = true then some false else some true) (a := (lessB a b c d e f, true)) ?_ ?_
              · obtain ⟨r, hr, h⟩ := cmp_ev a b c d e f ha hb hc hd he hf
                refine Ev.bind (f := fun _ t => some (decide (t < 0), true)) hr ?_
                rw [h]
                exact Ev.now _
              · simp only [bne_self_eq_false, Bool.false_eq_true, if_false]
                exact Ev.now _
            · simp only [ha, hb, hc, hd, he, hf, and_self, decide_true, decide_false, if_true, Option.bind_some, bne_self_eq_false, Bool.false_eq_true, if_false]
              exact Ev.now _
          · simp only [ha, hb, hc, hd, he, and_self, decide_true, decide_false, if_true, Option.bind_some, bne_self_eq_false, Bool.false_eq_true, if_false]
            exact Ev.now _
        · simp only [ha, hb, hc, hd, and_self, decide_true, decide_false, if_true, Option.bind_some, bne_self_eq_false, Bool.false_eq_true, if_false]
          exact Ev.now _
      · simp only [ha, hb, hc, and_self, decide_true, decide_false, if_true, Option.bind_some, bne_self_eq_false, Bool.false_eq_true, if_false]
        exact Ev.now _
    · simp only [ha, hb, and_self, decide_true, decide_false, if_true, Option.bind_some, bne_self_eq_false, Bool.false_eq_true, if_false]
      exact Ev.now _
  · simp only [ha, decide_false, Option.bind_some, bne_self_eq_false, Bool.false_eq_true, if_false]
    exact Ev.now _

end Go.Proofs.Ytbbinnpmopnmnaa.Pure
