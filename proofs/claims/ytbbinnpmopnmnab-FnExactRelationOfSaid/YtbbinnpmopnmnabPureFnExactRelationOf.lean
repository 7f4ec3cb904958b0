/- The pure statement of the law FnExactRelationOf: over lists and numbers the law's function answers true. No conditions beyond those typed. -/
import Derived.Test.YtbbinnpmopnmnabS5
import Derived.Test.YtbbinnpmopnmnabLib
namespace Go.Proofs.Ytbbinnpmopnmnab.Pure
open Go.RowKit Go.Proofs.Ytbbinnpmopnmnab.S Go.Proofs.YtbbinnpmopnmnabW.PrintWords Go.Proofs.YtbbinnpmopnmnabLib
set_option linter.unusedVariables false
set_option linter.unusedSimpArgs false

def R (a b c d : Int) : Int := if b < c then 1 else if b = c then 2 else if (a == c && b == d) = true then 3 else if a = c ∧ b < d then 4 else if b = d ∧ c < a then 5 else if c < a ∧ b < d then 6 else if a < c ∧ c < b ∧ b < d then 7 else 0
theorem srel_ev (a b c d : Int) : Ev (fun k => spec_l2Relation.f k a b c d) (R a b c d) := by
  refine ⟨4, fun k hk => ?_⟩
  obtain ⟨n, rfl⟩ : ∃ n, k = n + 4 := ⟨k - 4, by omega⟩
  simp only [spec_l2Relation.f, R]
  split
  · rfl
  split
  · rfl
  split
  · rfl
  by_cases h4 : a = c <;> by_cases h5 : b < d <;> by_cases h6 : b = d <;> by_cases h7 : c < a <;> by_cases h8 : a < c <;> by_cases h9 : c < b <;> first | (exfalso; omega) | simp [spec_l2Relation.j0, spec_l2Relation.j1, spec_l2Relation.j2, h4, h5, h6, h7, h8, h9]
theorem irel_ev (a b c d : Int) : Ev (fun k => impl_relation.f k a b c d) (R a b c d) := by
  refine ⟨4, fun k hk => ?_⟩
  obtain ⟨n, rfl⟩ : ∃ n, k = n + 4 := ⟨k - 4, by omega⟩
  simp only [impl_relation.f, R]
  split
  · rfl
  split
  · rfl
  split
  · rfl
  by_cases h4 : a = c <;> by_cases h5 : b < d <;> by_cases h6 : b = d <;> by_cases h7 : c < a <;> by_cases h8 : a < c <;> by_cases h9 : c < b <;> first | (exfalso; omega) | simp [impl_relation.j0, impl_relation.j1, impl_relation.j2, h4, h5, h6, h7, h8, h9]
theorem R_in (a b c d : Int) : 0 ≤ R a b c d ∧ R a b c d ≤ 7 := by
  unfold R
  repeat' split
  all_goals omega
theorem R_back {a b c d : Int} (hab : a < b) (hcd : c < d) (h : R a b c d = 0) : R c d a b ≠ 0 ∧ R c d a b ≠ 3 := by
  unfold R at h ⊢
  simp only [Bool.and_eq_true, beq_iff_eq] at h ⊢
  repeat' split at h
  all_goals first | omega | skip
  all_goals (repeat' split)
  all_goals omega
theorem both_ev (a b c d : Int) : ∃ r, Ev (fun k => spec_RelationOf.f k a b c d) r ∧ Ev (fun k => impl_RelationOf.f k a b c d) r := by
  have no : Ev (fun k => spec_RelationOf.j0 k true a b c d) (0, false) := Ev.step (f := fun _ => some (0, false)) (fun k => rfl) (Ev.now _)
  unfold spec_RelationOf.f impl_RelationOf.f
  have es : ∀ x y, impl_isSpan.f x y = spec_l2Span.f x y := fun _ _ => rfl
  simp only [es]
  obtain ⟨t, ht, hg⟩ : ∃ t, spec_l2Span.f a b = some t ∧ (t = true → a < b) := by
    unfold spec_l2Span.f
    by_cases h1 : a ≥ 0 <;> by_cases h2 : a < b <;> simp [h1, h2]
  obtain ⟨u, hu, hg2⟩ : ∃ u, spec_l2Span.f c d = some u ∧ (u = true → c < d) := by
    unfold spec_l2Span.f
    by_cases h1 : c ≥ 0 <;> by_cases h2 : c < d <;> simp [h1, h2]
  simp only [ht, hu, Option.bind_some]
  cases t with
  | false => exact ⟨(0, false), no, Ev.now _⟩
  | true =>
    cases u with
    | false => exact ⟨(0, false), no, Ev.now _⟩
    | true =>
      simp only [if_true, Bool.not_true]
      obtain ⟨i0, i1⟩ := R_in a b c d
      obtain ⟨k0, k1⟩ := R_in c d a b
      have st : ∀ k, spec_RelationOf.j0 (k + 1) false a b c d = (spec_l2Relation.f k a b c d).bind fun t => if t > 0 then some (t, true) else (spec_l2Relation.f k c d a b).bind fun u => if u < 3 then some (wrap64 (7 + u), true) else some (wrap64 (6 + u), true) := fun k => by
        simp only [spec_RelationOf.j0, Bool.false_eq_true, if_false]
      by_cases h : R a b c d > 0
      · refine ⟨(R a b c d, true), Ev.step st (Ev.bind (srel_ev a b c d) ?_), Ev.bind (irel_ev a b c d) ?_⟩
        · simp only [if_pos h]
          exact Ev.now _
        · simp only [if_pos h]
          exact Ev.now _
      · obtain ⟨n0, n3⟩ := R_back (hg rfl) (hg2 rfl) (show R a b c d = 0 by omega)
        refine ⟨(impl_RelationOf.tab (R c d a b), true), Ev.step st (Ev.bind (srel_ev a b c d) ?_), Ev.bind (irel_ev a b c d) ?_⟩
        · simp only [if_neg h]
          refine Ev.bind (srel_ev c d a b) ?_
          generalize R c d a b = m at k0 k1 n0 n3
          rcases (show m = 1 ∨ m = 2 ∨ m = 4 ∨ m = 5 ∨ m = 6 ∨ m = 7 by omega) with rfl | rfl | rfl | rfl | rfl | rfl <;> exact Ev.congr (fun k => by simp [wrap64, impl_RelationOf.tab]) (Ev.now (impl_RelationOf.tab _, true))
        · simp only [if_neg h]
          refine Ev.bind (irel_ev c d a b) ?_
          simp only [if_pos (show 0 ≤ R c d a b ∧ R c d a b < 8 by omega)]
          exact Ev.now _
theorem FnExactRelationOf : laws_FnExactRelationOf.Pure := by
  intro a b c d _ _ _ _
  apply Ev.rounds
  unfold laws_FnExactRelationOf.f
  simp only [laws_toSpan.f, Option.bind_some]
  obtain ⟨r, h1, h2⟩ := both_ev a b c d
  refine Ev.bind h1 (Ev.bind h2 ?_)
  simp only [if_true, bne_self_eq_false, Bool.false_eq_true, if_false]
  exact Ev.now _

end Go.Proofs.Ytbbinnpmopnmnab.Pure
