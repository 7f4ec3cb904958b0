/- The pure statement of the law FnExactGoodAgain: over lists and numbers the law's function answers true. No conditions beyond those typed. -/
import Derived.Test.YtbbinnpmopnmnabX7
import Derived.Test.YtbbinnpmopnmnabLib
namespace Go.Proofs.Ytbbinnpmopnmnab.Pure
open Go.RowKit Go.Proofs.Ytbbinnpmopnmnab.X Go.Proofs.YtbbinnpmopnmnabW.PrintWords Go.Proofs.YtbbinnpmopnmnabLib
set_option linter.unusedVariables false
set_option linter.unusedSimpArgs false

theorem in_eq (x y z : Int) : impl_in.f x y z = some (decide (x ≥ y ∧ x ≤ z)) := by
  unfold impl_in.f
  by_cases h : x ≥ y <;> simp only [h, if_true, if_false, true_and, false_and, decide_false]
theorem sin_eq (x y z : Int) : spec_l1In.f x y z = some (decide (x ≥ y ∧ x ≤ z)) := by
  unfold spec_l1In.f
  by_cases h : x ≥ y <;> simp only [h, if_true, if_false, true_and, false_and, decide_false]
def cvAgain (x : S69) : S66 := ⟨x.f0, x.f1⟩
theorem szAgain_eq (l : List S69) (hl : l.length ≤ maxLen) : laws_szAgainS.f l 1048576 = some (if (l.length : Int) ≤ 1048576 then 1048576 - (l.length : Int) else -1) := by
  unfold laws_szAgainS.f
  unfold maxLen at hl
  rw [w64 (by omega) (by omega)]
  by_cases h : (l.length : Int) ≤ 1048576
  · rw [if_neg (by omega), if_pos h]
  · rw [if_pos (by omega), if_neg h]
theorem toAgain_ev (l : List S69) (hl : l.length ≤ 1048576) : Ev (fun k => laws_toAgainS.f k l) (l.map cvAgain) := by
  refine Ev.congr (fun k => ?_) (fill_ev (fun k x0 x3 x4 => laws_toAgainS.l0 k x0 x3 x4) cvAgain z69 (fun k x0 x3 x4 => rfl) l z66 (by omega))
  unfold laws_toAgainS.f
  rw [if_pos (by omega), if_pos (by omega), Int.toNat_natCast]
theorem eqAgain_ev (l : List S66) (hl : l.length ≤ 1048576) : Ev (fun k => laws_eqAgainS.f k l l) true := by
  refine Ev.congr (fun k => ?_) (eqr_ev (fun k x0 x1 x5 => laws_eqAgainS.l0 k x0 x1 x5) l (fun k j hj => ?_) (fun k => ?_) (by omega))
  · unfold laws_eqAgainS.f
    rw [if_pos rfl]
  · simp only [laws_eqAgainS.l0]
    rw [if_pos (by omega), if_pos (by omega), if_pos (by omega)]
    simp [laws_eqAgain.f]
  · simp [laws_eqAgainS.l0]
def okB (x : S66) : Bool := decide (x.f0 ≥ 1 ∧ x.f0 ≤ 10) && decide (x.f1 ≥ x.f0 ∧ x.f1 ≤ 40)
theorem spec_ev (l : List S66) (hl : l.length ≤ 1048576) : Ev (fun k => spec_GoodAgain.f k l) (l.all okB && decide ((l.length : Int) ≤ 5)) := by
  refine Ev.congr (fun k => rfl) (all_ev (fun k i => spec_GoodAgain.l0 k l l (l.length : Int) i) okB _ l (by omega) (fun k j hj => ?_) (fun k => ?_))
  · simp only [spec_GoodAgain.l0, sin_eq, Option.bind_some]
    rw [if_pos (by omega), if_pos (by omega), if_pos (by omega)]
    simp only [rd_T66, getD_at l j hj, okB]
    generalize l[j] = x
    by_cases h1 : x.f0 ≥ 1 ∧ x.f0 ≤ 10 <;> by_cases h2 : x.f1 ≥ x.f0 ∧ x.f1 ≤ 40 <;> simp [h1, h2]
  · simp [spec_GoodAgain.l0]
theorem idx_ev (l : List S66) (hl : l.length ≤ 1048576) : ∃ r, Ev (fun k => impl_Again_57.f k l) r ∧ decide (r ≥ 0) = l.any fun x => !okB x := by
  refine any_ev (fun k i => impl_Again_57.l0 k l (l.length : Int) i) (fun x => !okB x) l (by omega) (fun k j hj => ?_) (fun k => ?_)
  · simp only [impl_Again_57.l0, impl_GoodAgain_1.f, in_eq, Option.bind_some]
    rw [if_pos (by omega), if_pos (by omega), if_pos (by omega)]
    simp only [rd_T66, getD_at l j hj, okB]
    generalize l[j] = x
    by_cases h1 : x.f0 ≥ 1 ∧ x.f0 ≤ 10 <;> by_cases h2 : x.f1 ≥ x.f0 ∧ x.f1 ≤ 40 <;> simp [h1, h2]
  · simp [impl_Again_57.l0]
theorem impl_ev (l : List S66) (hl : l.length ≤ 1048576) : Ev (fun k => impl_GoodAgain.f k l) (l.all okB && decide ((l.length : Int) ≤ 5)) := by
  unfold impl_GoodAgain.f impl_Again_41.f
  by_cases h : (l.length : Int) ≤ 5
  · simp only [h, if_true, decide_true, Bool.and_true]
    obtain ⟨r, hr, hd⟩ := idx_ev l hl
    refine Ev.bind (f := fun _ t => some (!t)) (a := decide (r ≥ 0)) (Ev.bind (f := fun _ t => some (decide (t ≥ 0))) hr (Ev.now _)) ?_
    rw [hd, not_any]
    exact Ev.now _
  · simp only [h, if_false, decide_false, Bool.and_false]
    exact Ev.now _
theorem FnExactGoodAgain : laws_FnExactGoodAgain.Pure := by
  intro l hl _
  apply Ev.rounds
  unfold laws_FnExactGoodAgain.f
  simp only [szAgain_eq l hl, Option.bind_some]
  by_cases h : (l.length : Int) ≤ 1048576
  case neg =>
    simp only [if_neg h]
    exact Ev.now _
  simp only [if_pos h, if_neg (show ¬ (1048576 - (l.length : Int) < 0) by omega)]
  have hl' : l.length ≤ 1048576 := by omega
  have hm : (l.map cvAgain).length ≤ 1048576 := by simpa using hl'
  have hto := toAgain_ev l hl'
  have heq := eqAgain_ev (l.map cvAgain) hm
  generalize l.map cvAgain = x at hto heq hm
  refine Ev.bind hto ?_
  refine Ev.bind (spec_ev x hm) ?_
  refine Ev.bind hto ?_
  refine Ev.bind (impl_ev x hm) ?_
  simp only [bne_self_eq_false, Bool.false_eq_true, if_false]
  refine Ev.bind hto ?_
  refine Ev.bind heq ?_
  exact Ev.now _

end Go.Proofs.Ytbbinnpmopnmnab.Pure
