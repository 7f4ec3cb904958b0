/- The pure statement of the law FnExactGoodSpans: over lists and numbers the law's function answers true. No conditions beyond those typed. -/
import Derived.Test.YtbbinnpmopnmnabX6
import Derived.Test.YtbbinnpmopnmnabLib
namespace Go.Proofs.Ytbbinnpmopnmnab.Pure
open Go.RowKit Go.Proofs.Ytbbinnpmopnmnab.X Go.Proofs.YtbbinnpmopnmnabW.PrintWords Go.Proofs.YtbbinnpmopnmnabLib
set_option linter.unusedVariables false
set_option linter.unusedSimpArgs false

def cvSpan (x : S55) : S58 := ⟨x.f0, x.f1⟩
theorem szSpan_eq (l : List S55) (hl : l.length ≤ maxLen) : laws_szSpanS.f l 1048576 = some (if (l.length : Int) ≤ 1048576 then 1048576 - (l.length : Int) else -1) := by
  unfold laws_szSpanS.f
  unfold maxLen at hl
  rw [w64 (by omega) (by omega)]
  by_cases h : (l.length : Int) ≤ 1048576
  · rw [if_neg (by omega), if_pos h]
  · rw [if_pos (by omega), if_neg h]
theorem toSpan_ev (l : List S55) (hl : l.length ≤ 1048576) : Ev (fun k => laws_toSpanS.f k l) (l.map cvSpan) := by
  refine Ev.congr (fun k => ?_) (fill_ev (fun k x0 x3 x4 => laws_toSpanS.l0 k x0 x3 x4) cvSpan z55 (fun k x0 x3 x4 => rfl) l z58 (by omega))
  unfold laws_toSpanS.f
  rw [if_pos (by omega), if_pos (by omega), Int.toNat_natCast]
theorem eqSpan_ev (l : List S58) (hl : l.length ≤ 1048576) : Ev (fun k => laws_eqSpanS.f k l l) true := by
  refine Ev.congr (fun k => ?_) (eqr_ev (fun k x0 x1 x5 => laws_eqSpanS.l0 k x0 x1 x5) l (fun k j hj => ?_) (fun k => ?_) (by omega))
  · unfold laws_eqSpanS.f
    rw [if_pos rfl]
  · simp only [laws_eqSpanS.l0]
    rw [if_pos (by omega), if_pos (by omega), if_pos (by omega)]
    simp [laws_eqSpan.f]
  · simp [laws_eqSpanS.l0]
def spB (x : S58) : Bool := decide (x.f0 ≥ 0) && (decide (x.f0 < x.f1) && decide (x.f1 ≤ 1000000))
theorem sspan_eq (x : S58) : spec_l2Span.f x.f0 x.f1 = some (spB x) := by
  unfold spec_l2Span.f spB
  by_cases h1 : x.f0 ≥ 0 <;> by_cases h2 : x.f0 < x.f1 <;> simp [h1, h2]
theorem span_eq (x : S58) : impl_isSpan.f x.f0 x.f1 = some (spB x) := by
  unfold impl_isSpan.f spB
  by_cases h1 : x.f0 ≥ 0 <;> by_cases h2 : x.f0 < x.f1 <;> simp [h1, h2]
/-- What is asked at place j. -/
def atB (l : List S58) (j : Nat) : Bool := spB (rd_T58 l (j : Int)) && (decide (j = 0) || decide ((rd_T58 l ((j : Int) - 1)).f1 < (rd_T58 l (j : Int)).f0))
def goodB (l : List S58) : Bool := (List.range l.length).all (atB l) && decide ((l.length : Int) ≤ 20)
theorem sgood_ev (l : List S58) (hl : l.length ≤ 1048576) : Ev (fun k => spec_GoodSpans.f k l) (goodB l) := by
  refine Ev.congr (fun k => rfl) (allI_ev (fun k i => spec_GoodSpans.l0 k l l (l.length : Int) i) l.length (atB l) _ (by omega) (fun k j hj => ?_) (fun k => ?_))
  · simp only [spec_GoodSpans.l0, sspan_eq, Option.bind_some]
    rw [if_pos (by omega), if_pos (by omega), if_pos (by omega)]
    by_cases h1 : spB (rd_T58 l (j : Int)) = true
    · rw [if_pos h1]
      by_cases h0 : j = 0
      · have hA : atB l j = true := by
          unfold atB
          rw [h1, decide_eq_true h0]
          rfl
        rw [if_pos hA, if_neg (by omega)]
      · rw [if_pos (by omega), w64 (by omega) (by omega), if_pos (by omega), if_pos (by omega)]
        by_cases h2 : (rd_T58 l ((j : Int) - 1)).f1 < (rd_T58 l (j : Int)).f0
        · have hA : atB l j = true := by
            unfold atB
            rw [h1, decide_eq_true h2]
            simp
          rw [if_neg (by omega), if_pos hA]
        · have hA : ¬ atB l j = true := by
            unfold atB
            rw [h1, decide_eq_false h2, decide_eq_false h0]
            simp
          rw [if_pos (by omega), if_neg hA]
    · have hA : ¬ atB l j = true := by
        unfold atB
        rw [Bool.eq_false_iff.2 h1]
        simp
      rw [if_neg h1, if_neg hA]
  · simp [spec_GoodSpans.l0]
theorem good_ev (l : List S58) (hl : l.length ≤ 1048576) : Ev (fun k => impl_areSpans.f k l) (goodB l) := by
  unfold impl_areSpans.f goodB
  by_cases h : (l.length : Int) ≤ 20
  · simp only [if_neg (show ¬ (l.length : Int) > 20 by omega), h, decide_true]
    refine allI_ev (fun k i => impl_areSpans.l0 k l l (l.length : Int) i) l.length (atB l) true (by omega) (fun k j hj => ?_) (fun k => ?_)
    · simp only [impl_areSpans.l0, span_eq, Option.bind_some]
      rw [if_pos (by omega), if_pos (by omega), if_pos (by omega)]
      by_cases h1 : spB (rd_T58 l (j : Int)) = true
      · rw [if_pos h1]
        by_cases h0 : j = 0
        · have hA : atB l j = true := by
            unfold atB
            rw [h1, decide_eq_true h0]
            rfl
          rw [if_pos hA, if_neg (by omega)]
        · rw [if_pos (by omega), w64 (by omega) (by omega), if_pos (by omega), if_pos (by omega)]
          by_cases h2 : (rd_T58 l ((j : Int) - 1)).f1 < (rd_T58 l (j : Int)).f0
          · have hA : atB l j = true := by
              unfold atB
              rw [h1, decide_eq_true h2]
              simp
            rw [if_neg (by omega), if_pos hA]
          · have hA : ¬ atB l j = true := by
              unfold atB
              rw [h1, decide_eq_false h2, decide_eq_false h0]
              simp
            rw [if_pos (by omega), if_neg hA]
      · have hA : ¬ atB l j = true := by
          unfold atB
          rw [Bool.eq_false_iff.2 h1]
          simp
        rw [if_neg h1, if_neg hA]
    · simp [impl_areSpans.l0]
  · simp only [if_pos (show (l.length : Int) > 20 by omega), h, decide_false, Bool.and_false]
    exact Ev.now _
theorem FnExactGoodSpans : laws_FnExactGoodSpans.Pure := by
  intro l hl _
  apply Ev.rounds
  unfold laws_FnExactGoodSpans.f
  simp only [szSpan_eq l hl, Option.bind_some]
  by_cases h : (l.length : Int) ≤ 1048576
  case neg =>
    simp only [if_neg h]
    exact Ev.now _
  simp only [if_pos h, if_neg (show ¬ (1048576 - (l.length : Int) < 0) by omega)]
  have hl' : l.length ≤ 1048576 := by omega
  have hm : (l.map cvSpan).length ≤ 1048576 := by simpa using hl'
  have hto := toSpan_ev l hl'
  have heq := eqSpan_ev (l.map cvSpan) hm
  generalize l.map cvSpan = x at hto heq hm
  refine Ev.bind hto ?_
  refine Ev.bind (sgood_ev x hm) ?_
  refine Ev.bind hto ?_
  refine Ev.bind (Ev.bind (f := fun _ t => some t) (good_ev x hm) (Ev.now _) : Ev (fun k => impl_GoodSpans.f k x) (goodB x)) ?_
  simp only [bne_self_eq_false, Bool.false_eq_true, if_false]
  refine Ev.bind hto ?_
  refine Ev.bind heq ?_
  exact Ev.now _

end Go.Proofs.Ytbbinnpmopnmnab.Pure
