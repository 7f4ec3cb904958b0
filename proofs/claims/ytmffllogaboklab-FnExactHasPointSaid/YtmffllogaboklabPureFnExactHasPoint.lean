/- The pure statement of the law FnExactHasPoint: over lists and numbers the law's function answers true. No conditions beyond those typed. -/
import Derived.Test.YtmffllogaboklabP5
import Derived.Test.YtmffllogaboklabLib
namespace Go.Proofs.Ytmffllogaboklab.Pure
open Go.RowKit Go.Proofs.Ytmffllogaboklab.P Go.Proofs.YtmffllogaboklabW.PrintWords Go.Proofs.YtmffllogaboklabLib
set_option linter.unusedVariables false
set_option linter.unusedSimpArgs false

def spB (x : S61) : Bool := decide (x.f0 ≥ 0) && (decide (x.f0 < x.f1) && decide (x.f1 ≤ 1000000))
theorem sspan_eq (x : S61) : spec_l2Span.f x.f0 x.f1 = some (spB x) := by
  unfold spec_l2Span.f spB
  by_cases h1 : x.f0 ≥ 0 <;> by_cases h2 : x.f0 < x.f1 <;> simp [h1, h2]
theorem span_eq (x : S61) : impl_isSpan.f x.f0 x.f1 = some (spB x) := by
  unfold impl_isSpan.f spB
  by_cases h1 : x.f0 ≥ 0 <;> by_cases h2 : x.f0 < x.f1 <;> simp [h1, h2]
/-- What is asked at place j. -/
def atB (l : List S61) (j : Nat) : Bool := spB (rd_T61 l (j : Int)) && (decide (j = 0) || decide ((rd_T61 l ((j : Int) - 1)).f1 < (rd_T61 l (j : Int)).f0))
def goodB (l : List S61) : Bool := (List.range l.length).all (atB l) && decide ((l.length : Int) ≤ 20)
theorem sgood_ev (l : List S61) (hl : l.length ≤ 1048576) : Ev (fun k => spec_GoodSpans.f k l) (goodB l) := by
  refine Ev.congr (fun k => rfl) (allI_ev (fun k i => spec_GoodSpans.l0 k l l (l.length : Int) i) l.length (atB l) _ (by omega) (fun k j hj => ?_) (fun k => ?_))
  · simp only [spec_GoodSpans.l0, sspan_eq, Option.bind_some]
    rw [if_pos (by omega), if_pos (by omega), if_pos (by omega)]
    by_cases h1 : spB (rd_T61 l (j : Int)) = true
    · rw [if_pos h1]
      by_cases h0 : j = 0
      · have hA : atB l j = true := by
          unfold atB
          rw [h1, decide_eq_true h0]
          rfl
        rw [if_pos hA, if_neg (by omega)]
      · rw [if_pos (by omega), w64 (by omega) (by omega), if_pos (by omega), if_pos (by omega)]
        by_cases h2 : (rd_T61 l ((j : Int) - 1)).f1 < (rd_T61 l (j : Int)).f0
        · have hA : atB l j = true := by
            unfold atB
            rw [h1, decide_eq_true h2]
            simp
          rw [if_neg (by omega), if_pos hA]
        · have hA : ¬ atB l j = true := by
            unfold atB
            rw [h1, decide_eq_false h2, decide_eq_false h0]
            simp
          rw [if_pos (by omega), if_neg hA]
    · have hA : ¬ atB l j = true := by
        unfold atB
        rw [Bool.eq_false_iff.2 h1]
        simp
      rw [if_neg h1, if_neg hA]
  · simp [spec_GoodSpans.l0]
theorem good_ev (l : List S61) (hl : l.length ≤ 1048576) : Ev (fun k => impl_areSpans.f k l) (goodB l) := by
  unfold impl_areSpans.f goodB
  by_cases h : (l.length : Int) ≤ 20
  · simp only [if_neg (show ¬ (l.length : Int) > 20 by omega), h, decide_true]
    refine allI_ev (fun k i => impl_areSpans.l0 k l l (l.length : Int) i) l.length (atB l) true (by omega) (fun k j hj => ?_) (fun k => ?_)
    · simp only [impl_areSpans.l0, span_eq, Option.bind_some]
      rw [if_pos (by omega), if_pos (by omega), if_pos (by omega)]
      by_cases h1 : spB (rd_T61 l (j : Int)) = true
      · rw [if_pos h1]
        by_cases h0 : j = 0
        · have hA : atB l j = true := by
            unfold atB
            rw [h1, decide_eq_true h0]
            rfl
          rw [if_pos hA, if_neg (by omega)]
        · rw [if_pos (by omega), w64 (by omega) (by omega), if_pos (by omega), if_pos (by omega)]
          by_cases h2 : (rd_T61 l ((j : Int) - 1)).f1 < (rd_T61 l (j : Int)).f0
          · have hA : atB l j = true := by
              unfold atB
              rw [h1, decide_eq_true h2]
              simp
            rw [if_neg (by omega), if_pos hA]
          · have hA : ¬ atB l j = true := by
              unfold atB
              rw [h1, decide_eq_false h2, decide_eq_false h0]
              simp
            rw [if_pos (by omega), if_neg hA]
      · have hA : ¬ atB l j = true := by
          unfold atB
          rw [Bool.eq_false_iff.2 h1]
          simp
        rw [if_neg h1, if_neg hA]
    · simp [impl_areSpans.l0]
  · simp only [if_pos (show (l.length : Int) > 20 by omega), h, decide_false, Bool.and_false]
    exact Ev.now _
def cvSpan (x : S63) : S61 := ⟨x.f0, x.f1⟩
theorem szSpan_eq (l : List S63) (hl : l.length ≤ maxLen) : laws_szSpanS.f l 1048576 = some (if (l.length : Int) ≤ 1048576 then 1048576 - (l.length : Int) else -1) := by
  unfold laws_szSpanS.f
  unfold maxLen at hl
  rw [w64 (by omega) (by omega)]
  by_cases h : (l.length : Int) ≤ 1048576
  · rw [if_neg (by omega), if_pos h]
  · rw [if_pos (by omega), if_neg h]
theorem toSpan_ev (l : List S63) (hl : l.length ≤ 1048576) : Ev (fun k => laws_toSpanS.f k l) (l.map cvSpan) := by
  refine Ev.congr (fun k => ?_) (fill_ev (fun k x0 x3 x4 => laws_toSpanS.l0 k x0 x3 x4) cvSpan z63 (fun k x0 x3 x4 => rfl) l z61 (by omega))
  unfold laws_toSpanS.f
  rw [if_pos (by omega), if_pos (by omega), Int.toNat_natCast]
theorem eqSpan_ev (l : List S61) (hl : l.length ≤ 1048576) : Ev (fun k => laws_eqSpanS.f k l l) true := by
  refine Ev.congr (fun k => ?_) (eqr_ev (fun k x0 x1 x5 => laws_eqSpanS.l0 k x0 x1 x5) l (fun k j hj => ?_) (fun k => ?_) (by omega))
  · unfold laws_eqSpanS.f
    rw [if_pos rfl]
  · simp only [laws_eqSpanS.l0]
    rw [if_pos (by omega), if_pos (by omega), if_pos (by omega)]
    simp [laws_eqSpan.f]
  · simp [laws_eqSpanS.l0]
theorem shas_ev (l : List S61) (hl : l.length ≤ 1048576) (n : Int) : Ev (fun k => spec_l2Has.f k l n) (l.any (impl_has.p n)) := by
  have key : ∀ d j, j ≤ l.length → l.length - j = d → Ev (fun k => spec_l2Has.l0 k n l (l.length : Int) (j : Int)) ((l.drop j).any (impl_has.p n)) := by
    intro d
    induction d with
    | zero =>
      intro j hj hd
      obtain rfl : j = l.length := by omega
      rw [List.drop_length]
      exact Ev.step (f := fun _ => some false) (fun k => by simp [spec_l2Has.l0]) (Ev.now _)
    | succ d ih =>
      intro j hj hd
      have hj2 : j < l.length := by omega
      have e : rd_T61 l (j : Int) = l[j] := getD_at l j hj2 _
      rw [List.drop_eq_getElem_cons hj2, List.any_cons]
      by_cases h1 : n ≥ l[j].f0
      · by_cases h2 : n < l[j].f1
        · rw [show impl_has.p n l[j] = true by simp [impl_has.p, h2]; omega, Bool.true_or]
          refine Ev.step (f := fun _ => some true) (fun k => ?_) (Ev.now _)
          simp only [spec_l2Has.l0, e]
          rw [if_pos (by omega), if_pos (by omega), if_pos (by omega), if_pos h1, if_pos h2]
        · rw [show impl_has.p n l[j] = false by simp [impl_has.p]; omega, Bool.false_or]
          refine Ev.step (fun k => ?_) (ih (j + 1) (by omega) (by omega))
          simp only [spec_l2Has.l0, e]
          rw [if_pos (by omega), if_pos (by omega), if_pos (by omega), if_pos h1, if_neg h2, w64s hj2 (by omega)]
      · rw [show impl_has.p n l[j] = false by simp [impl_has.p]; omega, Bool.false_or]
        refine Ev.step (fun k => ?_) (ih (j + 1) (by omega) (by omega))
        simp only [spec_l2Has.l0, e]
        rw [if_pos (by omega), if_pos (by omega), if_pos (by omega), if_neg h1, w64s hj2 (by omega)]
  exact Ev.congr (fun k => rfl) (key l.length 0 (by omega) rfl)
theorem both_ev (l : List S61) (n : Int) (hl : l.length ≤ 1048576) : ∃ r, Ev (fun k => spec_HasPoint.f k l n) r ∧ Ev (fun k => impl_HasPoint.f k l n) r := by
  unfold spec_HasPoint.f impl_HasPoint.f
  have hs := sgood_ev l hl
  have hi := good_ev l hl
  by_cases hg : goodB l = true
  · rw [hg] at hs hi
    exact ⟨(l.any (impl_has.p n), true), Ev.bind hs (Ev.bind (shas_ev l hl n) (Ev.now _)), Ev.bind hi (Ev.now _)⟩
  · rw [Bool.eq_false_iff.2 hg] at hs hi
    exact ⟨(false, false), Ev.bind hs (Ev.now _), Ev.bind hi (Ev.now _)⟩
theorem FnExactHasPoint : laws_FnExactHasPoint.Pure := by
  intro l n hl _ _
  apply Ev.rounds
  unfold laws_FnExactHasPoint.f
  simp only [szSpan_eq l hl, Option.bind_some]
  by_cases h : (l.length : Int) ≤ 1048576
  case neg =>
    simp only [if_neg h]
    exact Ev.now _
  simp only [if_pos h, if_neg (show ¬ (1048576 - (l.length : Int) < 0) by omega)]
  have hl' : l.length ≤ 1048576 := by omega
  have hm : (l.map cvSpan).length ≤ 1048576 := by simpa using hl'
  have hto := toSpan_ev l hl'
  have heq := eqSpan_ev (l.map cvSpan) hm
  generalize l.map cvSpan = x at hto heq hm
  refine Ev.bind hto ?_
  obtain ⟨r, h1, h2⟩ := both_ev x n hm
  refine Ev.bind h1 (Ev.bind hto (Ev.bind h2 ?_))
  simp only [if_true, bne_self_eq_false, Bool.false_eq_true, if_false]
  refine Ev.step (f := fun k => (laws_toSpanS.f k l).bind fun t => (laws_eqSpanS.f k x t).bind fun u => if u = true then some true else some false) (fun k => rfl) ?_
  exact Ev.bind hto (Ev.bind heq (Ev.now _))

end Go.Proofs.Ytmffllogaboklab.Pure
