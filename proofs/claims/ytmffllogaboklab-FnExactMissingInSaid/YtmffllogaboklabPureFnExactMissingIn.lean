/- The pure statement of the law FnExactMissingIn: over lists and numbers the law's function answers true. No conditions beyond those typed. -/
import Derived.Test.YtmffllogaboklabZ6
import Derived.Test.YtmffllogaboklabLib
namespace Go.Proofs.Ytmffllogaboklab.Pure
open Go.RowKit Go.Proofs.Ytmffllogaboklab.Z Go.Proofs.YtmffllogaboklabW.PrintWords Go.Proofs.YtmffllogaboklabLib
set_option linter.unusedVariables false
set_option linter.unusedSimpArgs false

theorem in_eq (x y z : Int) : impl_in.f x y z = some (decide (x ≥ y ∧ x ≤ z)) := by
  unfold impl_in.f
  by_cases h : x ≥ y <;> simp only [h, if_true, if_false, true_and, false_and, decide_false]
theorem sin_eq (x y z : Int) : spec_l1In.f x y z = some (decide (x ≥ y ∧ x ≤ z)) := by
  unfold spec_l1In.f
  by_cases h : x ≥ y <;> simp only [h, if_true, if_false, true_and, false_and, decide_false]
def spB (x : S61) : Bool := decide (x.f0 ≥ 0) && (decide (x.f0 < x.f1) && decide (x.f1 ≤ 1000000))
theorem sspan_eq (x : S61) : spec_l2Span.f x.f0 x.f1 = some (spB x) := by
  unfold spec_l2Span.f spB
  by_cases h1 : x.f0 ≥ 0 <;> by_cases h2 : x.f0 < x.f1 <;> simp [h1, h2]
theorem span_eq (x : S61) : impl_isSpan.f x.f0 x.f1 = some (spB x) := by
  unfold impl_isSpan.f spB
  by_cases h1 : x.f0 ≥ 0 <;> by_cases h2 : x.f0 < x.f1 <;> simp [h1, h2]
/-- What is asked at place j. -/
def atB (l : List S61) (j : Nat) : Bool := spB (rd_T61 l (j : Int)) && (decide (j = 0) || decide ((rd_T61 l ((j : Int) - 1)).f1 < (rd_T61 l (j : Int)).f0))
def goodB (l : List S61) : Bool := (List.range l.length).all (atB l) && decide ((l.length : Int) ≤ 20)
theorem sgood_ev (l : List S61) (hl : l.length ≤ 1048576) : Ev (fun k => spec_GoodSpans.f k l) (goodB l) := by
  refine Ev.congr (fun k => rfl) (allI_ev (fun k i => spec_GoodSpans.l0 k l l (l.length : Int) i) l.length (atB l) _ (by omega) (fun k j hj => ?_) (fun k => ?_))
  · simp only [spec_GoodSpans.l0, sspan_eq, Option.bind_some]
    rw [if_pos (by omega), if_pos (by omega), if_pos (by omega)]
    by_cases h1 : spB (rd_T61 l (j : Int)) = true
    · rw [if_pos h1]
      by_cases h0 : j = 0
      · have hA : atB l j = true := by
          unfold atB
          rw [h1, decide_eq_true h0]
          rfl
        rw [if_pos hA, if_neg (by omega)]
      · rw [if_pos (by omega), w64 (by omega) (by omega), if_pos (by omega), if_pos (by omega)]
        by_cases h2 : (rd_T61 l ((j : Int) - 1)).f1 < (rd_T61 l (j : Int)).f0
        · have hA : atB l j = true := by
            unfold atB
            rw [h1, decide_eq_true h2]
            simp
          rw [if_neg (by omega), if_pos hA]
        · have hA : ¬ atB l j = true := by
            unfold atB
            rw [h1, decide_eq_false h2, decide_eq_false h0]
            simp
          rw [if_pos (by omega), if_neg hA]
    · have hA : ¬ atB l j = true := by
        unfold atB
        rw [Bool.eq_false_iff.2 h1]
        simp
      rw [if_neg h1, if_neg hA]
  · simp [spec_GoodSpans.l0]
theorem good_ev (l : List S61) (hl : l.length ≤ 1048576) : Ev (fun k => impl_areSpans.f k l) (goodB l) := by
  unfold impl_areSpans.f goodB
  by_cases h : (l.length : Int) ≤ 20
  · simp only [if_neg (show ¬ (l.length : Int) > 20 by omega), h, decide_true]
    refine allI_ev (fun k i => impl_areSpans.l0 k l l (l.length : Int) i) l.length (atB l) true (by omega) (fun k j hj => ?_) (fun k => ?_)
    · simp only [impl_areSpans.l0, span_eq, Option.bind_some]
      rw [if_pos (by omega), if_pos (by omega), if_pos (by omega)]
      by_cases h1 : spB (rd_T61 l (j : Int)) = true
      · rw [if_pos h1]
        by_cases h0 : j = 0
        · have hA : atB l j = true := by
            unfold atB
            rw [h1, decide_eq_true h0]
            rfl
          rw [if_pos hA, if_neg (by omega)]
        · rw [if_pos (by omega), w64 (by omega) (by omega), if_pos (by omega), if_pos (by omega)]
          by_cases h2 : (rd_T61 l ((j : Int) - 1)).f1 < (rd_T61 l (j : Int)).f0
          · have hA : atB l j = true := by
              unfold atB
              rw [h1, decide_eq_true h2]
              simp
            rw [if_neg (by omega), if_pos hA]
          · have hA : ¬ atB l j = true := by
              unfold atB
              rw [h1, decide_eq_false h2, decide_eq_false h0]
              simp
            rw [if_pos (by omega), if_neg hA]
      · have hA : ¬ atB l j = true := by
          unfold atB
          rw [Bool.eq_false_iff.2 h1]
          simp
        rw [if_neg h1, if_neg hA]
    · simp [impl_areSpans.l0]
  · simp only [if_pos (show (l.length : Int) > 20 by omega), h, decide_false, Bool.and_false]
    exact Ev.now _
theorem good_at {l : List S61} (h : goodB l = true) : l.length ≤ 20 ∧ (∀ j : Nat, (hj : j < l.length) → 0 ≤ l[j].f0 ∧ l[j].f0 < l[j].f1 ∧ l[j].f1 ≤ 1000000) ∧ ∀ j : Nat, (hj : j + 1 < l.length) → (l[j]'(by omega)).f1 < l[j + 1].f0 := by
  unfold goodB at h
  rw [Bool.and_eq_true] at h
  have h1 := List.all_eq_true.1 h.1
  have hA : ∀ j : Nat, (hj : j < l.length) → spB l[j] = true ∧ (j = 0 ∨ (rd_T61 l ((j : Int) - 1)).f1 < l[j].f0) := fun j hj => by
    have h2 := h1 j (List.mem_range.2 hj)
    have e : rd_T61 l (j : Int) = l[j] := getD_at l j hj _
    unfold atB at h2
    rw [e, Bool.and_eq_true, Bool.or_eq_true] at h2
    refine ⟨h2.1, h2.2.imp (fun h => of_decide_eq_true h) (fun h => of_decide_eq_true h)⟩
  refine ⟨by have := of_decide_eq_true h.2; omega, fun j hj => ?_, fun j hj => ?_⟩
  · have h2 := (hA j hj).1
    unfold spB at h2
    rw [Bool.and_eq_true, Bool.and_eq_true] at h2
    exact ⟨of_decide_eq_true h2.1, of_decide_eq_true h2.2.1, of_decide_eq_true h2.2.2⟩
  · have h2 := (hA (j + 1) hj).2
    have e : rd_T61 l (((j + 1 : Nat) : Int) - 1) = l[j]'(by omega) := by
      rw [show (((j + 1 : Nat) : Int) - 1) = (j : Int) by omega]
      exact getD_at l j (by omega) _
    rw [e] at h2
    omega
def cvSpan (x : S63) : S61 := ⟨x.f0, x.f1⟩
theorem szSpan_eq (l : List S63) (hl : l.length ≤ maxLen) : laws_szSpanS.f l 1048576 = some (if (l.length : Int) ≤ 1048576 then 1048576 - (l.length : Int) else -1) := by
  unfold laws_szSpanS.f
  unfold maxLen at hl
  rw [w64 (by omega) (by omega)]
  by_cases h : (l.length : Int) ≤ 1048576
  · rw [if_neg (by omega), if_pos h]
  · rw [if_pos (by omega), if_neg h]
theorem toSpan_ev (l : List S63) (hl : l.length ≤ 1048576) : Ev (fun k => laws_toSpanS.f k l) (l.map cvSpan) := by
  refine Ev.congr (fun k => ?_) (fill_ev (fun k x0 x3 x4 => laws_toSpanS.l0 k x0 x3 x4) cvSpan z63 (fun k x0 x3 x4 => rfl) l z61 (by omega))
  unfold laws_toSpanS.f
  rw [if_pos (by omega), if_pos (by omega), Int.toNat_natCast]
theorem eqSpan_ev (l : List S61) (hl : l.length ≤ 1048576) : Ev (fun k => laws_eqSpanS.f k l l) true := by
  refine Ev.congr (fun k => ?_) (eqr_ev (fun k x0 x1 x5 => laws_eqSpanS.l0 k x0 x1 x5) l (fun k j hj => ?_) (fun k => ?_) (by omega))
  · unfold laws_eqSpanS.f
    rw [if_pos rfl]
  · simp only [laws_eqSpanS.l0]
    rw [if_pos (by omega), if_pos (by omega), if_pos (by omega)]
    simp [laws_eqSpan.f]
  · simp [laws_eqSpanS.l0]
def mkSpan (m : Int) : S61 := ⟨m, m + 1⟩
theorem markSpan_ev (l : List S61) (hl : l.length ≤ 1048576) : Ev (fun k => laws_markSpanS.f k l 1) (1 + (2 : Nat) * (l.length : Int), (List.range l.length).map fun j : Nat => mkSpan (1 + ((2 : Nat) : Int) * (j : Int))) := by
  refine Ev.congr (fun k => rfl) (mark_ev (fun k x0 x1 x5 => laws_markSpanS.l0 k x0 x1 x5) 2 mkSpan 1 (by omega) (by omega) (by omega) (fun k x0 x1 j hj h0 h1 => ?_) (fun k x0 x1 => ?_) l (by omega))
  · simp only [laws_markSpanS.l0]
    rw [if_pos (by omega), if_pos (by omega)]
    simp only [Option.bind_some, Int.toNat_natCast, rd_T61, List.getD_eq_getElem?_getD, List.set_set, List.getElem?_set_self hj, Option.getD_some]
    simp only [w64 (i := x1 + 1) (by omega) (by omega), w64 (i := x1 + 1 + 1) (by omega) (by omega)]
    simp only [show x1 + 1 + 1 = x1 + 2 by omega]
    rfl
  · simp [laws_markSpanS.l0]
theorem heldSpan_ev (n : Nat) (hn : n ≤ 1048576) : Ev (fun k => laws_heldSpanS.f k ((List.range n).map fun j : Nat => mkSpan (1 + ((2 : Nat) : Int) * (j : Int))) 1) (1 + (2 : Nat) * (n : Int)) := by
  refine Ev.congr (fun k => rfl) (held_ev (fun k x0 x1 x5 => laws_heldSpanS.l0 k x0 x1 x5) 2 mkSpan 1 (by omega) (by omega) (by omega) (fun k x0 x1 j hx hj h0 h1 => ?_) (fun k x0 x1 => ?_) n (by omega))
  · simp only [laws_heldSpanS.l0]
    rw [if_pos (by omega), if_pos (by omega)]
    simp only [Int.toNat_natCast, rd_T61, List.getD_eq_getElem?_getD, hx, Option.getD_some, mkSpan, w64 (i := x1 + 1) (by omega) (by omega), w64 (i := x1 + 1 + 1) (by omega) (by omega), if_true]
    congr 1
    omega
  · simp [laws_heldSpanS.l0]
theorem rest_l (a : Int) (y : List S61) (hy : y.length ≤ 1000) (acc : List S61) : ∀ (d j : Nat) (n : Int), j ≤ y.length → y.length - j = d → a ≤ n → Ev (fun k => impl_missing.l0 k a acc n y (y.length : Int) (j : Int)) acc
  | 0, j, n, hj, hd, h => by
    refine Ev.step (f := fun _ => some acc) (fun k => ?_) (Ev.now _)
    simp only [impl_missing.l0]
    rw [if_neg (by omega)]
  | d + 1, j, n, hj, hd, h => by
    have hj2 : j < y.length := by omega
    have hm : ¬ n < mn (rd_T61 y (j : Int)).f0 a := by unfold mn; split <;> omega
    have hx : a ≤ mx n (rd_T61 y (j : Int)).f1 := by unfold mx; split <;> omega
    refine Ev.step (fun k => ?_) (rest_l a y hy acc d (j + 1) (mx n (rd_T61 y (j : Int)).f1) (by omega) (by omega) hx)
    simp only [impl_missing.l0]
    rw [if_pos (by omega), if_pos (by omega), if_pos (by omega), if_neg hm, w64s hj2 (by omega)]
theorem miss_l (l : List S61) (a : Int) (hg : goodB l = true) : ∀ (d j : Nat) (acc : List S61) (n : Int), j ≤ l.length → l.length - j = d → acc.length ≤ j → (∀ h : j < l.length, n ≤ l[j].f0) →
    ∃ r : List S61, r.length ≤ 21 ∧ Ev (fun k => spec_l2Missing.l0 k a acc n l (l.length : Int) (j : Int)) r ∧ Ev (fun k => impl_missing.l0 k a acc n (l ++ [⟨a, a⟩]) ((l ++ [(⟨a, a⟩ : S61)]).length : Int) (j : Int)) r
  | 0, j, acc, n, hj, hd, hacc, hn => by
    obtain ⟨h20, _, _⟩ := good_at hg
    obtain rfl : j = l.length := by omega
    have e : rd_T61 (l ++ [⟨a, a⟩]) (l.length : Int) = ⟨a, a⟩ := by
      refine (getD_at (l ++ [⟨a, a⟩]) l.length (by simp) _).trans ?_
      simp
    have hm : mn a a = a := by unfold mn; split <;> rfl
    have hlen : (l ++ [(⟨a, a⟩ : S61)]).length = l.length + 1 := by simp
    by_cases h : n < a
    · refine ⟨acc ++ [⟨n, a⟩], by simp; omega, Ev.step (f := fun _ => some (acc ++ [⟨n, a⟩])) (fun k => ?_) (Ev.now _), Ev.step (fun k => ?_) (rest_l a (l ++ [⟨a, a⟩]) (by omega) (acc ++ [⟨n, a⟩]) 0 (l.length + 1) (mx n a) (by omega) (by omega) (by unfold mx; split <;> omega))⟩
      · simp only [spec_l2Missing.l0]
        rw [if_neg (by omega), if_pos h, if_pos (by omega)]
      · simp only [impl_missing.l0, e, hm]
        rw [if_pos (by omega), if_pos (by omega), if_pos (by omega), if_pos h, if_pos (by omega), w64s (n := l.length + 1) (by omega) (by omega)]
    · refine ⟨acc, by omega, Ev.step (f := fun _ => some acc) (fun k => ?_) (Ev.now _), rest_l a (l ++ [⟨a, a⟩]) (by omega) acc 1 l.length n (by omega) (by omega) (by omega)⟩
      simp only [spec_l2Missing.l0]
      rw [if_neg (by omega), if_neg h]
  | d + 1, j, acc, n, hj, hd, hacc, hn => by
    obtain ⟨h20, hsp, hgap⟩ := good_at hg
    have hj2 : j < l.length := by omega
    obtain ⟨p0, p1, p2⟩ := hsp j hj2
    have hn := hn hj2
    have hlen : (l ++ [(⟨a, a⟩ : S61)]).length = l.length + 1 := by simp
    have e1 : rd_T61 l (j : Int) = l[j] := getD_at l j hj2 _
    have e2 : rd_T61 (l ++ [⟨a, a⟩]) (j : Int) = l[j] := by
      refine (getD_at (l ++ [⟨a, a⟩]) j (by omega) _).trans ?_
      exact List.getElem_append_left hj2
    by_cases hge : l[j].f0 ≥ a
    · have hm : mn l[j].f0 a = a := by unfold mn; split <;> omega
      have hx : a ≤ mx n l[j].f1 := by unfold mx; split <;> omega
      by_cases h : n < a
      · refine ⟨acc ++ [⟨n, a⟩], by simp; omega, Ev.step (f := fun _ => some (acc ++ [⟨n, a⟩])) (fun k => ?_) (Ev.now _), Ev.step (fun k => ?_) (rest_l a (l ++ [⟨a, a⟩]) (by omega) (acc ++ [⟨n, a⟩]) (l.length - j) (j + 1) (mx n l[j].f1) (by omega) (by omega) hx)⟩
        · simp only [spec_l2Missing.l0, e1]
          rw [if_pos (by omega), if_pos (by omega), if_pos (by omega), if_pos hge, if_pos h, if_pos (by omega)]
        · simp only [impl_missing.l0, e2, hm]
          rw [if_pos (by omega), if_pos (by omega), if_pos (by omega), if_pos h, if_pos (by omega), w64s hj2 (by omega)]
      · refine ⟨acc, by omega, Ev.step (f := fun _ => some acc) (fun k => ?_) (Ev.now _), rest_l a (l ++ [⟨a, a⟩]) (by omega) acc (l.length + 1 - j) j n (by omega) (by omega) (by omega)⟩
        simp only [spec_l2Missing.l0, e1]
        rw [if_pos (by omega), if_pos (by omega), if_pos (by omega), if_pos hge, if_neg h]
    · have hm : mn l[j].f0 a = l[j].f0 := by unfold mn; split <;> omega
      have hx : mx n l[j].f1 = l[j].f1 := by unfold mx; split <;> omega
      by_cases h : n < l[j].f0
      · obtain ⟨r, hr, u, v⟩ := miss_l l a hg d (j + 1) (acc ++ [⟨n, l[j].f0⟩]) l[j].f1 (by omega) (by omega) (by simp; omega) (fun h => by have := hgap j h; omega)
        refine ⟨r, hr, Ev.step (fun k => ?_) u, Ev.step (fun k => ?_) v⟩
        · simp only [spec_l2Missing.l0, e1]
          rw [if_pos (by omega), if_pos (by omega), if_pos (by omega), if_neg hge, if_pos h, if_pos (by omega), w64s hj2 (by omega)]
        · simp only [impl_missing.l0, e2, hm, hx]
          rw [if_pos (by omega), if_pos (by omega), if_pos (by omega), if_pos h, if_pos (by omega), w64s hj2 (by omega)]
      · obtain ⟨r, hr, u, v⟩ := miss_l l a hg d (j + 1) acc l[j].f1 (by omega) (by omega) (by omega) (fun h => by have := hgap j h; omega)
        refine ⟨r, hr, Ev.step (fun k => ?_) u, Ev.step (fun k => ?_) v⟩
        · simp only [spec_l2Missing.l0, e1]
          rw [if_pos (by omega), if_pos (by omega), if_pos (by omega), if_neg hge, if_neg h, w64s hj2 (by omega)]
        · simp only [impl_missing.l0, e2, hm, hx]
          rw [if_pos (by omega), if_pos (by omega), if_pos (by omega), if_neg h, w64s hj2 (by omega)]
theorem few_eq (r : List S61) : impl_few.f r = spec_l2Tell.f r := rfl
theorem tell_eq (r : List S61) (hr : r.length ≤ 1048576) : ∃ g b, spec_l2Tell.f r = some (g, b) ∧ g.length ≤ 1048576 := by
  unfold spec_l2Tell.f
  by_cases h : (r.length : Int) > 20
  · exact ⟨[], false, by rw [if_pos h], by simp⟩
  · exact ⟨r, true, by rw [if_neg h], hr⟩
theorem both_ev (l : List S61) (a : Int) (hl : l.length ≤ 1048576) : ∃ g b, Ev (fun k => spec_MissingIn.f k l a) (g, b) ∧ Ev (fun k => impl_MissingIn.f k l a) (g, b) ∧ g.length ≤ 1048576 := by
  unfold spec_MissingIn.f impl_MissingIn.f
  simp only [sin_eq, in_eq, Option.bind_some]
  have hs := sgood_ev l hl
  have hi := good_ev l hl
  by_cases hg : goodB l = true
  · rw [hg] at hs hi
    by_cases ha : a ≥ 0 ∧ a ≤ 1000000
    · obtain ⟨h20, hsp, hgap⟩ := good_at hg
      obtain ⟨r, hr, u, v⟩ := miss_l l a hg l.length 0 [] 0 (by omega) rfl (by simp) (fun h => (hsp 0 h).1)
      obtain ⟨g, b, ht, hg2⟩ := tell_eq r (by omega)
      refine ⟨g, b, Ev.bind hs ?_, Ev.bind hi ?_, hg2⟩
      · simp only [if_true, decide_eq_true ha, Bool.not_true]
        refine Ev.step (f := fun k => (spec_l2Missing.f k l a).bind fun t => (spec_l2Tell.f t).bind fun bt => some (bt.1, bt.2)) (fun k => rfl) (Ev.bind (f := fun k t => (spec_l2Tell.f t).bind fun bt => some (bt.1, bt.2)) (Ev.congr (fun k => rfl) u) ?_)
        simp only [ht, Option.bind_some]
        exact Ev.now _
      · simp only [if_true, decide_eq_true ha, Bool.not_true]
        refine Ev.step (f := fun k => (impl_missing.f k l a).bind fun t => (impl_few.f t).bind fun bt => some (bt.1, bt.2)) (fun k => rfl) (Ev.bind (f := fun k t => (impl_few.f t).bind fun bt => some (bt.1, bt.2)) (Ev.congr (fun k => ?_) v) ?_)
        · unfold impl_missing.f impl_Span.f
          simp only [Option.bind_some, List.nil_append]
          rw [if_pos (show ([] : List S61).length + l.length < 8796093022208 by simp; omega), Option.bind_some, if_pos (show l.length < 8796093022208 by omega)]
          rfl
        · simp only [few_eq, ht, Option.bind_some]
          exact Ev.now _
    · refine ⟨[], false, Ev.bind hs ?_, Ev.bind hi ?_, by simp⟩
      · simp only [if_true, decide_eq_false ha, Bool.not_false]
        exact Ev.step (f := fun _ => some (([] : List S61), false)) (fun k => rfl) (Ev.now _)
      · simp only [if_true, decide_eq_false ha, Bool.not_false]
        exact Ev.step (f := fun _ => some (([] : List S61), false)) (fun k => rfl) (Ev.now _)
  · rw [Bool.eq_false_iff.2 hg] at hs hi
    exact ⟨[], false, Ev.bind hs (Ev.step (f := fun _ => some (([] : List S61), false)) (fun k => rfl) (Ev.now _)), Ev.bind hi (Ev.step (f := fun _ => some (([] : List S61), false)) (fun k => rfl) (Ev.now _)), by simp⟩
theorem FnExactMissingIn : laws_FnExactMissingIn.Pure := by
  intro l a hl _ _
  apply Ev.rounds
  unfold laws_FnExactMissingIn.f
  simp only [szSpan_eq l hl, Option.bind_some]
  by_cases h : (l.length : Int) ≤ 1048576
  case neg =>
    simp only [if_neg h]
    exact Ev.now _
  simp only [if_pos h, if_neg (show ¬ (1048576 - (l.length : Int) < 0) by omega)]
  have hl' : l.length ≤ 1048576 := by omega
  have hm : (l.map cvSpan).length ≤ 1048576 := by simpa using hl'
  have hto := toSpan_ev l hl'
  have heq := eqSpan_ev (l.map cvSpan) hm
  generalize l.map cvSpan = x at hto heq hm
  refine Ev.bind hto ?_
  obtain ⟨g, b, h1, h2, hg⟩ := both_ev x a hm
  refine Ev.bind h1 (Ev.bind hto (Ev.bind h2 ?_))
  refine Ev.bind (eqSpan_ev g hg) ?_
  simp only [if_true, bne_self_eq_false]
  refine Ev.step (fun k => by simp only [laws_FnExactMissingIn.j0]; rfl) ?_
  simp only [Bool.false_eq_true, if_false]
  refine Ev.bind hto (Ev.bind heq ?_)
  simp only [if_true]
  refine Ev.bind (markSpan_ev x hm) ?_
  simp only [if_neg (show ¬ (1 + ((2 : Nat) : Int) * (x.length : Int) < 0) by omega)]
  refine Ev.bind (eqSpan_ev g hg) ?_
  simp only [if_true, bne_self_eq_false]
  refine Ev.step (fun k => by simp only [laws_FnExactMissingIn.j1]; rfl) ?_
  simp only [Bool.false_eq_true, if_false]
  refine Ev.bind (markSpan_ev g hg) (Ev.bind (heldSpan_ev g.length hg) ?_)
  simp only [if_neg (show ¬ (1 + ((2 : Nat) : Int) * (g.length : Int) < 0) by omega), if_true]
  refine Ev.bind hto (Ev.bind h2 (Ev.bind (eqSpan_ev g hg) ?_))
  simp only [if_true, bne_self_eq_false]
  refine Ev.step (fun k => by simp only [laws_FnExactMissingIn.j2]; rfl) ?_
  simp only [Bool.false_eq_true, if_false]
  refine Ev.bind (heldSpan_ev g.length hg) ?_
  simp only [if_neg (show ¬ (1 + ((2 : Nat) : Int) * (g.length : Int) < 0) by omega), if_true]
  exact Ev.now _

end Go.Proofs.Ytmffllogaboklab.Pure
