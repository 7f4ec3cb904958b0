/- The pure statement of the law FnExactDemandIn: over lists and numbers the law's function answers true. No conditions beyond those typed. -/
import Derived.Test.YtmffllogabokladX3
import Derived.Test.YtmffllogabokladLib
namespace Go.Proofs.Ytmffllogaboklad.Pure
open Go.RowKit Go.Proofs.Ytmffllogaboklad.X Go.Proofs.YtmffllogabokladW.PrintWords Go.Proofs.YtmffllogabokladLib
set_option linter.unusedVariables false
set_option linter.unusedSimpArgs false

theorem in_eq (x y z : Int) : impl_in.f x y z = some (decide (x ≥ y ∧ x ≤ z)) := by
  unfold impl_in.f
  by_cases h : x ≥ y <;> simp only [h, if_true, if_false, true_and, false_and, decide_false]
theorem sin_eq (x y z : Int) : spec_l1In.f x y z = some (decide (x ≥ y ∧ x ≤ z)) := by
  unfold spec_l1In.f
  by_cases h : x ≥ y <;> simp only [h, if_true, if_false, true_and, false_and, decide_false]
def okB (x : S46) : Bool := decide (x.f0 ≥ 0 ∧ x.f0 ≤ 23) && (decide (x.f1 ≥ 1 ∧ x.f1 ≤ 6) && decide (x.f2 ≥ wrap64 (x.f0 + 1) ∧ x.f2 ≤ 24))
theorem sjob_eq (x : S46) : spec_l4Job.f x.f0 x.f1 x.f2 = some (okB x) := by
  unfold spec_l4Job.f okB
  simp only [sin_eq, Option.bind_some]
  by_cases h1 : x.f0 ≥ 0 ∧ x.f0 ≤ 23 <;> by_cases h2 : x.f1 ≥ 1 ∧ x.f1 ≤ 6 <;> simp [h1, h2]
theorem ijob_eq (x : S46) : impl_areJobs_1.f x.f0 x.f1 x.f2 = some (!okB x) := by
  unfold impl_areJobs_1.f impl_isJob.f okB
  simp only [in_eq, Option.bind_some]
  by_cases h1 : x.f0 ≥ 0 ∧ x.f0 ≤ 23 <;> by_cases h2 : x.f1 ≥ 1 ∧ x.f1 ≤ 6 <;> simp [h1, h2]
def goodB (l : List S46) : Bool := l.all okB && decide ((l.length : Int) ≤ 8)
theorem spec_ev (l : List S46) (hl : l.length ≤ 1048576) : Ev (fun k => spec_GoodJobs.f k l) (goodB l) := by
  refine Ev.congr (fun k => rfl) (all_ev (fun k i => spec_GoodJobs.l0 k l l (l.length : Int) i) okB _ l (by omega) (fun k j hj => ?_) (fun k => ?_))
  · simp only [spec_GoodJobs.l0, sjob_eq, Option.bind_some]
    rw [if_pos (by omega), if_pos (by omega), if_pos (by omega)]
    simp only [rd_T46, getD_at l j hj]
  · simp [spec_GoodJobs.l0]
theorem idx_ev (l : List S46) (hl : l.length ≤ 1048576) : ∃ r, Ev (fun k => impl_Job_52.f k l) r ∧ decide (r ≥ 0) = l.any fun x => !okB x := by
  refine any_ev (fun k i => impl_Job_52.l0 k l (l.length : Int) i) (fun x => !okB x) l (by omega) (fun k j hj => ?_) (fun k => ?_)
  · simp only [impl_Job_52.l0, ijob_eq, Option.bind_some]
    rw [if_pos (by omega), if_pos (by omega), if_pos (by omega)]
    simp only [rd_T46, getD_at l j hj]
  · simp [impl_Job_52.l0]
theorem impl_ev (l : List S46) (hl : l.length ≤ 1048576) : Ev (fun k => impl_areJobs.f k l) (goodB l) := by
  unfold impl_areJobs.f impl_Job_44.f goodB
  by_cases h : (l.length : Int) ≤ 8
  · simp only [h, if_true, decide_true, Bool.and_true]
    obtain ⟨r, hr, hd⟩ := idx_ev l hl
    refine Ev.bind (f := fun _ t => some (!t)) (a := decide (r ≥ 0)) (Ev.bind (f := fun _ t => some (decide (t ≥ 0))) hr (Ev.now _)) ?_
    rw [hd, not_any]
    exact Ev.now _
  · simp only [h, if_false, decide_false, Bool.and_false]
    exact Ev.now _
theorem good_at {l : List S46} (h : goodB l = true) : l.length ≤ 8 ∧ ∀ (j : Nat), j < l.length → 0 ≤ (rd_T46 l (j : Int)).f0 ∧ (rd_T46 l (j : Int)).f0 ≤ 23 ∧ 1 ≤ (rd_T46 l (j : Int)).f1 ∧ (rd_T46 l (j : Int)).f1 ≤ 6 ∧ 1 ≤ (rd_T46 l (j : Int)).f2 ∧ (rd_T46 l (j : Int)).f2 ≤ 24 := by
  unfold goodB at h
  rw [Bool.and_eq_true] at h
  have h8 := of_decide_eq_true h.2
  refine ⟨by omega, fun j hj => ?_⟩
  have h1 := List.all_eq_true.1 h.1 (l[j]) (List.getElem_mem hj)
  have e : rd_T46 l (j : Int) = l[j] := getD_at l j hj _
  rw [e]
  unfold okB at h1
  simp only [Bool.and_eq_true, decide_eq_true_eq] at h1
  obtain ⟨⟨a, b⟩, ⟨c, d⟩, f, g⟩ := h1
  rw [w64 (by omega) (by omega)] at f
  exact ⟨by omega, by omega, by omega, by omega, by omega, by omega⟩
theorem dem_eq : ∀ (k : Nat) (a b c : Int) (l : List S46) (n i : Int), impl_demand.l0 k a b c l n i = spec_l4Demand.l0 k a b c l n i
  | 0, _, _, _, _, _, _ => rfl
  | k + 1, a, b, c, l, n, i => by simp only [impl_demand.l0, spec_l4Demand.l0, dem_eq k]
theorem dem_l (a b : Int) (l : List S46) (hl : l.length ≤ 1048576) : ∀ (d j : Nat) (c : Int), j ≤ l.length → l.length - j = d → ∃ r, Ev (fun k => spec_l4Demand.l0 k a b c l (l.length : Int) (j : Int)) r
  | 0, j, c, hj, hd => by
    obtain rfl : j = l.length := by omega
    exact ⟨c, Ev.step (f := fun _ => some c) (fun k => by simp [spec_l4Demand.l0]) (Ev.now _)⟩
  | d + 1, j, c, hj, hd => by
    have hjl : j < l.length := by omega
    by_cases h : (rd_T46 l (j : Int)).f0 ≥ a ∧ (rd_T46 l (j : Int)).f2 ≤ b
    · obtain ⟨r, hr⟩ := dem_l a b l hl d (j + 1) (wrap64 (c + (rd_T46 l (j : Int)).f1)) (by omega) (by omega)
      refine ⟨r, Ev.step (fun k => ?_) hr⟩
      simp only [spec_l4Demand.l0]
      rw [if_pos (by omega), if_pos (by omega), if_pos (by omega), if_pos h.1, if_pos h.2, w64s hjl (by omega)]
    · obtain ⟨r, hr⟩ := dem_l a b l hl d (j + 1) c (by omega) (by omega)
      refine ⟨r, Ev.step (fun k => ?_) hr⟩
      simp only [spec_l4Demand.l0]
      rw [if_pos (by omega), if_pos (by omega), if_pos (by omega), w64s hjl (by omega)]
      by_cases h1 : (rd_T46 l (j : Int)).f0 ≥ a
      · rw [if_pos h1, if_neg (fun h2 => h ⟨h1, h2⟩)]
      · rw [if_neg h1]
theorem dem_ev (l : List S46) (a b : Int) (hl : l.length ≤ 1048576) : ∃ r, Ev (fun k => spec_l4Demand.f k l a b) r ∧ Ev (fun k => impl_demand.f k l a b) r := by
  obtain ⟨r, hr⟩ := dem_l a b l hl l.length 0 0 (by omega) rfl
  exact ⟨r, hr, Ev.congr (fun k => dem_eq k a b 0 l (l.length : Int) 0) hr⟩
def cvJob (x : S49) : S46 := ⟨x.f0, x.f1, x.f2⟩
theorem szJob_eq (l : List S49) (hl : l.length ≤ maxLen) : laws_szJobS.f l 1048576 = some (if (l.length : Int) ≤ 1048576 then 1048576 - (l.length : Int) else -1) := by
  unfold laws_szJobS.f
  unfold maxLen at hl
  rw [w64 (by omega) (by omega)]
  by_cases h : (l.length : Int) ≤ 1048576
  · rw [if_neg (by omega), if_pos h]
  · rw [if_pos (by omega), if_neg h]
theorem toJob_ev (l : List S49) (hl : l.length ≤ 1048576) : Ev (fun k => laws_toJobS.f k l) (l.map cvJob) := by
  refine Ev.congr (fun k => ?_) (fill_ev (fun k x0 x3 x4 => laws_toJobS.l0 k x0 x3 x4) cvJob z49 (fun k x0 x3 x4 => rfl) l z46 (by omega))
  unfold laws_toJobS.f
  rw [if_pos (by omega), if_pos (by omega), Int.toNat_natCast]
theorem eqJob_ev (l : List S46) (hl : l.length ≤ 1048576) : Ev (fun k => laws_eqJobS.f k l l) true := by
  refine Ev.congr (fun k => ?_) (eqr_ev (fun k x0 x1 x5 => laws_eqJobS.l0 k x0 x1 x5) l (fun k j hj => ?_) (fun k => ?_) (by omega))
  · unfold laws_eqJobS.f
    rw [if_pos rfl]
  · simp only [laws_eqJobS.l0]
    rw [if_pos (by omega), if_pos (by omega), if_pos (by omega)]
    simp [laws_eqJob.f]
  · simp [laws_eqJobS.l0]
theorem both_ev (l : List S46) (a b : Int) (ha : (Lit.int .i64 a).wf = true) (hb : (Lit.int .i64 b).wf = true) (hl : l.length ≤ 1048576) : ∃ r, Ev (fun k => spec_DemandIn.f k l a b) r ∧ Ev (fun k => impl_DemandIn.f k l a b) r := by
  have ha' := wfB ha
  have hb' := wfB hb
  unfold spec_DemandIn.f impl_DemandIn.f
  simp only [in_eq, sin_eq, Option.bind_some]
  by_cases hg : goodB l = true
  · have hs := spec_ev l hl
    have hi := impl_ev l hl
    rw [hg] at hs hi
    by_cases h : 0 ≤ a ∧ a < b ∧ b ≤ 24
    · obtain ⟨r, h1, h2⟩ := dem_ev l a b hl
      refine ⟨(r, true), Ev.bind hs ?_, Ev.bind hi ?_⟩
      · simp only [if_true, decide_eq_true (show a ≥ 0 ∧ a ≤ 24 by omega), w64 (i := a + 1) (by omega) (by omega), decide_eq_true (show b ≥ a + 1 ∧ b ≤ 24 by omega)]
        exact Ev.bind h1 (Ev.now _)
      · simp only [if_true, decide_eq_true (show b ≥ 0 ∧ b ≤ 24 by omega), w64 (i := b - 1) (by omega) (by omega), decide_eq_true (show a ≥ 0 ∧ a ≤ b - 1 by omega)]
        exact Ev.bind h2 (Ev.now _)
    · refine ⟨(0, false), Ev.bind hs ?_, Ev.bind hi ?_⟩
      · by_cases h1 : a ≥ 0 ∧ a ≤ 24
        · simp only [if_true, decide_eq_true h1, w64 (i := a + 1) (by omega) (by omega), decide_eq_false (show ¬ (b ≥ a + 1 ∧ b ≤ 24) by omega)]
          exact Ev.now _
        · simp only [if_true, decide_eq_false h1]
          exact Ev.now _
      · by_cases h1 : b ≥ 0 ∧ b ≤ 24
        · simp only [if_true, decide_eq_true h1, w64 (i := b - 1) (by omega) (by omega), decide_eq_false (show ¬ (a ≥ 0 ∧ a ≤ b - 1) by omega)]
          exact Ev.now _
        · simp only [if_true, decide_eq_false h1]
          exact Ev.now _
  · have hs := spec_ev l hl
    have hi := impl_ev l hl
    rw [Bool.eq_false_iff.2 hg] at hs hi
    exact ⟨(0, false), Ev.bind hs (Ev.now _), Ev.bind hi (Ev.now _)⟩
theorem FnExactDemandIn : laws_FnExactDemandIn.Pure := by
  intro l a b hl _ ha hb
  apply Ev.rounds
  unfold laws_FnExactDemandIn.f
  simp only [szJob_eq l hl, Option.bind_some]
  by_cases h : (l.length : Int) ≤ 1048576
  case neg =>
    simp only [if_neg h]
    exact Ev.now _
  simp only [if_pos h, if_neg (show ¬ (1048576 - (l.length : Int) < 0) by omega)]
  have hl' : l.length ≤ 1048576 := by omega
  have hm : (l.map cvJob).length ≤ 1048576 := by simpa using hl'
  have hto := toJob_ev l hl'
  have heq := eqJob_ev (l.map cvJob) hm
  generalize l.map cvJob = x at hto heq hm
  refine Ev.bind hto ?_
  obtain ⟨r, h1, h2⟩ := both_ev x a b ha hb hm
  refine Ev.bind h1 (Ev.bind hto (Ev.bind h2 ?_))
  simp only [if_true, bne_self_eq_false, Bool.false_eq_true, if_false]
  refine Ev.step (f := fun k => (laws_toJobS.f k l).bind fun t => (laws_eqJobS.f k x t).bind fun u => if u = true then some true else some false) (fun k => rfl) ?_
  exact Ev.bind hto (Ev.bind heq (Ev.now _))

end Go.Proofs.Ytmffllogaboklad.Pure
