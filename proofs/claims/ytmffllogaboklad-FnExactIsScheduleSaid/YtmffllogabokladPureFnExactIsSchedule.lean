/- The pure statement of the law FnExactIsSchedule: over lists and numbers the law's function answers true. No conditions beyond those typed. -/
import Derived.Test.YtmffllogabokladP4
import Derived.Test.YtmffllogabokladLib
namespace Go.Proofs.Ytmffllogaboklad.Pure
open Go.RowKit Go.Proofs.Ytmffllogaboklad.P Go.Proofs.YtmffllogabokladW.PrintWords Go.Proofs.YtmffllogabokladLib
set_option linter.unusedVariables false
set_option linter.unusedSimpArgs false

theorem in_eq (x y z : Int) : impl_in.f x y z = some (decide (x ≥ y ∧ x ≤ z)) := by
  unfold impl_in.f
  by_cases h : x ≥ y <;> simp only [h, if_true, if_false, true_and, false_and, decide_false]
theorem sin_eq (x y z : Int) : spec_l1In.f x y z = some (decide (x ≥ y ∧ x ≤ z)) := by
  unfold spec_l1In.f
  by_cases h : x ≥ y <;> simp only [h, if_true, if_false, true_and, false_and, decide_false]
def okB (x : S46) : Bool := decide (x.f0 ≥ 0 ∧ x.f0 ≤ 23) && (decide (x.f1 ≥ 1 ∧ x.f1 ≤ 6) && decide (x.f2 ≥ wrap64 (x.f0 + 1) ∧ x.f2 ≤ 24))
theorem sjob_eq (x : S46) : spec_l4Job.f x.f0 x.f1 x.f2 = some (okB x) := by
  unfold spec_l4Job.f okB
  simp only [sin_eq, Option.bind_some]
  by_cases h1 : x.f0 ≥ 0 ∧ x.f0 ≤ 23 <;> by_cases h2 : x.f1 ≥ 1 ∧ x.f1 ≤ 6 <;> simp [h1, h2]
theorem ijob_eq (x : S46) : impl_areJobs_1.f x.f0 x.f1 x.f2 = some (!okB x) := by
  unfold impl_areJobs_1.f impl_isJob.f okB
  simp only [in_eq, Option.bind_some]
  by_cases h1 : x.f0 ≥ 0 ∧ x.f0 ≤ 23 <;> by_cases h2 : x.f1 ≥ 1 ∧ x.f1 ≤ 6 <;> simp [h1, h2]
def goodB (l : List S46) : Bool := l.all okB && decide ((l.length : Int) ≤ 8)
theorem spec_ev (l : List S46) (hl : l.length ≤ 1048576) : Ev (fun k => spec_GoodJobs.f k l) (goodB l) := by
  refine Ev.congr (fun k => rfl) (all_ev (fun k i => spec_GoodJobs.l0 k l l (l.length : Int) i) okB _ l (by omega) (fun k j hj => ?_) (fun k => ?_))
  · simp only [spec_GoodJobs.l0, sjob_eq, Option.bind_some]
    rw [if_pos (by omega), if_pos (by omega), if_pos (by omega)]
    simp only [rd_T46, getD_at l j hj]
  · simp [spec_GoodJobs.l0]
theorem idx_ev (l : List S46) (hl : l.length ≤ 2000000) : ∃ r, Ev (fun k => impl_Job_52.f k l) r ∧ decide (r ≥ 0) = l.any fun x => !okB x := by
  refine any_ev (fun k i => impl_Job_52.l0 k l (l.length : Int) i) (fun x => !okB x) l (by omega) (fun k j hj => ?_) (fun k => ?_)
  · simp only [impl_Job_52.l0, ijob_eq, Option.bind_some]
    rw [if_pos (by omega), if_pos (by omega), if_pos (by omega)]
    simp only [rd_T46, getD_at l j hj]
  · simp [impl_Job_52.l0]
theorem impl_ev' (l : List S46) (hl : l.length ≤ 2000000) : Ev (fun k => impl_areJobs.f k l) (goodB l) := by
  unfold impl_areJobs.f impl_Job_44.f goodB
  by_cases h : (l.length : Int) ≤ 8
  · simp only [h, if_true, decide_true, Bool.and_true]
    obtain ⟨r, hr, hd⟩ := idx_ev l hl
    refine Ev.bind (f := fun _ t => some (!t)) (a := decide (r ≥ 0)) (Ev.bind (f := fun _ t => some (decide (t ≥ 0))) hr (Ev.now _)) ?_
    rw [hd, not_any]
    exact Ev.now _
  · simp only [h, if_false, decide_false, Bool.and_false]
    exact Ev.now _
theorem impl_ev (l : List S46) (hl : l.length ≤ 1048576) : Ev (fun k => impl_areJobs.f k l) (goodB l) := impl_ev' l (by omega)
theorem good_at {l : List S46} (h : goodB l = true) : l.length ≤ 8 ∧ ∀ (j : Nat), j < l.length → 0 ≤ (rd_T46 l (j : Int)).f0 ∧ (rd_T46 l (j : Int)).f0 ≤ 23 ∧ 1 ≤ (rd_T46 l (j : Int)).f1 ∧ (rd_T46 l (j : Int)).f1 ≤ 6 ∧ 1 ≤ (rd_T46 l (j : Int)).f2 ∧ (rd_T46 l (j : Int)).f2 ≤ 24 := by
  unfold goodB at h
  rw [Bool.and_eq_true] at h
  have h8 := of_decide_eq_true h.2
  refine ⟨by omega, fun j hj => ?_⟩
  have h1 := List.all_eq_true.1 h.1 (l[j]) (List.getElem_mem hj)
  have e : rd_T46 l (j : Int) = l[j] := getD_at l j hj _
  rw [e]
  unfold okB at h1
  simp only [Bool.and_eq_true, decide_eq_true_eq] at h1
  obtain ⟨⟨a, b⟩, ⟨c, d⟩, f, g⟩ := h1
  rw [w64 (by omega) (by omega)] at f
  exact ⟨by omega, by omega, by omega, by omega, by omega, by omega⟩
def inB (m : Nat) (x : Int) : Bool := decide (-1 ≤ x) && decide (x ≤ wrap64 ((m : Int) - 1))
def planB (m : Nat) (s : List Int) : Bool := decide ((s.length : Int) = 24) && s.all (inB m)
theorem sall_ev (s : List Int) (hs : s.length ≤ 1048576) (m : Nat) : Ev (fun k => spec_l1All.f k s (-1) (wrap64 ((m : Int) - 1))) (s.all (inB m)) := by
  have ha := all_ev (fun k i => spec_l1All.l0 k (-1) (wrap64 ((m : Int) - 1)) s (s.length : Int) i) (inB m) true s (by omega) (fun k j hj => ?_) (fun k => ?_)
  rw [Bool.and_true] at ha
  · exact Ev.congr (fun k => rfl) ha
  · simp only [spec_l1All.l0, sin_eq, Option.bind_some]
    rw [if_pos (by omega), if_pos (by omega), if_pos (by omega)]
    simp only [rd, getD_at s j hj, inB]
    by_cases h : -1 ≤ s[j]
    · simp [h]
    · simp [h]
  · simp [spec_l1All.l0]
theorem plan_ev (l : List S46) (hl : l.length ≤ 1048576) (s : List Int) : Ev (fun k => impl_isPlan.f k l s) (goodB l && planB l.length s) := by
  unfold impl_isPlan.f planB
  refine Ev.bind (impl_ev l hl) ?_
  by_cases hg : goodB l = true
  · rw [hg, Bool.true_and]
    by_cases h : (s.length : Int) = 24
    · simp only [if_true, if_pos h, decide_eq_true h, Bool.true_and]
      rw [show (s.all (inB l.length)) = !(s.any (impl_isPlan.q l.length)) from (not_any s (inB l.length)).symm]
      exact Ev.now _
    · simp only [if_true, if_neg h, decide_eq_false h, Bool.false_and]
      exact Ev.now _
  · rw [Bool.eq_false_iff.2 hg]
    exact Ev.now _
theorem sched_l (l : List S46) (hl : l.length ≤ 1048576) (s : List Int) (hs : s.length ≤ 1048576) (hin : ∀ x ∈ s, x < l.length) : ∀ (d j : Nat) (many : List Int), j ≤ s.length → s.length - j = d → many.length = l.length →
    ∃ b, Ev (fun k => spec_l4Schedule.l0 k l many s (s.length : Int) (j : Int)) b ∧ Ev (fun k => impl_isSchedule.l0 k l many s (s.length : Int) (j : Int)) b
  | 0, j, many, hj, hd, hm => by
    refine ⟨true, Ev.step (f := fun _ => some true) (fun k => ?_) (Ev.now _), Ev.step (f := fun _ => some true) (fun k => ?_) (Ev.now _)⟩
    · simp only [spec_l4Schedule.l0]
      rw [if_neg (by omega)]
    · simp only [impl_isSchedule.l0]
      rw [if_neg (by omega)]
  | d + 1, j, many, hj, hd, hm => by
    have hj2 : j < s.length := by omega
    have e : rd s (j : Int) = s[j] := getD_at s j hj2 _
    have hx := hin s[j] (List.getElem_mem hj2)
    by_cases h0 : s[j] < 0
    · obtain ⟨b, u, v⟩ := sched_l l hl s hs hin d (j + 1) many (by omega) (by omega) hm
      refine ⟨b, Ev.step (fun k => ?_) u, Ev.step (fun k => ?_) v⟩
      · simp only [spec_l4Schedule.l0, e]
        rw [if_pos (by omega), if_pos (by omega), if_pos (by omega), if_pos h0, w64s hj2 (by omega)]
      · simp only [impl_isSchedule.l0, e]
        rw [if_pos (by omega), if_pos (by omega), if_pos (by omega), if_pos h0, w64s hj2 (by omega)]
    · obtain ⟨m2, hm2⟩ : ∃ m2, m2 = many.set (s[j]).toNat (wrap64 (rd many s[j] + 1)) := ⟨_, rfl⟩
      have hml : m2.length = l.length := by rw [hm2, List.length_set, hm]
      have s1 : ∀ k, spec_l4Schedule.l0 (k + 1) l many s (s.length : Int) (j : Int) = if (j : Int) < (rd_T46 l s[j]).f0 then some false else if rd m2 s[j] > (rd_T46 l s[j]).f1 then some false else spec_l4Schedule.l0 k l m2 s (s.length : Int) ((j + 1 : Nat) : Int) := fun k => by
        simp only [spec_l4Schedule.l0, e, Option.bind_some]
        rw [if_pos (by omega), if_pos (by omega), if_pos (by omega), if_neg h0, if_pos (by omega), if_pos (by omega), if_pos (by omega), w64s hj2 (by omega), hm2]
      have s2 : ∀ k, impl_isSchedule.l0 (k + 1) l many s (s.length : Int) (j : Int) = if (j : Int) < (rd_T46 l s[j]).f0 then some false else if rd m2 s[j] > (rd_T46 l s[j]).f1 then some false else impl_isSchedule.l0 k l m2 s (s.length : Int) ((j + 1 : Nat) : Int) := fun k => by
        simp only [impl_isSchedule.l0, e, Option.bind_some]
        rw [if_pos (by omega), if_pos (by omega), if_pos (by omega), if_neg h0, if_pos (by omega), if_pos (by omega), if_pos (by omega), w64s hj2 (by omega), hm2]
      by_cases h1 : (j : Int) < (rd_T46 l s[j]).f0
      · refine ⟨false, Ev.step (f := fun _ => some false) (fun k => ?_) (Ev.now _), Ev.step (f := fun _ => some false) (fun k => ?_) (Ev.now _)⟩
        · rw [s1, if_pos h1]
        · rw [s2, if_pos h1]
      · by_cases h2 : rd m2 s[j] > (rd_T46 l s[j]).f1
        · refine ⟨false, Ev.step (f := fun _ => some false) (fun k => ?_) (Ev.now _), Ev.step (f := fun _ => some false) (fun k => ?_) (Ev.now _)⟩
          · rw [s1, if_neg h1, if_pos h2]
          · rw [s2, if_neg h1, if_pos h2]
        · obtain ⟨b, u, v⟩ := sched_l l hl s hs hin d (j + 1) m2 (by omega) (by omega) hml
          refine ⟨b, Ev.step (fun k => ?_) u, Ev.step (fun k => ?_) v⟩
          · rw [s1, if_neg h1, if_neg h2]
          · rw [s2, if_neg h1, if_neg h2]
theorem sched_ev (l : List S46) (hl : l.length ≤ 1048576) (s : List Int) (hs : s.length ≤ 1048576) : ∃ b, Ev (fun k => spec_l4Schedule.f k l s) (planB l.length s && b) ∧ (planB l.length s = true → Ev (fun k => impl_isSchedule.f k l s) b) := by
  have no : Ev (fun k => spec_l4Schedule.j0 k l s true) false := Ev.step (f := fun _ => some false) (fun k => rfl) (Ev.now _)
  unfold spec_l4Schedule.f planB
  by_cases h : (s.length : Int) = 24
  · simp only [if_pos h, decide_eq_true h, Bool.true_and]
    by_cases ha : s.all (inB l.length) = true
    · have hin : ∀ x ∈ s, x < l.length := fun x hx => by
        have h1 := List.all_eq_true.1 ha x hx
        unfold inB at h1
        rw [Bool.and_eq_true, w64 (by omega) (by omega)] at h1
        have := of_decide_eq_true h1.2
        omega
      obtain ⟨b, u, v⟩ := sched_l l hl s hs hin s.length 0 (List.replicate l.length 0) (by omega) rfl (by simp)
      refine ⟨b, Ev.bind (sall_ev s hs l.length) ?_, fun _ => Ev.congr (fun k => ?_) v⟩
      · rw [ha]
        refine Ev.step (fun k => ?_) u
        simp only [spec_l4Schedule.j0, Bool.not_true, Bool.false_eq_true, if_false]
        rw [if_pos (by omega), if_pos (by omega), Int.toNat_natCast]
        rfl
      · unfold impl_isSchedule.f
        rw [if_pos (by omega), if_pos (by omega), Int.toNat_natCast]
        rfl
    · refine ⟨false, Ev.bind (sall_ev s hs l.length) ?_, fun h => absurd h ha⟩
      rw [Bool.eq_false_iff.2 ha]
      exact no
  · refine ⟨false, ?_, fun h2 => ?_⟩
    · simp only [if_neg h, decide_eq_false h, Bool.false_and]
      exact no
    · rw [decide_eq_false h] at h2
      simp at h2
def cvJob (x : S49) : S46 := ⟨x.f0, x.f1, x.f2⟩
theorem szJob_eq (l : List S49) (hl : l.length ≤ maxLen) : laws_szJobS.f l 1048576 = some (if (l.length : Int) ≤ 1048576 then 1048576 - (l.length : Int) else -1) := by
  unfold laws_szJobS.f
  unfold maxLen at hl
  rw [w64 (by omega) (by omega)]
  by_cases h : (l.length : Int) ≤ 1048576
  · rw [if_neg (by omega), if_pos h]
  · rw [if_pos (by omega), if_neg h]
theorem toJob_ev (l : List S49) (hl : l.length ≤ 1048576) : Ev (fun k => laws_toJobS.f k l) (l.map cvJob) := by
  refine Ev.congr (fun k => ?_) (fill_ev (fun k x0 x3 x4 => laws_toJobS.l0 k x0 x3 x4) cvJob z49 (fun k x0 x3 x4 => rfl) l z46 (by omega))
  unfold laws_toJobS.f
  rw [if_pos (by omega), if_pos (by omega), Int.toNat_natCast]
theorem eqJob_ev (l : List S46) (hl : l.length ≤ 1048576) : Ev (fun k => laws_eqJobS.f k l l) true := by
  refine Ev.congr (fun k => ?_) (eqr_ev (fun k x0 x1 x5 => laws_eqJobS.l0 k x0 x1 x5) l (fun k j hj => ?_) (fun k => ?_) (by omega))
  · unfold laws_eqJobS.f
    rw [if_pos rfl]
  · simp only [laws_eqJobS.l0]
    rw [if_pos (by omega), if_pos (by omega), if_pos (by omega)]
    simp [laws_eqJob.f]
  · simp [laws_eqJobS.l0]
theorem toInt_ev (l : List Int) (hl : l.length ≤ 1048576) : Ev (fun k => laws_toIntS.f k l) l := by
  have h := fill_ev (fun k x0 x3 x4 => laws_toIntS.l0 k x0 x3 x4) (fun x : Int => x) 0 (fun k x0 x3 x4 => rfl) l 0 (by omega)
  rw [List.map_id'] at h
  refine Ev.congr (fun k => ?_) h
  unfold laws_toIntS.f
  rw [if_pos (by omega), if_pos (by omega), Int.toNat_natCast]
theorem eqInt_ev (l : List Int) (hl : l.length ≤ 1048576) : Ev (fun k => laws_eqIntS.f k l l) true := by
  refine Ev.congr (fun k => ?_) (eqr_ev (fun k x0 x1 x5 => laws_eqIntS.l0 k x0 x1 x5) l (fun k j hj => ?_) (fun k => ?_) (by omega))
  · unfold laws_eqIntS.f
    rw [if_pos rfl]
  · simp only [laws_eqIntS.l0]
    rw [if_pos (by omega), if_pos (by omega), if_pos (by omega), if_pos trivial]
  · simp [laws_eqIntS.l0]
theorem both_ev (l : List S46) (s : List Int) (hl : l.length ≤ 1048576) (hs : s.length ≤ 1048576) : ∃ r, Ev (fun k => spec_IsSchedule.f k l s) r ∧ Ev (fun k => impl_IsSchedule.f k l s) r := by
  unfold spec_IsSchedule.f impl_IsSchedule.f
  have ha := spec_ev l hl
  have hi := impl_ev l hl
  have hp := plan_ev l hl s
  by_cases hg : goodB l = true
  · rw [hg] at ha hi hp
    rw [Bool.true_and] at hp
    obtain ⟨b, u, v⟩ := sched_ev l hl s hs
    by_cases h : planB l.length s = true
    · rw [h] at hp u
      rw [Bool.true_and] at u
      exact ⟨(b, true), Ev.bind ha (Ev.bind u (Ev.now _)), Ev.bind hi (Ev.bind hp (Ev.bind (v h) (Ev.now _)))⟩
    · rw [Bool.eq_false_iff.2 h] at hp u
      rw [Bool.false_and] at u
      exact ⟨(false, true), Ev.bind ha (Ev.bind u (Ev.now _)), Ev.bind hi (Ev.bind hp (Ev.now _))⟩
  · rw [Bool.eq_false_iff.2 hg] at ha hi
    exact ⟨(false, false), Ev.bind ha (Ev.now _), Ev.bind hi (Ev.now _)⟩
theorem FnExactIsSchedule : laws_FnExactIsSchedule.Pure := by
  intro l p hl _ _ _ _
  apply Ev.rounds
  unfold laws_FnExactIsSchedule.f
  by_cases hp0 : (p.length : Int) > 1048576
  · simp only [if_pos hp0]
    exact Ev.now _
  have hp : p.length ≤ 1048576 := by omega
  simp only [if_neg hp0, szJob_eq l hl, Option.bind_some]
  by_cases h : (l.length : Int) ≤ 1048576
  case neg =>
    simp only [if_neg h]
    exact Ev.now _
  simp only [if_pos h, if_neg (show ¬ (1048576 - (l.length : Int) < 0) by omega)]
  have hl' : l.length ≤ 1048576 := by omega
  have hm : (l.map cvJob).length ≤ 1048576 := by simpa using hl'
  have hto := toJob_ev l hl'
  have heq := eqJob_ev (l.map cvJob) hm
  generalize l.map cvJob = x at hto heq hm
  have htp := toInt_ev p hp
  have hep := eqInt_ev p hp
  obtain ⟨r, h1, h2⟩ := both_ev x p hm hp
  refine Ev.bind hto (Ev.bind htp (Ev.bind h1 (Ev.bind hto (Ev.bind htp (Ev.bind h2 ?_)))))
  simp only [bne_self_eq_false, Bool.false_eq_true, if_false]
  refine Ev.step (fun k => by simp only [laws_FnExactIsSchedule.j0]; rfl) ?_
  simp only [Bool.false_eq_true, if_false]
  refine Ev.bind hto (Ev.bind heq ?_)
  simp only [if_true]
  exact Ev.bind htp (Ev.bind hep (Ev.now _))

end Go.Proofs.Ytmffllogaboklad.Pure
