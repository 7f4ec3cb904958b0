/- The pure statement of the law FnExactLateIn: over lists and numbers the law's function answers true. No conditions beyond those typed. -/
import Derived.Test.YtmffllogaboklaeP5
import Derived.Test.YtmffllogaboklaeLib
namespace Go.Proofs.Ytmffllogaboklae.Pure
open Go.RowKit Go.Proofs.Ytmffllogaboklae.P Go.Proofs.YtmffllogaboklaeW.PrintWords Go.Proofs.YtmffllogaboklaeLib
set_option linter.unusedVariables false
set_option linter.unusedSimpArgs false

theorem in_eq (x y z : Int) : impl_in.f x y z = some (decide (x ≥ y ∧ x ≤ z)) := by
  unfold impl_in.f
  by_cases h : x ≥ y <;> simp only [h, if_true, if_false, true_and, false_and, decide_false]
theorem sin_eq (x y z : Int) : spec_l1In.f x y z = some (decide (x ≥ y ∧ x ≤ z)) := by
  unfold spec_l1In.f
  by_cases h : x ≥ y <;> simp only [h, if_true, if_false, true_and, false_and, decide_false]
def okB (x : S39) : Bool := decide (x.f0 ≥ 0 ∧ x.f0 ≤ 23) && (decide (x.f1 ≥ 1 ∧ x.f1 ≤ 6) && decide (x.f2 ≥ wrap64 (x.f0 + 1) ∧ x.f2 ≤ 24))
theorem sjob_eq (x : S39) : spec_l4Job.f x.f0 x.f1 x.f2 = some (okB x) := by
  unfold spec_l4Job.f okB
  simp only [sin_eq, Option.bind_some]
  by_cases h1 : x.f0 ≥ 0 ∧ x.f0 ≤ 23 <;> by_cases h2 : x.f1 ≥ 1 ∧ x.f1 ≤ 6 <;> simp [h1, h2]
theorem ijob_eq (x : S39) : impl_areJobs_1.f x.f0 x.f1 x.f2 = some (!okB x) := by
  unfold impl_areJobs_1.f impl_isJob.f okB
  simp only [in_eq, Option.bind_some]
  by_cases h1 : x.f0 ≥ 0 ∧ x.f0 ≤ 23 <;> by_cases h2 : x.f1 ≥ 1 ∧ x.f1 ≤ 6 <;> simp [h1, h2]
def goodB (l : List S39) : Bool := l.all okB && decide ((l.length : Int) ≤ 8)
theorem spec_ev (l : List S39) (hl : l.length ≤ 1048576) : Ev (fun k => spec_GoodJobs.f k l) (goodB l) := by
  refine Ev.congr (fun k => rfl) (all_ev (fun k i => spec_GoodJobs.l0 k l l (l.length : Int) i) okB _ l (by omega) (fun k j hj => ?_) (fun k => ?_))
  · simp only [spec_GoodJobs.l0, sjob_eq, Option.bind_some]
    rw [if_pos (by omega), if_pos (by omega), if_pos (by omega)]
    simp only [rd_T39, getD_at l j hj]
  · simp [spec_GoodJobs.l0]
theorem idx_ev (l : List S39) (hl : l.length ≤ 2000000) : ∃ r, Ev (fun k => impl_Job_75.f k l) r ∧ decide (r ≥ 0) = l.any fun x => !okB x := by
  refine any_ev (fun k i => impl_Job_75.l0 k l (l.length : Int) i) (fun x => !okB x) l (by omega) (fun k j hj => ?_) (fun k => ?_)
  · simp only [impl_Job_75.l0, ijob_eq, Option.bind_some]
    rw [if_pos (by omega), if_pos (by omega), if_pos (by omega)]
    simp only [rd_T39, getD_at l j hj]
  · simp [impl_Job_75.l0]
theorem impl_ev' (l : List S39) (hl : l.length ≤ 2000000) : Ev (fun k => impl_areJobs.f k l) (goodB l) := by
  unfold impl_areJobs.f impl_Job_66.f goodB
  by_cases h : (l.length : Int) ≤ 8
  · simp only [h, if_true, decide_true, Bool.and_true]
    obtain ⟨r, hr, hd⟩ := idx_ev l hl
    refine Ev.bind (f := fun _ t => some (!t)) (a := decide (r ≥ 0)) (Ev.bind (f := fun _ t => some (decide (t ≥ 0))) hr (Ev.now _)) ?_
    rw [hd, not_any]
    exact Ev.now _
  · simp only [h, if_false, decide_false, Bool.and_false]
    exact Ev.now _
theorem impl_ev (l : List S39) (hl : l.length ≤ 1048576) : Ev (fun k => impl_areJobs.f k l) (goodB l) := impl_ev' l (by omega)
theorem good_at {l : List S39} (h : goodB l = true) : l.length ≤ 8 ∧ ∀ (j : Nat), j < l.length → 0 ≤ (rd_T39 l (j : Int)).f0 ∧ (rd_T39 l (j : Int)).f0 ≤ 23 ∧ 1 ≤ (rd_T39 l (j : Int)).f1 ∧ (rd_T39 l (j : Int)).f1 ≤ 6 ∧ 1 ≤ (rd_T39 l (j : Int)).f2 ∧ (rd_T39 l (j : Int)).f2 ≤ 24 := by
  unfold goodB at h
  rw [Bool.and_eq_true] at h
  have h8 := of_decide_eq_true h.2
  refine ⟨by omega, fun j hj => ?_⟩
  have h1 := List.all_eq_true.1 h.1 (l[j]) (List.getElem_mem hj)
  have e : rd_T39 l (j : Int) = l[j] := getD_at l j hj _
  rw [e]
  unfold okB at h1
  simp only [Bool.and_eq_true, decide_eq_true_eq] at h1
  obtain ⟨⟨a, b⟩, ⟨c, d⟩, f, g⟩ := h1
  rw [w64 (by omega) (by omega)] at f
  exact ⟨by omega, by omega, by omega, by omega, by omega, by omega⟩
theorem sbit_eq (b : Bool) : spec_l1Bit.f b = some (if b = true then 1 else 0) := by
  unfold spec_l1Bit.f
  split <;> rfl
def LBoth (l : List S39) (s out : List Int) (j : Int) : Prop := ∃ r, Ev (fun k => spec_l4Late.l0 k s out l (l.length : Int) j) r ∧ Ev (fun k => impl_late.l0 k s out l (l.length : Int) j) r ∧ r.length ≤ l.length
theorem late_1 (l : List S39) (s : List Int) (hl : l.length ≤ 8) (hs : s.length = 24) (j : Nat) (hj : j < l.length) (f0 f1 f2 : Int) (hf0 : 0 ≤ f2) (hf1 : f2 ≤ 24)
    (ih : ∀ out, out.length ≤ j + 1 → LBoth l s out ((j + 1 : Nat) : Int)) (out : List Int) (ho : out.length ≤ j) :
    ∀ (d t : Nat) (m : Int), (t : Int) ≤ f2 → f2 - t = d → 0 ≤ m → m ≤ t →
      ∃ r, Ev (fun k => spec_l4Late.l1 k s out (j : Int) m (t : Int) l (l.length : Int) (j : Int) f0 f1 f2) r ∧ Ev (fun k => impl_late.l1 k s out (j : Int) m l (l.length : Int) (j : Int) (s.take f2.toNat) ((s.take f2.toNat).length : Int) (t : Int) f0 f1 f2) r ∧ r.length ≤ l.length
  | 0, t, m, ht, hd, hm0, hm1 => by
    have hlen : ((s.take f2.toNat).length : Int) = f2 := by rw [List.length_take]; omega
    by_cases c : m < f1
    · obtain ⟨r, a1, a2, a3⟩ := ih (out ++ [(j : Int)]) (by rw [List.length_append, List.length_singleton]; omega)
      refine ⟨r, Ev.step (fun k => ?_) a1, Ev.step (fun k => ?_) a2, a3⟩
      · simp only [spec_l4Late.l1]
        rw [if_neg (by omega), if_pos c, if_pos (by omega), w64s hj (by omega)]
      · simp only [impl_late.l1]
        rw [if_neg (by omega), if_pos c, if_pos (by omega), w64s hj (by omega)]
    · obtain ⟨r, a1, a2, a3⟩ := ih out (by omega)
      refine ⟨r, Ev.step (fun k => ?_) a1, Ev.step (fun k => ?_) a2, a3⟩
      · simp only [spec_l4Late.l1]
        rw [if_neg (by omega), if_neg c, w64s hj (by omega)]
      · simp only [impl_late.l1]
        rw [if_neg (by omega), if_neg c, w64s hj (by omega)]
  | d + 1, t, m, ht, hd, hm0, hm1 => by
    have hlen : ((s.take f2.toNat).length : Int) = f2 := by rw [List.length_take]; omega
    have ht24 : t < 24 := by omega
    have hrd : rd (s.take f2.toNat) (t : Int) = rd s (t : Int) := by
      simp only [rd, Int.toNat_natCast, List.getD_eq_getElem?_getD, List.getElem?_take, if_pos (show t < f2.toNat by omega)]
    by_cases c : rd s (t : Int) = (j : Int)
    · obtain ⟨r, a1, a2, a3⟩ := late_1 l s hl hs j hj f0 f1 f2 hf0 hf1 ih out ho d (t + 1) (m + 1) (by omega) (by omega) (by omega) (by omega)
      refine ⟨r, Ev.step (fun k => ?_) a1, Ev.step (fun k => ?_) a2, a3⟩
      · simp only [spec_l4Late.l1, sbit_eq, Option.bind_some]
        rw [if_pos (by omega), if_pos (by omega), if_pos (by omega), if_pos (beq_iff_eq.2 c), w64 (i := m + 1) (by omega) (by omega), w64s ht24 (by omega)]
      · simp only [impl_late.l1]
        rw [if_pos (by omega), if_pos (by omega), if_pos (by omega), hrd, if_pos c, w64 (i := m + 1) (by omega) (by omega), w64s ht24 (by omega)]
    · obtain ⟨r, a1, a2, a3⟩ := late_1 l s hl hs j hj f0 f1 f2 hf0 hf1 ih out ho d (t + 1) m (by omega) (by omega) (by omega) (by omega)
      refine ⟨r, Ev.step (fun k => ?_) a1, Ev.step (fun k => ?_) a2, a3⟩
      · simp only [spec_l4Late.l1, sbit_eq, Option.bind_some]
        rw [if_pos (by omega), if_pos (by omega), if_pos (by omega), if_neg (fun h => c (beq_iff_eq.1 h)), Int.add_zero, w64 (i := m) (by omega) (by omega), w64s ht24 (by omega)]
      · simp only [impl_late.l1]
        rw [if_pos (by omega), if_pos (by omega), if_pos (by omega), hrd, if_neg c, w64s ht24 (by omega)]
theorem late_0 (l : List S39) (s : List Int) (hg : goodB l = true) (hs : s.length = 24) : ∀ (d j : Nat) (out : List Int), j ≤ l.length → l.length - j = d → out.length ≤ j → LBoth l s out (j : Int)
  | 0, j, out, hj, hd, ho => by
    obtain rfl : j = l.length := by omega
    refine ⟨out, Ev.step (f := fun _ => some out) (fun k => ?_) (Ev.now _), Ev.step (f := fun _ => some out) (fun k => ?_) (Ev.now _), ho⟩
    · simp [spec_l4Late.l0]
    · simp [impl_late.l0]
  | d + 1, j, out, hj, hd, ho => by
    obtain ⟨h8, hat⟩ := good_at hg
    obtain ⟨_, _, _, _, g1, g2⟩ := hat j (by omega)
    obtain ⟨r, a1, a2, a3⟩ := late_1 l s h8 hs j (by omega) (rd_T39 l (j : Int)).f0 (rd_T39 l (j : Int)).f1 (rd_T39 l (j : Int)).f2 (by omega) g2 (fun out' h => late_0 l s hg hs d (j + 1) out' (by omega) (by omega) h) out ho (rd_T39 l (j : Int)).f2.toNat 0 0 (by omega) (by omega) (by omega) (by omega)
    refine ⟨r, Ev.step (fun k => ?_) a1, Ev.step (fun k => ?_) a2, a3⟩
    · simp only [spec_l4Late.l0]
      rw [if_pos (by omega), if_pos (by omega), if_pos (by omega)]
      rfl
    · simp only [impl_late.l0, Option.bind_some]
      rw [if_pos (by omega), if_pos (by omega), if_pos (by omega), if_pos (by omega), if_pos (by omega)]
      rfl
theorem late_ev (l : List S39) (s : List Int) (hg : goodB l = true) (hs : s.length = 24) : ∃ r, Ev (fun k => spec_l4Late.f k l s) r ∧ Ev (fun k => impl_late.f k l s) r ∧ r.length ≤ l.length := by
  obtain ⟨r, a1, a2, a3⟩ := late_0 l s hg hs l.length 0 [] (by omega) rfl (by decide)
  exact ⟨r, a1, a2, a3⟩
def inB (m : Nat) (x : Int) : Bool := decide (-1 ≤ x) && decide (x ≤ wrap64 ((m : Int) - 1))
def planB (m : Nat) (s : List Int) : Bool := decide ((s.length : Int) = 24) && s.all (inB m)
theorem sall_ev (s : List Int) (hs : s.length ≤ 1048576) (m : Nat) : Ev (fun k => spec_l1All.f k s (-1) (wrap64 ((m : Int) - 1))) (s.all (inB m)) := by
  have ha := all_ev (fun k i => spec_l1All.l0 k (-1) (wrap64 ((m : Int) - 1)) s (s.length : Int) i) (inB m) true s (by omega) (fun k j hj => ?_) (fun k => ?_)
  rw [Bool.and_true] at ha
  · exact Ev.congr (fun k => rfl) ha
  · simp only [spec_l1All.l0, sin_eq, Option.bind_some]
    rw [if_pos (by omega), if_pos (by omega), if_pos (by omega)]
    simp only [rd, getD_at s j hj, inB]
    by_cases h : -1 ≤ s[j]
    · simp [h]
    · simp [h]
  · simp [spec_l1All.l0]
theorem plan_ev (l : List S39) (hl : l.length ≤ 1048576) (s : List Int) : Ev (fun k => impl_isPlan.f k l s) (goodB l && planB l.length s) := by
  unfold impl_isPlan.f planB
  refine Ev.bind (impl_ev l hl) ?_
  by_cases hg : goodB l = true
  · rw [hg, Bool.true_and]
    by_cases h : (s.length : Int) = 24
    · simp only [if_true, if_pos h, decide_eq_true h, Bool.true_and]
      rw [show (s.all (inB l.length)) = !(s.any (impl_isPlan.q l.length)) from (not_any s (inB l.length)).symm]
      exact Ev.now _
    · simp only [if_true, if_neg h, decide_eq_false h, Bool.false_and]
      exact Ev.now _
  · rw [Bool.eq_false_iff.2 hg]
    exact Ev.now _
theorem sched_l (l : List S39) (hl : l.length ≤ 1048576) (s : List Int) (hs : s.length ≤ 1048576) (hin : ∀ x ∈ s, x < l.length) : ∀ (d j : Nat) (many : List Int), j ≤ s.length → s.length - j = d → many.length = l.length →
    ∃ b, Ev (fun k => spec_l4Schedule.l0 k l many s (s.length : Int) (j : Int)) b ∧ Ev (fun k => impl_isSchedule.l0 k l many s (s.length : Int) (j : Int)) b
  | 0, j, many, hj, hd, hm => by
    refine ⟨true, Ev.step (f := fun _ => some true) (fun k => ?_) (Ev.now _), Ev.step (f := fun _ => some true) (fun k => ?_) (Ev.now _)⟩
    · simp only [spec_l4Schedule.l0]
      rw [if_neg (by omega)]
    · simp only [impl_isSchedule.l0]
      rw [if_neg (by omega)]
  | d + 1, j, many, hj, hd, hm => by
    have hj2 : j < s.length := by omega
    have e : rd s (j : Int) = s[j] := getD_at s j hj2 _
    have hx := hin s[j] (List.getElem_mem hj2)
    by_cases h0 : s[j] < 0
    · obtain ⟨b, u, v⟩ := sched_l l hl s hs hin d (j + 1) many (by omega) (by omega) hm
      refine ⟨b, Ev.step (fun k => ?_) u, Ev.step (fun k => ?_) v⟩
      · simp only [spec_l4Schedule.l0, e]
        rw [if_pos (by omega), if_pos (by omega), if_pos (by omega), if_pos h0, w64s hj2 (by omega)]
      · simp only [impl_isSchedule.l0, e]
        rw [if_pos (by omega), if_pos (by omega), if_pos (by omega), if_pos h0, w64s hj2 (by omega)]
    · obtain ⟨m2, hm2⟩ : ∃ m2, m2 = many.set (s[j]).toNat (wrap64 (rd many s[j] + 1)) := ⟨_, rfl⟩
      have hml : m2.length = l.length := by rw [hm2, List.length_set, hm]
      have s1 : ∀ k, spec_l4Schedule.l0 (k + 1) l many s (s.length : Int) (j : Int) = if (j : Int) < (rd_T39 l s[j]).f0 then some false else if rd m2 s[j] > (rd_T39 l s[j]).f1 then some false else spec_l4Schedule.l0 k l m2 s (s.length : Int) ((j + 1 : Nat) : Int) := fun k => by
        simp only [spec_l4Schedule.l0, e, Option.bind_some]
        rw [if_pos (by omega), if_pos (by omega), if_pos (by omega), if_neg h0, if_pos (by omega), if_pos (by omega), if_pos (by omega), w64s hj2 (by omega), hm2]
      have s2 : ∀ k, impl_isSchedule.l0 (k + 1) l many s (s.length : Int) (j : Int) = if (j : Int) < (rd_T39 l s[j]).f0 then some false else if rd m2 s[j] > (rd_T39 l s[j]).f1 then some false else impl_isSchedule.l0 k l m2 s (s.length : Int) ((j + 1 : Nat) : Int) := fun k => by
        simp only [impl_isSchedule.l0, e, Option.bind_some]
        rw [if_pos (by omega), if_pos (by omega), if_pos (by omega), if_neg h0, if_pos (by omega), if_pos (by omega), if_pos (by omega), w64s hj2 (by omega), hm2]
      by_cases h1 : (j : Int) < (rd_T39 l s[j]).f0
      · refine ⟨false, Ev.step (f := fun _ => some false) (fun k => ?_) (Ev.now _), Ev.step (f := fun _ => some false) (fun k => ?_) (Ev.now _)⟩
        · rw [s1, if_pos h1]
        · rw [s2, if_pos h1]
      · by_cases h2 : rd m2 s[j] > (rd_T39 l s[j]).f1
        · refine ⟨false, Ev.step (f := fun _ => some false) (fun k => ?_) (Ev.now _), Ev.step (f := fun _ => some false) (fun k => ?_) (Ev.now _)⟩
          · rw [s1, if_neg h1, if_pos h2]
          · rw [s2, if_neg h1, if_pos h2]
        · obtain ⟨b, u, v⟩ := sched_l l hl s hs hin d (j + 1) m2 (by omega) (by omega) hml
          refine ⟨b, Ev.step (fun k => ?_) u, Ev.step (fun k => ?_) v⟩
          · rw [s1, if_neg h1, if_neg h2]
          · rw [s2, if_neg h1, if_neg h2]
theorem sched_ev (l : List S39) (hl : l.length ≤ 1048576) (s : List Int) (hs : s.length ≤ 1048576) : ∃ b, Ev (fun k => spec_l4Schedule.f k l s) (planB l.length s && b) ∧ (planB l.length s = true → Ev (fun k => impl_isSchedule.f k l s) b) := by
  have no : Ev (fun k => spec_l4Schedule.j0 k l s true) false := Ev.step (f := fun _ => some false) (fun k => rfl) (Ev.now _)
  unfold spec_l4Schedule.f planB
  by_cases h : (s.length : Int) = 24
  · simp only [if_pos h, decide_eq_true h, Bool.true_and]
    by_cases ha : s.all (inB l.length) = true
    · have hin : ∀ x ∈ s, x < l.length := fun x hx => by
        have h1 := List.all_eq_true.1 ha x hx
        unfold inB at h1
        rw [Bool.and_eq_true, w64 (by omega) (by omega)] at h1
        have := of_decide_eq_true h1.2
        omega
      obtain ⟨b, u, v⟩ := sched_l l hl s hs hin s.length 0 (List.replicate l.length 0) (by omega) rfl (by simp)
      refine ⟨b, Ev.bind (sall_ev s hs l.length) ?_, fun _ => Ev.congr (fun k => ?_) v⟩
      · rw [ha]
        refine Ev.step (fun k => ?_) u
        simp only [spec_l4Schedule.j0, Bool.not_true, Bool.false_eq_true, if_false]
        rw [if_pos (by omega), if_pos (by omega), Int.toNat_natCast]
        rfl
      · unfold impl_isSchedule.f
        rw [if_pos (by omega), if_pos (by omega), Int.toNat_natCast]
        rfl
    · refine ⟨false, Ev.bind (sall_ev s hs l.length) ?_, fun h => absurd h ha⟩
      rw [Bool.eq_false_iff.2 ha]
      exact no
  · refine ⟨false, ?_, fun h2 => ?_⟩
    · simp only [if_neg h, decide_eq_false h, Bool.false_and]
      exact no
    · rw [decide_eq_false h] at h2
      simp at h2
def cvJob (x : S36) : S39 := ⟨x.f0, x.f1, x.f2⟩
theorem szJob_eq (l : List S36) (hl : l.length ≤ maxLen) : laws_szJobS.f l 1048576 = some (if (l.length : Int) ≤ 1048576 then 1048576 - (l.length : Int) else -1) := by
  unfold laws_szJobS.f
  unfold maxLen at hl
  rw [w64 (by omega) (by omega)]
  by_cases h : (l.length : Int) ≤ 1048576
  · rw [if_neg (by omega), if_pos h]
  · rw [if_pos (by omega), if_neg h]
theorem toJob_ev (l : List S36) (hl : l.length ≤ 1048576) : Ev (fun k => laws_toJobS.f k l) (l.map cvJob) := by
  refine Ev.congr (fun k => ?_) (fill_ev (fun k x0 x3 x4 => laws_toJobS.l0 k x0 x3 x4) cvJob z36 (fun k x0 x3 x4 => rfl) l z39 (by omega))
  unfold laws_toJobS.f
  rw [if_pos (by omega), if_pos (by omega), Int.toNat_natCast]
theorem eqJob_ev (l : List S39) (hl : l.length ≤ 1048576) : Ev (fun k => laws_eqJobS.f k l l) true := by
  refine Ev.congr (fun k => ?_) (eqr_ev (fun k x0 x1 x5 => laws_eqJobS.l0 k x0 x1 x5) l (fun k j hj => ?_) (fun k => ?_) (by omega))
  · unfold laws_eqJobS.f
    rw [if_pos rfl]
  · simp only [laws_eqJobS.l0]
    rw [if_pos (by omega), if_pos (by omega), if_pos (by omega)]
    simp [laws_eqJob.f]
  · simp [laws_eqJobS.l0]
def mkJob (m : Int) : S39 := ⟨m, m + 1, m + 2⟩
theorem markJob_ev (l : List S39) (hl : l.length ≤ 1048576) : Ev (fun k => laws_markJobS.f k l 1) (1 + (3 : Nat) * (l.length : Int), (List.range l.length).map fun j : Nat => mkJob (1 + ((3 : Nat) : Int) * (j : Int))) := by
  refine Ev.congr (fun k => rfl) (mark_ev (fun k x0 x1 x5 => laws_markJobS.l0 k x0 x1 x5) 3 mkJob 1 (by omega) (by omega) (by omega) (fun k x0 x1 j hj h0 h1 => ?_) (fun k x0 x1 => ?_) l (by omega))
  · simp only [laws_markJobS.l0]
    rw [if_pos (by omega), if_pos (by omega)]
    simp only [Option.bind_some, Int.toNat_natCast, rd_T39, List.getD_eq_getElem?_getD, List.set_set, List.getElem?_set_self hj, Option.getD_some]
    simp only [w64 (i := x1 + 1) (by omega) (by omega), w64 (i := x1 + 1 + 1) (by omega) (by omega), w64 (i := x1 + 1 + 1 + 1) (by omega) (by omega)]
    simp only [show x1 + 1 + 1 = x1 + 2 by omega, show x1 + 2 + 1 = x1 + 3 by omega]
    rfl
  · simp [laws_markJobS.l0]
theorem toInt_ev (l : List Int) (hl : l.length ≤ 1048576) : Ev (fun k => laws_toIntS.f k l) l := by
  have h := fill_ev (fun k x0 x3 x4 => laws_toIntS.l0 k x0 x3 x4) (fun x : Int => x) 0 (fun k x0 x3 x4 => rfl) l 0 (by omega)
  rw [List.map_id'] at h
  refine Ev.congr (fun k => ?_) h
  unfold laws_toIntS.f
  rw [if_pos (by omega), if_pos (by omega), Int.toNat_natCast]
theorem eqInt_ev (l : List Int) (hl : l.length ≤ 1048576) : Ev (fun k => laws_eqIntS.f k l l) true := by
  refine Ev.congr (fun k => ?_) (eqr_ev (fun k x0 x1 x5 => laws_eqIntS.l0 k x0 x1 x5) l (fun k j hj => ?_) (fun k => ?_) (by omega))
  · unfold laws_eqIntS.f
    rw [if_pos rfl]
  · simp only [laws_eqIntS.l0]
    rw [if_pos (by omega), if_pos (by omega), if_pos (by omega), if_pos trivial]
  · simp [laws_eqIntS.l0]
theorem markInt_ev (l : List Int) (m : Int) (h0 : 0 ≤ m) (h1 : m ≤ 1000000000) (hl : l.length ≤ 1048576) : Ev (fun k => laws_markIntS.f k l m) (m + (1 : Nat) * (l.length : Int), (List.range l.length).map fun j : Nat => (fun x : Int => x) (m + ((1 : Nat) : Int) * (j : Int))) := by
  refine Ev.congr (fun k => rfl) (mark_ev (fun k x0 x1 x5 => laws_markIntS.l0 k x0 x1 x5) 1 (fun x => x) m h0 h1 (by omega) (fun k x0 x1 j hj h0 h1 => ?_) (fun k x0 x1 => ?_) l (by omega))
  · simp only [laws_markIntS.l0]
    rw [if_pos (by omega), if_pos (by omega), Int.toNat_natCast, w64 (i := x1 + 1) (by omega) (by omega)]
    rfl
  · simp [laws_markIntS.l0]
theorem heldInt_ev (n : Nat) (m : Int) (h0 : 0 ≤ m) (h1 : m ≤ 1000000000) (hn : n ≤ 1048576) : Ev (fun k => laws_heldIntS.f k ((List.range n).map fun j : Nat => (fun x : Int => x) (m + ((1 : Nat) : Int) * (j : Int))) m) (m + (1 : Nat) * (n : Int)) := by
  refine Ev.congr (fun k => rfl) (held_ev (fun k x0 x1 x5 => laws_heldIntS.l0 k x0 x1 x5) 1 (fun x => x) m h0 h1 (by omega) (fun k x0 x1 j hx hj h0 h1 => ?_) (fun k x0 x1 => ?_) n (by omega))
  · simp only [laws_heldIntS.l0]
    rw [if_pos (by omega), if_pos (by omega), if_pos (by simp only [rd, Int.toNat_natCast, List.getD_eq_getElem?_getD, hx, Option.getD_some]), w64 (i := x1 + 1) (by omega) (by omega)]
    rfl
  · simp [laws_heldIntS.l0]
theorem both_ev (l : List S39) (s : List Int) (hl : l.length ≤ 1048576) (hs : s.length ≤ 1048576) : ∃ g b, Ev (fun k => spec_LateIn.f k l s) (g, b) ∧ Ev (fun k => impl_LateIn.f k l s) (g, b) ∧ g.length ≤ 1048576 := by
  unfold spec_LateIn.f impl_LateIn.f
  have ha := spec_ev l hl
  have hp := plan_ev l hl s
  by_cases hg : goodB l = true
  · rw [hg] at ha hp
    rw [Bool.true_and] at hp
    obtain ⟨b, u, v⟩ := sched_ev l hl s hs
    by_cases h : planB l.length s = true
    · have h24 : s.length = 24 := by
        unfold planB at h
        rw [Bool.and_eq_true] at h
        have := of_decide_eq_true h.1
        omega
      rw [h] at hp u
      rw [Bool.true_and] at u
      have v := v h
      cases b with
      | true =>
        obtain ⟨r, e, f, hr⟩ := late_ev l s hg h24
        exact ⟨r, true, Ev.bind ha (Ev.bind u (Ev.bind e (Ev.now _))), Ev.bind hp (Ev.bind v (Ev.bind f (Ev.now _))), by omega⟩
      | false => exact ⟨[], false, Ev.bind ha (Ev.bind u (Ev.now _)), Ev.bind hp (Ev.bind v (Ev.now _)), by simp⟩
    · rw [Bool.eq_false_iff.2 h] at hp u
      rw [Bool.false_and] at u
      exact ⟨[], false, Ev.bind ha (Ev.bind u (Ev.now _)), Ev.bind hp (Ev.now _), by simp⟩
  · rw [Bool.eq_false_iff.2 hg] at ha hp
    rw [Bool.false_and] at hp
    exact ⟨[], false, Ev.bind ha (Ev.now _), Ev.bind hp (Ev.now _), by simp⟩
theorem FnExactLateIn : laws_FnExactLateIn.Pure := by
  intro l p hl _ _ _ _
  apply Ev.rounds
  unfold laws_FnExactLateIn.f
  by_cases hp0 : (p.length : Int) > 1048576
  · simp only [if_pos hp0]
    exact Ev.now _
  have hp : p.length ≤ 1048576 := by omega
  simp only [if_neg hp0, szJob_eq l hl, Option.bind_some]
  by_cases h : (l.length : Int) ≤ 1048576
  case neg =>
    simp only [if_neg h]
    exact Ev.now _
  simp only [if_pos h, if_neg (show ¬ (1048576 - (l.length : Int) < 0) by omega)]
  have hl' : l.length ≤ 1048576 := by omega
  have hm : (l.map cvJob).length ≤ 1048576 := by simpa using hl'
  have hto := toJob_ev l hl'
  have heq := eqJob_ev (l.map cvJob) hm
  have hmk := markJob_ev (l.map cvJob) hm
  generalize l.map cvJob = x at hto heq hm hmk
  have htp := toInt_ev p hp
  have hep := eqInt_ev p hp
  obtain ⟨g, b, h1, h2, hg⟩ := both_ev x p hm hp
  refine Ev.bind hto (Ev.bind htp (Ev.bind h1 (Ev.bind hto (Ev.bind htp (Ev.bind h2 (Ev.bind (eqInt_ev g hg) ?_))))))
  simp only [if_true, bne_self_eq_false]
  refine Ev.step (fun k => by simp only [laws_FnExactLateIn.j0]; rfl) ?_
  simp only [Bool.false_eq_true, if_false]
  refine Ev.bind hto (Ev.bind heq ?_)
  simp only [if_true]
  refine Ev.bind htp (Ev.bind hep ?_)
  simp only [if_true]
  refine Ev.bind hmk (Ev.bind (markInt_ev p _ (by omega) (by omega) hp) ?_)
  simp only [if_neg (show ¬ (1 + ((3 : Nat) : Int) * (x.length : Int) + ((1 : Nat) : Int) * (p.length : Int) < 0) by omega)]
  refine Ev.bind (eqInt_ev g hg) ?_
  simp only [if_true, bne_self_eq_false]
  refine Ev.step (fun k => by simp only [laws_FnExactLateIn.j1]; rfl) ?_
  simp only [Bool.false_eq_true, if_false]
  refine Ev.bind (markInt_ev g 1 (by omega) (by omega) hg) (Ev.bind (heldInt_ev g.length 1 (by omega) (by omega) hg) ?_)
  simp only [if_neg (show ¬ (1 + ((1 : Nat) : Int) * (g.length : Int) < 0) by omega), if_true]
  refine Ev.bind hto (Ev.bind htp (Ev.bind h2 (Ev.bind (eqInt_ev g hg) ?_)))
  simp only [if_true, bne_self_eq_false]
  refine Ev.step (fun k => by simp only [laws_FnExactLateIn.j2]; rfl) ?_
  simp only [Bool.false_eq_true, if_false]
  refine Ev.bind (heldInt_ev g.length 1 (by omega) (by omega) hg) ?_
  simp only [if_neg (show ¬ (1 + ((1 : Nat) : Int) * (g.length : Int) < 0) by omega), if_true]
  exact Ev.now _

end Go.Proofs.Ytmffllogaboklae.Pure
