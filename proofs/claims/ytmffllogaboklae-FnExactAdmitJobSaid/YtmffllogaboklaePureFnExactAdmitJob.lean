/- The pure statement of the law FnExactAdmitJob: over lists and numbers the law's function answers true. No conditions beyond those typed. -/
import Derived.Test.YtmffllogaboklaeA8
import Derived.Test.YtmffllogaboklaeLib
namespace Go.Proofs.Ytmffllogaboklae.Pure
open Go.RowKit Go.Proofs.Ytmffllogaboklae.A Go.Proofs.YtmffllogaboklaeW.PrintWords Go.Proofs.YtmffllogaboklaeLib
set_option linter.unusedVariables false
set_option linter.unusedSimpArgs false

theorem in_eq (x y z : Int) : impl_in.f x y z = some (decide (x ≥ y ∧ x ≤ z)) := by
  unfold impl_in.f
  by_cases h : x ≥ y <;> simp only [h, if_true, if_false, true_and, false_and, decide_false]
theorem sin_eq (x y z : Int) : spec_l1In.f x y z = some (decide (x ≥ y ∧ x ≤ z)) := by
  unfold spec_l1In.f
  by_cases h : x ≥ y <;> simp only [h, if_true, if_false, true_and, false_and, decide_false]
def okB (x : S39) : Bool := decide (x.f0 ≥ 0 ∧ x.f0 ≤ 23) && (decide (x.f1 ≥ 1 ∧ x.f1 ≤ 6) && decide (x.f2 ≥ wrap64 (x.f0 + 1) ∧ x.f2 ≤ 24))
theorem sjob_eq (x : S39) : spec_l4Job.f x.f0 x.f1 x.f2 = some (okB x) := by
  unfold spec_l4Job.f okB
  simp only [sin_eq, Option.bind_some]
  by_cases h1 : x.f0 ≥ 0 ∧ x.f0 ≤ 23 <;> by_cases h2 : x.f1 ≥ 1 ∧ x.f1 ≤ 6 <;> simp [h1, h2]
theorem ijob_eq (x : S39) : impl_areJobs_1.f x.f0 x.f1 x.f2 = some (!okB x) := by
  unfold impl_areJobs_1.f impl_isJob.f okB
  simp only [in_eq, Option.bind_some]
  by_cases h1 : x.f0 ≥ 0 ∧ x.f0 ≤ 23 <;> by_cases h2 : x.f1 ≥ 1 ∧ x.f1 ≤ 6 <;> simp [h1, h2]
def goodB (l : List S39) : Bool := l.all okB && decide ((l.length : Int) ≤ 8)
theorem spec_ev (l : List S39) (hl : l.length ≤ 1048576) : Ev (fun k => spec_GoodJobs.f k l) (goodB l) := by
  refine Ev.congr (fun k => rfl) (all_ev (fun k i => spec_GoodJobs.l0 k l l (l.length : Int) i) okB _ l (by omega) (fun k j hj => ?_) (fun k => ?_))
  · simp only [spec_GoodJobs.l0, sjob_eq, Option.bind_some]
    rw [if_pos (by omega), if_pos (by omega), if_pos (by omega)]
    simp only [rd_T39, getD_at l j hj]
  · simp [spec_GoodJobs.l0]
theorem idx_ev (l : List S39) (hl : l.length ≤ 2000000) : ∃ r, Ev (fun k => impl_Job_75.f k l) r ∧ decide (r ≥ 0) = l.any fun x => !okB x := by
  refine any_ev (fun k i => impl_Job_75.l0 k l (l.length : Int) i) (fun x => !okB x) l (by omega) (fun k j hj => ?_) (fun k => ?_)
  · simp only [impl_Job_75.l0, ijob_eq, Option.bind_some]
    rw [if_pos (by omega), if_pos (by omega), if_pos (by omega)]
    simp only [rd_T39, getD_at l j hj]
  · simp [impl_Job_75.l0]
theorem impl_ev' (l : List S39) (hl : l.length ≤ 2000000) : Ev (fun k => impl_areJobs.f k l) (goodB l) := by
  unfold impl_areJobs.f impl_Job_66.f goodB
  by_cases h : (l.length : Int) ≤ 8
  · simp only [h, if_true, decide_true, Bool.and_true]
    obtain ⟨r, hr, hd⟩ := idx_ev l hl
    refine Ev.bind (f := fun _ t => some (!t)) (a := decide (r ≥ 0)) (Ev.bind (f := fun _ t => some (decide (t ≥ 0))) hr (Ev.now _)) ?_
    rw [hd, not_any]
    exact Ev.now _
  · simp only [h, if_false, decide_false, Bool.and_false]
    exact Ev.now _
theorem impl_ev (l : List S39) (hl : l.length ≤ 1048576) : Ev (fun k => impl_areJobs.f k l) (goodB l) := impl_ev' l (by omega)
theorem good_at {l : List S39} (h : goodB l = true) : l.length ≤ 8 ∧ ∀ (j : Nat), j < l.length → 0 ≤ (rd_T39 l (j : Int)).f0 ∧ (rd_T39 l (j : Int)).f0 ≤ 23 ∧ 1 ≤ (rd_T39 l (j : Int)).f1 ∧ (rd_T39 l (j : Int)).f1 ≤ 6 ∧ 1 ≤ (rd_T39 l (j : Int)).f2 ∧ (rd_T39 l (j : Int)).f2 ≤ 24 := by
  unfold goodB at h
  rw [Bool.and_eq_true] at h
  have h8 := of_decide_eq_true h.2
  refine ⟨by omega, fun j hj => ?_⟩
  have h1 := List.all_eq_true.1 h.1 (l[j]) (List.getElem_mem hj)
  have e : rd_T39 l (j : Int) = l[j] := getD_at l j hj _
  rw [e]
  unfold okB at h1
  simp only [Bool.and_eq_true, decide_eq_true_eq] at h1
  obtain ⟨⟨a, b⟩, ⟨c, d⟩, f, g⟩ := h1
  rw [w64 (by omega) (by omega)] at f
  exact ⟨by omega, by omega, by omega, by omega, by omega, by omega⟩
/-- Every number of the list is from -1 to n - 1. -/
def Slots (n : Nat) (o : List Int) : Prop := ∀ x ∈ o, -1 ≤ x ∧ x < n
theorem Slots.snoc {n : Nat} {o : List Int} {b : Int} (h : Slots n o) (hb : -1 ≤ b ∧ b < n) : Slots n (o ++ [b]) := by
  intro x hx
  rcases List.mem_append.1 hx with hx | hx
  · exact h x hx
  · rw [List.mem_singleton.1 hx]
    exact hb
/-- What both come to at a place. -/
def EBoth (l : List S39) (had out : List Int) (t : Int) : Prop := ∃ r, Ev (fun k => spec_l4Earliest.l0 k l had out t) r ∧ Ev (fun k => impl_earliest.l0 k l out had t) r ∧ r.length = 24 ∧ Slots l.length r
theorem ear_1 (l : List S39) (hl : l.length ≤ 8) (t : Nat) (ht : t < 24) (ih : ∀ had out, had.length = l.length → out.length = t + 1 → Slots l.length out → EBoth l had out ((t + 1 : Nat) : Int)) (had out : List Int) (h1 : had.length = l.length) (h2 : out.length = t) (h3 : Slots l.length out) :
    ∀ (d j : Nat) (b : Int), j ≤ l.length → l.length - j = d → -1 ≤ b → b < l.length →
      ∃ r, Ev (fun k => spec_l4Earliest.l1 k l had out (t : Int) b l (l.length : Int) (j : Int)) r ∧ Ev (fun k => impl_earliest.l1 k l out had (t : Int) b (t : Int) l (l.length : Int) (j : Int)) r ∧ r.length = 24 ∧ Slots l.length r
  | 0, j, b, hj, hd, hb0, hb1 => by
    obtain rfl : j = l.length := by omega
    by_cases hb : b ≥ 0
    · obtain ⟨r, a1, a2, a3, a4⟩ := ih (had.set b.toNat (wrap64 (rd had b + 1))) (out ++ [b]) (by rw [List.length_set]; exact h1) (by rw [List.length_append, List.length_singleton, h2]) (h3.snoc ⟨hb0, hb1⟩)
      refine ⟨r, Ev.step (fun k => ?_) a1, Ev.step (fun k => ?_) a2, a3, a4⟩
      · simp only [spec_l4Earliest.l1]
        rw [if_neg (by omega), if_pos hb, if_pos (by omega), if_pos (by omega), if_pos (by omega), w64s ht (by omega)]
      · simp only [impl_earliest.l1]
        rw [if_neg (by omega), if_pos hb, if_pos (by omega), if_pos (by omega), if_pos (by omega), w64s ht (by omega)]
    · obtain ⟨r, a1, a2, a3, a4⟩ := ih had (out ++ [b]) h1 (by rw [List.length_append, List.length_singleton, h2]) (h3.snoc ⟨hb0, hb1⟩)
      refine ⟨r, Ev.step (fun k => ?_) a1, Ev.step (fun k => ?_) a2, a3, a4⟩
      · simp only [spec_l4Earliest.l1]
        rw [if_neg (by omega), if_neg hb, if_pos (by omega), w64s ht (by omega)]
      · simp only [impl_earliest.l1]
        rw [if_neg (by omega), if_neg hb, if_pos (by omega), w64s ht (by omega)]
  | d + 1, j, b, hj, hd, hb0, hb1 => by
    have hjl : j < l.length := by omega
    obtain ⟨rn, n1, n2, n3, n4⟩ := ear_1 l hl t ht ih had out h1 h2 h3 d (j + 1) (j : Int) (by omega) (by omega) (by omega) (by omega)
    obtain ⟨ro, o1, o2, o3, o4⟩ := ear_1 l hl t ht ih had out h1 h2 h3 d (j + 1) b (by omega) (by omega) hb0 hb1
    by_cases c1 : (rd_T39 l (j : Int)).f0 ≤ (t : Int)
    · by_cases c2 : rd had (j : Int) < (rd_T39 l (j : Int)).f1
      · by_cases c3 : b < 0
        · refine ⟨rn, Ev.step (fun k => ?_) n1, Ev.step (fun k => ?_) n2, n3, n4⟩
          · simp only [spec_l4Earliest.l1]
            rw [if_pos (by omega), if_pos (by omega), if_pos (by omega), if_pos c1, if_pos (by omega), if_pos c2, if_pos c3, w64s hjl (by omega)]
          · simp only [impl_earliest.l1]
            rw [if_pos (by omega), if_pos (by omega), if_pos (by omega), if_pos c1, if_pos (by omega), if_pos c2, if_pos c3, w64s hjl (by omega)]
        · by_cases c4 : (rd_T39 l (j : Int)).f2 < (rd_T39 l b).f2
          · refine ⟨rn, Ev.step (fun k => ?_) n1, Ev.step (fun k => ?_) n2, n3, n4⟩
            · simp only [spec_l4Earliest.l1]
              rw [if_pos (by omega), if_pos (by omega), if_pos (by omega), if_pos c1, if_pos (by omega), if_pos c2, if_neg c3, if_pos (by omega), if_pos (by omega), if_pos c4, w64s hjl (by omega)]
            · simp only [impl_earliest.l1]
              rw [if_pos (by omega), if_pos (by omega), if_pos (by omega), if_pos c1, if_pos (by omega), if_pos c2, if_neg c3, if_pos (by omega), if_pos (by omega), if_pos c4, w64s hjl (by omega)]
          · refine ⟨ro, Ev.step (fun k => ?_) o1, Ev.step (fun k => ?_) o2, o3, o4⟩
            · simp only [spec_l4Earliest.l1]
              rw [if_pos (by omega), if_pos (by omega), if_pos (by omega), if_pos c1, if_pos (by omega), if_pos c2, if_neg c3, if_pos (by omega), if_pos (by omega), if_neg c4, w64s hjl (by omega)]
            · simp only [impl_earliest.l1]
              rw [if_pos (by omega), if_pos (by omega), if_pos (by omega), if_pos c1, if_pos (by omega), if_pos c2, if_neg c3, if_pos (by omega), if_pos (by omega), if_neg c4, w64s hjl (by omega)]
      · refine ⟨ro, Ev.step (fun k => ?_) o1, Ev.step (fun k => ?_) o2, o3, o4⟩
        · simp only [spec_l4Earliest.l1]
          rw [if_pos (by omega), if_pos (by omega), if_pos (by omega), if_pos c1, if_pos (by omega), if_neg c2, w64s hjl (by omega)]
        · simp only [impl_earliest.l1]
          rw [if_pos (by omega), if_pos (by omega), if_pos (by omega), if_pos c1, if_pos (by omega), if_neg c2, w64s hjl (by omega)]
    · refine ⟨ro, Ev.step (fun k => ?_) o1, Ev.step (fun k => ?_) o2, o3, o4⟩
      · simp only [spec_l4Earliest.l1]
        rw [if_pos (by omega), if_pos (by omega), if_pos (by omega), if_neg c1, w64s hjl (by omega)]
      · simp only [impl_earliest.l1]
        rw [if_pos (by omega), if_pos (by omega), if_pos (by omega), if_neg c1, w64s hjl (by omega)]
theorem ear_0 (l : List S39) (hl : l.length ≤ 8) : ∀ (d t : Nat) (had out : List Int), t ≤ 24 → 24 - t = d → had.length = l.length → out.length = t → Slots l.length out → EBoth l had out (t : Int)
  | 0, t, had, out, ht, hd, h1, h2, h3 => by
    obtain rfl : t = 24 := by omega
    refine ⟨out, Ev.step (f := fun _ => some out) (fun k => ?_) (Ev.now _), Ev.step (f := fun _ => some out) (fun k => ?_) (Ev.now _), h2, h3⟩
    · simp only [spec_l4Earliest.l0]
      rw [if_neg (by omega)]
    · simp only [impl_earliest.l0]
      rw [if_neg (by omega)]
  | d + 1, t, had, out, ht, hd, h1, h2, h3 => by
    obtain ⟨r, a1, a2, a3, a4⟩ := ear_1 l hl t (by omega) (fun had' out' g1 g2 g3 => ear_0 l hl d (t + 1) had' out' (by omega) (by omega) g1 g2 g3) had out h1 h2 h3 l.length 0 (-1) (by omega) rfl (by omega) (by omega)
    refine ⟨r, Ev.step (fun k => ?_) a1, Ev.step (fun k => ?_) a2, a3, a4⟩
    · simp only [spec_l4Earliest.l0]
      rw [if_pos (by omega)]
      rfl
    · simp only [impl_earliest.l0]
      rw [if_pos (by omega)]
      rfl
theorem ear_ev (l : List S39) (hl : l.length ≤ 8) : ∃ r, Ev (fun k => spec_l4Earliest.f k l) r ∧ Ev (fun k => impl_earliest.f k l) r ∧ r.length = 24 ∧ Slots l.length r := by
  obtain ⟨r, a1, a2, a3, a4⟩ := ear_0 l hl 24 0 (List.replicate l.length 0) [] (by omega) rfl (by simp) rfl (fun x hx => by cases hx)
  refine ⟨r, Ev.congr (fun k => ?_) a1, Ev.congr (fun k => ?_) a2, a3, a4⟩
  · unfold spec_l4Earliest.f
    rw [if_pos (by omega), if_pos (by omega), Int.toNat_natCast]
    rfl
  · unfold impl_earliest.f
    rw [if_pos (by omega), if_pos (by omega), Int.toNat_natCast]
    rfl
theorem sbit_eq (b : Bool) : spec_l1Bit.f b = some (if b = true then 1 else 0) := by
  unfold spec_l1Bit.f
  split <;> rfl
def LBoth (l : List S39) (s out : List Int) (j : Int) : Prop := ∃ r, Ev (fun k => spec_l4Late.l0 k s out l (l.length : Int) j) r ∧ Ev (fun k => impl_late.l0 k s out l (l.length : Int) j) r ∧ r.length ≤ l.length
theorem late_1 (l : List S39) (s : List Int) (hl : l.length ≤ 8) (hs : s.length = 24) (j : Nat) (hj : j < l.length) (f0 f1 f2 : Int) (hf0 : 0 ≤ f2) (hf1 : f2 ≤ 24)
    (ih : ∀ out, out.length ≤ j + 1 → LBoth l s out ((j + 1 : Nat) : Int)) (out : List Int) (ho : out.length ≤ j) :
    ∀ (d t : Nat) (m : Int), (t : Int) ≤ f2 → f2 - t = d → 0 ≤ m → m ≤ t →
      ∃ r, Ev (fun k => spec_l4Late.l1 k s out (j : Int) m (t : Int) l (l.length : Int) (j : Int) f0 f1 f2) r ∧ Ev (fun k => impl_late.l1 k s out (j : Int) m l (l.length : Int) (j : Int) (s.take f2.toNat) ((s.take f2.toNat).length : Int) (t : Int) f0 f1 f2) r ∧ r.length ≤ l.length
  | 0, t, m, ht, hd, hm0, hm1 => by
    have hlen : ((s.take f2.toNat).length : Int) = f2 := by rw [List.length_take]; omega
    by_cases c : m < f1
    · obtain ⟨r, a1, a2, a3⟩ := ih (out ++ [(j : Int)]) (by rw [List.length_append, List.length_singleton]; omega)
      refine ⟨r, Ev.step (fun k => ?_) a1, Ev.step (fun k => ?_) a2, a3⟩
      · simp only [spec_l4Late.l1]
        rw [if_neg (by omega), if_pos c, if_pos (by omega), w64s hj (by omega)]
      · simp only [impl_late.l1]
        rw [if_neg (by omega), if_pos c, if_pos (by omega), w64s hj (by omega)]
    · obtain ⟨r, a1, a2, a3⟩ := ih out (by omega)
      refine ⟨r, Ev.step (fun k => ?_) a1, Ev.step (fun k => ?_) a2, a3⟩
      · simp only [spec_l4Late.l1]
        rw [if_neg (by omega), if_neg c, w64s hj (by omega)]
      · simp only [impl_late.l1]
        rw [if_neg (by omega), if_neg c, w64s hj (by omega)]
  | d + 1, t, m, ht, hd, hm0, hm1 => by
    have hlen : ((s.take f2.toNat).length : Int) = f2 := by rw [List.length_take]; omega
    have ht24 : t < 24 := by omega
    have hrd : rd (s.take f2.toNat) (t : Int) = rd s (t : Int) := by
      simp only [rd, Int.toNat_natCast, List.getD_eq_getElem?_getD, List.getElem?_take, if_pos (show t < f2.toNat by omega)]
    by_cases c : rd s (t : Int) = (j : Int)
    · obtain ⟨r, a1, a2, a3⟩ := late_1 l s hl hs j hj f0 f1 f2 hf0 hf1 ih out ho d (t + 1) (m + 1) (by omega) (by omega) (by omega) (by omega)
      refine ⟨r, Ev.step (fun k => ?_) a1, Ev.step (fun k => ?_) a2, a3⟩
      · simp only [spec_l4Late.l1, sbit_eq, Option.bind_some]
        rw [if_pos (by omega), if_pos (by omega), if_pos (by omega), if_pos (beq_iff_eq.2 c), w64 (i := m + 1) (by omega) (by omega), w64s ht24 (by omega)]
      · simp only [impl_late.l1]
        rw [if_pos (by omega), if_pos (by omega), if_pos (by omega), hrd, if_pos c, w64 (i := m + 1) (by omega) (by omega), w64s ht24 (by omega)]
    · obtain ⟨r, a1, a2, a3⟩ := late_1 l s hl hs j hj f0 f1 f2 hf0 hf1 ih out ho d (t + 1) m (by omega) (by omega) (by omega) (by omega)
      refine ⟨r, Ev.step (fun k => ?_) a1, Ev.step (fun k => ?_) a2, a3⟩
      · simp only [spec_l4Late.l1, sbit_eq, Option.bind_some]
        rw [if_pos (by omega), if_pos (by omega), if_pos (by omega), if_neg (fun h => c (beq_iff_eq.1 h)), Int.add_zero, w64 (i := m) (by omega) (by omega), w64s ht24 (by omega)]
      · simp only [impl_late.l1]
        rw [if_pos (by omega), if_pos (by omega), if_pos (by omega), hrd, if_neg c, w64s ht24 (by omega)]
theorem late_0 (l : List S39) (s : List Int) (hg : goodB l = true) (hs : s.length = 24) : ∀ (d j : Nat) (out : List Int), j ≤ l.length → l.length - j = d → out.length ≤ j → LBoth l s out (j : Int)
  | 0, j, out, hj, hd, ho => by
    obtain rfl : j = l.length := by omega
    refine ⟨out, Ev.step (f := fun _ => some out) (fun k => ?_) (Ev.now _), Ev.step (f := fun _ => some out) (fun k => ?_) (Ev.now _), ho⟩
    · simp [spec_l4Late.l0]
    · simp [impl_late.l0]
  | d + 1, j, out, hj, hd, ho => by
    obtain ⟨h8, hat⟩ := good_at hg
    obtain ⟨_, _, _, _, g1, g2⟩ := hat j (by omega)
    obtain ⟨r, a1, a2, a3⟩ := late_1 l s h8 hs j (by omega) (rd_T39 l (j : Int)).f0 (rd_T39 l (j : Int)).f1 (rd_T39 l (j : Int)).f2 (by omega) g2 (fun out' h => late_0 l s hg hs d (j + 1) out' (by omega) (by omega) h) out ho (rd_T39 l (j : Int)).f2.toNat 0 0 (by omega) (by omega) (by omega) (by omega)
    refine ⟨r, Ev.step (fun k => ?_) a1, Ev.step (fun k => ?_) a2, a3⟩
    · simp only [spec_l4Late.l0]
      rw [if_pos (by omega), if_pos (by omega), if_pos (by omega)]
      rfl
    · simp only [impl_late.l0, Option.bind_some]
      rw [if_pos (by omega), if_pos (by omega), if_pos (by omega), if_pos (by omega), if_pos (by omega)]
      rfl
theorem late_ev (l : List S39) (s : List Int) (hg : goodB l = true) (hs : s.length = 24) : ∃ r, Ev (fun k => spec_l4Late.f k l s) r ∧ Ev (fun k => impl_late.f k l s) r ∧ r.length ≤ l.length := by
  obtain ⟨r, a1, a2, a3⟩ := late_0 l s hg hs l.length 0 [] (by omega) rfl (by decide)
  exact ⟨r, a1, a2, a3⟩
def cvJob (x : S36) : S39 := ⟨x.f0, x.f1, x.f2⟩
theorem szJob_eq (l : List S36) (hl : l.length ≤ maxLen) : laws_szJobS.f l 1048576 = some (if (l.length : Int) ≤ 1048576 then 1048576 - (l.length : Int) else -1) := by
  unfold laws_szJobS.f
  unfold maxLen at hl
  rw [w64 (by omega) (by omega)]
  by_cases h : (l.length : Int) ≤ 1048576
  · rw [if_neg (by omega), if_pos h]
  · rw [if_pos (by omega), if_neg h]
theorem toJob_ev (l : List S36) (hl : l.length ≤ 1048576) : Ev (fun k => laws_toJobS.f k l) (l.map cvJob) := by
  refine Ev.congr (fun k => ?_) (fill_ev (fun k x0 x3 x4 => laws_toJobS.l0 k x0 x3 x4) cvJob z36 (fun k x0 x3 x4 => rfl) l z39 (by omega))
  unfold laws_toJobS.f
  rw [if_pos (by omega), if_pos (by omega), Int.toNat_natCast]
theorem eqJob_ev (l : List S39) (hl : l.length ≤ 1048576) : Ev (fun k => laws_eqJobS.f k l l) true := by
  refine Ev.congr (fun k => ?_) (eqr_ev (fun k x0 x1 x5 => laws_eqJobS.l0 k x0 x1 x5) l (fun k j hj => ?_) (fun k => ?_) (by omega))
  · unfold laws_eqJobS.f
    rw [if_pos rfl]
  · simp only [laws_eqJobS.l0]
    rw [if_pos (by omega), if_pos (by omega), if_pos (by omega)]
    simp [laws_eqJob.f]
  · simp [laws_eqJobS.l0]
def mkJob (m : Int) : S39 := ⟨m, m + 1, m + 2⟩
theorem markJob_ev (l : List S39) (hl : l.length ≤ 1048576) : Ev (fun k => laws_markJobS.f k l 1) (1 + (3 : Nat) * (l.length : Int), (List.range l.length).map fun j : Nat => mkJob (1 + ((3 : Nat) : Int) * (j : Int))) := by
  refine Ev.congr (fun k => rfl) (mark_ev (fun k x0 x1 x5 => laws_markJobS.l0 k x0 x1 x5) 3 mkJob 1 (by omega) (by omega) (by omega) (fun k x0 x1 j hj h0 h1 => ?_) (fun k x0 x1 => ?_) l (by omega))
  · simp only [laws_markJobS.l0]
    rw [if_pos (by omega), if_pos (by omega)]
    simp only [Option.bind_some, Int.toNat_natCast, rd_T39, List.getD_eq_getElem?_getD, List.set_set, List.getElem?_set_self hj, Option.getD_some]
    simp only [w64 (i := x1 + 1) (by omega) (by omega), w64 (i := x1 + 1 + 1) (by omega) (by omega), w64 (i := x1 + 1 + 1 + 1) (by omega) (by omega)]
    simp only [show x1 + 1 + 1 = x1 + 2 by omega, show x1 + 2 + 1 = x1 + 3 by omega]
    rfl
  · simp [laws_markJobS.l0]
theorem heldJob_ev (n : Nat) (hn : n ≤ 1048576) : Ev (fun k => laws_heldJobS.f k ((List.range n).map fun j : Nat => mkJob (1 + ((3 : Nat) : Int) * (j : Int))) 1) (1 + (3 : Nat) * (n : Int)) := by
  refine Ev.congr (fun k => rfl) (held_ev (fun k x0 x1 x5 => laws_heldJobS.l0 k x0 x1 x5) 3 mkJob 1 (by omega) (by omega) (by omega) (fun k x0 x1 j hx hj h0 h1 => ?_) (fun k x0 x1 => ?_) n (by omega))
  · simp only [laws_heldJobS.l0]
    rw [if_pos (by omega), if_pos (by omega)]
    simp only [Int.toNat_natCast, rd_T39, List.getD_eq_getElem?_getD, hx, Option.getD_some, mkJob, w64 (i := x1 + 1) (by omega) (by omega), w64 (i := x1 + 1 + 1) (by omega) (by omega), w64 (i := x1 + 1 + 1 + 1) (by omega) (by omega), if_true]
    simp only [show x1 + 1 + 1 = x1 + 2 by omega, show x1 + 2 + 1 = x1 + 3 by omega, if_true]
    rfl
  · simp [laws_heldJobS.l0]
theorem meet_ev (l : List S39) (hg : goodB l = true) : ∃ b, Ev (fun k => spec_l4Meet.f k l) b ∧ Ev (fun k => impl_canMeet.f k l) b := by
  unfold spec_l4Meet.f impl_canMeet.f
  have h8 := (good_at hg).1
  obtain ⟨s, a, b, c, _⟩ := ear_ev l h8
  obtain ⟨r, e, f, _⟩ := late_ev l s hg c
  exact ⟨(r.length : Int) == 0, Ev.bind a (Ev.bind e (Ev.now _)), Ev.bind b (Ev.bind f (Ev.now _))⟩
theorem good_app (l : List S39) (x : S39) : goodB (l ++ [x]) = (goodB l && okB x && decide ((l.length : Int) ≠ 8)) := by
  unfold goodB
  rw [List.all_append, List.all_cons, List.all_nil, Bool.and_true, List.length_append]
  by_cases h : (l.length : Int) ≤ 8
  · by_cases h8 : (l.length : Int) = 8
    · have e : decide (((l.length + [x].length : Nat) : Int) ≤ 8) = false := decide_eq_false (by simp; omega)
      rw [e]
      simp [h8]
    · have e : decide (((l.length + [x].length : Nat) : Int) ≤ 8) = true := decide_eq_true (by simp; omega)
      rw [e]
      simp [h, h8]
  · have e : decide (((l.length + [x].length : Nat) : Int) ≤ 8) = false := decide_eq_false (by simp; omega)
    rw [e]
    simp [h]
theorem both_ev (l : List S39) (x : S39) (hl : l.length ≤ 1048576) : ∃ g b, Ev (fun k => spec_AdmitJob.f k l x.f0 x.f1 x.f2) (g, b) ∧ Ev (fun k => impl_AdmitJob.f k l x.f0 x.f1 x.f2) (g, b) ∧ g.length ≤ 1048576 := by
  have hi : Ev (fun k => impl_AdmitJob.f k l x.f0 x.f1 x.f2) = Ev (fun k => (impl_areJobs.f k (l ++ [x])).bind fun t => if t = true then (impl_canMeet.f k (l ++ [x])).bind fun u => if u = true then some (l ++ [x], true) else some (([] : List S39), false) else some (([] : List S39), false)) := by
    congr 1
    funext k
    unfold impl_AdmitJob.f impl_Job_44.f
    simp only [Option.bind_some, List.nil_append]
    rw [if_pos (show ([] : List S39).length + l.length < 5864062014805 by simp; omega), Option.bind_some, if_pos (show l.length + [(⟨x.f0, x.f1, x.f2⟩ : S39)].length < 5864062014805 by simp; omega)]
  rw [hi]
  have ha := impl_ev' (l ++ [x]) (by simp; omega)
  have hs := spec_ev l hl
  unfold spec_AdmitJob.f
  simp only [sjob_eq, Option.bind_some]
  by_cases hg : goodB (l ++ [x]) = true
  · have hg2 := hg
    rw [good_app, Bool.and_eq_true, Bool.and_eq_true] at hg2
    obtain ⟨⟨g1, g2⟩, g3⟩ := hg2
    have g3 := of_decide_eq_true g3
    rw [hg] at ha
    rw [g1] at hs
    obtain ⟨b, u, v⟩ := meet_ev (l ++ [x]) hg
    have h8 := (good_at g1).1
    have key : ∀ k, spec_AdmitJob.j0 (k + 1) l false x.f0 x.f1 x.f2 = (spec_l4Meet.f k (l ++ [x])).bind fun t => if t = true then some (l ++ [x], true) else some (([] : List S39), false) := fun k => by
      simp only [spec_AdmitJob.j0, Option.bind_some, List.nil_append, Bool.false_eq_true, if_false]
      rw [if_pos (show ([] : List S39).length + l.length < 5864062014805 by simp; omega), if_pos (show l.length + [(⟨x.f0, x.f1, x.f2⟩ : S39)].length < 5864062014805 by simp; omega)]
    have h0 : ((l.length : Int) == 8) = false := beq_eq_false_iff_ne.2 g3
    cases b with
    | true =>
      refine ⟨l ++ [x], true, Ev.bind hs ?_, Ev.bind ha (Ev.bind v (Ev.now _)), by have := (good_at hg).1; omega⟩
      simp only [if_true, g2, h0]
      exact Ev.step key (Ev.bind u (Ev.now _))
    | false =>
      refine ⟨[], false, Ev.bind hs ?_, Ev.bind ha (Ev.bind v (Ev.now _)), by simp⟩
      simp only [if_true, g2, h0]
      exact Ev.step key (Ev.bind u (Ev.now _))
  · rw [Bool.eq_false_iff.2 hg] at ha
    refine ⟨[], false, ?_, Ev.bind ha (Ev.now _), by simp⟩
    have key : Ev (fun k => spec_AdmitJob.j0 k l true x.f0 x.f1 x.f2) (([] : List S39), false) := Ev.step (f := fun _ => some (([] : List S39), false)) (fun k => rfl) (Ev.now _)
    by_cases g1 : goodB l = true
    · rw [g1] at hs
      refine Ev.bind hs ?_
      by_cases g2 : okB x = true
      · have g3 : (l.length : Int) = 8 := by
          refine Decidable.byContradiction fun h => hg ?_
          rw [good_app, g1, g2, decide_eq_true h]
          rfl
        have h0 : ((l.length : Int) == 8) = true := beq_iff_eq.2 g3
        simp only [if_true, g2, h0]
        exact key
      · simp only [if_true, if_neg g2]
        exact key
    · rw [Bool.eq_false_iff.2 g1] at hs
      exact Ev.bind hs key
theorem FnExactAdmitJob : laws_FnExactAdmitJob.Pure := by
  intro l a b c hl _ _ _ _
  apply Ev.rounds
  unfold laws_FnExactAdmitJob.f
  simp only [szJob_eq l hl, Option.bind_some]
  by_cases h : (l.length : Int) ≤ 1048576
  case neg =>
    simp only [if_neg h]
    exact Ev.now _
  simp only [if_pos h, if_neg (show ¬ (1048576 - (l.length : Int) < 0) by omega)]
  have hl' : l.length ≤ 1048576 := by omega
  have hm : (l.map cvJob).length ≤ 1048576 := by simpa using hl'
  have hto := toJob_ev l hl'
  have heq := eqJob_ev (l.map cvJob) hm
  generalize l.map cvJob = x at hto heq hm
  refine Ev.bind hto ?_
  simp only [laws_toJob.f, Option.bind_some]
  have hmk := markJob_ev x hm
  obtain ⟨g, r, h1, h2, hg⟩ := both_ev x ⟨a, b, c⟩ hm
  have heg := eqJob_ev g hg
  refine Ev.bind h1 (Ev.bind hto (Ev.bind h2 (Ev.bind heg ?_)))
  simp only [if_true, bne_self_eq_false]
  refine Ev.step (fun k => by simp only [laws_FnExactAdmitJob.j0]; rfl) ?_
  simp only [Bool.false_eq_true, if_false]
  refine Ev.bind hto (Ev.bind heq ?_)
  simp only [if_true]
  refine Ev.bind hmk ?_
  simp only [if_neg (show ¬ (1 + ((3 : Nat) : Int) * (x.length : Int) < 0) by omega)]
  refine Ev.bind heg ?_
  simp only [if_true, bne_self_eq_false]
  refine Ev.step (fun k => by simp only [laws_FnExactAdmitJob.j1]; rfl) ?_
  simp only [Bool.false_eq_true, if_false]
  refine Ev.bind (markJob_ev g hg) (Ev.bind (heldJob_ev g.length hg) ?_)
  simp only [if_neg (show ¬ (1 + ((3 : Nat) : Int) * (g.length : Int) < 0) by omega), if_true]
  simp only [laws_toJob.f, Option.bind_some]
  refine Ev.bind hto (Ev.bind h2 (Ev.bind heg ?_))
  simp only [if_true, bne_self_eq_false]
  refine Ev.step (fun k => by simp only [laws_FnExactAdmitJob.j2]; rfl) ?_
  simp only [Bool.false_eq_true, if_false]
  refine Ev.bind (heldJob_ev g.length hg) ?_
  simp only [if_neg (show ¬ (1 + ((3 : Nat) : Int) * (g.length : Int) < 0) by omega), if_true]
  exact Ev.now _

end Go.Proofs.Ytmffllogaboklae.Pure
