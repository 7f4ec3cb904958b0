/- The pure statement of the law FnExactConforms: over lists and numbers the law's function answers true. No conditions beyond those typed. -/
import Derived.Test.YtmffllogaboklabY2
import Derived.Test.YtmffllogaboklabLib
namespace Go.Proofs.Ytmffllogaboklab.Pure
open Go.RowKit Go.Proofs.Ytmffllogaboklab.Y Go.Proofs.YtmffllogaboklabW.PrintWords Go.Proofs.YtmffllogaboklabLib
set_option linter.unusedVariables false
set_option linter.unusedSimpArgs false

theorem in_eq (x y z : Int) : impl_in.f x y z = some (decide (x ≥ y ∧ x ≤ z)) := by
  unfold impl_in.f
  by_cases h : x ≥ y <;> simp only [h, if_true, if_false, true_and, false_and, decide_false]
theorem sin_eq (x y z : Int) : spec_l1In.f x y z = some (decide (x ≥ y ∧ x ≤ z)) := by
  unfold spec_l1In.f
  by_cases h : x ≥ y <;> simp only [h, if_true, if_false, true_and, false_and, decide_false]
theorem toInt_ev (l : List Int) (hl : l.length ≤ 1048576) : Ev (fun k => laws_toIntS.f k l) l := by
  have h := fill_ev (fun k x0 x3 x4 => laws_toIntS.l0 k x0 x3 x4) (fun x : Int => x) 0 (fun k x0 x3 x4 => rfl) l 0 (by omega)
  rw [List.map_id'] at h
  refine Ev.congr (fun k => ?_) h
  unfold laws_toIntS.f
  rw [if_pos (by omega), if_pos (by omega), Int.toNat_natCast]
theorem eqInt_ev (l : List Int) (hl : l.length ≤ 1048576) : Ev (fun k => laws_eqIntS.f k l l) true := by
  refine Ev.congr (fun k => ?_) (eqr_ev (fun k x0 x1 x5 => laws_eqIntS.l0 k x0 x1 x5) l (fun k j hj => ?_) (fun k => ?_) (by omega))
  · unfold laws_eqIntS.f
    rw [if_pos rfl]
  · simp only [laws_eqIntS.l0]
    rw [if_pos (by omega), if_pos (by omega), if_pos (by omega), if_pos trivial]
  · simp [laws_eqIntS.l0]
theorem srate_eq (a b : Int) : spec_l7Rate.f a b = some (decide (a ≥ 1 ∧ a ≤ 20) && decide (b ≥ 1 ∧ b ≤ 60)) := by
  unfold spec_l7Rate.f
  simp only [sin_eq, Option.bind_some]
  by_cases h : a ≥ 1 ∧ a ≤ 20 <;> simp [h]
theorem rate_eq (a b : Int) : impl_isRate.f a b = some (decide (a ≥ 1 ∧ a ≤ 20) && decide (b ≥ 1 ∧ b ≤ 60)) := by
  unfold impl_isRate.f
  simp only [in_eq, Option.bind_some]
  by_cases h : a ≥ 1 ∧ a ≤ 20 <;> simp [h]
def fB (x : Int) : Bool := decide (x ≥ 0 ∧ x ≤ 60)
def flowB (l : List Int) : Bool := l.all fB && decide ((l.length : Int) ≤ 40)
theorem sflow_ev (l : List Int) (hl : l.length ≤ 1048576) : Ev (fun k => spec_l7Flow.f k l) (flowB l) := by
  unfold spec_l7Flow.f flowB
  by_cases h : (l.length : Int) ≤ 40
  · simp only [if_pos h, decide_eq_true h, Bool.and_true]
    have ha := all_ev (fun k i => spec_l1All.l0 k 0 60 l (l.length : Int) i) fB true l (by omega) (fun k j hj => ?_) (fun k => ?_)
    rw [Bool.and_true] at ha
    · exact Ev.bind (f := fun _ t => some t) (Ev.congr (fun k => rfl) ha) (Ev.now _)
    · simp only [spec_l1All.l0, sin_eq, Option.bind_some]
      rw [if_pos (by omega), if_pos (by omega), if_pos (by omega)]
      simp only [rd, getD_at l j hj]
      rfl
    · simp [spec_l1All.l0]
  · simp only [if_neg h, decide_eq_false h, Bool.and_false]
    exact Ev.now _
theorem flow_ev (l : List Int) (hl : l.length ≤ 1048576) : Ev (fun k => impl_isFlow.f k l) (flowB l) := by
  unfold impl_isFlow.f flowB slices_ContainsFunc_int_int.f
  by_cases h : (l.length : Int) ≤ 40
  · simp only [if_pos h, decide_eq_true h, Bool.and_true]
    obtain ⟨r, hr, hd⟩ := any_ev (fun k i => slices_IndexFunc_int_int.l0 k l (l.length : Int) i) (fun x => !fB x) l (by omega) (fun k j hj => by
      simp only [slices_IndexFunc_int_int.l0, impl_isFlow_1.f, in_eq, Option.bind_some]
      rw [if_pos (by omega), if_pos (by omega), if_pos (by omega)]
      simp only [rd, getD_at l j hj]
      rfl) (fun k => by simp [slices_IndexFunc_int_int.l0])
    refine Ev.bind (f := fun _ t => some (!t)) (a := decide (r ≥ 0)) (Ev.bind (f := fun _ t => some (decide (t ≥ 0))) (Ev.congr (fun k => rfl) hr) (Ev.now _)) ?_
    rw [hd, not_any]
    exact Ev.now _
  · simp only [if_neg h, decide_eq_false h, Bool.and_false]
    exact Ev.now _
theorem flow_at {l : List Int} (h : flowB l = true) : l.length ≤ 40 ∧ ∀ (j : Nat), j < l.length → 0 ≤ rd l (j : Int) ∧ rd l (j : Int) ≤ 60 := by
  unfold flowB at h
  rw [Bool.and_eq_true] at h
  refine ⟨by have := of_decide_eq_true h.2; omega, fun j hj => ?_⟩
  have h1 := List.all_eq_true.1 h.1 (l[j]) (List.getElem_mem hj)
  have e : rd l (j : Int) = l[j] := getD_at l j hj _
  rw [e]
  unfold fB at h1
  exact of_decide_eq_true h1
theorem mul_in {r t : Int} (hr : 1 ≤ r ∧ r ≤ 20) (ht : 0 ≤ t ∧ t ≤ 40) : 0 ≤ r * t ∧ r * t ≤ 800 := by
  refine ⟨Int.mul_nonneg (by omega) (by omega), ?_⟩
  have h1 : r * t ≤ r * 40 := Int.mul_le_mul_of_nonneg_left (by omega) (by omega)
  omega
def encB (b : Bool) : Bool × Bool := (!b, true)
mutual
theorem con_0 (r c : Int) (hr : 1 ≤ r ∧ r ≤ 20) (hc : 1 ≤ c ∧ c ≤ 60) (l : List Int) (hg : flowB l = true) : ∀ (d i : Nat), i ≤ l.length → l.length - i = d →
    ∃ o, Ev (fun k => spec_Conforms.l0 k r c l (l.length : Int) (i : Int)) o ∧ Ev (fun k => impl_Conforms.l0 k r c l (l.length : Int) (i : Int)) o
  | 0, i, hi, hd => by
    refine ⟨(true, true), Ev.step (f := fun _ => some (true, true)) (fun k => ?_) (Ev.now _), Ev.step (f := fun _ => some (true, true)) (fun k => ?_) (Ev.now _)⟩
    · simp only [spec_Conforms.l0]
      rw [if_neg (by omega)]
    · simp only [impl_Conforms.l0]
      rw [if_neg (by omega)]
  | d + 1, i, hi, hd => by
    obtain ⟨o, a, b⟩ := con_1 r c hr hc l hg d i (by omega) (by omega) (l.length - i) i 0 (by omega) (by omega) (by omega) (by omega) (by omega)
    refine ⟨o, Ev.step (fun k => ?_) a, Ev.step (fun k => ?_) b⟩
    · simp only [spec_Conforms.l0]
      rw [if_pos (by omega)]
    · simp only [impl_Conforms.l0, Option.bind_some]
      rw [if_pos (by omega), if_pos (by omega), if_pos (by omega), Int.toNat_natCast, List.length_drop, Nat.sub_self]
      rfl
theorem con_1 (r c : Int) (hr : 1 ≤ r ∧ r ≤ 20) (hc : 1 ≤ c ∧ c ≤ 60) (l : List Int) (hg : flowB l = true) (d i : Nat) (hi : i < l.length) (hd : l.length - (i + 1) = d) : ∀ (e j : Nat) (n : Int), i ≤ j → j ≤ l.length → l.length - j = e → 0 ≤ n → n ≤ 60 * ((j : Int) - i) →
    ∃ o, Ev (fun k => spec_Conforms.l1 k r c l (i : Int) n (j : Int) (l.length : Int) (i : Int)) o ∧ Ev (fun k => impl_Conforms.l1 k r c l n (l.length : Int) (i : Int) (l.drop i) ((l.length - i : Nat) : Int) ((j - i : Nat) : Int)) o
  | 0, j, n, hij, hj, he, h0, h1 => by
    obtain ⟨o, a, b⟩ := con_0 r c hr hc l hg d (i + 1) (by omega) hd
    refine ⟨o, Ev.step (fun k => ?_) a, Ev.step (fun k => ?_) b⟩
    · simp only [spec_Conforms.l1]
      rw [if_neg (by omega), w64s hi (by have := (flow_at hg).1; omega)]
    · simp only [impl_Conforms.l1]
      rw [if_neg (by omega), w64s hi (by have := (flow_at hg).1; omega)]
  | e + 1, j, n, hij, hj, he, h0, h1 => by
    obtain ⟨h40, hat⟩ := flow_at hg
    have hj2 : j < l.length := by omega
    obtain ⟨a0, a1⟩ := hat j hj2
    obtain ⟨m0, m1⟩ := mul_in (t := (j : Int) - i) hr ⟨by omega, by omega⟩
    have hrd : rd (l.drop i) ((j - i : Nat) : Int) = rd l (j : Int) := by
      unfold rd
      rw [Int.toNat_natCast, Int.toNat_natCast, List.getD_eq_getElem?_getD, List.getD_eq_getElem?_getD, List.getElem?_drop, show i + (j - i) = j by omega]
    have hij' : ((j - i : Nat) : Int) = (j : Int) - i := by omega
    have hst : ∀ k, spec_Conforms.l1 (k + 1) r c l (i : Int) n (j : Int) (l.length : Int) (i : Int) = if n + rd l (j : Int) > c + r * ((j : Int) - i) then some (false, true) else spec_Conforms.l1 k r c l (i : Int) (n + rd l (j : Int)) ((j + 1 : Nat) : Int) (l.length : Int) (i : Int) := fun k => by
      simp only [spec_Conforms.l1]
      rw [if_pos (by omega), if_pos (by omega), w64 (i := n + rd l (j : Int)) (by omega) (by omega), w64 (i := (j : Int) - i) (by omega) (by omega), w64 (i := r * ((j : Int) - i)) (by omega) (by omega), w64 (i := c + r * ((j : Int) - i)) (by omega) (by omega), w64s hj2 (by omega)]
    have hit : ∀ k, impl_Conforms.l1 (k + 1) r c l n (l.length : Int) (i : Int) (l.drop i) ((l.length - i : Nat) : Int) ((j - i : Nat) : Int) = if n + rd l (j : Int) > c + r * ((j : Int) - i) then some (false, true) else impl_Conforms.l1 k r c l (n + rd l (j : Int)) (l.length : Int) (i : Int) (l.drop i) ((l.length - i : Nat) : Int) ((j + 1 - i : Nat) : Int) := fun k => by
      simp only [impl_Conforms.l1]
      rw [if_pos (by omega), if_pos (by omega), if_pos (by rw [List.length_drop]; omega), hrd, w64 (i := n + rd l (j : Int)) (by omega) (by omega), hij', w64 (i := r * ((j : Int) - i)) (by omega) (by omega), w64 (i := c + r * ((j : Int) - i)) (by omega) (by omega), w64 (i := (j : Int) - i + 1) (by omega) (by omega), show (j : Int) - i + 1 = ((j + 1 - i : Nat) : Int) by omega]
    by_cases hc2 : n + rd l (j : Int) > c + r * ((j : Int) - i)
    · refine ⟨(false, true), Ev.step (f := fun _ => some (false, true)) (fun k => ?_) (Ev.now _), Ev.step (f := fun _ => some (false, true)) (fun k => ?_) (Ev.now _)⟩
      · rw [hst, if_pos hc2]
      · rw [hit, if_pos hc2]
    · obtain ⟨o, a, b⟩ := con_1 r c hr hc l hg d i hi hd e (j + 1) (n + rd l (j : Int)) (by omega) (by omega) (by omega) (by omega) (by omega)
      refine ⟨o, Ev.step (fun k => ?_) a, Ev.step (fun k => ?_) b⟩
      · rw [hst, if_neg hc2]
      · rw [hit, if_neg hc2]
end
theorem both_ev (r c : Int) (l : List Int) (hl : l.length ≤ 1048576) : ∃ o, Ev (fun k => spec_Conforms.f k r c l) o ∧ Ev (fun k => impl_Conforms.f k r c l) o := by
  unfold spec_Conforms.f impl_Conforms.f
  simp only [srate_eq, rate_eq, Option.bind_some]
  by_cases hr : (decide (r ≥ 1 ∧ r ≤ 20) && decide (c ≥ 1 ∧ c ≤ 60)) = true
  · simp only [if_pos hr]
    rw [Bool.and_eq_true] at hr
    by_cases hg : flowB l = true
    · obtain ⟨o, a, b⟩ := con_0 r c (of_decide_eq_true hr.1) (of_decide_eq_true hr.2) l hg l.length 0 (by omega) rfl
      refine ⟨o, Ev.bind (sflow_ev l hl) ?_, Ev.bind (flow_ev l hl) ?_⟩
      · rw [hg]
        exact Ev.step (f := fun k => spec_Conforms.l0 k r c l (l.length : Int) ((0 : Nat) : Int)) (fun k => rfl) a
      · rw [hg]
        exact Ev.step (f := fun k => impl_Conforms.l0 k r c l (l.length : Int) ((0 : Nat) : Int)) (fun k => rfl) b
    · refine ⟨(false, false), Ev.bind (sflow_ev l hl) ?_, Ev.bind (flow_ev l hl) ?_⟩
      · rw [Bool.eq_false_iff.2 hg]
        exact Ev.step (f := fun _ => some (false, false)) (fun k => rfl) (Ev.now _)
      · rw [Bool.eq_false_iff.2 hg]
        exact Ev.step (f := fun _ => some (false, false)) (fun k => rfl) (Ev.now _)
  · simp only [if_neg hr]
    exact ⟨(false, false), Ev.step (f := fun _ => some (false, false)) (fun k => rfl) (Ev.now _), Ev.step (f := fun _ => some (false, false)) (fun k => rfl) (Ev.now _)⟩
theorem FnExactConforms : laws_FnExactConforms.Pure := by
  intro r c l _ _ _ _ _
  apply Ev.rounds
  unfold laws_FnExactConforms.f
  by_cases h : (l.length : Int) > 1048576
  · simp only [if_pos h]
    exact Ev.now _
  simp only [if_neg h]
  have hl : l.length ≤ 1048576 := by omega
  obtain ⟨o, h1, h2⟩ := both_ev r c l hl
  refine Ev.bind (toInt_ev l hl) (Ev.bind h1 (Ev.bind (toInt_ev l hl) (Ev.bind h2 ?_)))
  simp only [bne_self_eq_false, Bool.false_eq_true, if_false]
  refine Ev.step (f := fun k => (laws_toIntS.f k l).bind fun t => (laws_eqIntS.f k l t).bind fun u => if u = true then some true else some false) (fun k => rfl) ?_
  refine Ev.bind (toInt_ev l hl) (Ev.bind (eqInt_ev l hl) ?_)
  exact Ev.now _

end Go.Proofs.Ytmffllogaboklab.Pure
