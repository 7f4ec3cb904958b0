/- The pure statement of the law FnExactPassThrough: over lists and numbers the law's function answers true. No conditions beyond those typed. -/
import Derived.Test.YtmffllogaboklabS3
import Derived.Test.YtmffllogaboklabLib
namespace Go.Proofs.Ytmffllogaboklab.Pure
open Go.RowKit Go.Proofs.Ytmffllogaboklab.S Go.Proofs.YtmffllogaboklabW.PrintWords Go.Proofs.YtmffllogaboklabLib
set_option linter.unusedVariables false
set_option linter.unusedSimpArgs false

theorem in_eq (x y z : Int) : impl_in.f x y z = some (decide (x ≥ y ∧ x ≤ z)) := by
  unfold impl_in.f
  by_cases h : x ≥ y <;> simp only [h, if_true, if_false, true_and, false_and, decide_false]
theorem sin_eq (x y z : Int) : spec_l1In.f x y z = some (decide (x ≥ y ∧ x ≤ z)) := by
  unfold spec_l1In.f
  by_cases h : x ≥ y <;> simp only [h, if_true, if_false, true_and, false_and, decide_false]
theorem toInt_ev (l : List Int) (hl : l.length ≤ 1048576) : Ev (fun k => laws_toIntS.f k l) l := by
  have h := fill_ev (fun k x0 x3 x4 => laws_toIntS.l0 k x0 x3 x4) (fun x : Int => x) 0 (fun k x0 x3 x4 => rfl) l 0 (by omega)
  rw [List.map_id'] at h
  refine Ev.congr (fun k => ?_) h
  unfold laws_toIntS.f
  rw [if_pos (by omega), if_pos (by omega), Int.toNat_natCast]
theorem eqInt_ev (l : List Int) (hl : l.length ≤ 1048576) : Ev (fun k => laws_eqIntS.f k l l) true := by
  refine Ev.congr (fun k => ?_) (eqr_ev (fun k x0 x1 x5 => laws_eqIntS.l0 k x0 x1 x5) l (fun k j hj => ?_) (fun k => ?_) (by omega))
  · unfold laws_eqIntS.f
    rw [if_pos rfl]
  · simp only [laws_eqIntS.l0]
    rw [if_pos (by omega), if_pos (by omega), if_pos (by omega), if_pos trivial]
  · simp [laws_eqIntS.l0]
def fB (x : Int) : Bool := decide (x ≥ 0 ∧ x ≤ 60)
def flowB (l : List Int) : Bool := l.all fB && decide ((l.length : Int) ≤ 40)
theorem sflow_ev (l : List Int) (hl : l.length ≤ 1048576) : Ev (fun k => spec_l7Flow.f k l) (flowB l) := by
  unfold spec_l7Flow.f flowB
  by_cases h : (l.length : Int) ≤ 40
  · simp only [if_pos h, decide_eq_true h, Bool.and_true]
    have ha := all_ev (fun k i => spec_l1All.l0 k 0 60 l (l.length : Int) i) fB true l (by omega) (fun k j hj => ?_) (fun k => ?_)
    rw [Bool.and_true] at ha
    · exact Ev.bind (f := fun _ t => some t) (Ev.congr (fun k => rfl) ha) (Ev.now _)
    · simp only [spec_l1All.l0, sin_eq, Option.bind_some]
      rw [if_pos (by omega), if_pos (by omega), if_pos (by omega)]
      simp only [rd, getD_at l j hj]
      rfl
    · simp [spec_l1All.l0]
  · simp only [if_neg h, decide_eq_false h, Bool.and_false]
    exact Ev.now _
theorem flow_ev (l : List Int) (hl : l.length ≤ 1048576) : Ev (fun k => impl_isFlow.f k l) (flowB l) := by
  unfold impl_isFlow.f flowB slices_ContainsFunc_int_int.f
  by_cases h : (l.length : Int) ≤ 40
  · simp only [if_pos h, decide_eq_true h, Bool.and_true]
    obtain ⟨r, hr, hd⟩ := any_ev (fun k i => slices_IndexFunc_int_int.l0 k l (l.length : Int) i) (fun x => !fB x) l (by omega) (fun k j hj => by
      simp only [slices_IndexFunc_int_int.l0, impl_isFlow_1.f, in_eq, Option.bind_some]
      rw [if_pos (by omega), if_pos (by omega), if_pos (by omega)]
      simp only [rd, getD_at l j hj]
      rfl) (fun k => by simp [slices_IndexFunc_int_int.l0])
    refine Ev.bind (f := fun _ t => some (!t)) (a := decide (r ≥ 0)) (Ev.bind (f := fun _ t => some (decide (t ≥ 0))) (Ev.congr (fun k => rfl) hr) (Ev.now _)) ?_
    rw [hd, not_any]
    exact Ev.now _
  · simp only [if_neg h, decide_eq_false h, Bool.and_false]
    exact Ev.now _
theorem flow_at {l : List Int} (h : flowB l = true) : l.length ≤ 40 ∧ ∀ (j : Nat), j < l.length → 0 ≤ rd l (j : Int) ∧ rd l (j : Int) ≤ 60 := by
  unfold flowB at h
  rw [Bool.and_eq_true] at h
  refine ⟨by have := of_decide_eq_true h.2; omega, fun j hj => ?_⟩
  have h1 := List.all_eq_true.1 h.1 (l[j]) (List.getElem_mem hj)
  have e : rd l (j : Int) = l[j] := getD_at l j hj _
  rw [e]
  unfold fB at h1
  exact of_decide_eq_true h1
theorem markI_ev (l : List Int) (m : Int) (h0 : 0 ≤ m) (h1 : m ≤ 1000000000) (hl : l.length ≤ 1048576) : Ev (fun k => laws_markIntS.f k l m) (m + (1 : Nat) * (l.length : Int), (List.range l.length).map fun j : Nat => (fun x : Int => x) (m + ((1 : Nat) : Int) * (j : Int))) := by
  refine Ev.congr (fun k => rfl) (mark_ev (fun k x0 x1 x5 => laws_markIntS.l0 k x0 x1 x5) 1 (fun x => x) m h0 h1 (by omega) (fun k x0 x1 j hj h0 h1 => ?_) (fun k x0 x1 => ?_) l (by omega))
  · simp only [laws_markIntS.l0]
    rw [if_pos (by omega), if_pos (by omega), Int.toNat_natCast, w64 (i := x1 + 1) (by omega) (by omega)]
    rfl
  · simp [laws_markIntS.l0]
theorem heldI_ev (n : Nat) (m : Int) (h0 : 0 ≤ m) (h1 : m ≤ 1000000000) (hn : n ≤ 1048576) : Ev (fun k => laws_heldIntS.f k ((List.range n).map fun j : Nat => (fun x : Int => x) (m + ((1 : Nat) : Int) * (j : Int))) m) (m + (1 : Nat) * (n : Int)) := by
  refine Ev.congr (fun k => rfl) (held_ev (fun k x0 x1 x5 => laws_heldIntS.l0 k x0 x1 x5) 1 (fun x => x) m h0 h1 (by omega) (fun k x0 x1 j hx hj h0 h1 => ?_) (fun k x0 x1 => ?_) n (by omega))
  · simp only [laws_heldIntS.l0]
    rw [if_pos (by omega), if_pos (by omega), if_pos (by simp only [rd, Int.toNat_natCast, List.getD_eq_getElem?_getD, hx, Option.getD_some]), w64 (i := x1 + 1) (by omega) (by omega)]
    rfl
  · simp [laws_heldIntS.l0]
theorem least_eq (a b : Int) : spec_l1Least.f a b = some (mn a b) := by
  unfold spec_l1Least.f mn
  split <;> split <;> congr 1 <;> omega
theorem serve_l (c : Int) (l : List Int) (hl : l.length ≤ 1048576) : ∀ (d j : Nat) (u v : List Int) (n : Int), j ≤ l.length → l.length - j = d → u.length = j → v.length = j →
    ∃ (p q : List Int), Ev (fun k => spec_PassThrough.l0 k c u v n l (l.length : Int) (j : Int)) (p, q, true) ∧ Ev (fun k => impl_serve.l0 c k u v n l (l.length : Int) (j : Int)) (p, q, true) ∧ p.length = l.length ∧ q.length = l.length
  | 0, j, u, v, n, hj, hd, hu, hv => by
    refine ⟨u, v, Ev.step (f := fun _ => some (u, v, true)) (fun k => ?_) (Ev.now _), Ev.step (f := fun _ => some (u, v, true)) (fun k => ?_) (Ev.now _), by omega, by omega⟩
    · simp only [spec_PassThrough.l0]
      rw [if_neg (by omega)]
    · simp only [impl_serve.l0]
      rw [if_neg (by omega)]
  | d + 1, j, u, v, n, hj, hd, hu, hv => by
    have hj2 : j < l.length := by omega
    obtain ⟨g, hg⟩ : ∃ g, g = mn (wrap64 (n + rd l (j : Int))) c := ⟨_, rfl⟩
    obtain ⟨p, q, a, b, h1, h2⟩ := serve_l c l hl d (j + 1) (u ++ [g]) (v ++ [wrap64 (wrap64 (n + rd l (j : Int)) - g)]) (wrap64 (wrap64 (n + rd l (j : Int)) - g)) (by omega) (by omega) (by simp; omega) (by simp; omega)
    refine ⟨p, q, Ev.step (fun k => ?_) a, Ev.step (fun k => ?_) b, h1, h2⟩
    · simp only [spec_PassThrough.l0, least_eq, Option.bind_some]
      rw [if_pos (by omega), if_pos (by omega), if_pos (by omega), if_pos (by omega), if_pos (by omega), w64s hj2 (by omega), hg]
    · simp only [impl_serve.l0, impl_PassThrough_1.f, Option.bind_some]
      rw [if_pos (by omega), if_pos (by omega), if_pos (by omega), if_pos (by omega), if_pos (by omega), w64s hj2 (by omega), hg]
theorem both_ev (l : List Int) (c : Int) (hl : l.length ≤ 1048576) : ∃ (p q : List Int) (b : Bool), Ev (fun k => spec_PassThrough.f k l c) (p, q, b) ∧ Ev (fun k => impl_PassThrough.f k l c) (p, q, b) ∧ p.length ≤ 1048576 ∧ q.length ≤ 1048576 := by
  unfold spec_PassThrough.f impl_PassThrough.f
  simp only [sin_eq, in_eq, Option.bind_some]
  have hs := sflow_ev l hl
  have hi := flow_ev l hl
  have no : Ev (fun k => spec_PassThrough.j0 k l c true) (([] : List Int), ([] : List Int), false) := Ev.step (f := fun _ => some (([] : List Int), ([] : List Int), false)) (fun k => rfl) (Ev.now _)
  by_cases hg : flowB l = true
  · rw [hg] at hs hi
    by_cases hc : c ≥ 1 ∧ c ≤ 60
    · obtain ⟨p, q, a, b, h1, h2⟩ := serve_l c l hl l.length 0 [] [] 0 (by omega) rfl rfl rfl
      refine ⟨p, q, true, Ev.bind hs ?_, Ev.bind hi ?_, by omega, by omega⟩
      · simp only [if_true, decide_eq_true hc, Bool.not_true]
        exact Ev.step (fun k => rfl) a
      · simp only [if_true, decide_eq_true hc]
        exact b
    · refine ⟨[], [], false, Ev.bind hs ?_, Ev.bind hi ?_, by simp, by simp⟩
      · simp only [if_true, decide_eq_false hc, Bool.not_false]
        exact no
      · simp only [if_true, decide_eq_false hc, Bool.false_eq_true, if_false]
        exact Ev.now _
  · rw [Bool.eq_false_iff.2 hg] at hs hi
    exact ⟨[], [], false, Ev.bind hs no, Ev.bind hi (Ev.now _), by simp, by simp⟩
theorem FnExactPassThrough : laws_FnExactPassThrough.Pure := by
  intro l c _ _ _ _
  apply Ev.rounds
  unfold laws_FnExactPassThrough.f
  by_cases h : (l.length : Int) > 1048576
  · simp only [if_pos h]
    exact Ev.now _
  simp only [if_neg h]
  have hl : l.length ≤ 1048576 := by omega
  have hto := toInt_ev l hl
  have heq := eqInt_ev l hl
  obtain ⟨p, q, b, h1, h2, hp, hq⟩ := both_ev l c hl
  have ep := eqInt_ev p hp
  have eq_ := eqInt_ev q hq
  refine Ev.bind hto (Ev.bind h1 (Ev.bind hto (Ev.bind h2 (Ev.bind ep ?_))))
  simp only [if_true]
  refine Ev.bind eq_ ?_
  simp only [if_true, bne_self_eq_false]
  refine Ev.step (fun k => by simp only [laws_FnExactPassThrough.j0]; rfl) ?_
  simp only [Bool.false_eq_true, if_false]
  refine Ev.bind hto (Ev.bind heq ?_)
  simp only [if_true]
  refine Ev.bind (markI_ev l 1 (by omega) (by omega) hl) ?_
  simp only [if_neg (show ¬ (1 + ((1 : Nat) : Int) * (l.length : Int) < 0) by omega)]
  refine Ev.bind ep ?_
  simp only [if_true]
  refine Ev.bind eq_ ?_
  simp only [if_true, bne_self_eq_false]
  refine Ev.step (fun k => by simp only [laws_FnExactPassThrough.j1]; rfl) ?_
  simp only [Bool.false_eq_true, if_false]
  refine Ev.bind (markI_ev p 1 (by omega) (by omega) hp) (Ev.bind (markI_ev q _ (by omega) (by omega) hq) (Ev.bind (heldI_ev p.length 1 (by omega) (by omega) hp) ?_))
  simp only [if_neg (show ¬ (1 + ((1 : Nat) : Int) * (p.length : Int) < 0) by omega)]
  refine Ev.bind (heldI_ev q.length _ (by omega) (by omega) hq) ?_
  simp only [if_neg (show ¬ (1 + ((1 : Nat) : Int) * (p.length : Int) + ((1 : Nat) : Int) * (q.length : Int) < 0) by omega), if_true]
  refine Ev.bind hto (Ev.bind h2 (Ev.bind ep ?_))
  simp only [if_true]
  refine Ev.bind eq_ ?_
  simp only [if_true, bne_self_eq_false]
  refine Ev.step (fun k => by simp only [laws_FnExactPassThrough.j2]; rfl) ?_
  simp only [Bool.false_eq_true, if_false]
  refine Ev.bind (heldI_ev p.length 1 (by omega) (by omega) hp) ?_
  simp only [if_neg (show ¬ (1 + ((1 : Nat) : Int) * (p.length : Int) < 0) by omega)]
  refine Ev.bind (heldI_ev q.length _ (by omega) (by omega) hq) ?_
  simp only [if_neg (show ¬ (1 + ((1 : Nat) : Int) * (p.length : Int) + ((1 : Nat) : Int) * (q.length : Int) < 0) by omega), if_true]
  exact Ev.now _

end Go.Proofs.Ytmffllogaboklab.Pure
