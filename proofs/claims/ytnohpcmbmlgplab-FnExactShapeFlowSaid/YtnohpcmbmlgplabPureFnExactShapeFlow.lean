/- The pure statement of the law FnExactShapeFlow: over lists and numbers the law's function answers true. No conditions beyond those typed. -/
import Derived.Test.YtnohpcmbmlgplabS3
import Derived.Test.YtnohpcmbmlgplabLib
namespace Go.Proofs.Ytnohpcmbmlgplab.Pure
open Go.RowKit Go.Proofs.Ytnohpcmbmlgplab.S Go.Proofs.YtnohpcmbmlgplabW.PrintWords Go.Proofs.YtnohpcmbmlgplabLib
set_option linter.unusedVariables false
set_option linter.unusedSimpArgs false

theorem in_eq (x y z : Int) : impl_in.f x y z = some (decide (x ≥ y ∧ x ≤ z)) := by
  unfold impl_in.f
  by_cases h : x ≥ y <;> simp only [h, if_true, if_false, true_and, false_and, decide_false]
theorem sin_eq (x y z : Int) : spec_l1In.f x y z = some (decide (x ≥ y ∧ x ≤ z)) := by
  unfold spec_l1In.f
  by_cases h : x ≥ y <;> simp only [h, if_true, if_false, true_and, false_and, decide_false]
theorem toInt_ev (l : List Int) (hl : l.length ≤ 1048576) : Ev (fun k => laws_toIntS.f k l) l := by
  have h := fill_ev (fun k x0 x3 x4 => laws_toIntS.l0 k x0 x3 x4) (fun x : Int => x) 0 (fun k x0 x3 x4 => rfl) l 0 (by omega)
  rw [List.map_id'] at h
  refine Ev.congr (fun k => ?_) h
  unfold laws_toIntS.f
  rw [if_pos (by omega), if_pos (by omega), Int.toNat_natCast]
theorem eqInt_ev (l : List Int) (hl : l.length ≤ 1048576) : Ev (fun k => laws_eqIntS.f k l l) true := by
  refine Ev.congr (fun k => ?_) (eqr_ev (fun k x0 x1 x5 => laws_eqIntS.l0 k x0 x1 x5) l (fun k j hj => ?_) (fun k => ?_) (by omega))
  · unfold laws_eqIntS.f
    rw [if_pos rfl]
  · simp only [laws_eqIntS.l0]
    rw [if_pos (by omega), if_pos (by omega), if_pos (by omega), if_pos trivial]
  · simp [laws_eqIntS.l0]
def fB (x : Int) : Bool := decide (x ≥ 0 ∧ x ≤ 60)
def flowB (l : List Int) : Bool := l.all fB && decide ((l.length : Int) ≤ 40)
theorem sflow_ev (l : List Int) (hl : l.length ≤ 1048576) : Ev (fun k => spec_l7Flow.f k l) (flowB l) := by
  unfold spec_l7Flow.f flowB
  by_cases h : (l.length : Int) ≤ 40
  · simp only [if_pos h, decide_eq_true h, Bool.and_true]
    have ha := all_ev (fun k i => spec_l1All.l0 k 0 60 l (l.length : Int) i) fB true l (by omega) (fun k j hj => ?_) (fun k => ?_)
    rw [Bool.and_true] at ha
    · exact Ev.bind (f := fun _ t => some t) (Ev.congr (fun k => rfl) ha) (Ev.now _)
    · simp only [spec_l1All.l0, sin_eq, Option.bind_some]
      rw [if_pos (by omega), if_pos (by omega), if_pos (by omega)]
      simp only [rd, getD_at l j hj]
      rfl
    · simp [spec_l1All.l0]
  · simp only [if_neg h, decide_eq_false h, Bool.and_false]
    exact Ev.now _
theorem flow_ev (l : List Int) (hl : l.length ≤ 1048576) : Ev (fun k => impl_isFlow.f k l) (flowB l) := by
  unfold impl_isFlow.f flowB slices_ContainsFunc_int_int.f
  by_cases h : (l.length : Int) ≤ 40
  · simp only [if_pos h, decide_eq_true h, Bool.and_true]
    obtain ⟨r, hr, hd⟩ := any_ev (fun k i => slices_IndexFunc_int_int.l0 k l (l.length : Int) i) (fun x => !fB x) l (by omega) (fun k j hj => by
      simp only [slices_IndexFunc_int_int.l0, impl_isFlow_1.f, in_eq, Option.bind_some]
      rw [if_pos (by omega), if_pos (by omega), if_pos (by omega)]
      simp only [rd, getD_at l j hj]
      rfl) (fun k => by simp [slices_IndexFunc_int_int.l0])
    refine Ev.bind (f := fun _ t => some (!t)) (a := decide (r ≥ 0)) (Ev.bind (f := fun _ t => some (decide (t ≥ 0))) (Ev.congr (fun k => rfl) hr) (Ev.now _)) ?_
    rw [hd, not_any]
    exact Ev.now _
  · simp only [if_neg h, decide_eq_false h, Bool.and_false]
    exact Ev.now _
theorem flow_at {l : List Int} (h : flowB l = true) : l.length ≤ 40 ∧ ∀ (j : Nat), j < l.length → 0 ≤ rd l (j : Int) ∧ rd l (j : Int) ≤ 60 := by
  unfold flowB at h
  rw [Bool.and_eq_true] at h
  refine ⟨by have := of_decide_eq_true h.2; omega, fun j hj => ?_⟩
  have h1 := List.all_eq_true.1 h.1 (l[j]) (List.getElem_mem hj)
  have e : rd l (j : Int) = l[j] := getD_at l j hj _
  rw [e]
  unfold fB at h1
  exact of_decide_eq_true h1
theorem markI_ev (l : List Int) (m : Int) (h0 : 0 ≤ m) (h1 : m ≤ 1000000000) (hl : l.length ≤ 1048576) : Ev (fun k => laws_markIntS.f k l m) (m + (1 : Nat) * (l.length : Int), (List.range l.length).map fun j : Nat => (fun x : Int => x) (m + ((1 : Nat) : Int) * (j : Int))) := by
  refine Ev.congr (fun k => rfl) (mark_ev (fun k x0 x1 x5 => laws_markIntS.l0 k x0 x1 x5) 1 (fun x => x) m h0 h1 (by omega) (fun k x0 x1 j hj h0 h1 => ?_) (fun k x0 x1 => ?_) l (by omega))
  · simp only [laws_markIntS.l0]
    rw [if_pos (by omega), if_pos (by omega), Int.toNat_natCast, w64 (i := x1 + 1) (by omega) (by omega)]
    rfl
  · simp [laws_markIntS.l0]
theorem heldI_ev (n : Nat) (m : Int) (h0 : 0 ≤ m) (h1 : m ≤ 1000000000) (hn : n ≤ 1048576) : Ev (fun k => laws_heldIntS.f k ((List.range n).map fun j : Nat => (fun x : Int => x) (m + ((1 : Nat) : Int) * (j : Int))) m) (m + (1 : Nat) * (n : Int)) := by
  refine Ev.congr (fun k => rfl) (held_ev (fun k x0 x1 x5 => laws_heldIntS.l0 k x0 x1 x5) 1 (fun x => x) m h0 h1 (by omega) (fun k x0 x1 j hx hj h0 h1 => ?_) (fun k x0 x1 => ?_) n (by omega))
  · simp only [laws_heldIntS.l0]
    rw [if_pos (by omega), if_pos (by omega), if_pos (by simp only [rd, Int.toNat_natCast, List.getD_eq_getElem?_getD, hx, Option.getD_some]), w64 (i := x1 + 1) (by omega) (by omega)]
    rfl
  · simp [laws_heldIntS.l0]
theorem least_eq (a b : Int) : spec_l1Least.f a b = some (mn a b) := by
  unfold spec_l1Least.f mn
  split <;> split <;> congr 1 <;> omega
theorem srate_eq (r c : Int) : spec_l7Rate.f r c = some (decide (r ≥ 1 ∧ r ≤ 20) && decide (c ≥ 1 ∧ c ≤ 60)) := by
  unfold spec_l7Rate.f
  simp only [sin_eq, Option.bind_some]
  by_cases h : r ≥ 1 ∧ r ≤ 20 <;> simp [h]
theorem rate_eq (r c : Int) : impl_isRate.f r c = some (decide (r ≥ 1 ∧ r ≤ 20) && decide (c ≥ 1 ∧ c ≤ 60)) := by
  unfold impl_isRate.f
  simp only [in_eq, Option.bind_some]
  by_cases h : r ≥ 1 ∧ r ≤ 20 <;> simp [h]
theorem mn_comm (a b : Int) : mn a b = mn b a := by
  unfold mn
  split <;> split <;> omega
theorem v1_ok (r c v j : Int) (hr : 1 ≤ r ∧ r ≤ 20) (hc : 1 ≤ c ∧ c ≤ 60) (hv : 0 ≤ v ∧ v ≤ c) : 0 ≤ impl_ShapeFlow_1.v1 r c v j ∧ impl_ShapeFlow_1.v1 r c v j ≤ c := by
  unfold impl_ShapeFlow_1.v1 mn
  split
  · split <;> omega
  · omega
theorem mn_ok (m v : Int) (hm : 0 ≤ m) (hv : 0 ≤ v) : 0 ≤ mn m v ∧ mn m v ≤ m ∧ mn m v ≤ v := by
  unfold mn
  split <;> omega
theorem serve_l (r c : Int) (hr : 1 ≤ r ∧ r ≤ 20) (hc : 1 ≤ c ∧ c ≤ 60) (l : List Int) (hg : flowB l = true) : ∀ (d j : Nat) (u w : List Int) (n v : Int), j ≤ l.length → l.length - j = d → u.length = j → w.length = j → 0 ≤ n → n ≤ 60 * j → 0 ≤ v ∧ v ≤ c →
    ∃ (p q : List Int), Ev (fun k => spec_ShapeFlow.l0 k u w n l (l.length : Int) (j : Int) r c v) (p, q, true) ∧ Ev (fun k => impl_serve.l0 r c k v u w n l (l.length : Int) (j : Int)) (p, q, true) ∧ p.length = l.length ∧ q.length = l.length
  | 0, j, u, w, n, v, hj, hd, hu, hw, h0, h1, hv => by
    refine ⟨u, w, Ev.step (f := fun _ => some (u, w, true)) (fun k => ?_) (Ev.now _), Ev.step (f := fun _ => some (u, w, true)) (fun k => ?_) (Ev.now _), by omega, by omega⟩
    · simp only [spec_ShapeFlow.l0]
      rw [if_neg (by omega)]
    · simp only [impl_serve.l0]
      rw [if_neg (by omega)]
  | d + 1, j, u, w, n, v, hj, hd, hu, hw, h0, h1, hv => by
    have hj2 : j < l.length := by omega
    obtain ⟨h40, hfl⟩ := flow_at hg
    obtain ⟨x0, x1⟩ := hfl j hj2
    obtain ⟨m, hm⟩ : ∃ m, m = n + rd l (j : Int) := ⟨_, rfl⟩
    have em : wrap64 (n + rd l (j : Int)) = m := by rw [w64 (by omega) (by omega), hm]
    obtain ⟨y, hy⟩ : ∃ y, y = impl_ShapeFlow_1.v1 r c v (j : Int) := ⟨_, rfl⟩
    have hyb := v1_ok r c v (j : Int) hr hc hv
    rw [← hy] at hyb
    obtain ⟨g, hgm⟩ : ∃ g, g = mn m y := ⟨_, rfl⟩
    have hgb := mn_ok m y (by omega) (by omega)
    rw [← hgm] at hgb
    obtain ⟨p, q, a, b, e1, e2⟩ := serve_l r c hr hc l hg d (j + 1) (u ++ [g]) (w ++ [m - g]) (m - g) (y - g) (by omega) (by omega) (by simp; omega) (by simp; omega) (by omega) (by omega) (by omega)
    have ec : impl_ShapeFlow_1.f r c v (j : Int) m = some (g, y - g) := by
      unfold impl_ShapeFlow_1.f
      rw [if_pos ⟨⟨hr.1, hr.2, hc.1, hc.2⟩, hv, by omega, by omega⟩, ← hy, ← hgm]
    refine ⟨p, q, Ev.step (fun k => ?_) a, Ev.step (fun k => ?_) b, e1, e2⟩
    · simp only [spec_ShapeFlow.l0, spec_l7Tick.f, least_eq, Option.bind_some, em]
      rw [if_pos (by omega), if_pos (by omega), if_pos (by omega)]
      by_cases hz : (j : Int) > 0
      · have ey : mn c (wrap64 (v + r)) = y := by
          rw [w64 (by omega) (by omega), mn_comm, hy]
          unfold impl_ShapeFlow_1.v1
          rw [if_pos hz]
        rw [if_pos hz, ey, ← hgm, if_pos (by omega), if_pos (by omega), w64s hj2 (by omega), w64 (i := m - g) (by omega) (by omega), w64 (i := y - g) (by omega) (by omega)]
      · have ey : v = y := by
          rw [hy]
          unfold impl_ShapeFlow_1.v1
          rw [if_neg hz]
        rw [if_neg hz, ey, ← hgm, if_pos (by omega), if_pos (by omega), w64s hj2 (by omega), w64 (i := m - g) (by omega) (by omega), w64 (i := y - g) (by omega) (by omega)]
    · simp only [impl_serve.l0, em, ec, Option.bind_some]
      rw [if_pos (by omega), if_pos (by omega), if_pos (by omega), if_pos (by omega), if_pos (by omega), w64s hj2 (by omega), w64 (i := m - g) (by omega) (by omega)]
theorem both_ev (r c : Int) (l : List Int) (hl : l.length ≤ 1048576) : ∃ (p q : List Int) (b : Bool), Ev (fun k => spec_ShapeFlow.f k r c l) (p, q, b) ∧ Ev (fun k => impl_ShapeFlow.f k r c l) (p, q, b) ∧ p.length ≤ 1048576 ∧ q.length ≤ 1048576 := by
  unfold spec_ShapeFlow.f impl_ShapeFlow.f spec_NewBucket.f impl_NewBucket.f
  simp only [srate_eq, rate_eq, Option.bind_some]
  have hs := sflow_ev l hl
  have hi := flow_ev l hl
  by_cases hr : (decide (r ≥ 1 ∧ r ≤ 20) && decide (c ≥ 1 ∧ c ≤ 60)) = true
  · simp only [if_pos hr, Option.bind_some, if_true]
    rw [Bool.and_eq_true] at hr
    have hr1 := of_decide_eq_true hr.1
    have hc1 := of_decide_eq_true hr.2
    by_cases hg : flowB l = true
    · rw [hg] at hs hi
      obtain ⟨h40, -⟩ := flow_at hg
      obtain ⟨p, q, a, b, h1, h2⟩ := serve_l r c hr1 hc1 l hg l.length 0 [] [] 0 c (by omega) rfl rfl rfl (by omega) (by omega) (by omega)
      refine ⟨p, q, true, Ev.bind hs ?_, Ev.bind hi ?_, by omega, by omega⟩
      · exact Ev.step (fun k => rfl) a
      · simp only [if_true]
        exact b
    · rw [Bool.eq_false_iff.2 hg] at hs hi
      refine ⟨[], [], false, Ev.bind hs ?_, Ev.bind hi ?_, by simp, by simp⟩
      · exact Ev.step (f := fun _ => some (([] : List Int), ([] : List Int), false)) (fun k => rfl) (Ev.now _)
      · simp only [Bool.false_eq_true, if_false]
        exact Ev.now _
  · simp only [if_neg hr, Option.bind_some, Bool.false_eq_true, if_false]
    exact ⟨[], [], false, Ev.step (f := fun _ => some (([] : List Int), ([] : List Int), false)) (fun k => rfl) (Ev.now _), Ev.now _, by simp, by simp⟩
theorem FnExactShapeFlow : laws_FnExactShapeFlow.Pure := by
  intro r c l _ _ _ _ _
  apply Ev.rounds
  unfold laws_FnExactShapeFlow.f
  by_cases h : (l.length : Int) > 1048576
  · simp only [if_pos h]
    exact Ev.now _
  simp only [if_neg h]
  have hl : l.length ≤ 1048576 := by omega
  have hto := toInt_ev l hl
  have heq := eqInt_ev l hl
  obtain ⟨p, q, b, h1, h2, hp, hq⟩ := both_ev r c l hl
  have ep := eqInt_ev p hp
  have eq_ := eqInt_ev q hq
  refine Ev.bind hto (Ev.bind h1 (Ev.bind hto (Ev.bind h2 (Ev.bind ep ?_))))
  simp only [if_true]
  refine Ev.bind eq_ ?_
  simp only [if_true, bne_self_eq_false]
  refine Ev.step (fun k => by simp only [laws_FnExactShapeFlow.j0]; rfl) ?_
  simp only [Bool.false_eq_true, if_false]
  refine Ev.bind hto (Ev.bind heq ?_)
  simp only [if_true]
  refine Ev.bind (markI_ev l 1 (by omega) (by omega) hl) ?_
  simp only [if_neg (show ¬ (1 + ((1 : Nat) : Int) * (l.length : Int) < 0) by omega)]
  refine Ev.bind ep ?_
  simp only [if_true]
  refine Ev.bind eq_ ?_
  simp only [if_true, bne_self_eq_false]
  refine Ev.step (fun k => by simp only [laws_FnExactShapeFlow.j1]; rfl) ?_
  simp only [Bool.false_eq_true, if_false]
  refine Ev.bind (markI_ev p 1 (by omega) (by omega) hp) (Ev.bind (markI_ev q _ (by omega) (by omega) hq) (Ev.bind (heldI_ev p.length 1 (by omega) (by omega) hp) ?_))
  simp only [if_neg (show ¬ (1 + ((1 : Nat) : Int) * (p.length : Int) < 0) by omega)]
  refine Ev.bind (heldI_ev q.length _ (by omega) (by omega) hq) ?_
  simp only [if_neg (show ¬ (1 + ((1 : Nat) : Int) * (p.length : Int) + ((1 : Nat) : Int) * (q.length : Int) < 0) by omega), if_true]
  refine Ev.bind hto (Ev.bind h2 (Ev.bind ep ?_))
  simp only [if_true]
  refine Ev.bind eq_ ?_
  simp only [if_true, bne_self_eq_false]
  refine Ev.step (fun k => by simp only [laws_FnExactShapeFlow.j2]; rfl) ?_
  simp only [Bool.false_eq_true, if_false]
  refine Ev.bind (heldI_ev p.length 1 (by omega) (by omega) hp) ?_
  simp only [if_neg (show ¬ (1 + ((1 : Nat) : Int) * (p.length : Int) < 0) by omega)]
  refine Ev.bind (heldI_ev q.length _ (by omega) (by omega) hq) ?_
  simp only [if_neg (show ¬ (1 + ((1 : Nat) : Int) * (p.length : Int) + ((1 : Nat) : Int) * (q.length : Int) < 0) by omega), if_true]
  exact Ev.now _

end Go.Proofs.Ytnohpcmbmlgplab.Pure
