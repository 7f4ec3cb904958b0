/- The pure statement of the law FnExactByRate: over lists and numbers the law's function answers true. No conditions beyond those typed. -/
import Derived.Test.YtmffllogaboklaeS5
import Derived.Test.YtmffllogaboklaeLib
namespace Go.Proofs.Ytmffllogaboklae.Pure
open Go.RowKit Go.Proofs.Ytmffllogaboklae.S Go.Proofs.YtmffllogaboklaeW.PrintWords Go.Proofs.YtmffllogaboklaeLib
set_option linter.unusedVariables false
set_option linter.unusedSimpArgs false

theorem in_eq (x y z : Int) : impl_in.f x y z = some (decide (x ≥ y ∧ x ≤ z)) := by
  unfold impl_in.f
  by_cases h : x ≥ y <;> simp only [h, if_true, if_false, true_and, false_and, decide_false]
theorem sin_eq (x y z : Int) : spec_l1In.f x y z = some (decide (x ≥ y ∧ x ≤ z)) := by
  unfold spec_l1In.f
  by_cases h : x ≥ y <;> simp only [h, if_true, if_false, true_and, false_and, decide_false]
def okB (x : S64) : Bool := decide (x.f0 ≥ 1 ∧ x.f0 ≤ 10) && decide (x.f1 ≥ x.f0 ∧ x.f1 ≤ 40)
def goodB (l : List S64) : Bool := l.all okB && decide ((l.length : Int) ≤ 5)
theorem spec_ev (l : List S64) (hl : l.length ≤ 1048576) : Ev (fun k => spec_GoodAgain.f k l) (goodB l) := by
  refine Ev.congr (fun k => rfl) (all_ev (fun k i => spec_GoodAgain.l0 k l l (l.length : Int) i) okB _ l (by omega) (fun k j hj => ?_) (fun k => ?_))
  · simp only [spec_GoodAgain.l0, sin_eq, Option.bind_some]
    rw [if_pos (by omega), if_pos (by omega), if_pos (by omega)]
    simp only [rd_T64, getD_at l j hj, okB]
    generalize l[j] = x
    by_cases h1 : x.f0 ≥ 1 ∧ x.f0 ≤ 10 <;> by_cases h2 : x.f1 ≥ x.f0 ∧ x.f1 ≤ 40 <;> simp [h1, h2]
  · simp [spec_GoodAgain.l0]
theorem idx_ev (l : List S64) (hl : l.length ≤ 1048576) : ∃ r, Ev (fun k => impl_Again_76.f k l) r ∧ decide (r ≥ 0) = l.any fun x => !okB x := by
  refine any_ev (fun k i => impl_Again_76.l0 k l (l.length : Int) i) (fun x => !okB x) l (by omega) (fun k j hj => ?_) (fun k => ?_)
  · simp only [impl_Again_76.l0, impl_GoodAgain_1.f, in_eq, Option.bind_some]
    rw [if_pos (by omega), if_pos (by omega), if_pos (by omega)]
    simp only [rd_T64, getD_at l j hj, okB]
    generalize l[j] = x
    by_cases h1 : x.f0 ≥ 1 ∧ x.f0 ≤ 10 <;> by_cases h2 : x.f1 ≥ x.f0 ∧ x.f1 ≤ 40 <;> simp [h1, h2]
  · simp [impl_Again_76.l0]
theorem impl_ev (l : List S64) (hl : l.length ≤ 1048576) : Ev (fun k => impl_GoodAgain.f k l) (goodB l) := by
  unfold impl_GoodAgain.f impl_Again_71.f goodB
  by_cases h : (l.length : Int) ≤ 5
  · simp only [h, if_true, decide_true, Bool.and_true]
    obtain ⟨r, hr, hd⟩ := idx_ev l hl
    refine Ev.bind (f := fun _ t => some (!t)) (a := decide (r ≥ 0)) (Ev.bind (f := fun _ t => some (decide (t ≥ 0))) hr (Ev.now _)) ?_
    rw [hd, not_any]
    exact Ev.now _
  · simp only [h, if_false, decide_false, Bool.and_false]
    exact Ev.now _
theorem good_at {l : List S64} (h : goodB l = true) : l.length ≤ 5 ∧ ∀ (j : Nat), j < l.length → 1 ≤ (rd_T64 l (j : Int)).f0 ∧ (rd_T64 l (j : Int)).f0 ≤ 10 ∧ (rd_T64 l (j : Int)).f0 ≤ (rd_T64 l (j : Int)).f1 ∧ (rd_T64 l (j : Int)).f1 ≤ 40 := by
  unfold goodB at h
  rw [Bool.and_eq_true] at h
  have h8 := of_decide_eq_true h.2
  refine ⟨by omega, fun j hj => ?_⟩
  have h1 := List.all_eq_true.1 h.1 (l[j]) (List.getElem_mem hj)
  have e : rd_T64 l (j : Int) = l[j] := getD_at l j hj _
  rw [e]
  unfold okB at h1
  simp only [Bool.and_eq_true, decide_eq_true_eq] at h1
  obtain ⟨⟨a, b⟩, c, d⟩ := h1
  exact ⟨by omega, by omega, by omega, by omega⟩
def En (l : List S64) (i : Int) : Int := (rd_T64 l i).f1
def Good (l : List S64) : Prop := ∀ i : Int, 0 ≤ i → i < l.length → 0 ≤ En l i ∧ En l i ≤ 1000
def Sorted (l : List S64) (s : List Int) : Prop := s.Pairwise fun a b => En l a ≤ En l b
/-- The spec's place for x. -/
theorem sins_l (l : List S64) (hl : l.length < 20) (s : List Int) (hs : s.length ≤ 20) (hin : ∀ a ∈ s, 0 ≤ a ∧ a < l.length) (i : Nat) (hi : i < l.length) (f0 : Int) : ∀ (d p : Nat), p ≤ s.length → s.length - p = d → (∀ a ∈ s.take p, En l a ≤ En l (i : Int)) →
    ∃ q, q ≤ s.length ∧ (∀ a ∈ s.take q, En l a ≤ En l (i : Int)) ∧ (∀ h : q < s.length, En l (i : Int) < En l s[q]) ∧ ∀ v, Ev (fun k => spec_ByRate.l0 k l (s.take q ++ (i : Int) :: s.drop q) l (l.length : Int) ((i + 1 : Nat) : Int)) v → Ev (fun k => spec_ByRate.l1 k l s (i : Int) (p : Int) l (l.length : Int) (i : Int) f0 (En l (i : Int))) v
  | 0, p, hp, hd, ha => by
    refine ⟨p, hp, ha, fun h => by omega, fun v hv => Ev.step (fun k => ?_) hv⟩
    have htl : (s.take p).length = p := by rw [List.length_take]; omega
    have n1 : ([] : List Int).length + (s.take p).length < 17592186044416 := by rw [htl]; simp; omega
    have n2 : (s.take p).length < 17592186044416 := by omega
    have n3 : (s.take p ++ [(i : Int)]).length + (s.drop p).length < 17592186044416 := by rw [List.length_append, htl, List.length_drop]; simp; omega
    simp only [spec_ByRate.l1, Option.bind_some, List.nil_append, Int.toNat_natCast]
    rw [if_neg (by omega), if_pos (by omega), if_pos (by omega), if_pos n1, if_pos n2, if_pos n3, w64s hi (by omega), List.append_assoc]
    rfl
  | d + 1, p, hp, hd, ha => by
    have hp2 : p < s.length := by omega
    have e : rd s (p : Int) = s[p] := getD_at s p hp2 _
    obtain ⟨x0, x1⟩ := hin s[p] (List.getElem_mem hp2)
    by_cases c : En l s[p] ≤ En l (i : Int)
    · obtain ⟨q, q1, q2, q3, q4⟩ := sins_l l hl s hs hin i hi f0 d (p + 1) (by omega) (by omega) (fun a h => by
        rw [List.take_succ_eq_append_getElem hp2, List.mem_append, List.mem_singleton] at h
        rcases h with h | rfl
        · exact ha a h
        · exact c)
      refine ⟨q, q1, q2, q3, fun v hv => Ev.step (fun k => ?_) (q4 v hv)⟩
      simp only [spec_ByRate.l1, e]
      rw [if_pos (by omega), if_pos (by omega), if_pos x0, if_pos x1, if_pos (show (rd_T64 l s[p]).f1 ≤ En l (i : Int) from c), w64s hp2 (by omega)]
    · refine ⟨p, hp, ha, fun h => by omega, fun v hv => Ev.step (fun k => ?_) hv⟩
      have htl : (s.take p).length = p := by rw [List.length_take]; omega
      have n1 : ([] : List Int).length + (s.take p).length < 17592186044416 := by rw [htl]; simp; omega
      have n2 : (s.take p).length < 17592186044416 := by omega
      have n3 : (s.take p ++ [(i : Int)]).length + (s.drop p).length < 17592186044416 := by rw [List.length_append, htl, List.length_drop]; simp; omega
      simp only [spec_ByRate.l1, e, Option.bind_some, List.nil_append, Int.toNat_natCast]
      rw [if_pos (by omega), if_pos (by omega), if_pos x0, if_pos x1, if_neg (show ¬ (rd_T64 l s[p]).f1 ≤ En l (i : Int) from c), if_pos (by omega), if_pos n1, if_pos n2, if_pos n3, w64s hi (by omega), List.append_assoc]
      rfl
theorem swap_eq (a : List Int) (y x : Int) (b : List Int) : ((a ++ y :: x :: b).set (a.length + 1) y).set a.length x = a ++ x :: y :: b := by
  rw [List.set_append_right _ _ (by omega), show a.length + 1 - a.length = 1 by omega, List.set_cons_succ, List.set_cons_zero, List.set_append_right _ _ (by omega), Nat.sub_self, List.set_cons_zero]
theorem rd_mid (a : List Int) (y : Int) (b : List Int) : rd (a ++ y :: b) (a.length : Int) = y := by
  unfold rd
  rw [Int.toNat_natCast, List.getD_eq_getElem?_getD, List.getElem?_append_right (by omega), Nat.sub_self]
  rfl
/-- The library's place for x. -/
theorem iins_l (l : List S64) (hl : l.length < 20) (hg : Good l) (s r : List Int) (hs : s.length ≤ 20) (hin : ∀ a ∈ s, 0 ≤ a ∧ a < l.length) (i : Nat) (hi : i < l.length) (n : Int) (hr : s.length + r.length ≤ 100) : ∀ (j : Nat), j ≤ s.length → (∀ b ∈ s.drop j, En l (i : Int) < En l b) →
    ∃ q, q ≤ s.length ∧ (∀ b ∈ s.drop q, En l (i : Int) < En l b) ∧ (∀ h : 0 < q, ∃ h2 : q - 1 < s.length, En l s[q - 1] ≤ En l (i : Int)) ∧ ∀ v, Ev (fun k => slices_insertionSortCmpFunc_int.l0 l k (s.take q ++ (i : Int) :: (s.drop q ++ r)) 0 n ((i + 1 : Nat) : Int)) v → Ev (fun k => slices_insertionSortCmpFunc_int.l1 l k (s.take j ++ (i : Int) :: (s.drop j ++ r)) 0 n (i : Int) (j : Int)) v
  | 0, hj, hb => by
    refine ⟨0, by omega, hb, fun h => by omega, fun v hv => Ev.step (fun k => ?_) hv⟩
    simp only [slices_insertionSortCmpFunc_int.l1]
    rw [if_neg (by omega), w64s hi (by omega)]
  | j + 1, hj, hb => by
    have hj2 : j < s.length := by omega
    have htl : (s.take j).length = j := by rw [List.length_take]; omega
    have e0 : s.take (j + 1) ++ (i : Int) :: (s.drop (j + 1) ++ r) = s.take j ++ s[j] :: (i : Int) :: (s.drop (j + 1) ++ r) := by
      rw [List.take_succ_eq_append_getElem hj2, List.append_assoc]
      rfl
    have e1 : rd (s.take j ++ s[j] :: (i : Int) :: (s.drop (j + 1) ++ r)) ((j : Nat) : Int) = s[j] := by
      have := rd_mid (s.take j) s[j] ((i : Int) :: (s.drop (j + 1) ++ r))
      rwa [htl] at this
    have e2 : rd (s.take j ++ s[j] :: (i : Int) :: (s.drop (j + 1) ++ r)) ((j + 1 : Nat) : Int) = (i : Int) := by
      have := rd_mid (s.take j ++ [s[j]]) (i : Int) (s.drop (j + 1) ++ r)
      rw [List.length_append, htl, List.append_assoc] at this
      exact this
    have e3 : ((s.take j ++ s[j] :: (i : Int) :: (s.drop (j + 1) ++ r)).set (j + 1) s[j]).set j (i : Int) = s.take j ++ (i : Int) :: (s.drop j ++ r) := by
      have := swap_eq (s.take j) s[j] (i : Int) (s.drop (j + 1) ++ r)
      rw [htl] at this
      rw [this, List.drop_eq_getElem_cons hj2]
      rfl
    have hlen : (s.take j ++ s[j] :: (i : Int) :: (s.drop (j + 1) ++ r)).length = s.length + 1 + r.length := by
      rw [List.length_append, htl, List.length_cons, List.length_cons, List.length_append, List.length_drop]
      omega
    obtain ⟨x0, x1⟩ := hin s[j] (List.getElem_mem hj2)
    obtain ⟨g0, g1⟩ := hg s[j] x0 x1
    obtain ⟨g2, g3⟩ := hg (i : Int) (by omega) (by omega)
    have hc : impl_ByRate_1.f l (i : Int) s[j] = some (En l (i : Int) - En l s[j]) := by
      unfold impl_ByRate_1.f
      rw [if_pos ⟨by omega, by omega, x0, x1⟩]
      show some (wrap64 (En l (i : Int) - En l s[j])) = _
      rw [w64 (by omega) (by omega)]
    have hst : ∀ k, slices_insertionSortCmpFunc_int.l1 l (k + 1) (s.take (j + 1) ++ (i : Int) :: (s.drop (j + 1) ++ r)) 0 n (i : Int) ((j + 1 : Nat) : Int) = if En l (i : Int) - En l s[j] < 0 then slices_insertionSortCmpFunc_int.l1 l k (s.take j ++ (i : Int) :: (s.drop j ++ r)) 0 n (i : Int) (j : Int) else slices_insertionSortCmpFunc_int.l0 l k (s.take (j + 1) ++ (i : Int) :: (s.drop (j + 1) ++ r)) 0 n ((i + 1 : Nat) : Int) := fun k => by
      rw [e0]
      have ew : wrap64 (((j + 1 : Nat) : Int) - 1) = (j : Int) := by rw [w64 (by omega) (by omega)]; omega
      simp only [slices_insertionSortCmpFunc_int.l1, ew, e1, e2, hc, Option.bind_some, Int.toNat_natCast, e3]
      rw [if_pos (by omega), if_pos (by omega), if_pos (by omega), if_pos (by omega), if_pos (by omega), w64s hi (by omega)]
    by_cases c : En l (i : Int) - En l s[j] < 0
    · obtain ⟨q, q1, q2, q3, q4⟩ := iins_l l hl hg s r hs hin i hi n hr j (by omega) (fun b hb2 => by
        rw [List.drop_eq_getElem_cons hj2] at hb2
        rcases List.mem_cons.1 hb2 with rfl | h
        · omega
        · exact hb b h)
      refine ⟨q, q1, q2, q3, fun v hv => Ev.step (fun k => ?_) (q4 v hv)⟩
      rw [hst, if_pos c]
    · refine ⟨j + 1, hj, hb, fun _ => ⟨by omega, ?_⟩, fun v hv => Ev.step (fun k => ?_) hv⟩
      · simp only [Nat.add_sub_cancel]
        omega
      · rw [hst, if_neg c]
theorem sort_l (l : List S64) (hl : l.length < 20) (hg : Good l) : ∀ (d i : Nat) (s : List Int), i + d = l.length → s.length = i → 1 ≤ i → (∀ a ∈ s, 0 ≤ a ∧ a < l.length) → Sorted l s →
    ∃ g : List Int, Ev (fun k => spec_ByRate.l0 k l s l (l.length : Int) (i : Int)) (g, true) ∧ Ev (fun k => slices_insertionSortCmpFunc_int.l0 l k (s ++ (impl_ByRate.nums l.length).drop i) 0 (l.length : Int) (i : Int)) g ∧ g.length = l.length ∧ Sorted l g ∧ (∀ a ∈ g, 0 ≤ a ∧ a < l.length)
  | 0, i, s, hd, hs, h1, hin, hso => by
    obtain rfl : i = l.length := by omega
    refine ⟨s, Ev.step (f := fun _ => some (s, true)) (fun k => ?_) (Ev.now _), Ev.step (f := fun _ => some s) (fun k => ?_) (Ev.now _), hs, hso, hin⟩
    · simp only [spec_ByRate.l0]
      rw [if_neg (by omega)]
    · simp only [slices_insertionSortCmpFunc_int.l0]
      rw [if_neg (by omega), List.drop_of_length_le (by unfold impl_ByRate.nums; simp), List.append_nil]
  | d + 1, i, s, hd, hs, h1, hin, hso => by
    have hi : i < l.length := by omega
    have hnl : (impl_ByRate.nums l.length).length = l.length := by unfold impl_ByRate.nums; simp
    have hne : (impl_ByRate.nums l.length)[i]'(by omega) = (i : Int) := by simp [impl_ByRate.nums]
    have e : rd_T64 l (i : Int) = l[i] := getD_at l i hi _
    obtain ⟨q, q1, q2, q3, q4⟩ := sins_l l hl s (by omega) hin i hi (rd_T64 l (i : Int)).f0 s.length 0 (by omega) rfl (by simp)
    obtain ⟨p, p1, p2, p3, p4⟩ := iins_l l hl hg s ((impl_ByRate.nums l.length).drop (i + 1)) (by omega) hin i hi (l.length : Int) (by rw [List.length_drop]; omega) s.length (Nat.le_refl _) (by simp)
    have hdrop : ∀ b ∈ s.drop q, En l (i : Int) < En l b := fun b hb => by
      by_cases hq : q < s.length
      · have h3 := q3 hq
        have hp := hso.sublist (List.drop_sublist q s)
        rw [List.drop_eq_getElem_cons hq] at hp hb
        rcases List.mem_cons.1 hb with rfl | h
        · exact h3
        · have := List.rel_of_pairwise_cons hp h
          omega
      · rw [List.drop_of_length_le (by omega)] at hb
        cases hb
    have htake : ∀ a ∈ s.take p, En l a ≤ En l (i : Int) := fun a ha => by
      by_cases hp : 0 < p
      · obtain ⟨h2, h3⟩ := p3 hp
        obtain ⟨m, hm, rfl⟩ := List.getElem_of_mem ha
        rw [List.length_take] at hm
        rw [List.getElem_take]
        by_cases hme : m = p - 1
        · subst hme
          exact h3
        · have := List.pairwise_iff_getElem.1 hso m (p - 1) (by omega) h2 (by omega)
          omega
      · obtain rfl : p = 0 := by omega
        simp at ha
    have hpq : p = q := by
      rcases Nat.lt_trichotomy p q with h | h | h
      · have h2 : p < s.length := by omega
        have a1 := q2 s[p] (List.mem_take_iff_getElem.2 ⟨p, by omega, rfl⟩)
        have a2 := p2 s[p] (by rw [List.drop_eq_getElem_cons h2]; exact List.mem_cons_self)
        omega
      · exact h
      · have h2 : q < s.length := by omega
        have a1 := htake s[q] (List.mem_take_iff_getElem.2 ⟨q, by omega, rfl⟩)
        have a2 := hdrop s[q] (by rw [List.drop_eq_getElem_cons h2]; exact List.mem_cons_self)
        omega
    subst hpq
    have hin2 : ∀ a ∈ s.take p ++ (i : Int) :: s.drop p, 0 ≤ a ∧ a < l.length := fun a ha => by
      rcases List.mem_append.1 ha with h | h
      · exact hin a (List.mem_of_mem_take h)
      · rcases List.mem_cons.1 h with rfl | h
        · omega
        · exact hin a (List.mem_of_mem_drop h)
    have hso2 : Sorted l (s.take p ++ (i : Int) :: s.drop p) := by
      have h0 := hso
      unfold Sorted at h0 ⊢
      rw [← List.take_append_drop p s, List.pairwise_append] at h0
      rw [List.pairwise_append, List.pairwise_cons]
      refine ⟨h0.1, ⟨fun b hb => by have := p2 b hb; omega, h0.2.1⟩, fun a ha b hb => ?_⟩
      rcases List.mem_cons.1 hb with rfl | h
      · exact htake a ha
      · exact h0.2.2 a ha b h
    obtain ⟨g, u, v, w, x, y⟩ := sort_l l hl hg d (i + 1) (s.take p ++ (i : Int) :: s.drop p) (by omega) (by rw [List.length_append, List.length_cons, List.length_take, List.length_drop]; omega) (by omega) hin2 hso2
    refine ⟨g, Ev.step (fun k => ?_) (q4 _ u), Ev.step (fun k => ?_) (p4 g ?_), w, x, y⟩
    · simp only [spec_ByRate.l0]
      rw [if_pos (by omega), if_pos (by omega), if_pos (by omega)]
      rfl
    · simp only [slices_insertionSortCmpFunc_int.l0]
      rw [if_pos (by omega), List.take_length, List.drop_length, List.nil_append, ← hne, List.getElem_cons_drop]
      simp only [hne, hs]
    · rw [List.append_assoc] at v
      exact v
theorem sorted_ev (l : List S64) (hl : l.length < 20) (hg : Good l) : ∃ g : List Int, Ev (fun k => spec_ByRate.l0 k l [] l (l.length : Int) 0) (g, true) ∧ Ev (fun k => slices_SortStableFunc_int_int.f l k (impl_ByRate.nums l.length)) g ∧ g.length = l.length ∧ Sorted l g ∧ (∀ a ∈ g, 0 ≤ a ∧ a < l.length) := by
  have hnl : (impl_ByRate.nums l.length).length = l.length := by unfold impl_ByRate.nums; simp
  have key : ∀ g, Ev (fun k => slices_insertionSortCmpFunc_int.l0 l k (impl_ByRate.nums l.length) 0 (l.length : Int) 1) g → Ev (fun k => slices_SortStableFunc_int_int.f l k (impl_ByRate.nums l.length)) g := fun g h => by
    unfold slices_SortStableFunc_int_int.f slices_stableCmpFunc_int.f
    refine Ev.bind (f := fun _ t => some t) ?_ (Ev.now _)
    refine Ev.congr (fun k => ?_) h
    rw [if_pos ⟨by omega, by rw [hnl]; omega⟩, hnl]
    unfold slices_insertionSortCmpFunc_int.f
    rw [w64 (by omega) (by omega)]
    rfl
  by_cases h0 : l.length = 0
  · refine ⟨[], Ev.step (f := fun _ => some ([], true)) (fun k => ?_) (Ev.now _), key _ (Ev.step (f := fun _ => some []) (fun k => ?_) (Ev.now _)), by simp [h0], List.Pairwise.nil, by simp⟩
    · simp only [spec_ByRate.l0]
      rw [if_neg (by omega)]
    · simp only [slices_insertionSortCmpFunc_int.l0]
      rw [if_neg (by omega), h0]
      rfl
  · obtain ⟨q, q1, q2, q3, q4⟩ := sins_l l hl [] (by simp) (by simp) 0 (by omega) (rd_T64 l 0).f0 0 0 (by simp) rfl (by simp)
    obtain ⟨g, u, v, w, x, y⟩ := sort_l l hl hg (l.length - 1) 1 [0] (by omega) rfl (by omega) (fun a ha => by rw [List.mem_singleton] at ha; omega) (List.pairwise_singleton _ _)
    obtain rfl : q = 0 := by simpa using q1
    refine ⟨g, Ev.step (fun k => ?_) (q4 _ u), key _ ?_, w, x, y⟩
    · simp only [spec_ByRate.l0]
      rw [if_pos (by omega), if_pos (by omega), if_pos (by omega)]
      rfl
    · have e2 : impl_ByRate.nums l.length = [(0 : Int)] ++ (impl_ByRate.nums l.length).drop 1 := by
        have h3 : 0 < (impl_ByRate.nums l.length).length := by omega
        have h4 : (impl_ByRate.nums l.length)[0] = 0 := by simp [impl_ByRate.nums]
        have := List.drop_eq_getElem_cons h3
        rw [List.drop_zero, h4] at this
        exact this
      rw [e2]
      exact v
theorem eqInt_ev (l : List Int) (hl : l.length ≤ 1048576) : Ev (fun k => laws_eqIntS.f k l l) true := by
  refine Ev.congr (fun k => ?_) (eqr_ev (fun k x0 x1 x5 => laws_eqIntS.l0 k x0 x1 x5) l (fun k j hj => ?_) (fun k => ?_) (by omega))
  · unfold laws_eqIntS.f
    rw [if_pos rfl]
  · simp only [laws_eqIntS.l0]
    rw [if_pos (by omega), if_pos (by omega), if_pos (by omega), if_pos trivial]
  · simp [laws_eqIntS.l0]
theorem markInt_ev (l : List Int) (m : Int) (h0 : 0 ≤ m) (h1 : m ≤ 1000000000) (hl : l.length ≤ 1048576) : Ev (fun k => laws_markIntS.f k l m) (m + (1 : Nat) * (l.length : Int), (List.range l.length).map fun j : Nat => (fun x : Int => x) (m + ((1 : Nat) : Int) * (j : Int))) := by
  refine Ev.congr (fun k => rfl) (mark_ev (fun k x0 x1 x5 => laws_markIntS.l0 k x0 x1 x5) 1 (fun x => x) m h0 h1 (by omega) (fun k x0 x1 j hj h0 h1 => ?_) (fun k x0 x1 => ?_) l (by omega))
  · simp only [laws_markIntS.l0]
    rw [if_pos (by omega), if_pos (by omega), Int.toNat_natCast, w64 (i := x1 + 1) (by omega) (by omega)]
    rfl
  · simp [laws_markIntS.l0]
theorem heldInt_ev (n : Nat) (m : Int) (h0 : 0 ≤ m) (h1 : m ≤ 1000000000) (hn : n ≤ 1048576) : Ev (fun k => laws_heldIntS.f k ((List.range n).map fun j : Nat => (fun x : Int => x) (m + ((1 : Nat) : Int) * (j : Int))) m) (m + (1 : Nat) * (n : Int)) := by
  refine Ev.congr (fun k => rfl) (held_ev (fun k x0 x1 x5 => laws_heldIntS.l0 k x0 x1 x5) 1 (fun x => x) m h0 h1 (by omega) (fun k x0 x1 j hx hj h0 h1 => ?_) (fun k x0 x1 => ?_) n (by omega))
  · simp only [laws_heldIntS.l0]
    rw [if_pos (by omega), if_pos (by omega), if_pos (by simp only [rd, Int.toNat_natCast, List.getD_eq_getElem?_getD, hx, Option.getD_some]), w64 (i := x1 + 1) (by omega) (by omega)]
    rfl
  · simp [laws_heldIntS.l0]
def cvAgain (x : S66) : S64 := ⟨x.f0, x.f1⟩
theorem szAgain_eq (l : List S66) (hl : l.length ≤ maxLen) : laws_szAgainS.f l 1048576 = some (if (l.length : Int) ≤ 1048576 then 1048576 - (l.length : Int) else -1) := by
  unfold laws_szAgainS.f
  unfold maxLen at hl
  rw [w64 (by omega) (by omega)]
  by_cases h : (l.length : Int) ≤ 1048576
  · rw [if_neg (by omega), if_pos h]
  · rw [if_pos (by omega), if_neg h]
theorem toAgain_ev (l : List S66) (hl : l.length ≤ 1048576) : Ev (fun k => laws_toAgainS.f k l) (l.map cvAgain) := by
  refine Ev.congr (fun k => ?_) (fill_ev (fun k x0 x3 x4 => laws_toAgainS.l0 k x0 x3 x4) cvAgain z66 (fun k x0 x3 x4 => rfl) l z64 (by omega))
  unfold laws_toAgainS.f
  rw [if_pos (by omega), if_pos (by omega), Int.toNat_natCast]
theorem eqAgain_ev (l : List S64) (hl : l.length ≤ 1048576) : Ev (fun k => laws_eqAgainS.f k l l) true := by
  refine Ev.congr (fun k => ?_) (eqr_ev (fun k x0 x1 x5 => laws_eqAgainS.l0 k x0 x1 x5) l (fun k j hj => ?_) (fun k => ?_) (by omega))
  · unfold laws_eqAgainS.f
    rw [if_pos rfl]
  · simp only [laws_eqAgainS.l0]
    rw [if_pos (by omega), if_pos (by omega), if_pos (by omega)]
    simp [laws_eqAgain.f]
  · simp [laws_eqAgainS.l0]
def mkAgain (m : Int) : S64 := ⟨m, m + 1⟩
theorem markAgain_ev (l : List S64) (hl : l.length ≤ 1048576) : Ev (fun k => laws_markAgainS.f k l 1) (1 + (2 : Nat) * (l.length : Int), (List.range l.length).map fun j : Nat => mkAgain (1 + ((2 : Nat) : Int) * (j : Int))) := by
  refine Ev.congr (fun k => rfl) (mark_ev (fun k x0 x1 x5 => laws_markAgainS.l0 k x0 x1 x5) 2 mkAgain 1 (by omega) (by omega) (by omega) (fun k x0 x1 j hj h0 h1 => ?_) (fun k x0 x1 => ?_) l (by omega))
  · simp only [laws_markAgainS.l0]
    rw [if_pos (by omega), if_pos (by omega)]
    simp only [Option.bind_some, Int.toNat_natCast, rd_T64, List.getD_eq_getElem?_getD, List.set_set, List.getElem?_set_self hj, Option.getD_some]
    simp only [w64 (i := x1 + 1) (by omega) (by omega), w64 (i := x1 + 1 + 1) (by omega) (by omega)]
    simp only [show x1 + 1 + 1 = x1 + 2 by omega]
    rfl
  · simp [laws_markAgainS.l0]
theorem good_En {l : List S64} (h : goodB l = true) : Good l := fun i h0 h1 => by
  obtain ⟨j, rfl⟩ : ∃ j : Nat, i = j := ⟨i.toNat, by omega⟩
  have := (good_at h).2 j (by omega)
  unfold En
  omega
theorem both_ev (l : List S64) (hl : l.length ≤ 1048576) : ∃ (g : List Int) (b : Bool), Ev (fun k => spec_ByRate.f k l) (g, b) ∧ Ev (fun k => impl_ByRate.f k l) (g, b) ∧ g.length ≤ 1048576 := by
  unfold spec_ByRate.f impl_ByRate.f
  have hs := spec_ev l hl
  have hi := impl_ev l hl
  by_cases hg : goodB l = true
  · rw [hg] at hs hi
    have h5 := (good_at hg).1
    obtain ⟨g, u, v, w, _⟩ := sorted_ev l (by omega) (good_En hg)
    refine ⟨g, true, Ev.bind hs u, Ev.bind hi ?_, by omega⟩
    simp only [if_true, if_pos (show l.length < 20 by omega)]
    exact Ev.bind v (Ev.now _)
  · rw [Bool.eq_false_iff.2 hg] at hs hi
    exact ⟨[], false, Ev.bind hs (Ev.now _), Ev.bind hi (Ev.now _), by simp⟩
theorem FnExactByRate : laws_FnExactByRate.Pure := by
  intro l hl _
  apply Ev.rounds
  unfold laws_FnExactByRate.f
  simp only [szAgain_eq l hl, Option.bind_some]
  by_cases h : (l.length : Int) ≤ 1048576
  case neg =>
    simp only [if_neg h]
    exact Ev.now _
  simp only [if_pos h, if_neg (show ¬ (1048576 - (l.length : Int) < 0) by omega)]
  have hl' : l.length ≤ 1048576 := by omega
  have hm : (l.map cvAgain).length ≤ 1048576 := by simpa using hl'
  have hto := toAgain_ev l hl'
  have heq := eqAgain_ev (l.map cvAgain) hm
  generalize l.map cvAgain = x at hto heq hm
  refine Ev.bind hto ?_
  obtain ⟨g, b, h1, h2, hg⟩ := both_ev x hm
  refine Ev.bind h1 (Ev.bind hto (Ev.bind h2 ?_))
  refine Ev.bind (eqInt_ev g hg) ?_
  simp only [if_true, bne_self_eq_false]
  refine Ev.step (fun k => by simp only [laws_FnExactByRate.j0]; rfl) ?_
  simp only [Bool.false_eq_true, if_false]
  refine Ev.bind hto (Ev.bind heq ?_)
  simp only [if_true]
  refine Ev.bind (markAgain_ev x hm) ?_
  simp only [if_neg (show ¬ (1 + ((2 : Nat) : Int) * (x.length : Int) < 0) by omega)]
  refine Ev.bind (eqInt_ev g hg) ?_
  simp only [if_true, bne_self_eq_false]
  refine Ev.step (fun k => by simp only [laws_FnExactByRate.j1]; rfl) ?_
  simp only [Bool.false_eq_true, if_false]
  refine Ev.bind (markInt_ev g 1 (by omega) (by omega) hg) (Ev.bind (heldInt_ev g.length 1 (by omega) (by omega) hg) ?_)
  simp only [if_neg (show ¬ (1 + ((1 : Nat) : Int) * (g.length : Int) < 0) by omega), if_true]
  refine Ev.bind hto (Ev.bind h2 (Ev.bind (eqInt_ev g hg) ?_))
  simp only [if_true, bne_self_eq_false]
  refine Ev.step (fun k => by simp only [laws_FnExactByRate.j2]; rfl) ?_
  simp only [Bool.false_eq_true, if_false]
  refine Ev.bind (heldInt_ev g.length 1 (by omega) (by omega) hg) ?_
  simp only [if_neg (show ¬ (1 + ((1 : Nat) : Int) * (g.length : Int) < 0) by omega), if_true]
  exact Ev.now _

end Go.Proofs.Ytmffllogaboklae.Pure
