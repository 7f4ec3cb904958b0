/- The pure statement of the law FnExactMooreOrder: over lists and numbers the law's function answers true. No conditions beyond those typed. -/
import Derived.Test.YtnohpcmbmlgplaaS7
import Derived.Test.YtnohpcmbmlgplaaLib
namespace Go.Proofs.Ytnohpcmbmlgplaa.Pure
open Go.RowKit Go.Proofs.Ytnohpcmbmlgplaa.S Go.Proofs.YtnohpcmbmlgplaaW.PrintWords Go.Proofs.YtnohpcmbmlgplaaLib
set_option linter.unusedVariables false
set_option linter.unusedSimpArgs false

theorem in_eq (x y z : Int) : impl_in.f x y z = some (decide (x ≥ y ∧ x ≤ z)) := by
  unfold impl_in.f
  by_cases h : x ≥ y <;> simp only [h, if_true, if_false, true_and, false_and, decide_false]
theorem sin_eq (x y z : Int) : spec_l1In.f x y z = some (decide (x ≥ y ∧ x ≤ z)) := by
  unfold spec_l1In.f
  by_cases h : x ≥ y <;> simp only [h, if_true, if_false, true_and, false_and, decide_false]
def okB (x : S40) : Bool := decide (x.f0 ≥ 1 ∧ x.f0 ≤ 20) && decide (x.f1 ≥ 0 ∧ x.f1 ≤ 200)
def goodB (l : List S40) : Bool := l.all okB && decide ((l.length : Int) ≤ 10)
theorem spec_ev (l : List S40) (hl : l.length ≤ 1048576) : Ev (fun k => spec_GoodTasks.f k l) (goodB l) := by
  refine Ev.congr (fun k => rfl) (all_ev (fun k i => spec_GoodTasks.l0 k l l (l.length : Int) i) okB _ l (by omega) (fun k j hj => ?_) (fun k => ?_))
  · simp only [spec_GoodTasks.l0, sin_eq, Option.bind_some]
    rw [if_pos (by omega), if_pos (by omega), if_pos (by omega)]
    simp only [rd_T40, getD_at l j hj, okB]
    generalize l[j] = x
    by_cases h1 : x.f0 ≥ 1 ∧ x.f0 ≤ 20 <;> by_cases h2 : x.f1 ≥ 0 ∧ x.f1 ≤ 200 <;> simp [h1, h2]
  · simp [spec_GoodTasks.l0]
theorem idx_ev (l : List S40) (hl : l.length ≤ 1048576) : ∃ r, Ev (fun k => impl_Task_29.f k l) r ∧ decide (r ≥ 0) = l.any fun x => !okB x := by
  refine any_ev (fun k i => impl_Task_29.l0 k l (l.length : Int) i) (fun x => !okB x) l (by omega) (fun k j hj => ?_) (fun k => ?_)
  · simp only [impl_Task_29.l0, impl_GoodTasks_1.f, in_eq, Option.bind_some]
    rw [if_pos (by omega), if_pos (by omega), if_pos (by omega)]
    simp only [rd_T40, getD_at l j hj, okB]
    generalize l[j] = x
    by_cases h1 : x.f0 ≥ 1 ∧ x.f0 ≤ 20 <;> by_cases h2 : x.f1 ≥ 0 ∧ x.f1 ≤ 200 <;> simp [h1, h2]
  · simp [impl_Task_29.l0]
theorem impl_ev (l : List S40) (hl : l.length ≤ 1048576) : Ev (fun k => impl_GoodTasks.f k l) (goodB l) := by
  unfold impl_GoodTasks.f impl_Task_24.f goodB
  by_cases h : (l.length : Int) ≤ 10
  · simp only [h, if_true, decide_true, Bool.and_true]
    obtain ⟨r, hr, hd⟩ := idx_ev l hl
    refine Ev.bind (f := fun _ t => some (!t)) (a := decide (r ≥ 0)) (Ev.bind (f := fun _ t => some (decide (t ≥ 0))) hr (Ev.now _)) ?_
    rw [hd, not_any]
    exact Ev.now _
  · simp only [h, if_false, decide_false, Bool.and_false]
    exact Ev.now _
theorem good_at {l : List S40} (h : goodB l = true) : l.length ≤ 10 ∧ ∀ x ∈ l, 1 ≤ x.f0 ∧ x.f0 ≤ 20 ∧ 0 ≤ x.f1 ∧ x.f1 ≤ 200 := by
  unfold goodB at h
  rw [Bool.and_eq_true] at h
  refine ⟨by have := of_decide_eq_true h.2; omega, fun x hx => ?_⟩
  have h1 := List.all_eq_true.1 h.1 x hx
  unfold okB at h1
  rw [Bool.and_eq_true] at h1
  have a := of_decide_eq_true h1.1
  have b := of_decide_eq_true h1.2
  omega
def En (l : List S40) (i : Int) : Int := (rd_T40 l i).f1
def Good (l : List S40) : Prop := ∀ i : Int, 0 ≤ i → i < l.length → 0 ≤ En l i ∧ En l i ≤ 1000
def Sorted (l : List S40) (s : List Int) : Prop := s.Pairwise fun a b => En l a ≤ En l b
/-- The spec's place for x. -/
theorem sins_l (l : List S40) (hl : l.length < 20) (s : List Int) (hs : s.length ≤ 20) (hin : ∀ a ∈ s, 0 ≤ a ∧ a < l.length) (i : Nat) (hi : i < l.length) (f0 : Int) : ∀ (d p : Nat), p ≤ s.length → s.length - p = d → (∀ a ∈ s.take p, En l a ≤ En l (i : Int)) →
    ∃ q, q ≤ s.length ∧ (∀ a ∈ s.take q, En l a ≤ En l (i : Int)) ∧ (∀ h : q < s.length, En l (i : Int) < En l s[q]) ∧ ∀ v, Ev (fun k => spec_l5ByEnd.l0 k l (s.take q ++ (i : Int) :: s.drop q) l (l.length : Int) ((i + 1 : Nat) : Int)) v → Ev (fun k => spec_l5ByEnd.l1 k l s (i : Int) (p : Int) l (l.length : Int) (i : Int) f0 (En l (i : Int))) v
  | 0, p, hp, hd, ha => by
    refine ⟨p, hp, ha, fun h => by omega, fun v hv => Ev.step (fun k => ?_) hv⟩
    have htl : (s.take p).length = p := by rw [List.length_take]; omega
    have n1 : ([] : List Int).length + (s.take p).length < 17592186044416 := by rw [htl]; simp; omega
    have n2 : (s.take p).length < 17592186044416 := by omega
    have n3 : (s.take p ++ [(i : Int)]).length + (s.drop p).length < 17592186044416 := by rw [List.length_append, htl, List.length_drop]; simp; omega
    simp only [spec_l5ByEnd.l1, Option.bind_some, List.nil_append, Int.toNat_natCast]
    rw [if_neg (by omega), if_pos (by omega), if_pos (by omega), if_pos n1, if_pos n2, if_pos n3, w64s hi (by omega), List.append_assoc]
    rfl
  | d + 1, p, hp, hd, ha => by
    have hp2 : p < s.length := by omega
    have e : rd s (p : Int) = s[p] := getD_at s p hp2 _
    obtain ⟨x0, x1⟩ := hin s[p] (List.getElem_mem hp2)
    by_cases c : En l s[p] ≤ En l (i : Int)
    · obtain ⟨q, q1, q2, q3, q4⟩ := sins_l l hl s hs hin i hi f0 d (p + 1) (by omega) (by omega) (fun a h => by
        rw [List.take_succ_eq_append_getElem hp2, List.mem_append, List.mem_singleton] at h
        rcases h with h | rfl
        · exact ha a h
        · exact c)
      refine ⟨q, q1, q2, q3, fun v hv => Ev.step (fun k => ?_) (q4 v hv)⟩
      simp only [spec_l5ByEnd.l1, e]
      rw [if_pos (by omega), if_pos (by omega), if_pos x0, if_pos x1, if_pos (show (rd_T40 l s[p]).f1 ≤ En l (i : Int) from c), w64s hp2 (by omega)]
    · refine ⟨p, hp, ha, fun h => by omega, fun v hv => Ev.step (fun k => ?_) hv⟩
      have htl : (s.take p).length = p := by rw [List.length_take]; omega
      have n1 : ([] : List Int).length + (s.take p).length < 17592186044416 := by rw [htl]; simp; omega
      have n2 : (s.take p).length < 17592186044416 := by omega
      have n3 : (s.take p ++ [(i : Int)]).length + (s.drop p).length < 17592186044416 := by rw [List.length_append, htl, List.length_drop]; simp; omega
      simp only [spec_l5ByEnd.l1, e, Option.bind_some, List.nil_append, Int.toNat_natCast]
      rw [if_pos (by omega), if_pos (by omega), if_pos x0, if_pos x1, if_neg (show ¬ (rd_T40 l s[p]).f1 ≤ En l (i : Int) from c), if_pos (by omega), if_pos n1, if_pos n2, if_pos n3, w64s hi (by omega), List.append_assoc]
      rfl
theorem swap_eq (a : List Int) (y x : Int) (b : List Int) : ((a ++ y :: x :: b).set (a.length + 1) y).set a.length x = a ++ x :: y :: b := by
  rw [List.set_append_right _ _ (by omega), show a.length + 1 - a.length = 1 by omega, List.set_cons_succ, List.set_cons_zero, List.set_append_right _ _ (by omega), Nat.sub_self, List.set_cons_zero]
theorem rd_mid (a : List Int) (y : Int) (b : List Int) : rd (a ++ y :: b) (a.length : Int) = y := by
  unfold rd
  rw [Int.toNat_natCast, List.getD_eq_getElem?_getD, List.getElem?_append_right (by omega), Nat.sub_self]
  rfl
/-- The library's place for x. -/
theorem iins_l (l : List S40) (hl : l.length < 20) (hg : Good l) (s r : List Int) (hs : s.length ≤ 20) (hin : ∀ a ∈ s, 0 ≤ a ∧ a < l.length) (i : Nat) (hi : i < l.length) (n : Int) (hr : s.length + r.length ≤ 100) : ∀ (j : Nat), j ≤ s.length → (∀ b ∈ s.drop j, En l (i : Int) < En l b) →
    ∃ q, q ≤ s.length ∧ (∀ b ∈ s.drop q, En l (i : Int) < En l b) ∧ (∀ h : 0 < q, ∃ h2 : q - 1 < s.length, En l s[q - 1] ≤ En l (i : Int)) ∧ ∀ v, Ev (fun k => slices_insertionSortCmpFunc_int.l0 l k (s.take q ++ (i : Int) :: (s.drop q ++ r)) 0 n ((i + 1 : Nat) : Int)) v → Ev (fun k => slices_insertionSortCmpFunc_int.l1 l k (s.take j ++ (i : Int) :: (s.drop j ++ r)) 0 n (i : Int) (j : Int)) v
  | 0, hj, hb => by
    refine ⟨0, by omega, hb, fun h => by omega, fun v hv => Ev.step (fun k => ?_) hv⟩
    simp only [slices_insertionSortCmpFunc_int.l1]
    rw [if_neg (by omega), w64s hi (by omega)]
  | j + 1, hj, hb => by
    have hj2 : j < s.length := by omega
    have htl : (s.take j).length = j := by rw [List.length_take]; omega
    have e0 : s.take (j + 1) ++ (i : Int) :: (s.drop (j + 1) ++ r) = s.take j ++ s[j] :: (i : Int) :: (s.drop (j + 1) ++ r) := by
      rw [List.take_succ_eq_append_getElem hj2, List.append_assoc]
      rfl
    have e1 : rd (s.take j ++ s[j] :: (i : Int) :: (s.drop (j + 1) ++ r)) ((j : Nat) : Int) = s[j] := by
      have := rd_mid (s.take j) s[j] ((i : Int) :: (s.drop (j + 1) ++ r))
      rwa [htl] at this
    have e2 : rd (s.take j ++ s[j] :: (i : Int) :: (s.drop (j + 1) ++ r)) ((j + 1 : Nat) : Int) = (i : Int) := by
      have := rd_mid (s.take j ++ [s[j]]) (i : Int) (s.drop (j + 1) ++ r)
      rw [List.length_append, htl, List.append_assoc] at this
      exact this
    have e3 : ((s.take j ++ s[j] :: (i : Int) :: (s.drop (j + 1) ++ r)).set (j + 1) s[j]).set j (i : Int) = s.take j ++ (i : Int) :: (s.drop j ++ r) := by
      have := swap_eq (s.take j) s[j] (i : Int) (s.drop (j + 1) ++ r)
      rw [htl] at this
      rw [this, List.drop_eq_getElem_cons hj2]
      rfl
    have hlen : (s.take j ++ s[j] :: (i : Int) :: (s.drop (j + 1) ++ r)).length = s.length + 1 + r.length := by
      rw [List.length_append, htl, List.length_cons, List.length_cons, List.length_append, List.length_drop]
      omega
    obtain ⟨x0, x1⟩ := hin s[j] (List.getElem_mem hj2)
    obtain ⟨g0, g1⟩ := hg s[j] x0 x1
    obtain ⟨g2, g3⟩ := hg (i : Int) (by omega) (by omega)
    have hc : impl_byEnd_1.f l (i : Int) s[j] = some (En l (i : Int) - En l s[j]) := by
      unfold impl_byEnd_1.f
      rw [if_pos ⟨by omega, by omega, x0, x1⟩]
      show some (wrap64 (En l (i : Int) - En l s[j])) = _
      rw [w64 (by omega) (by omega)]
    have hst : ∀ k, slices_insertionSortCmpFunc_int.l1 l (k + 1) (s.take (j + 1) ++ (i : Int) :: (s.drop (j + 1) ++ r)) 0 n (i : Int) ((j + 1 : Nat) : Int) = if En l (i : Int) - En l s[j] < 0 then slices_insertionSortCmpFunc_int.l1 l k (s.take j ++ (i : Int) :: (s.drop j ++ r)) 0 n (i : Int) (j : Int) else slices_insertionSortCmpFunc_int.l0 l k (s.take (j + 1) ++ (i : Int) :: (s.drop (j + 1) ++ r)) 0 n ((i + 1 : Nat) : Int) := fun k => by
      rw [e0]
      have ew : wrap64 (((j + 1 : Nat) : Int) - 1) = (j : Int) := by rw [w64 (by omega) (by omega)]; omega
      simp only [slices_insertionSortCmpFunc_int.l1, ew, e1, e2, hc, Option.bind_some, Int.toNat_natCast, e3]
      rw [if_pos (by omega), if_pos (by omega), if_pos (by omega), if_pos (by omega), if_pos (by omega), w64s hi (by omega)]
    by_cases c : En l (i : Int) - En l s[j] < 0
    · obtain ⟨q, q1, q2, q3, q4⟩ := iins_l l hl hg s r hs hin i hi n hr j (by omega) (fun b hb2 => by
        rw [List.drop_eq_getElem_cons hj2] at hb2
        rcases List.mem_cons.1 hb2 with rfl | h
        · omega
        · exact hb b h)
      refine ⟨q, q1, q2, q3, fun v hv => Ev.step (fun k => ?_) (q4 v hv)⟩
      rw [hst, if_pos c]
    · refine ⟨j + 1, hj, hb, fun _ => ⟨by omega, ?_⟩, fun v hv => Ev.step (fun k => ?_) hv⟩
      · simp only [Nat.add_sub_cancel]
        omega
      · rw [hst, if_neg c]
theorem sort_l (l : List S40) (hl : l.length < 20) (hg : Good l) : ∀ (d i : Nat) (s : List Int), i + d = l.length → s.length = i → 1 ≤ i → (∀ a ∈ s, 0 ≤ a ∧ a < l.length) → Sorted l s → (∀ a ∈ s, a < (i : Int)) → s.Nodup →
    ∃ g : List Int, Ev (fun k => spec_l5ByEnd.l0 k l s l (l.length : Int) (i : Int)) g ∧ Ev (fun k => slices_insertionSortCmpFunc_int.l0 l k (s ++ (impl_byEnd.nums l.length).drop i) 0 (l.length : Int) (i : Int)) g ∧ g.length = l.length ∧ Sorted l g ∧ (∀ a ∈ g, 0 ≤ a ∧ a < l.length) ∧ g.Nodup
  | 0, i, s, hd, hs, h1, hin, hso, hlt, hnd => by
    obtain rfl : i = l.length := by omega
    refine ⟨s, Ev.step (f := fun _ => some s) (fun k => ?_) (Ev.now _), Ev.step (f := fun _ => some s) (fun k => ?_) (Ev.now _), hs, hso, hin, hnd⟩
    · simp only [spec_l5ByEnd.l0]
      rw [if_neg (by omega)]
    · simp only [slices_insertionSortCmpFunc_int.l0]
      rw [if_neg (by omega), List.drop_of_length_le (by unfold impl_byEnd.nums; simp), List.append_nil]
  | d + 1, i, s, hd, hs, h1, hin, hso, hlt, hnd => by
    have hi : i < l.length := by omega
    have hnl : (impl_byEnd.nums l.length).length = l.length := by unfold impl_byEnd.nums; simp
    have hne : (impl_byEnd.nums l.length)[i]'(by omega) = (i : Int) := by simp [impl_byEnd.nums]
    have e : rd_T40 l (i : Int) = l[i] := getD_at l i hi _
    obtain ⟨q, q1, q2, q3, q4⟩ := sins_l l hl s (by omega) hin i hi (rd_T40 l (i : Int)).f0 s.length 0 (by omega) rfl (by simp)
    obtain ⟨p, p1, p2, p3, p4⟩ := iins_l l hl hg s ((impl_byEnd.nums l.length).drop (i + 1)) (by omega) hin i hi (l.length : Int) (by rw [List.length_drop]; omega) s.length (Nat.le_refl _) (by simp)
    have hdrop : ∀ b ∈ s.drop q, En l (i : Int) < En l b := fun b hb => by
      by_cases hq : q < s.length
      · have h3 := q3 hq
        have hp := hso.sublist (List.drop_sublist q s)
        rw [List.drop_eq_getElem_cons hq] at hp hb
        rcases List.mem_cons.1 hb with rfl | h
        · exact h3
        · have := List.rel_of_pairwise_cons hp h
          omega
      · rw [List.drop_of_length_le (by omega)] at hb
        cases hb
    have htake : ∀ a ∈ s.take p, En l a ≤ En l (i : Int) := fun a ha => by
      by_cases hp : 0 < p
      · obtain ⟨h2, h3⟩ := p3 hp
        obtain ⟨m, hm, rfl⟩ := List.getElem_of_mem ha
        rw [List.length_take] at hm
        rw [List.getElem_take]
        by_cases hme : m = p - 1
        · subst hme
          exact h3
        · have := List.pairwise_iff_getElem.1 hso m (p - 1) (by omega) h2 (by omega)
          omega
      · obtain rfl : p = 0 := by omega
        simp at ha
    have hpq : p = q := by
      rcases Nat.lt_trichotomy p q with h | h | h
      · have h2 : p < s.length := by omega
        have a1 := q2 s[p] (List.mem_take_iff_getElem.2 ⟨p, by omega, rfl⟩)
        have a2 := p2 s[p] (by rw [List.drop_eq_getElem_cons h2]; exact List.mem_cons_self)
        omega
      · exact h
      · have h2 : q < s.length := by omega
        have a1 := htake s[q] (List.mem_take_iff_getElem.2 ⟨q, by omega, rfl⟩)
        have a2 := hdrop s[q] (by rw [List.drop_eq_getElem_cons h2]; exact List.mem_cons_self)
        omega
    subst hpq
    have hin2 : ∀ a ∈ s.take p ++ (i : Int) :: s.drop p, 0 ≤ a ∧ a < l.length := fun a ha => by
      rcases List.mem_append.1 ha with h | h
      · exact hin a (List.mem_of_mem_take h)
      · rcases List.mem_cons.1 h with rfl | h
        · omega
        · exact hin a (List.mem_of_mem_drop h)
    have hso2 : Sorted l (s.take p ++ (i : Int) :: s.drop p) := by
      have h0 := hso
      unfold Sorted at h0 ⊢
      rw [← List.take_append_drop p s, List.pairwise_append] at h0
      rw [List.pairwise_append, List.pairwise_cons]
      refine ⟨h0.1, ⟨fun b hb => by have := p2 b hb; omega, h0.2.1⟩, fun a ha b hb => ?_⟩
      rcases List.mem_cons.1 hb with rfl | h
      · exact htake a ha
      · exact h0.2.2 a ha b h
    have hpm : (s.take p ++ (i : Int) :: s.drop p).Perm ((i : Int) :: s) := by
      have h5 := List.perm_middle (a := (i : Int)) (l₁ := s.take p) (l₂ := s.drop p)
      rwa [List.take_append_drop] at h5
    have hlt2 : ∀ a ∈ s.take p ++ (i : Int) :: s.drop p, a < ((i + 1 : Nat) : Int) := fun a ha => by
      rcases List.mem_cons.1 (hpm.mem_iff.1 ha) with rfl | h
      · omega
      · have := hlt a h
        omega
    have hnd2 : (s.take p ++ (i : Int) :: s.drop p).Nodup := by
      rw [hpm.nodup_iff, List.nodup_cons]
      exact ⟨fun h => by have := hlt _ h; omega, hnd⟩
    obtain ⟨g, u, v, w, x, y⟩ := sort_l l hl hg d (i + 1) (s.take p ++ (i : Int) :: s.drop p) (by omega) (by rw [List.length_append, List.length_cons, List.length_take, List.length_drop]; omega) (by omega) hin2 hso2 hlt2 hnd2
    refine ⟨g, Ev.step (fun k => ?_) (q4 _ u), Ev.step (fun k => ?_) (p4 g ?_), w, x, y⟩
    · simp only [spec_l5ByEnd.l0]
      rw [if_pos (by omega), if_pos (by omega), if_pos (by omega)]
      rfl
    · simp only [slices_insertionSortCmpFunc_int.l0]
      rw [if_pos (by omega), List.take_length, List.drop_length, List.nil_append, ← hne, List.getElem_cons_drop]
      simp only [hne, hs]
    · rw [List.append_assoc] at v
      exact v
theorem sorted_ev (l : List S40) (hl : l.length < 20) (hg : Good l) : ∃ g : List Int, Ev (fun k => spec_l5ByEnd.l0 k l [] l (l.length : Int) 0) g ∧ Ev (fun k => slices_SortStableFunc_int_int.f l k (impl_byEnd.nums l.length)) g ∧ g.length = l.length ∧ Sorted l g ∧ (∀ a ∈ g, 0 ≤ a ∧ a < l.length) ∧ g.Nodup := by
  have hnl : (impl_byEnd.nums l.length).length = l.length := by unfold impl_byEnd.nums; simp
  have key : ∀ g, Ev (fun k => slices_insertionSortCmpFunc_int.l0 l k (impl_byEnd.nums l.length) 0 (l.length : Int) 1) g → Ev (fun k => slices_SortStableFunc_int_int.f l k (impl_byEnd.nums l.length)) g := fun g h => by
    unfold slices_SortStableFunc_int_int.f slices_stableCmpFunc_int.f
    refine Ev.bind (f := fun _ t => some t) ?_ (Ev.now _)
    refine Ev.congr (fun k => ?_) h
    rw [if_pos ⟨by omega, by rw [hnl]; omega⟩, hnl]
    unfold slices_insertionSortCmpFunc_int.f
    rw [w64 (by omega) (by omega)]
    rfl
  by_cases h0 : l.length = 0
  · refine ⟨[], Ev.step (f := fun _ => some []) (fun k => ?_) (Ev.now _), key _ (Ev.step (f := fun _ => some []) (fun k => ?_) (Ev.now _)), by simp [h0], List.Pairwise.nil, by simp, List.Pairwise.nil⟩
    · simp only [spec_l5ByEnd.l0]
      rw [if_neg (by omega)]
    · simp only [slices_insertionSortCmpFunc_int.l0]
      rw [if_neg (by omega), h0]
      rfl
  · obtain ⟨q, q1, q2, q3, q4⟩ := sins_l l hl [] (by simp) (by simp) 0 (by omega) (rd_T40 l 0).f0 0 0 (by simp) rfl (by simp)
    obtain ⟨g, u, v, w, x, y⟩ := sort_l l hl hg (l.length - 1) 1 [0] (by omega) rfl (by omega) (fun a ha => by rw [List.mem_singleton] at ha; omega) (List.pairwise_singleton _ _) (fun a ha => by rw [List.mem_singleton] at ha; omega) (List.pairwise_singleton _ _)
    obtain rfl : q = 0 := by simpa using q1
    refine ⟨g, Ev.step (fun k => ?_) (q4 _ u), key _ ?_, w, x, y⟩
    · simp only [spec_l5ByEnd.l0]
      rw [if_pos (by omega), if_pos (by omega), if_pos (by omega)]
      rfl
    · have e2 : impl_byEnd.nums l.length = [(0 : Int)] ++ (impl_byEnd.nums l.length).drop 1 := by
        have h3 : 0 < (impl_byEnd.nums l.length).length := by omega
        have h4 : (impl_byEnd.nums l.length)[0] = 0 := by simp [impl_byEnd.nums]
        have := List.drop_eq_getElem_cons h3
        rw [List.drop_zero, h4] at this
        exact this
      rw [e2]
      exact v
/-- The place of the first of the greatest, from place j on, w the place so far. -/
def wst (p : Int → Int) (K : List Int) : Nat → Nat → Nat → Nat
  | 0, _, w => w
  | d + 1, j, w => wst p K d (j + 1) (if p (K.getD j 0) > p (K.getD w 0) then j else w)
/-- Moore's way over the tasks that are left: kept ones, those that went, the time. -/
def mrun (p e : Int → Int) : List Int → List Int → List Int → Int → List Int × List Int
  | [], K, O, _ => (K, O)
  | x :: xs, K, O, t => if t + p x ≤ e x then mrun p e xs (K ++ [x]) O (t + p x)
    else mrun p e xs ((K ++ [x]).take (wst p (K ++ [x]) (K ++ [x]).length 0 0) ++ (K ++ [x]).drop (wst p (K ++ [x]) (K ++ [x]).length 0 0 + 1)) (O ++ [(K ++ [x]).getD (wst p (K ++ [x]) (K ++ [x]).length 0 0) 0]) (t + p x - p ((K ++ [x]).getD (wst p (K ++ [x]) (K ++ [x]).length 0 0) 0))
theorem wst_lt (p : Int → Int) (K : List Int) : ∀ d j w, j + d = K.length → w < K.length → wst p K d j w < K.length
  | 0, j, w, _, hw => hw
  | d + 1, j, w, hj, hw => by
    rw [wst]
    refine wst_lt p K d (j + 1) _ (by omega) ?_
    split <;> omega
theorem getD_lt (K : List Int) (j : Nat) (h : j < K.length) : K.getD j 0 = K[j] := by
  rw [List.getD_eq_getElem?_getD, List.getElem?_eq_getElem h]
  rfl
theorem getD_mem (K : List Int) (j : Nat) (h : j < K.length) : K.getD j 0 ∈ K := by
  rw [getD_lt K j h]
  exact List.getElem_mem h
def Pn (l : List S40) (i : Int) : Int := (rd_T40 l i).f0
theorem Pn_ok {l : List S40} (h : goodB l = true) (i : Int) (h0 : 0 ≤ i) (h1 : i < l.length) : 1 ≤ Pn l i ∧ Pn l i ≤ 20 := by
  obtain ⟨j, rfl⟩ : ∃ j : Nat, i = j := ⟨i.toNat, by omega⟩
  have e : rd_T40 l (j : Int) = l[j] := getD_at l j (by omega) _
  have := (good_at h).2 l[j] (List.getElem_mem _)
  unfold Pn
  rw [e]
  omega
theorem good_En {l : List S40} (h : goodB l = true) : Good l := fun i h0 h1 => by
  obtain ⟨j, rfl⟩ : ∃ j : Nat, i = j := ⟨i.toNat, by omega⟩
  have e : rd_T40 l (j : Int) = l[j] := getD_at l j (by omega) _
  have := (good_at h).2 l[j] (List.getElem_mem _)
  unfold En
  rw [e]
  omega
theorem iworst_l (l : List S40) (hl : l.length ≤ 10) (K O : List Int) (hK : K.length ≤ 100) (hO : O.length ≤ 100) (hin : ∀ a ∈ K, 0 ≤ a ∧ a < l.length) (t : Int) (g : List Int) (n : Int) (i : Nat) (hi : i < 1000) (v : List Int × Int) : ∀ (d j w : Nat), j + d = K.length → w < K.length →
    Ev (fun k => impl_moore.l0 k l (K.take (wst (Pn l) K d j w) ++ K.drop (wst (Pn l) K d j w + 1)) (O ++ [K.getD (wst (Pn l) K d j w) 0]) (wrap64 (t - Pn l (K.getD (wst (Pn l) K d j w) 0))) g n ((i + 1 : Nat) : Int)) v →
    Ev (fun k => impl_moore.l1 k l K O t (w : Int) g n (i : Int) K (K.length : Int) (j : Int)) v
  | 0, j, w, hj, hw, hv => by
    have ew : rd K (w : Int) = K.getD w 0 := rfl
    obtain ⟨w0, w1⟩ := hin _ (getD_mem K w hw)
    have ed : slices_Delete_int_int.f K (w : Int) (wrap64 ((w : Int) + 1)) = some (K.take w ++ K.drop (w + 1)) := by
      unfold slices_Delete_int_int.f
      rw [if_pos ⟨by omega, by omega, w64 (by omega) (by omega)⟩]
      rfl
    rw [wst] at hv
    refine Ev.step (fun k => ?_) hv
    simp only [impl_moore.l1, ew, ed, Option.bind_some]
    rw [if_neg (by omega), if_pos (by omega), if_pos (by omega), if_pos w0, if_pos w1, if_pos (by omega), w64s hi (by omega)]
    rfl
  | d + 1, j, w, hj, hw, hv => by
    have hj2 : j < K.length := by omega
    have ew : rd K (w : Int) = K.getD w 0 := rfl
    have ej : rd K (j : Int) = K.getD j 0 := rfl
    obtain ⟨w0, w1⟩ := hin _ (getD_mem K w hw)
    obtain ⟨j0, j1⟩ := hin _ (getD_mem K j hj2)
    rw [wst] at hv
    by_cases c : Pn l (K.getD j 0) > Pn l (K.getD w 0)
    · rw [if_pos c] at hv
      refine Ev.step (fun k => ?_) (iworst_l l hl K O hK hO hin t g n i hi v d (j + 1) j (by omega) hj2 hv)
      simp only [impl_moore.l1, ew, ej]
      rw [if_pos (by omega), if_pos (by omega), if_pos (by omega), if_pos j0, if_pos j1, if_pos (by omega), if_pos (by omega), if_pos w0, if_pos w1, if_pos (show (rd_T40 l (K.getD j 0)).f0 > (rd_T40 l (K.getD w 0)).f0 from c), w64s hj2 (by omega)]
    · rw [if_neg c] at hv
      refine Ev.step (fun k => ?_) (iworst_l l hl K O hK hO hin t g n i hi v d (j + 1) w (by omega) hw hv)
      simp only [impl_moore.l1, ew, ej]
      rw [if_pos (by omega), if_pos (by omega), if_pos (by omega), if_pos j0, if_pos j1, if_pos (by omega), if_pos (by omega), if_pos w0, if_pos w1, if_neg (show ¬ (rd_T40 l (K.getD j 0)).f0 > (rd_T40 l (K.getD w 0)).f0 from c), w64s hj2 (by omega)]
theorem imoore_l (l : List S40) (hg : goodB l = true) (g : List Int) (hgl : g.length ≤ 10) (hgv : ∀ a ∈ g, 0 ≤ a ∧ a < l.length) : ∀ (d i : Nat) (K O : List Int) (t : Int), i + d = g.length → K.length ≤ i → O.length ≤ i → (∀ a ∈ K, 0 ≤ a ∧ a < l.length) → -(20 * (i : Int)) ≤ t → t ≤ 20 * (i : Int) →
    Ev (fun k => impl_moore.l0 k l K O t g (g.length : Int) (i : Int)) ((mrun (Pn l) (En l) (g.drop i) K O t).1 ++ (mrun (Pn l) (En l) (g.drop i) K O t).2, ((mrun (Pn l) (En l) (g.drop i) K O t).1.length : Int)) ∧ (mrun (Pn l) (En l) (g.drop i) K O t).1.length ≤ g.length ∧ (mrun (Pn l) (En l) (g.drop i) K O t).2.length ≤ g.length
  | 0, i, K, O, t, hd, hK, hO, hin, t0, t1 => by
    rw [List.drop_of_length_le (by omega), mrun]
    refine ⟨Ev.step (f := fun _ => some (K ++ O, (K.length : Int))) (fun k => ?_) (Ev.now _), by simp only; omega, by simp only; omega⟩
    simp only [impl_moore.l0]
    rw [if_neg (by omega), if_pos (by omega)]
  | d + 1, i, K, O, t, hd, hK, hO, hin, t0, t1 => by
    have hi : i < g.length := by omega
    have hl10 := (good_at hg).1
    rw [List.drop_eq_getElem_cons hi, mrun]
    have ei : rd g (i : Int) = g[i] := getD_at g i hi _
    obtain ⟨x, hx⟩ : ∃ x, x = g[i] := ⟨_, rfl⟩
    obtain ⟨x0, x1⟩ := hgv g[i] (List.getElem_mem hi)
    rw [← hx] at x0 x1 ei ⊢
    obtain ⟨p0, p1⟩ := Pn_ok hg x x0 x1
    have hin2 : ∀ a ∈ K ++ [x], 0 ≤ a ∧ a < l.length := fun a ha => by
      rcases List.mem_append.1 ha with ha | ha
      · exact hin a ha
      · rw [List.mem_singleton] at ha
        subst ha
        exact ⟨x0, x1⟩
    have hl2 : (K ++ [x]).length = K.length + 1 := by simp
    have ew : wrap64 (t + (rd_T40 l x).f0) = t + Pn l x := by
      show wrap64 (t + Pn l x) = _
      rw [w64 (by omega) (by omega)]
    by_cases c : t + Pn l x ≤ En l x
    · rw [if_pos c]
      obtain ⟨a, b, b2⟩ := imoore_l l hg g hgl hgv d (i + 1) (K ++ [x]) O (t + Pn l x) (by omega) (by omega) (by omega) hin2 (by omega) (by omega)
      refine ⟨Ev.step (fun k => ?_) a, b, b2⟩
      simp only [impl_moore.l0, ei, ew, Option.bind_some]
      rw [if_pos (by omega), if_pos (by omega), if_pos (by omega), if_pos (by omega), if_pos x0, if_pos x1, if_pos (show t + Pn l x ≤ (rd_T40 l x).f1 from c), w64s hi (by omega)]
    · rw [if_neg c]
      have hw := wst_lt (Pn l) (K ++ [x]) (K ++ [x]).length 0 0 (by omega) (by omega)
      obtain ⟨y, hy⟩ : ∃ y, y = (K ++ [x]).getD (wst (Pn l) (K ++ [x]) (K ++ [x]).length 0 0) 0 := ⟨_, rfl⟩
      have hym := getD_mem (K ++ [x]) _ hw
      rw [← hy] at hym
      obtain ⟨y0, y1⟩ := hin2 y hym
      obtain ⟨q0, q1⟩ := Pn_ok hg y y0 y1
      have hv := iworst_l l hl10 (K ++ [x]) O (by omega) (by omega) hin2 (t + Pn l x) g (g.length : Int) i (by omega) (v := ((mrun (Pn l) (En l) (g.drop (i + 1)) ((K ++ [x]).take (wst (Pn l) (K ++ [x]) (K ++ [x]).length 0 0) ++ (K ++ [x]).drop (wst (Pn l) (K ++ [x]) (K ++ [x]).length 0 0 + 1)) (O ++ [y]) (t + Pn l x - Pn l y)).1 ++ (mrun (Pn l) (En l) (g.drop (i + 1)) ((K ++ [x]).take (wst (Pn l) (K ++ [x]) (K ++ [x]).length 0 0) ++ (K ++ [x]).drop (wst (Pn l) (K ++ [x]) (K ++ [x]).length 0 0 + 1)) (O ++ [y]) (t + Pn l x - Pn l y)).2, ((mrun (Pn l) (En l) (g.drop (i + 1)) ((K ++ [x]).take (wst (Pn l) (K ++ [x]) (K ++ [x]).length 0 0) ++ (K ++ [x]).drop (wst (Pn l) (K ++ [x]) (K ++ [x]).length 0 0 + 1)) (O ++ [y]) (t + Pn l x - Pn l y)).1.length : Int))) (K ++ [x]).length 0 0 (by omega) (by omega)
      rw [← hy, w64 (i := t + Pn l x - Pn l y) (by omega) (by omega)] at hv
      rw [← hy]
      obtain ⟨W, hW⟩ : ∃ W, W = wst (Pn l) (K ++ [x]) (K ++ [x]).length 0 0 := ⟨_, rfl⟩
      rw [← hW] at hw hv ⊢
      obtain ⟨a, b, b2⟩ := imoore_l l hg g hgl hgv d (i + 1) ((K ++ [x]).take W ++ (K ++ [x]).drop (W + 1)) (O ++ [y]) (t + Pn l x - Pn l y) (by omega) (by simp only [List.length_append, List.length_take, List.length_drop, List.length_singleton]; omega) (by simp; omega) (fun z hz => hin2 z (by
        rcases List.mem_append.1 hz with hz | hz
        · exact List.mem_of_mem_take hz
        · exact List.mem_of_mem_drop hz)) (by omega) (by omega)
      refine ⟨Ev.step (fun k => ?_) (hv a), b, b2⟩
      simp only [impl_moore.l0, ei, ew, Option.bind_some]
      rw [if_pos (by omega), if_pos (by omega), if_pos (by omega), if_pos (by omega), if_pos x0, if_pos x1, if_neg (show ¬ t + Pn l x ≤ (rd_T40 l x).f1 from c)]
      rfl
theorem sworst_l (l : List S40) (hl : l.length ≤ 10) (K O : List Int) (hK : K.length ≤ 100) (hO : O.length ≤ 100) (hin : ∀ a ∈ K, 0 ≤ a ∧ a < l.length) (t : Int) (g : List Int) (n : Int) (i : Nat) (hi : i < 1000) (v : List Int × List Int) : ∀ (d j w : Nat), j + d = K.length → w < K.length →
    Ev (fun k => spec_l5Moore.l0 k l (K.take (wst (Pn l) K d j w) ++ K.drop (wst (Pn l) K d j w + 1)) (O ++ [K.getD (wst (Pn l) K d j w) 0]) (wrap64 (t - Pn l (K.getD (wst (Pn l) K d j w) 0))) g n ((i + 1 : Nat) : Int)) v →
    Ev (fun k => spec_l5Moore.l1 k l K O t (w : Int) g n (i : Int) K (K.length : Int) (j : Int)) v
  | 0, j, w, hj, hw, hv => by
    have ew : rd K (w : Int) = K.getD w 0 := rfl
    obtain ⟨w0, w1⟩ := hin _ (getD_mem K w hw)
    have htl : (K.take w).length = w := by rw [List.length_take]; omega
    have n1 : ([] : List Int).length + (K.take w).length < 17592186044416 := by rw [htl]; simp; omega
    have n2 : (K.take w).length + (K.drop (w + 1)).length < 17592186044416 := by rw [htl, List.length_drop]; omega
    rw [wst] at hv
    refine Ev.step (fun k => ?_) hv
    simp only [spec_l5Moore.l1, ew, Option.bind_some, w64s hw (show K.length ≤ 1000000000000 by omega), Int.toNat_natCast, List.nil_append]
    rw [if_neg (by omega), if_pos (by omega), if_pos (by omega), if_pos w0, if_pos w1, if_pos (by omega), if_pos n1, if_pos (by omega), if_pos (by omega), if_pos n2, if_pos (by omega), w64s hi (by omega)]
    rfl
  | d + 1, j, w, hj, hw, hv => by
    have hj2 : j < K.length := by omega
    have ew : rd K (w : Int) = K.getD w 0 := rfl
    have ej : rd K (j : Int) = K.getD j 0 := rfl
    obtain ⟨w0, w1⟩ := hin _ (getD_mem K w hw)
    obtain ⟨j0, j1⟩ := hin _ (getD_mem K j hj2)
    rw [wst] at hv
    by_cases c : Pn l (K.getD j 0) > Pn l (K.getD w 0)
    · rw [if_pos c] at hv
      refine Ev.step (fun k => ?_) (sworst_l l hl K O hK hO hin t g n i hi v d (j + 1) j (by omega) hj2 hv)
      simp only [spec_l5Moore.l1, ew, ej]
      rw [if_pos (by omega), if_pos (by omega), if_pos (by omega), if_pos j0, if_pos j1, if_pos (by omega), if_pos (by omega), if_pos w0, if_pos w1, if_pos (show (rd_T40 l (K.getD j 0)).f0 > (rd_T40 l (K.getD w 0)).f0 from c), w64s hj2 (by omega)]
    · rw [if_neg c] at hv
      refine Ev.step (fun k => ?_) (sworst_l l hl K O hK hO hin t g n i hi v d (j + 1) w (by omega) hw hv)
      simp only [spec_l5Moore.l1, ew, ej]
      rw [if_pos (by omega), if_pos (by omega), if_pos (by omega), if_pos j0, if_pos j1, if_pos (by omega), if_pos (by omega), if_pos w0, if_pos w1, if_neg (show ¬ (rd_T40 l (K.getD j 0)).f0 > (rd_T40 l (K.getD w 0)).f0 from c), w64s hj2 (by omega)]
theorem smoore_l (l : List S40) (hg : goodB l = true) (g : List Int) (hgl : g.length ≤ 10) (hgv : ∀ a ∈ g, 0 ≤ a ∧ a < l.length) : ∀ (d i : Nat) (K O : List Int) (t : Int), i + d = g.length → K.length ≤ i → O.length ≤ i → (∀ a ∈ K, 0 ≤ a ∧ a < l.length) → -(20 * (i : Int)) ≤ t → t ≤ 20 * (i : Int) →
    Ev (fun k => spec_l5Moore.l0 k l K O t g (g.length : Int) (i : Int)) (mrun (Pn l) (En l) (g.drop i) K O t)
  | 0, i, K, O, t, hd, hK, hO, hin, t0, t1 => by
    rw [List.drop_of_length_le (by omega), mrun]
    refine Ev.step (f := fun _ => some (K, O)) (fun k => ?_) (Ev.now _)
    simp only [spec_l5Moore.l0]
    rw [if_neg (by omega)]
  | d + 1, i, K, O, t, hd, hK, hO, hin, t0, t1 => by
    have hi : i < g.length := by omega
    have hl10 := (good_at hg).1
    rw [List.drop_eq_getElem_cons hi, mrun]
    have ei : rd g (i : Int) = g[i] := getD_at g i hi _
    obtain ⟨x, hx⟩ : ∃ x, x = g[i] := ⟨_, rfl⟩
    obtain ⟨x0, x1⟩ := hgv g[i] (List.getElem_mem hi)
    rw [← hx] at x0 x1 ei ⊢
    obtain ⟨p0, p1⟩ := Pn_ok hg x x0 x1
    have hin2 : ∀ a ∈ K ++ [x], 0 ≤ a ∧ a < l.length := fun a ha => by
      rcases List.mem_append.1 ha with ha | ha
      · exact hin a ha
      · rw [List.mem_singleton] at ha
        subst ha
        exact ⟨x0, x1⟩
    have hl2 : (K ++ [x]).length = K.length + 1 := by simp
    have ew : wrap64 (t + (rd_T40 l x).f0) = t + Pn l x := by
      show wrap64 (t + Pn l x) = _
      rw [w64 (by omega) (by omega)]
    by_cases c : t + Pn l x ≤ En l x
    · rw [if_pos c]
      have a := smoore_l l hg g hgl hgv d (i + 1) (K ++ [x]) O (t + Pn l x) (by omega) (by omega) (by omega) hin2 (by omega) (by omega)
      refine Ev.step (fun k => ?_) a
      simp only [spec_l5Moore.l0, ei, ew, Option.bind_some]
      rw [if_pos (by omega), if_pos (by omega), if_pos (by omega), if_pos (by omega), if_pos x0, if_pos x1, if_pos (show t + Pn l x ≤ (rd_T40 l x).f1 from c), w64s hi (by omega)]
    · rw [if_neg c]
      have hw := wst_lt (Pn l) (K ++ [x]) (K ++ [x]).length 0 0 (by omega) (by omega)
      obtain ⟨y, hy⟩ : ∃ y, y = (K ++ [x]).getD (wst (Pn l) (K ++ [x]) (K ++ [x]).length 0 0) 0 := ⟨_, rfl⟩
      have hym := getD_mem (K ++ [x]) _ hw
      rw [← hy] at hym
      obtain ⟨y0, y1⟩ := hin2 y hym
      obtain ⟨q0, q1⟩ := Pn_ok hg y y0 y1
      have hv := sworst_l l hl10 (K ++ [x]) O (by omega) (by omega) hin2 (t + Pn l x) g (g.length : Int) i (by omega) (v := mrun (Pn l) (En l) (g.drop (i + 1)) ((K ++ [x]).take (wst (Pn l) (K ++ [x]) (K ++ [x]).length 0 0) ++ (K ++ [x]).drop (wst (Pn l) (K ++ [x]) (K ++ [x]).length 0 0 + 1)) (O ++ [y]) (t + Pn l x - Pn l y)) (K ++ [x]).length 0 0 (by omega) (by omega)
      rw [← hy, w64 (i := t + Pn l x - Pn l y) (by omega) (by omega)] at hv
      rw [← hy]
      obtain ⟨W, hW⟩ : ∃ W, W = wst (Pn l) (K ++ [x]) (K ++ [x]).length 0 0 := ⟨_, rfl⟩
      rw [← hW] at hw hv ⊢
      have a := smoore_l l hg g hgl hgv d (i + 1) ((K ++ [x]).take W ++ (K ++ [x]).drop (W + 1)) (O ++ [y]) (t + Pn l x - Pn l y) (by omega) (by simp only [List.length_append, List.length_take, List.length_drop, List.length_singleton]; omega) (by simp; omega) (fun z hz => hin2 z (by
        rcases List.mem_append.1 hz with hz | hz
        · exact List.mem_of_mem_take hz
        · exact List.mem_of_mem_drop hz)) (by omega) (by omega)
      refine Ev.step (fun k => ?_) (hv a)
      simp only [spec_l5Moore.l0, ei, ew, Option.bind_some]
      rw [if_pos (by omega), if_pos (by omega), if_pos (by omega), if_pos (by omega), if_pos x0, if_pos x1, if_neg (show ¬ t + Pn l x ≤ (rd_T40 l x).f1 from c)]
      rfl
theorem eqInt_ev (l : List Int) (hl : l.length ≤ 1048576) : Ev (fun k => laws_eqIntS.f k l l) true := by
  refine Ev.congr (fun k => ?_) (eqr_ev (fun k x0 x1 x5 => laws_eqIntS.l0 k x0 x1 x5) l (fun k j hj => ?_) (fun k => ?_) (by omega))
  · unfold laws_eqIntS.f
    rw [if_pos rfl]
  · simp only [laws_eqIntS.l0]
    rw [if_pos (by omega), if_pos (by omega), if_pos (by omega), if_pos trivial]
  · simp [laws_eqIntS.l0]
theorem markInt_ev (l : List Int) (m : Int) (h0 : 0 ≤ m) (h1 : m ≤ 1000000000) (hl : l.length ≤ 1048576) : Ev (fun k => laws_markIntS.f k l m) (m + (1 : Nat) * (l.length : Int), (List.range l.length).map fun j : Nat => (fun x : Int => x) (m + ((1 : Nat) : Int) * (j : Int))) := by
  refine Ev.congr (fun k => rfl) (mark_ev (fun k x0 x1 x5 => laws_markIntS.l0 k x0 x1 x5) 1 (fun x => x) m h0 h1 (by omega) (fun k x0 x1 j hj h0 h1 => ?_) (fun k x0 x1 => ?_) l (by omega))
  · simp only [laws_markIntS.l0]
    rw [if_pos (by omega), if_pos (by omega), Int.toNat_natCast, w64 (i := x1 + 1) (by omega) (by omega)]
    rfl
  · simp [laws_markIntS.l0]
theorem heldInt_ev (n : Nat) (m : Int) (h0 : 0 ≤ m) (h1 : m ≤ 1000000000) (hn : n ≤ 1048576) : Ev (fun k => laws_heldIntS.f k ((List.range n).map fun j : Nat => (fun x : Int => x) (m + ((1 : Nat) : Int) * (j : Int))) m) (m + (1 : Nat) * (n : Int)) := by
  refine Ev.congr (fun k => rfl) (held_ev (fun k x0 x1 x5 => laws_heldIntS.l0 k x0 x1 x5) 1 (fun x => x) m h0 h1 (by omega) (fun k x0 x1 j hx hj h0 h1 => ?_) (fun k x0 x1 => ?_) n (by omega))
  · simp only [laws_heldIntS.l0]
    rw [if_pos (by omega), if_pos (by omega), if_pos (by simp only [rd, Int.toNat_natCast, List.getD_eq_getElem?_getD, hx, Option.getD_some]), w64 (i := x1 + 1) (by omega) (by omega)]
    rfl
  · simp [laws_heldIntS.l0]
def cvTask (x : S42) : S40 := ⟨x.f0, x.f1⟩
theorem szTask_eq (l : List S42) (hl : l.length ≤ maxLen) : laws_szTaskS.f l 1048576 = some (if (l.length : Int) ≤ 1048576 then 1048576 - (l.length : Int) else -1) := by
  unfold laws_szTaskS.f
  unfold maxLen at hl
  rw [w64 (by omega) (by omega)]
  by_cases h : (l.length : Int) ≤ 1048576
  · rw [if_neg (by omega), if_pos h]
  · rw [if_pos (by omega), if_neg h]
theorem toTask_ev (l : List S42) (hl : l.length ≤ 1048576) : Ev (fun k => laws_toTaskS.f k l) (l.map cvTask) := by
  refine Ev.congr (fun k => ?_) (fill_ev (fun k x0 x3 x4 => laws_toTaskS.l0 k x0 x3 x4) cvTask z42 (fun k x0 x3 x4 => rfl) l z40 (by omega))
  unfold laws_toTaskS.f
  rw [if_pos (by omega), if_pos (by omega), Int.toNat_natCast]
theorem eqTask_ev (l : List S40) (hl : l.length ≤ 1048576) : Ev (fun k => laws_eqTaskS.f k l l) true := by
  refine Ev.congr (fun k => ?_) (eqr_ev (fun k x0 x1 x5 => laws_eqTaskS.l0 k x0 x1 x5) l (fun k j hj => ?_) (fun k => ?_) (by omega))
  · unfold laws_eqTaskS.f
    rw [if_pos rfl]
  · simp only [laws_eqTaskS.l0]
    rw [if_pos (by omega), if_pos (by omega), if_pos (by omega)]
    simp [laws_eqTask.f]
  · simp [laws_eqTaskS.l0]
def mkTask (m : Int) : S40 := ⟨m, m + 1⟩
theorem markTask_ev (l : List S40) (hl : l.length ≤ 1048576) : Ev (fun k => laws_markTaskS.f k l 1) (1 + (2 : Nat) * (l.length : Int), (List.range l.length).map fun j : Nat => mkTask (1 + ((2 : Nat) : Int) * (j : Int))) := by
  refine Ev.congr (fun k => rfl) (mark_ev (fun k x0 x1 x5 => laws_markTaskS.l0 k x0 x1 x5) 2 mkTask 1 (by omega) (by omega) (by omega) (fun k x0 x1 j hj h0 h1 => ?_) (fun k x0 x1 => ?_) l (by omega))
  · simp only [laws_markTaskS.l0]
    rw [if_pos (by omega), if_pos (by omega)]
    simp only [Option.bind_some, Int.toNat_natCast, rd_T40, List.getD_eq_getElem?_getD, List.set_set, List.getElem?_set_self hj, Option.getD_some]
    simp only [w64 (i := x1 + 1) (by omega) (by omega), w64 (i := x1 + 1 + 1) (by omega) (by omega)]
    simp only [show x1 + 1 + 1 = x1 + 2 by omega]
    rfl
  · simp [laws_markTaskS.l0]
theorem both_ev (l : List S40) (hl : l.length ≤ 1048576) : ∃ (g : List Int) (n : Int) (b : Bool), Ev (fun k => spec_MooreOrder.f k l) (g, n, b) ∧ Ev (fun k => impl_MooreOrder.f k l) (g, n, b) ∧ g.length ≤ 1048576 := by
  unfold spec_MooreOrder.f impl_MooreOrder.f
  have hs := spec_ev l hl
  have hi := impl_ev l hl
  by_cases hg : goodB l = true
  · rw [hg] at hs hi
    have h10 := (good_at hg).1
    obtain ⟨s, u, v, w, -, hin, -⟩ := sorted_ev l (by omega) (good_En hg)
    obtain ⟨a, hl1, hl2⟩ := imoore_l l hg s (by omega) hin s.length 0 [] [] 0 (by omega) (by simp) (by simp) (by simp) (by omega) (by omega)
    have b := smoore_l l hg s (by omega) hin s.length 0 [] [] 0 (by omega) (by simp) (by simp) (by simp) (by omega) (by omega)
    obtain ⟨r, hr⟩ : ∃ r, r = mrun (Pn l) (En l) (s.drop 0) [] [] 0 := ⟨_, rfl⟩
    rw [← hr] at a b hl1 hl2
    obtain ⟨r1, r2⟩ := r
    dsimp only at a hl1 hl2
    refine ⟨r1 ++ r2, (r1.length : Int), true, Ev.bind hs (Ev.bind (a := (r1, r2)) (Ev.bind (Ev.congr (fun k => rfl) u) b) ?_), Ev.bind hi (Ev.bind (a := (r1 ++ r2, (r1.length : Int))) (Ev.bind (Ev.congr (fun k => ?_) v) a) (Ev.now _)), by rw [List.length_append]; omega⟩
    · simp only [Option.bind_some, List.nil_append]
      rw [if_pos (show ([] : List Int).length + r1.length < 17592186044416 by simp; omega), if_pos (by omega)]
      exact Ev.now _
    · unfold impl_byEnd.f
      rw [if_pos (by omega)]
  · rw [Bool.eq_false_iff.2 hg] at hs hi
    exact ⟨[], 0, false, Ev.bind hs (Ev.now _), Ev.bind hi (Ev.now _), by simp⟩
theorem FnExactMooreOrder : laws_FnExactMooreOrder.Pure := by
  intro l hl _
  apply Ev.rounds
  unfold laws_FnExactMooreOrder.f
  simp only [szTask_eq l hl, Option.bind_some]
  by_cases h : (l.length : Int) ≤ 1048576
  case neg =>
    simp only [if_neg h]
    exact Ev.now _
  simp only [if_pos h, if_neg (show ¬ (1048576 - (l.length : Int) < 0) by omega)]
  have hl' : l.length ≤ 1048576 := by omega
  have hm : (l.map cvTask).length ≤ 1048576 := by simpa using hl'
  have hto := toTask_ev l hl'
  have heq := eqTask_ev (l.map cvTask) hm
  generalize l.map cvTask = x at hto heq hm
  refine Ev.bind hto ?_
  obtain ⟨g, n, b, h1, h2, hg⟩ := both_ev x hm
  refine Ev.bind h1 (Ev.bind hto (Ev.bind h2 ?_))
  refine Ev.bind (eqInt_ev g hg) ?_
  simp only [if_true, bne_self_eq_false]
  refine Ev.step (fun k => by simp only [laws_FnExactMooreOrder.j0]; rfl) ?_
  simp only [Bool.false_eq_true, if_false]
  refine Ev.bind hto (Ev.bind heq ?_)
  simp only [if_true]
  refine Ev.bind (markTask_ev x hm) ?_
  simp only [if_neg (show ¬ (1 + ((2 : Nat) : Int) * (x.length : Int) < 0) by omega)]
  refine Ev.bind (eqInt_ev g hg) ?_
  simp only [if_true, bne_self_eq_false]
  refine Ev.step (fun k => by simp only [laws_FnExactMooreOrder.j1]; rfl) ?_
  simp only [Bool.false_eq_true, if_false]
  refine Ev.bind (markInt_ev g 1 (by omega) (by omega) hg) (Ev.bind (heldInt_ev g.length 1 (by omega) (by omega) hg) ?_)
  simp only [if_neg (show ¬ (1 + ((1 : Nat) : Int) * (g.length : Int) < 0) by omega), if_true]
  refine Ev.bind hto (Ev.bind h2 (Ev.bind (eqInt_ev g hg) ?_))
  simp only [if_true, bne_self_eq_false]
  refine Ev.step (fun k => by simp only [laws_FnExactMooreOrder.j2]; rfl) ?_
  simp only [Bool.false_eq_true, if_false]
  refine Ev.bind (heldInt_ev g.length 1 (by omega) (by omega) hg) ?_
  simp only [if_neg (show ¬ (1 + ((1 : Nat) : Int) * (g.length : Int) < 0) by omega), if_true]
  exact Ev.now _

end Go.Proofs.Ytnohpcmbmlgplaa.Pure
