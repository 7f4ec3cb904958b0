/- The pure statement of the law FnExactBestMany: over lists and numbers the law's function answers true. No conditions beyond those typed. -/
import Derived.Test.YtnohpcmbmlgplaaB6
import Derived.Test.YtnohpcmbmlgplaaLib
import Derived.Test.YtnohpcmbmlgplaaWMore
namespace Go.Proofs.Ytnohpcmbmlgplaa.Pure
open Go.RowKit Go.Proofs.Ytnohpcmbmlgplaa.B Go.Proofs.YtnohpcmbmlgplaaW.PrintWords Go.Proofs.YtnohpcmbmlgplaaLib
set_option linter.unusedVariables false
set_option linter.unusedSimpArgs false

theorem in_eq (x y z : Int) : impl_in.f x y z = some (decide (x ≥ y ∧ x ≤ z)) := by
  unfold impl_in.f
  by_cases h : x ≥ y <;> simp only [h, if_true, if_false, true_and, false_and, decide_false]
theorem sin_eq (x y z : Int) : spec_l1In.f x y z = some (decide (x ≥ y ∧ x ≤ z)) := by
  unfold spec_l1In.f
  by_cases h : x ≥ y <;> simp only [h, if_true, if_false, true_and, false_and, decide_false]
def okB (x : S40) : Bool := decide (x.f0 ≥ 1 ∧ x.f0 ≤ 20) && decide (x.f1 ≥ 0 ∧ x.f1 ≤ 200)
def goodB (l : List S40) : Bool := l.all okB && decide ((l.length : Int) ≤ 10)
theorem spec_ev (l : List S40) (hl : l.length ≤ 1048576) : Ev (fun k => spec_GoodTasks.f k l) (goodB l) := by
  refine Ev.congr (fun k => rfl) (all_ev (fun k i => spec_GoodTasks.l0 k l l (l.length : Int) i) okB _ l (by omega) (fun k j hj => ?_) (fun k => ?_))
  · simp only [spec_GoodTasks.l0, sin_eq, Option.bind_some]
    rw [if_pos (by omega), if_pos (by omega), if_pos (by omega)]
    simp only [rd_T40, getD_at l j hj, okB]
    generalize l[j] = x
    by_cases h1 : x.f0 ≥ 1 ∧ x.f0 ≤ 20 <;> by_cases h2 : x.f1 ≥ 0 ∧ x.f1 ≤ 200 <;> simp [h1, h2]
  · simp [spec_GoodTasks.l0]
theorem idx_ev (l : List S40) (hl : l.length ≤ 1048576) : ∃ r, Ev (fun k => impl_Task_29.f k l) r ∧ decide (r ≥ 0) = l.any fun x => !okB x := by
  refine any_ev (fun k i => impl_Task_29.l0 k l (l.length : Int) i) (fun x => !okB x) l (by omega) (fun k j hj => ?_) (fun k => ?_)
  · simp only [impl_Task_29.l0, impl_GoodTasks_1.f, in_eq, Option.bind_some]
    rw [if_pos (by omega), if_pos (by omega), if_pos (by omega)]
    simp only [rd_T40, getD_at l j hj, okB]
    generalize l[j] = x
    by_cases h1 : x.f0 ≥ 1 ∧ x.f0 ≤ 20 <;> by_cases h2 : x.f1 ≥ 0 ∧ x.f1 ≤ 200 <;> simp [h1, h2]
  · simp [impl_Task_29.l0]
theorem impl_ev (l : List S40) (hl : l.length ≤ 1048576) : Ev (fun k => impl_GoodTasks.f k l) (goodB l) := by
  unfold impl_GoodTasks.f impl_Task_24.f goodB
  by_cases h : (l.length : Int) ≤ 10
  · simp only [h, if_true, decide_true, Bool.and_true]
    obtain ⟨r, hr, hd⟩ := idx_ev l hl
    refine Ev.bind (f := fun _ t => some (!t)) (a := decide (r ≥ 0)) (Ev.bind (f := fun _ t => some (decide (t ≥ 0))) hr (Ev.now _)) ?_
    rw [hd, not_any]
    exact Ev.now _
  · simp only [h, if_false, decide_false, Bool.and_false]
    exact Ev.now _
theorem good_at {l : List S40} (h : goodB l = true) : l.length ≤ 10 ∧ ∀ x ∈ l, 1 ≤ x.f0 ∧ x.f0 ≤ 20 ∧ 0 ≤ x.f1 ∧ x.f1 ≤ 200 := by
  unfold goodB at h
  rw [Bool.and_eq_true] at h
  refine ⟨by have := of_decide_eq_true h.2; omega, fun x hx => ?_⟩
  have h1 := List.all_eq_true.1 h.1 x hx
  unfold okB at h1
  rw [Bool.and_eq_true] at h1
  have a := of_decide_eq_true h1.1
  have b := of_decide_eq_true h1.2
  omega
def En (l : List S40) (i : Int) : Int := (rd_T40 l i).f1
def Good (l : List S40) : Prop := ∀ i : Int, 0 ≤ i → i < l.length → 0 ≤ En l i ∧ En l i ≤ 1000
def Sorted (l : List S40) (s : List Int) : Prop := s.Pairwise fun a b => En l a ≤ En l b
/-- The spec's place for x. -/
theorem sins_l (l : List S40) (hl : l.length < 20) (s : List Int) (hs : s.length ≤ 20) (hin : ∀ a ∈ s, 0 ≤ a ∧ a < l.length) (i : Nat) (hi : i < l.length) (f0 : Int) : ∀ (d p : Nat), p ≤ s.length → s.length - p = d → (∀ a ∈ s.take p, En l a ≤ En l (i : Int)) →
    ∃ q, q ≤ s.length ∧ (∀ a ∈ s.take q, En l a ≤ En l (i : Int)) ∧ (∀ h : q < s.length, En l (i : Int) < En l s[q]) ∧ ∀ v, Ev (fun k => spec_l5ByEnd.l0 k l (s.take q ++ (i : Int) :: s.drop q) l (l.length : Int) ((i + 1 : Nat) : Int)) v → Ev (fun k => spec_l5ByEnd.l1 k l s (i : Int) (p : Int) l (l.length : Int) (i : Int) f0 (En l (i : Int))) v
  | 0, p, hp, hd, ha => by
    refine ⟨p, hp, ha, fun h => by omega, fun v hv => Ev.step (fun k => ?_) hv⟩
    have htl : (s.take p).length = p := by rw [List.length_take]; omega
    have n1 : ([] : List Int).length + (s.take p).length < 17592186044416 := by rw [htl]; simp; omega
    have n2 : (s.take p).length < 17592186044416 := by omega
    have n3 : (s.take p ++ [(i : Int)]).length + (s.drop p).length < 17592186044416 := by rw [List.length_append, htl, List.length_drop]; simp; omega
    simp only [spec_l5ByEnd.l1, Option.bind_some, List.nil_append, Int.toNat_natCast]
    rw [if_neg (by omega), if_pos (by omega), if_pos (by omega), if_pos n1, if_pos n2, if_pos n3, w64s hi (by omega), List.append_assoc]
    rfl
  | d + 1, p, hp, hd, ha => by
    have hp2 : p < s.length := by omega
    have e : rd s (p : Int) = s[p] := getD_at s p hp2 _
    obtain ⟨x0, x1⟩ := hin s[p] (List.getElem_mem hp2)
    by_cases c : En l s[p] ≤ En l (i : Int)
    · obtain ⟨q, q1, q2, q3, q4⟩ := sins_l l hl s hs hin i hi f0 d (p + 1) (by omega) (by omega) (fun a h => by
        rw [List.take_succ_eq_append_getElem hp2, List.mem_append, List.mem_singleton] at h
        rcases h with h | rfl
        · exact ha a h
        · exact c)
      refine ⟨q, q1, q2, q3, fun v hv => Ev.step (fun k => ?_) (q4 v hv)⟩
      simp only [spec_l5ByEnd.l1, e]
      rw [if_pos (by omega), if_pos (by omega), if_pos x0, if_pos x1, if_pos (show (rd_T40 l s[p]).f1 ≤ En l (i : Int) from c), w64s hp2 (by omega)]
    · refine ⟨p, hp, ha, fun h => by omega, fun v hv => Ev.step (fun k => ?_) hv⟩
      have htl : (s.take p).length = p := by rw [List.length_take]; omega
      have n1 : ([] : List Int).length + (s.take p).length < 17592186044416 := by rw [htl]; simp; omega
      have n2 : (s.take p).length < 17592186044416 := by omega
      have n3 : (s.take p ++ [(i : Int)]).length + (s.drop p).length < 17592186044416 := by rw [List.length_append, htl, List.length_drop]; simp; omega
      simp only [spec_l5ByEnd.l1, e, Option.bind_some, List.nil_append, Int.toNat_natCast]
      rw [if_pos (by omega), if_pos (by omega), if_pos x0, if_pos x1, if_neg (show ¬ (rd_T40 l s[p]).f1 ≤ En l (i : Int) from c), if_pos (by omega), if_pos n1, if_pos n2, if_pos n3, w64s hi (by omega), List.append_assoc]
      rfl
theorem swap_eq (a : List Int) (y x : Int) (b : List Int) : ((a ++ y :: x :: b).set (a.length + 1) y).set a.length x = a ++ x :: y :: b := by
  rw [List.set_append_right _ _ (by omega), show a.length + 1 - a.length = 1 by omega, List.set_cons_succ, List.set_cons_zero, List.set_append_right _ _ (by omega), Nat.sub_self, List.set_cons_zero]
theorem rd_mid (a : List Int) (y : Int) (b : List Int) : rd (a ++ y :: b) (a.length : Int) = y := by
  unfold rd
  rw [Int.toNat_natCast, List.getD_eq_getElem?_getD, List.getElem?_append_right (by omega), Nat.sub_self]
  rfl
/-- The library's place for x. -/
theorem iins_l (l : List S40) (hl : l.length < 20) (hg : Good l) (s r : List Int) (hs : s.length ≤ 20) (hin : ∀ a ∈ s, 0 ≤ a ∧ a < l.length) (i : Nat) (hi : i < l.length) (n : Int) (hr : s.length + r.length ≤ 100) : ∀ (j : Nat), j ≤ s.length → (∀ b ∈ s.drop j, En l (i : Int) < En l b) →
    ∃ q, q ≤ s.length ∧ (∀ b ∈ s.drop q, En l (i : Int) < En l b) ∧ (∀ h : 0 < q, ∃ h2 : q - 1 < s.length, En l s[q - 1] ≤ En l (i : Int)) ∧ ∀ v, Ev (fun k => slices_insertionSortCmpFunc_int.l0 l k (s.take q ++ (i : Int) :: (s.drop q ++ r)) 0 n ((i + 1 : Nat) : Int)) v → Ev (fun k => slices_insertionSortCmpFunc_int.l1 l k (s.take j ++ (i : Int) :: (s.drop j ++ r)) 0 n (i : Int) (j : Int)) v
  | 0, hj, hb => by
    refine ⟨0, by omega, hb, fun h => by omega, fun v hv => Ev.step (fun k => ?_) hv⟩
    simp only [slices_insertionSortCmpFunc_int.l1]
    rw [if_neg (by omega), w64s hi (by omega)]
  | j + 1, hj, hb => by
    have hj2 : j < s.length := by omega
    have htl : (s.take j).length = j := by rw [List.length_take]; omega
    have e0 : s.take (j + 1) ++ (i : Int) :: (s.drop (j + 1) ++ r) = s.take j ++ s[j] :: (i : Int) :: (s.drop (j + 1) ++ r) := by
      rw [List.take_succ_eq_append_getElem hj2, List.append_assoc]
      rfl
    have e1 : rd (s.take j ++ s[j] :: (i : Int) :: (s.drop (j + 1) ++ r)) ((j : Nat) : Int) = s[j] := by
      have := rd_mid (s.take j) s[j] ((i : Int) :: (s.drop (j + 1) ++ r))
      rwa [htl] at this
    have e2 : rd (s.take j ++ s[j] :: (i : Int) :: (s.drop (j + 1) ++ r)) ((j + 1 : Nat) : Int) = (i : Int) := by
      have := rd_mid (s.take j ++ [s[j]]) (i : Int) (s.drop (j + 1) ++ r)
      rw [List.length_append, htl, List.append_assoc] at this
      exact this
    have e3 : ((s.take j ++ s[j] :: (i : Int) :: (s.drop (j + 1) ++ r)).set (j + 1) s[j]).set j (i : Int) = s.take j ++ (i : Int) :: (s.drop j ++ r) := by
      have := swap_eq (s.take j) s[j] (i : Int) (s.drop (j + 1) ++ r)
      rw [htl] at this
      rw [this, List.drop_eq_getElem_cons hj2]
      rfl
    have hlen : (s.take j ++ s[j] :: (i : Int) :: (s.drop (j + 1) ++ r)).length = s.length + 1 + r.length := by
      rw [List.length_append, htl, List.length_cons, List.length_cons, List.length_append, List.length_drop]
      omega
    obtain ⟨x0, x1⟩ := hin s[j] (List.getElem_mem hj2)
    obtain ⟨g0, g1⟩ := hg s[j] x0 x1
    obtain ⟨g2, g3⟩ := hg (i : Int) (by omega) (by omega)
    have hc : impl_byEnd_1.f l (i : Int) s[j] = some (En l (i : Int) - En l s[j]) := by
      unfold impl_byEnd_1.f
      rw [if_pos ⟨by omega, by omega, x0, x1⟩]
      show some (wrap64 (En l (i : Int) - En l s[j])) = _
      rw [w64 (by omega) (by omega)]
    have hst : ∀ k, slices_insertionSortCmpFunc_int.l1 l (k + 1) (s.take (j + 1) ++ (i : Int) :: (s.drop (j + 1) ++ r)) 0 n (i : Int) ((j + 1 : Nat) : Int) = if En l (i : Int) - En l s[j] < 0 then slices_insertionSortCmpFunc_int.l1 l k (s.take j ++ (i : Int) :: (s.drop j ++ r)) 0 n (i : Int) (j : Int) else slices_insertionSortCmpFunc_int.l0 l k (s.take (j + 1) ++ (i : Int) :: (s.drop (j + 1) ++ r)) 0 n ((i + 1 : Nat) : Int) := fun k => by
      rw [e0]
      have ew : wrap64 (((j + 1 : Nat) : Int) - 1) = (j : Int) := by rw [w64 (by omega) (by omega)]; omega
      simp only [slices_insertionSortCmpFunc_int.l1, ew, e1, e2, hc, Option.bind_some, Int.toNat_natCast, e3]
      rw [if_pos (by omega), if_pos (by omega), if_pos (by omega), if_pos (by omega), if_pos (by omega), w64s hi (by omega)]
    by_cases c : En l (i : Int) - En l s[j] < 0
    · obtain ⟨q, q1, q2, q3, q4⟩ := iins_l l hl hg s r hs hin i hi n hr j (by omega) (fun b hb2 => by
        rw [List.drop_eq_getElem_cons hj2] at hb2
        rcases List.mem_cons.1 hb2 with rfl | h
        · omega
        · exact hb b h)
      refine ⟨q, q1, q2, q3, fun v hv => Ev.step (fun k => ?_) (q4 v hv)⟩
      rw [hst, if_pos c]
    · refine ⟨j + 1, hj, hb, fun _ => ⟨by omega, ?_⟩, fun v hv => Ev.step (fun k => ?_) hv⟩
      · simp only [Nat.add_sub_cancel]
        omega
      · rw [hst, if_neg c]
theorem sort_l (l : List S40) (hl : l.length < 20) (hg : Good l) : ∀ (d i : Nat) (s : List Int), i + d = l.length → s.length = i → 1 ≤ i → (∀ a ∈ s, 0 ≤ a ∧ a < l.length) → Sorted l s → (∀ a ∈ s, a < (i : Int)) → s.Nodup →
    ∃ g : List Int, Ev (fun k => spec_l5ByEnd.l0 k l s l (l.length : Int) (i : Int)) g ∧ Ev (fun k => slices_insertionSortCmpFunc_int.l0 l k (s ++ (impl_byEnd.nums l.length).drop i) 0 (l.length : Int) (i : Int)) g ∧ g.length = l.length ∧ Sorted l g ∧ (∀ a ∈ g, 0 ≤ a ∧ a < l.length) ∧ g.Nodup
  | 0, i, s, hd, hs, h1, hin, hso, hlt, hnd => by
    obtain rfl : i = l.length := by omega
    refine ⟨s, Ev.step (f := fun _ => some s) (fun k => ?_) (Ev.now _), Ev.step (f := fun _ => some s) (fun k => ?_) (Ev.now _), hs, hso, hin, hnd⟩
    · simp only [spec_l5ByEnd.l0]
      rw [if_neg (by omega)]
    · simp only [slices_insertionSortCmpFunc_int.l0]
      rw [if_neg (by omega), List.drop_of_length_le (by unfold impl_byEnd.nums; simp), List.append_nil]
  | d + 1, i, s, hd, hs, h1, hin, hso, hlt, hnd => by
    have hi : i < l.length := by omega
    have hnl : (impl_byEnd.nums l.length).length = l.length := by unfold impl_byEnd.nums; simp
    have hne : (impl_byEnd.nums l.length)[i]'(by omega) = (i : Int) := by simp [impl_byEnd.nums]
    have e : rd_T40 l (i : Int) = l[i] := getD_at l i hi _
    obtain ⟨q, q1, q2, q3, q4⟩ := sins_l l hl s (by omega) hin i hi (rd_T40 l (i : Int)).f0 s.length 0 (by omega) rfl (by simp)
    obtain ⟨p, p1, p2, p3, p4⟩ := iins_l l hl hg s ((impl_byEnd.nums l.length).drop (i + 1)) (by omega) hin i hi (l.length : Int) (by rw [List.length_drop]; omega) s.length (Nat.le_refl _) (by simp)
    have hdrop : ∀ b ∈ s.drop q, En l (i : Int) < En l b := fun b hb => by
      by_cases hq : q < s.length
      · have h3 := q3 hq
        have hp := hso.sublist (List.drop_sublist q s)
        rw [List.drop_eq_getElem_cons hq] at hp hb
        rcases List.mem_cons.1 hb with rfl | h
        · exact h3
        · have := List.rel_of_pairwise_cons hp h
          omega
      · rw [List.drop_of_length_le (by omega)] at hb
        cases hb
    have htake : ∀ a ∈ s.take p, En l a ≤ En l (i : Int) := fun a ha => by
      by_cases hp : 0 < p
      · obtain ⟨h2, h3⟩ := p3 hp
        obtain ⟨m, hm, rfl⟩ := List.getElem_of_mem ha
        rw [List.length_take] at hm
        rw [List.getElem_take]
        by_cases hme : m = p - 1
        · subst hme
          exact h3
        · have := List.pairwise_iff_getElem.1 hso m (p - 1) (by omega) h2 (by omega)
          omega
      · obtain rfl : p = 0 := by omega
        simp at ha
    have hpq : p = q := by
      rcases Nat.lt_trichotomy p q with h | h | h
      · have h2 : p < s.length := by omega
        have a1 := q2 s[p] (List.mem_take_iff_getElem.2 ⟨p, by omega, rfl⟩)
        have a2 := p2 s[p] (by rw [List.drop_eq_getElem_cons h2]; exact List.mem_cons_self)
        omega
      · exact h
      · have h2 : q < s.length := by omega
        have a1 := htake s[q] (List.mem_take_iff_getElem.2 ⟨q, by omega, rfl⟩)
        have a2 := hdrop s[q] (by rw [List.drop_eq_getElem_cons h2]; exact List.mem_cons_self)
        omega
    subst hpq
    have hin2 : ∀ a ∈ s.take p ++ (i : Int) :: s.drop p, 0 ≤ a ∧ a < l.length := fun a ha => by
      rcases List.mem_append.1 ha with h | h
      · exact hin a (List.mem_of_mem_take h)
      · rcases List.mem_cons.1 h with rfl | h
        · omega
        · exact hin a (List.mem_of_mem_drop h)
    have hso2 : Sorted l (s.take p ++ (i : Int) :: s.drop p) := by
      have h0 := hso
      unfold Sorted at h0 ⊢
      rw [← List.take_append_drop p s, List.pairwise_append] at h0
      rw [List.pairwise_append, List.pairwise_cons]
      refine ⟨h0.1, ⟨fun b hb => by have := p2 b hb; omega, h0.2.1⟩, fun a ha b hb => ?_⟩
      rcases List.mem_cons.1 hb with rfl | h
      · exact htake a ha
      · exact h0.2.2 a ha b h
    have hpm : (s.take p ++ (i : Int) :: s.drop p).Perm ((i : Int) :: s) := by
      have h5 := List.perm_middle (a := (i : Int)) (l₁ := s.take p) (l₂ := s.drop p)
      rwa [List.take_append_drop] at h5
    have hlt2 : ∀ a ∈ s.take p ++ (i : Int) :: s.drop p, a < ((i + 1 : Nat) : Int) := fun a ha => by
      rcases List.mem_cons.1 (hpm.mem_iff.1 ha) with rfl | h
      · omega
      · have := hlt a h
        omega
    have hnd2 : (s.take p ++ (i : Int) :: s.drop p).Nodup := by
      rw [hpm.nodup_iff, List.nodup_cons]
      exact ⟨fun h => by have := hlt _ h; omega, hnd⟩
    obtain ⟨g, u, v, w, x, y⟩ := sort_l l hl hg d (i + 1) (s.take p ++ (i : Int) :: s.drop p) (by omega) (by rw [List.length_append, List.length_cons, List.length_take, List.length_drop]; omega) (by omega) hin2 hso2 hlt2 hnd2
    refine ⟨g, Ev.step (fun k => ?_) (q4 _ u), Ev.step (fun k => ?_) (p4 g ?_), w, x, y⟩
    · simp only [spec_l5ByEnd.l0]
      rw [if_pos (by omega), if_pos (by omega), if_pos (by omega)]
      rfl
    · simp only [slices_insertionSortCmpFunc_int.l0]
      rw [if_pos (by omega), List.take_length, List.drop_length, List.nil_append, ← hne, List.getElem_cons_drop]
      simp only [hne, hs]
    · rw [List.append_assoc] at v
      exact v
theorem sorted_ev (l : List S40) (hl : l.length < 20) (hg : Good l) : ∃ g : List Int, Ev (fun k => spec_l5ByEnd.l0 k l [] l (l.length : Int) 0) g ∧ Ev (fun k => slices_SortStableFunc_int_int.f l k (impl_byEnd.nums l.length)) g ∧ g.length = l.length ∧ Sorted l g ∧ (∀ a ∈ g, 0 ≤ a ∧ a < l.length) ∧ g.Nodup := by
  have hnl : (impl_byEnd.nums l.length).length = l.length := by unfold impl_byEnd.nums; simp
  have key : ∀ g, Ev (fun k => slices_insertionSortCmpFunc_int.l0 l k (impl_byEnd.nums l.length) 0 (l.length : Int) 1) g → Ev (fun k => slices_SortStableFunc_int_int.f l k (impl_byEnd.nums l.length)) g := fun g h => by
    unfold slices_SortStableFunc_int_int.f slices_stableCmpFunc_int.f
    refine Ev.bind (f := fun _ t => some t) ?_ (Ev.now _)
    refine Ev.congr (fun k => ?_) h
    rw [if_pos ⟨by omega, by rw [hnl]; omega⟩, hnl]
    unfold slices_insertionSortCmpFunc_int.f
    rw [w64 (by omega) (by omega)]
    rfl
  by_cases h0 : l.length = 0
  · refine ⟨[], Ev.step (f := fun _ => some []) (fun k => ?_) (Ev.now _), key _ (Ev.step (f := fun _ => some []) (fun k => ?_) (Ev.now _)), by simp [h0], List.Pairwise.nil, by simp, List.Pairwise.nil⟩
    · simp only [spec_l5ByEnd.l0]
      rw [if_neg (by omega)]
    · simp only [slices_insertionSortCmpFunc_int.l0]
      rw [if_neg (by omega), h0]
      rfl
  · obtain ⟨q, q1, q2, q3, q4⟩ := sins_l l hl [] (by simp) (by simp) 0 (by omega) (rd_T40 l 0).f0 0 0 (by simp) rfl (by simp)
    obtain ⟨g, u, v, w, x, y⟩ := sort_l l hl hg (l.length - 1) 1 [0] (by omega) rfl (by omega) (fun a ha => by rw [List.mem_singleton] at ha; omega) (List.pairwise_singleton _ _) (fun a ha => by rw [List.mem_singleton] at ha; omega) (List.pairwise_singleton _ _)
    obtain rfl : q = 0 := by simpa using q1
    refine ⟨g, Ev.step (fun k => ?_) (q4 _ u), key _ ?_, w, x, y⟩
    · simp only [spec_l5ByEnd.l0]
      rw [if_pos (by omega), if_pos (by omega), if_pos (by omega)]
      rfl
    · have e2 : impl_byEnd.nums l.length = [(0 : Int)] ++ (impl_byEnd.nums l.length).drop 1 := by
        have h3 : 0 < (impl_byEnd.nums l.length).length := by omega
        have h4 : (impl_byEnd.nums l.length)[0] = 0 := by simp [impl_byEnd.nums]
        have := List.drop_eq_getElem_cons h3
        rw [List.drop_zero, h4] at this
        exact this
      rw [e2]
      exact v
/-- The place of the first of the greatest, from place j on, w the place so far. -/
def wst (p : Int → Int) (K : List Int) : Nat → Nat → Nat → Nat
  | 0, _, w => w
  | d + 1, j, w => wst p K d (j + 1) (if p (K.getD j 0) > p (K.getD w 0) then j else w)
/-- Moore's way over the tasks that are left: kept ones, those that went, the time. -/
def mrun (p e : Int → Int) : List Int → List Int → List Int → Int → List Int × List Int
  | [], K, O, _ => (K, O)
  | x :: xs, K, O, t => if t + p x ≤ e x then mrun p e xs (K ++ [x]) O (t + p x)
    else mrun p e xs ((K ++ [x]).take (wst p (K ++ [x]) (K ++ [x]).length 0 0) ++ (K ++ [x]).drop (wst p (K ++ [x]) (K ++ [x]).length 0 0 + 1)) (O ++ [(K ++ [x]).getD (wst p (K ++ [x]) (K ++ [x]).length 0 0) 0]) (t + p x - p ((K ++ [x]).getD (wst p (K ++ [x]) (K ++ [x]).length 0 0) 0))
theorem wst_lt (p : Int → Int) (K : List Int) : ∀ d j w, j + d = K.length → w < K.length → wst p K d j w < K.length
  | 0, j, w, _, hw => hw
  | d + 1, j, w, hj, hw => by
    rw [wst]
    refine wst_lt p K d (j + 1) _ (by omega) ?_
    split <;> omega
theorem getD_lt (K : List Int) (j : Nat) (h : j < K.length) : K.getD j 0 = K[j] := by
  rw [List.getD_eq_getElem?_getD, List.getElem?_eq_getElem h]
  rfl
theorem getD_mem (K : List Int) (j : Nat) (h : j < K.length) : K.getD j 0 ∈ K := by
  rw [getD_lt K j h]
  exact List.getElem_mem h
def Pn (l : List S40) (i : Int) : Int := (rd_T40 l i).f0
theorem Pn_ok {l : List S40} (h : goodB l = true) (i : Int) (h0 : 0 ≤ i) (h1 : i < l.length) : 1 ≤ Pn l i ∧ Pn l i ≤ 20 := by
  obtain ⟨j, rfl⟩ : ∃ j : Nat, i = j := ⟨i.toNat, by omega⟩
  have e : rd_T40 l (j : Int) = l[j] := getD_at l j (by omega) _
  have := (good_at h).2 l[j] (List.getElem_mem _)
  unfold Pn
  rw [e]
  omega
theorem good_En {l : List S40} (h : goodB l = true) : Good l := fun i h0 h1 => by
  obtain ⟨j, rfl⟩ : ∃ j : Nat, i = j := ⟨i.toNat, by omega⟩
  have e : rd_T40 l (j : Int) = l[j] := getD_at l j (by omega) _
  have := (good_at h).2 l[j] (List.getElem_mem _)
  unfold En
  rw [e]
  omega
theorem iworst_l (l : List S40) (hl : l.length ≤ 10) (K O : List Int) (hK : K.length ≤ 100) (hO : O.length ≤ 100) (hin : ∀ a ∈ K, 0 ≤ a ∧ a < l.length) (t : Int) (g : List Int) (n : Int) (i : Nat) (hi : i < 1000) (v : List Int × Int) : ∀ (d j w : Nat), j + d = K.length → w < K.length →
    Ev (fun k => impl_moore.l0 k l (K.take (wst (Pn l) K d j w) ++ K.drop (wst (Pn l) K d j w + 1)) (O ++ [K.getD (wst (Pn l) K d j w) 0]) (wrap64 (t - Pn l (K.getD (wst (Pn l) K d j w) 0))) g n ((i + 1 : Nat) : Int)) v →
    Ev (fun k => impl_moore.l1 k l K O t (w : Int) g n (i : Int) K (K.length : Int) (j : Int)) v
  | 0, j, w, hj, hw, hv => by
    have ew : rd K (w : Int) = K.getD w 0 := rfl
    obtain ⟨w0, w1⟩ := hin _ (getD_mem K w hw)
    have ed : slices_Delete_int_int.f K (w : Int) (wrap64 ((w : Int) + 1)) = some (K.take w ++ K.drop (w + 1)) := by
      unfold slices_Delete_int_int.f
      rw [if_pos ⟨by omega, by omega, w64 (by omega) (by omega)⟩]
      rfl
    rw [wst] at hv
    refine Ev.step (fun k => ?_) hv
    simp only [impl_moore.l1, ew, ed, Option.bind_some]
    rw [if_neg (by omega), if_pos (by omega), if_pos (by omega), if_pos w0, if_pos w1, if_pos (by omega), w64s hi (by omega)]
    rfl
  | d + 1, j, w, hj, hw, hv => by
    have hj2 : j < K.length := by omega
    have ew : rd K (w : Int) = K.getD w 0 := rfl
    have ej : rd K (j : Int) = K.getD j 0 := rfl
    obtain ⟨w0, w1⟩ := hin _ (getD_mem K w hw)
    obtain ⟨j0, j1⟩ := hin _ (getD_mem K j hj2)
    rw [wst] at hv
    by_cases c : Pn l (K.getD j 0) > Pn l (K.getD w 0)
    · rw [if_pos c] at hv
      refine Ev.step (fun k => ?_) (iworst_l l hl K O hK hO hin t g n i hi v d (j + 1) j (by omega) hj2 hv)
      simp only [impl_moore.l1, ew, ej]
      rw [if_pos (by omega), if_pos (by omega), if_pos (by omega), if_pos j0, if_pos j1, if_pos (by omega), if_pos (by omega), if_pos w0, if_pos w1, if_pos (show (rd_T40 l (K.getD j 0)).f0 > (rd_T40 l (K.getD w 0)).f0 from c), w64s hj2 (by omega)]
    · rw [if_neg c] at hv
      refine Ev.step (fun k => ?_) (iworst_l l hl K O hK hO hin t g n i hi v d (j + 1) w (by omega) hw hv)
      simp only [impl_moore.l1, ew, ej]
      rw [if_pos (by omega), if_pos (by omega), if_pos (by omega), if_pos j0, if_pos j1, if_pos (by omega), if_pos (by omega), if_pos w0, if_pos w1, if_neg (show ¬ (rd_T40 l (K.getD j 0)).f0 > (rd_T40 l (K.getD w 0)).f0 from c), w64s hj2 (by omega)]
theorem imoore_l (l : List S40) (hg : goodB l = true) (g : List Int) (hgl : g.length ≤ 10) (hgv : ∀ a ∈ g, 0 ≤ a ∧ a < l.length) : ∀ (d i : Nat) (K O : List Int) (t : Int), i + d = g.length → K.length ≤ i → O.length ≤ i → (∀ a ∈ K, 0 ≤ a ∧ a < l.length) → -(20 * (i : Int)) ≤ t → t ≤ 20 * (i : Int) →
    Ev (fun k => impl_moore.l0 k l K O t g (g.length : Int) (i : Int)) ((mrun (Pn l) (En l) (g.drop i) K O t).1 ++ (mrun (Pn l) (En l) (g.drop i) K O t).2, ((mrun (Pn l) (En l) (g.drop i) K O t).1.length : Int)) ∧ (mrun (Pn l) (En l) (g.drop i) K O t).1.length ≤ g.length ∧ (mrun (Pn l) (En l) (g.drop i) K O t).2.length ≤ g.length
  | 0, i, K, O, t, hd, hK, hO, hin, t0, t1 => by
    rw [List.drop_of_length_le (by omega), mrun]
    refine ⟨Ev.step (f := fun _ => some (K ++ O, (K.length : Int))) (fun k => ?_) (Ev.now _), by simp only; omega, by simp only; omega⟩
    simp only [impl_moore.l0]
    rw [if_neg (by omega), if_pos (by omega)]
  | d + 1, i, K, O, t, hd, hK, hO, hin, t0, t1 => by
    have hi : i < g.length := by omega
    have hl10 := (good_at hg).1
    rw [List.drop_eq_getElem_cons hi, mrun]
    have ei : rd g (i : Int) = g[i] := getD_at g i hi _
    obtain ⟨x, hx⟩ : ∃ x, x = g[i] := ⟨_, rfl⟩
    obtain ⟨x0, x1⟩ := hgv g[i] (List.getElem_mem hi)
    rw [← hx] at x0 x1 ei ⊢
    obtain ⟨p0, p1⟩ := Pn_ok hg x x0 x1
    have hin2 : ∀ a ∈ K ++ [x], 0 ≤ a ∧ a < l.length := fun a ha => by
      rcases List.mem_append.1 ha with ha | ha
      · exact hin a ha
      · rw [List.mem_singleton] at ha
        subst ha
        exact ⟨x0, x1⟩
    have hl2 : (K ++ [x]).length = K.length + 1 := by simp
    have ew : wrap64 (t + (rd_T40 l x).f0) = t + Pn l x := by
      show wrap64 (t + Pn l x) = _
      rw [w64 (by omega) (by omega)]
    by_cases c : t + Pn l x ≤ En l x
    · rw [if_pos c]
      obtain ⟨a, b, b2⟩ := imoore_l l hg g hgl hgv d (i + 1) (K ++ [x]) O (t + Pn l x) (by omega) (by omega) (by omega) hin2 (by omega) (by omega)
      refine ⟨Ev.step (fun k => ?_) a, b, b2⟩
      simp only [impl_moore.l0, ei, ew, Option.bind_some]
      rw [if_pos (by omega), if_pos (by omega), if_pos (by omega), if_pos (by omega), if_pos x0, if_pos x1, if_pos (show t + Pn l x ≤ (rd_T40 l x).f1 from c), w64s hi (by omega)]
    · rw [if_neg c]
      have hw := wst_lt (Pn l) (K ++ [x]) (K ++ [x]).length 0 0 (by omega) (by omega)
      obtain ⟨y, hy⟩ : ∃ y, y = (K ++ [x]).getD (wst (Pn l) (K ++ [x]) (K ++ [x]).length 0 0) 0 := ⟨_, rfl⟩
      have hym := getD_mem (K ++ [x]) _ hw
      rw [← hy] at hym
      obtain ⟨y0, y1⟩ := hin2 y hym
      obtain ⟨q0, q1⟩ := Pn_ok hg y y0 y1
      have hv := iworst_l l hl10 (K ++ [x]) O (by omega) (by omega) hin2 (t + Pn l x) g (g.length : Int) i (by omega) (v := ((mrun (Pn l) (En l) (g.drop (i + 1)) ((K ++ [x]).take (wst (Pn l) (K ++ [x]) (K ++ [x]).length 0 0) ++ (K ++ [x]).drop (wst (Pn l) (K ++ [x]) (K ++ [x]).length 0 0 + 1)) (O ++ [y]) (t + Pn l x - Pn l y)).1 ++ (mrun (Pn l) (En l) (g.drop (i + 1)) ((K ++ [x]).take (wst (Pn l) (K ++ [x]) (K ++ [x]).length 0 0) ++ (K ++ [x]).drop (wst (Pn l) (K ++ [x]) (K ++ [x]).length 0 0 + 1)) (O ++ [y]) (t + Pn l x - Pn l y)).2, ((mrun (Pn l) (En l) (g.drop (i + 1)) ((K ++ [x]).take (wst (Pn l) (K ++ [x]) (K ++ [x]).length 0 0) ++ (K ++ [x]).drop (wst (Pn l) (K ++ [x]) (K ++ [x]).length 0 0 + 1)) (O ++ [y]) (t + Pn l x - Pn l y)).1.length : Int))) (K ++ [x]).length 0 0 (by omega) (by omega)
      rw [← hy, w64 (i := t + Pn l x - Pn l y) (by omega) (by omega)] at hv
      rw [← hy]
      obtain ⟨W, hW⟩ : ∃ W, W = wst (Pn l) (K ++ [x]) (K ++ [x]).length 0 0 := ⟨_, rfl⟩
      rw [← hW] at hw hv ⊢
      obtain ⟨a, b, b2⟩ := imoore_l l hg g hgl hgv d (i + 1) ((K ++ [x]).take W ++ (K ++ [x]).drop (W + 1)) (O ++ [y]) (t + Pn l x - Pn l y) (by omega) (by simp only [List.length_append, List.length_take, List.length_drop, List.length_singleton]; omega) (by simp; omega) (fun z hz => hin2 z (by
        rcases List.mem_append.1 hz with hz | hz
        · exact List.mem_of_mem_take hz
        · exact List.mem_of_mem_drop hz)) (by omega) (by omega)
      refine ⟨Ev.step (fun k => ?_) (hv a), b, b2⟩
      simp only [impl_moore.l0, ei, ew, Option.bind_some]
      rw [if_pos (by omega), if_pos (by omega), if_pos (by omega), if_pos (by omega), if_pos x0, if_pos x1, if_neg (show ¬ t + Pn l x ≤ (rd_T40 l x).f1 from c)]
      rfl
theorem wst_max (p : Int → Int) (K : List Int) : ∀ d j w, j + d = K.length → w < K.length → (∀ a ∈ K.take j, p a ≤ p (K.getD w 0)) → ∀ a ∈ K, p a ≤ p (K.getD (wst p K d j w) 0)
  | 0, j, w, hj, hw, h => by
    rw [wst]
    rw [List.take_of_length_le (by omega)] at h
    exact h
  | d + 1, j, w, hj, hw, h => by
    have hj2 : j < K.length := by omega
    rw [wst]
    by_cases c : p (K.getD j 0) > p (K.getD w 0)
    · rw [if_pos c]
      refine wst_max p K d (j + 1) j (by omega) hj2 (fun a ha => ?_)
      rw [List.take_succ_eq_append_getElem hj2, List.mem_append, List.mem_singleton] at ha
      rcases ha with ha | rfl
      · have := h a ha
        omega
      · rw [getD_lt K j hj2]
        exact Int.le_refl _
    · rw [if_neg c]
      refine wst_max p K d (j + 1) w (by omega) hw (fun a ha => ?_)
      rw [List.take_succ_eq_append_getElem hj2, List.mem_append, List.mem_singleton] at ha
      rcases ha with ha | rfl
      · exact h a ha
      · rw [getD_lt K j hj2] at c
        omega
/-- What f gives over those of a list of which u holds. -/
def sm (f : Int → Int) (u : Int → Bool) : List Int → Int
  | [] => 0
  | x :: L => (if u x = true then f x else 0) + sm f u L
theorem sm_append (f : Int → Int) (u : Int → Bool) (A B : List Int) : sm f u (A ++ B) = sm f u A + sm f u B := by
  induction A with
  | nil => simp [sm]
  | cons x A ih =>
    rw [List.cons_append, sm, sm, ih]
    omega
theorem sm_congr (f : Int → Int) (u v : Int → Bool) : ∀ (L : List Int), (∀ x ∈ L, u x = v x) → sm f u L = sm f v L
  | [], _ => rfl
  | x :: L, h => by
    rw [sm, sm, h x List.mem_cons_self, sm_congr f u v L (fun y hy => h y (List.mem_cons_of_mem _ hy))]
theorem sm_set (f : Int → Int) (u : Int → Bool) (y : Int) : ∀ (L : List Int), L.Nodup → y ∈ L → u y = false → sm f (fun z => if z = y then true else u z) L = sm f u L + f y
  | [], _, hy, _ => by cases hy
  | x :: L, hn, hy, hu => by
    rw [List.nodup_cons] at hn
    rw [sm, sm]
    by_cases hx : x = y
    · subst hx
      rw [sm_congr f (fun z => if z = x then true else u z) u L (fun z hz => by have h3 : ¬ z = x := fun e => hn.1 (e ▸ hz); exact if_neg h3), hu]
      simp
      omega
    · rw [sm_set f u y L hn.2 ((List.mem_cons.1 hy).resolve_left (fun e => hx e.symm)) hu, if_neg hx]
      omega
theorem sm_one_le (u : Int → Bool) : ∀ (L : List Int), sm (fun _ => 1) u L ≤ L.length
  | [] => by simp [sm]
  | x :: L => by
    have := sm_one_le u L
    rw [sm, List.length_cons]
    split <;> omega
theorem sm_filter (f : Int → Int) (u : Int → Bool) : ∀ (L : List Int), sm f u L = sm f (fun _ => true) (L.filter u)
  | [] => rfl
  | x :: L => by
    rw [sm, sm_filter f u L]
    by_cases h : u x = true
    · rw [List.filter_cons_of_pos h, sm, if_pos h, if_pos rfl]
    · rw [List.filter_cons_of_neg h, if_neg h]
      omega
theorem sm_len : ∀ (L : List Int), sm (fun _ => 1) (fun _ => true) L = L.length
  | [] => rfl
  | x :: L => by
    rw [sm, sm_len L, List.length_cons]
    simp
    omega
/-- Whether those of which u holds are all in time, from t on. -/
def feas (p e : Int → Int) (u : Int → Bool) : List Int → Int → Prop
  | [], _ => True
  | x :: L, t => if u x = true then t + p x ≤ e x ∧ feas p e u L (t + p x) else feas p e u L t
theorem feas_filter (p e : Int → Int) (u : Int → Bool) : ∀ (L : List Int) (t : Int), feas p e u L t ↔ feas p e (fun _ => true) (L.filter u) t
  | [], _ => Iff.rfl
  | x :: L, t => by
    rw [feas]
    by_cases h : u x = true
    · rw [if_pos h, List.filter_cons_of_pos h, feas, if_pos rfl, feas_filter p e u L]
    · rw [if_neg h, List.filter_cons_of_neg h, feas_filter p e u L]
theorem feas_append (p e : Int → Int) (u : Int → Bool) : ∀ (A B : List Int) (t : Int), feas p e u (A ++ B) t ↔ feas p e u A t ∧ feas p e u B (t + sm p u A)
  | [], B, t => by
    rw [List.nil_append, sm, feas, Int.add_zero]
    simp
  | x :: A, B, t => by
    rw [List.cons_append, feas, feas, sm]
    by_cases h : u x = true
    · rw [if_pos h, if_pos h, if_pos h, feas_append p e u A B, Int.add_assoc, and_assoc]
    · rw [if_neg h, if_neg h, if_neg h, feas_append p e u A B, Int.zero_add]
theorem feas_mono (p e : Int → Int) (u : Int → Bool) : ∀ (L : List Int) (t t' : Int), t' ≤ t → feas p e u L t → feas p e u L t'
  | [], _, _, _, _ => trivial
  | x :: L, t, t', h, hf => by
    rw [feas] at hf ⊢
    by_cases hu : u x = true
    · rw [if_pos hu] at hf ⊢
      exact ⟨by omega, feas_mono p e u L _ _ (by omega) hf.2⟩
    · rw [if_neg hu] at hf ⊢
      exact feas_mono p e u L _ _ h hf
theorem feas_end (p e : Int → Int) (c : Int) : ∀ (L : List Int) (t : Int), feas p e (fun _ => true) L t → (∀ a ∈ L, e a ≤ c) → t ≤ c → t + sm p (fun _ => true) L ≤ c
  | [], t, _, _, h => by
    rw [sm]
    omega
  | x :: L, t, hf, he, h => by
    rw [feas, if_pos rfl] at hf
    have h1 := he x List.mem_cons_self
    have := feas_end p e c L (t + p x) hf.2 (fun a ha => he a (List.mem_cons_of_mem _ ha)) (by omega)
    rw [sm, if_pos rfl]
    omega
theorem filter_sub : ∀ {K L : List Int}, K.Sublist L → L.Nodup → L.filter (fun x => K.contains x) = K
  | _, _, .slnil, _ => rfl
  | K, x :: L, .cons _ h, hn => by
    rw [List.nodup_cons] at hn
    rw [List.filter_cons_of_neg (by simpa using fun hx => hn.1 (h.mem hx))]
    exact filter_sub h hn.2
  | x :: K, _ :: L, .cons_cons _ h, hn => by
    rw [List.nodup_cons] at hn
    rw [List.filter_cons_of_pos (by simp), List.filter_congr (q := fun x => K.contains x) (fun y hy => ?_), filter_sub h hn.2]
    have : ¬ y = x := fun e => hn.1 (e ▸ hy)
    simp [this]
/-- What is kept, behind the tasks pre. -/
structure Kp (p e : Int → Int) (pre K : List Int) (t : Int) : Prop where
  sub : K.Sublist pre
  tot : t = sm p (fun _ => true) K
  ok : feas p e (fun _ => true) K 0
  dom : ∀ u, feas p e u pre 0 → ∃ v : Int → Bool, sm (fun _ => 1) v K = sm (fun _ => 1) u pre ∧ sm p v K ≤ sm p u pre
theorem sm_all (f : Int → Int) (v : Int → Bool) (L : List Int) (h : ∀ x ∈ L, v x = true) : sm f v L = sm f (fun _ => true) L := sm_congr f v _ L h
theorem Kp.keep {p e : Int → Int} {pre K : List Int} {t x : Int} (h : Kp p e pre K t) (hx : x ∉ pre) (hle : t + p x ≤ e x) : Kp p e (pre ++ [x]) (K ++ [x]) (t + p x) where
  sub := h.sub.append (List.Sublist.refl _)
  tot := by
    rw [sm_append, ← h.tot, sm, sm, if_pos rfl]
    omega
  ok := by
    rw [feas_append]
    refine ⟨h.ok, ?_⟩
    rw [← h.tot, feas, if_pos rfl, Int.zero_add]
    exact ⟨hle, trivial⟩
  dom := fun u hu => by
    rw [feas_append] at hu
    obtain ⟨v, h1, h2⟩ := h.dom u hu.1
    have hxK : x ∉ K := fun hm => hx (h.sub.mem hm)
    have hc : ∀ f : Int → Int, sm f (fun y => if y = x then u x else v y) K = sm f v K := fun f => sm_congr f _ _ K (fun y hy => by have h3 : ¬ y = x := fun e => hxK (e ▸ hy); exact if_neg h3)
    refine ⟨fun y => if y = x then u x else v y, ?_, ?_⟩
    · rw [sm_append, sm_append, hc, h1]
      simp [sm]
    · rw [sm_append, sm_append, hc]
      simp only [sm, if_true]
      omega
theorem Kp.drop {p e : Int → Int} {pre K A B : List Int} {t x w : Int} (h : Kp p e pre K t) (hn : pre.Nodup) (hx : x ∉ pre) (hle : ¬ t + p x ≤ e x) (h0 : 0 ≤ e x) (hs : ∀ a ∈ pre, e a ≤ e x) (hK : K ++ [x] = A ++ w :: B) (hw : ∀ a ∈ K ++ [x], p a ≤ p w) :
    Kp p e (pre ++ [x]) (A ++ B) (t + p x - p w) where
  sub := by
    have h1 : (A ++ B).Sublist (A ++ w :: B) := List.Sublist.append (List.Sublist.refl _) (List.sublist_cons_self _ _)
    rw [← hK] at h1
    exact h1.trans (h.sub.append (List.Sublist.refl _))
  tot := by
    have h1 : sm p (fun _ => true) (K ++ [x]) = sm p (fun _ => true) (A ++ w :: B) := by rw [hK]
    rw [sm_append, ← h.tot, sm_append, sm, sm, sm, if_pos rfl, if_pos rfl] at h1
    rw [sm_append]
    omega
  ok := by
    have hpx := hw x (by simp)
    rcases List.eq_nil_or_concat B with rfl | ⟨B', b, rfl⟩
    · obtain ⟨rfl, hb⟩ := List.append_inj' hK rfl
      rw [List.append_nil]
      exact h.ok
    · rw [List.concat_eq_append, ← List.cons_append, ← List.append_assoc] at hK
      obtain ⟨hA, hb⟩ := List.append_inj' hK rfl
      obtain rfl : x = b := by simpa using hb
      have ho := h.ok
      have ht := h.tot
      rw [hA] at ho ht
      rw [feas_append, feas, if_pos rfl] at ho
      rw [sm_append, sm, if_pos rfl] at ht
      have hpw : p w ≥ 0 ∨ p w < 0 := by omega
      rw [List.concat_eq_append, ← List.append_assoc, feas_append, feas_append]
      have hend := feas_end p e (e x) K 0 h.ok (fun a ha => hs a (h.sub.mem ha)) h0
      rw [← h.tot] at hend
      have h3 : t + p x > e x := by omega
      refine ⟨⟨ho.1, feas_mono p e _ B' _ _ ?_ ho.2.2⟩, ?_⟩
      · omega
      · rw [feas, if_pos rfl, sm_append]
        refine ⟨by omega, trivial⟩
  dom := fun u hu => by
    have hup : feas p e u pre 0 ∧ (u x = true → sm p u pre + p x ≤ e x) := by
      rw [feas_append, feas] at hu
      refine ⟨hu.1, fun hux => ?_⟩
      have := hu.2
      rw [if_pos hux] at this
      omega
    obtain ⟨v, h1, h2⟩ := h.dom u hup.1
    have hxK : x ∉ K := fun hm => hx (h.sub.mem hm)
    have hnK : (A ++ w :: B).Nodup := by
      rw [← hK]
      exact (h.sub.append (List.Sublist.refl [x])).nodup (by rw [List.nodup_append]; exact ⟨hn, by simp, fun a ha b hb => by rw [List.mem_singleton] at hb; subst hb; exact fun e => hx (e ▸ ha)⟩)
    obtain ⟨v1, hv1⟩ : ∃ v1 : Int → Bool, v1 = fun y => if y = x then u x else v y := ⟨_, rfl⟩
    have hvx : v1 x = u x := by rw [hv1]; simp
    have hc : ∀ f : Int → Int, sm f v1 K = sm f v K := fun f => sm_congr f _ _ K (fun y hy => by have h3 : ¬ y = x := fun e => hxK (e ▸ hy); rw [hv1]; exact if_neg h3)
    have g1 : sm (fun _ => 1) v1 (A ++ w :: B) = sm (fun _ => 1) u (pre ++ [x]) := by
      rw [← hK, sm_append, sm_append, hc, h1, sm, sm, sm, sm, hvx]
    have g2 : sm p v1 (A ++ w :: B) ≤ sm p u (pre ++ [x]) := by
      rw [← hK, sm_append, sm_append, hc, sm, sm, sm, sm, hvx]
      omega
    have hr : ∀ f : Int → Int, sm f v1 (A ++ w :: B) = sm f v1 (A ++ B) + (if v1 w = true then f w else 0) := fun f => by
      rw [sm_append, sm_append, sm]
      omega
    have hnAB : (A ++ B).Nodup := (List.Sublist.append (List.Sublist.refl _) (List.sublist_cons_self _ _)).nodup hnK
    by_cases hvw : v1 w = true
    · have hy : ∃ y ∈ A ++ B, v1 y = false := by
        refine Decidable.byContradiction fun hno => ?_
        have hall : ∀ y ∈ A ++ w :: B, v1 y = true := fun y hy => by
          rcases List.mem_append.1 hy with hy | hy
          · exact Bool.not_eq_false _ ▸ fun hf => hno ⟨y, List.mem_append_left _ hy, hf⟩
          · rcases List.mem_cons.1 hy with rfl | hy
            · exact hvw
            · exact Bool.not_eq_false _ ▸ fun hf => hno ⟨y, List.mem_append_right _ hy, hf⟩
        have hux : u x = true := by
          rw [← hvx]
          exact hall x (by rw [← hK]; simp)
        have h5 := hup.2 hux
        have h6 : sm p v1 (A ++ w :: B) = t + p x := by
          rw [sm_all p v1 _ hall, ← hK, sm_append, ← h.tot, sm, sm, if_pos rfl]
          omega
        have h7 : sm p u (pre ++ [x]) = sm p u pre + p x := by
          rw [sm_append, sm, sm, if_pos hux]
          omega
        omega
      obtain ⟨y, hy, hvy⟩ := hy
      refine ⟨fun z => if z = y then true else v1 z, ?_, ?_⟩
      · have := hr (fun _ => 1)
        rw [if_pos hvw] at this
        rw [sm_set _ v1 y (A ++ B) hnAB hy hvy]
        omega
      · have := hr p
        rw [if_pos hvw] at this
        have hpy := hw y (by
          rw [hK]
          rcases List.mem_append.1 hy with hy | hy
          · exact List.mem_append_left _ hy
          · exact List.mem_append_right _ (List.mem_cons_of_mem _ hy))
        rw [sm_set _ v1 y (A ++ B) hnAB hy hvy]
        omega
    · refine ⟨v1, ?_, ?_⟩
      · have := hr (fun _ => 1)
        rw [if_neg hvw] at this
        omega
      · have := hr p
        rw [if_neg hvw] at this
        omega
theorem mrun_kp (p e : Int → Int) : ∀ (xs pre K O : List Int) (t : Int), Kp p e pre K t → (pre ++ xs).Nodup → (pre ++ xs).Pairwise (fun a b => e a ≤ e b) → (∀ a ∈ pre ++ xs, 0 ≤ e a) → ∃ t', Kp p e (pre ++ xs) (mrun p e xs K O t).1 t'
  | [], pre, K, O, t, h, _, _, _ => ⟨t, by rw [List.append_nil]; exact h⟩
  | x :: xs, pre, K, O, t, h, hn, hs, h0 => by
    have hx : x ∉ pre := fun hm => by
      rw [List.nodup_append] at hn
      exact hn.2.2 x hm x List.mem_cons_self rfl
    have hnp : pre.Nodup := by
      rw [List.nodup_append] at hn
      exact hn.1
    have hse : ∀ a ∈ pre, e a ≤ e x := fun a ha => by
      rw [List.pairwise_append] at hs
      exact hs.2.2 a ha x List.mem_cons_self
    have e1 : pre ++ x :: xs = (pre ++ [x]) ++ xs := by simp
    rw [e1] at hn hs h0 ⊢
    have h0x : 0 ≤ e x := h0 x (by simp)
    rw [mrun]
    by_cases c : t + p x ≤ e x
    · rw [if_pos c]
      exact mrun_kp p e xs (pre ++ [x]) (K ++ [x]) O (t + p x) (h.keep hx c) hn hs h0
    · rw [if_neg c]
      obtain ⟨W, hW⟩ : ∃ W, W = wst p (K ++ [x]) (K ++ [x]).length 0 0 := ⟨_, rfl⟩
      have hl : 0 < (K ++ [x]).length := by simp
      have hlt := wst_lt p (K ++ [x]) (K ++ [x]).length 0 0 (by omega) hl
      have hmx := wst_max p (K ++ [x]) (K ++ [x]).length 0 0 (by omega) hl (by simp)
      rw [← hW] at hlt hmx ⊢
      refine mrun_kp p e xs (pre ++ [x]) _ _ _ (h.drop hnp hx c h0x hse ?_ hmx) hn hs h0
      rw [getD_lt _ W hlt, List.getElem_cons_drop, List.take_append_drop]
/-- As many in time as can be. -/
theorem best_of (p e : Int → Int) (g : List Int) (hn : g.Nodup) (hs : g.Pairwise fun a b => e a ≤ e b) (h0 : ∀ a ∈ g, 0 ≤ e a) :
    (∀ u, feas p e u g 0 → sm (fun _ => 1) u g ≤ (mrun p e g [] [] 0).1.length) ∧ feas p e (fun x => (mrun p e g [] [] 0).1.contains x) g 0 ∧ sm (fun _ => 1) (fun x => (mrun p e g [] [] 0).1.contains x) g = (mrun p e g [] [] 0).1.length := by
  have hk : Kp p e [] [] 0 := ⟨List.Sublist.refl _, rfl, trivial, fun u _ => ⟨u, rfl, Int.le_refl _⟩⟩
  obtain ⟨t', h⟩ := mrun_kp p e g [] [] [] 0 hk hn hs h0
  rw [List.nil_append] at h
  refine ⟨fun u hu => ?_, ?_, ?_⟩
  · obtain ⟨v, h1, _⟩ := h.dom u hu
    rw [← h1]
    exact sm_one_le v _
  · rw [feas_filter, filter_sub h.sub hn]
    exact h.ok
  · rw [sm_filter, filter_sub h.sub hn, sm_len]
open Go.Proofs.YtnohpcmbmlgplaaW.PrintMore
theorem bit_eq (m x : Nat) (hm : m < 100000) (hx : x < 20) : ((Go.bits .and .i64 (shr .i64 (m : Int) (IntKind.u64.wrap (x : Int))) 1) = 1) ↔ m.testBit x = true := by
  have e1 : IntKind.u64.wrap (x : Int) = x := by simp [IntKind.wrap, IntKind.bits, IntKind.signed]; omega
  have e2 : shr .i64 (m : Int) (x : Int) = ((m / 2 ^ x : Nat) : Int) := by
    unfold shr
    rw [Int.toNat_natCast, show min x IntKind.i64.bits = x by simp [IntKind.bits]; omega]
    simp
  rw [e1, e2, Nat.testBit_eq_decide_div_mod_eq, decide_eq_true_eq]
  have h3 : m / 2 ^ x ≤ m := Nat.div_le_self _ _
  generalize m / 2 ^ x = a at h3
  have e3 : Go.bits .and .i64 (a : Int) 1 = ((a % 2 : Nat) : Int) := by
    have h4 : ((BitVec.ofInt 64 (a : Int)) &&& (BitVec.ofInt 64 1)).toNat = a % 2 := by
      rw [BitVec.toNat_and, BitVec.ofInt_natCast, BitVec.toNat_ofNat, Nat.mod_eq_of_lt (by omega), show (BitVec.ofInt 64 1).toNat = 1 from rfl, Nat.and_one_is_mod]
    refine (congrArg (fun z : Nat => IntKind.i64.wrap (z : Int)) h4).trans ?_
    show IntKind.i64.wrap ((a % 2 : Nat) : Int) = _
    rw [IntKind.wrap_i64]
    omega
  rw [e3]
  omega
theorem shl_eq (n : Nat) (h : n ≤ 10) : shl .i64 1 (IntKind.u64.wrap (n : Int)) = ((2 ^ n : Nat) : Int) := by
  have e1 : IntKind.u64.wrap (n : Int) = n := by simp [IntKind.wrap, IntKind.bits, IntKind.signed]; omega
  rw [e1]
  rcases show n = 0 ∨ n = 1 ∨ n = 2 ∨ n = 3 ∨ n = 4 ∨ n = 5 ∨ n = 6 ∨ n = 7 ∨ n = 8 ∨ n = 9 ∨ n = 10 by omega with rfl | rfl | rfl | rfl | rfl | rfl | rfl | rfl | rfl | rfl | rfl <;> rfl
theorem mask (f : Nat → Bool) : ∀ n, ∃ m, m < 2 ^ n ∧ ∀ j, j < n → m.testBit j = f j
  | 0 => ⟨0, by simp, fun j h => by omega⟩
  | n + 1 => by
    obtain ⟨m, h1, h2⟩ := mask f n
    cases hf : f n with
    | false =>
      refine ⟨m, by rw [Nat.pow_succ]; omega, fun j hj => ?_⟩
      by_cases hjn : j = n
      · subst hjn
        rw [hf]
        exact Nat.testBit_lt_two_pow h1
      · exact h2 j (by omega)
    | true =>
      refine ⟨2 ^ n + m, by rw [Nat.pow_succ]; omega, fun j hj => ?_⟩
      by_cases hjn : j = n
      · subst hjn
        rw [hf, Nat.testBit_two_pow_add_eq, Nat.testBit_lt_two_pow h1]
        rfl
      · rw [Nat.testBit_two_pow_add_gt (by omega)]
        exact h2 j (by omega)
def cvTask (x : S42) : S40 := ⟨x.f0, x.f1⟩
theorem szTask_eq (l : List S42) (hl : l.length ≤ maxLen) : laws_szTaskS.f l 1048576 = some (if (l.length : Int) ≤ 1048576 then 1048576 - (l.length : Int) else -1) := by
  unfold laws_szTaskS.f
  unfold maxLen at hl
  rw [w64 (by omega) (by omega)]
  by_cases h : (l.length : Int) ≤ 1048576
  · rw [if_neg (by omega), if_pos h]
  · rw [if_pos (by omega), if_neg h]
theorem toTask_ev (l : List S42) (hl : l.length ≤ 1048576) : Ev (fun k => laws_toTaskS.f k l) (l.map cvTask) := by
  refine Ev.congr (fun k => ?_) (fill_ev (fun k x0 x3 x4 => laws_toTaskS.l0 k x0 x3 x4) cvTask z42 (fun k x0 x3 x4 => rfl) l z40 (by omega))
  unfold laws_toTaskS.f
  rw [if_pos (by omega), if_pos (by omega), Int.toNat_natCast]
theorem eqTask_ev (l : List S40) (hl : l.length ≤ 1048576) : Ev (fun k => laws_eqTaskS.f k l l) true := by
  refine Ev.congr (fun k => ?_) (eqr_ev (fun k x0 x1 x5 => laws_eqTaskS.l0 k x0 x1 x5) l (fun k j hj => ?_) (fun k => ?_) (by omega))
  · unfold laws_eqTaskS.f
    rw [if_pos rfl]
  · simp only [laws_eqTaskS.l0]
    rw [if_pos (by omega), if_pos (by omega), if_pos (by omega)]
    simp [laws_eqTask.f]
  · simp [laws_eqTaskS.l0]
/-- Whether those of which u holds are all in time, from t on, as the loop asks it. -/
def feasB (p e : Int → Int) (u : Int → Bool) : List Int → Int → Bool → Bool
  | [], _, b => b
  | x :: L, t, b => if u x = true then feasB p e u L (t + p x) (b && decide (t + p x ≤ e x)) else feasB p e u L t b
theorem feasB_iff (p e : Int → Int) (u : Int → Bool) : ∀ (L : List Int) (t : Int) (b : Bool), feasB p e u L t b = true ↔ b = true ∧ feas p e u L t
  | [], t, b => by
    rw [feasB, feas]
    simp
  | x :: L, t, b => by
    rw [feasB, feas]
    by_cases h : u x = true
    · rw [if_pos h, if_pos h, feasB_iff p e u L, Bool.and_eq_true, decide_eq_true_eq, and_assoc]
    · rw [if_neg h, if_neg h, feasB_iff p e u L]
theorem feas_congr (p e : Int → Int) (u v : Int → Bool) : ∀ (L : List Int) (t : Int), (∀ x ∈ L, u x = v x) → (feas p e u L t ↔ feas p e v L t)
  | [], _, _ => Iff.rfl
  | x :: L, t, h => by
    rw [feas, feas, h x List.mem_cons_self]
    have := fun t' => feas_congr p e u v L t' (fun y hy => h y (List.mem_cons_of_mem _ hy))
    split
    · rw [this]
    · exact this _
def um (m : Nat) (x : Int) : Bool := m.testBit x.toNat
/-- The best so far, behind the selection m. -/
def nb (p e : Int → Int) (g : List Int) (m : Nat) (b : Int) : Int := if feasB p e (um m) g 0 true = true then (if sm (fun _ => 1) (um m) g > b then sm (fun _ => 1) (um m) g else b) else b
def bst (p e : Int → Int) (g : List Int) : Nat → Nat → Int → Int
  | 0, _, b => b
  | d + 1, m, b => bst p e g d (m + 1) (nb p e g m b)
theorem nb_le (p e : Int → Int) (g : List Int) (M : Int) (h : ∀ u, feas p e u g 0 → sm (fun _ => 1) u g ≤ M) (m : Nat) (b : Int) (hb : b ≤ M) : nb p e g m b ≤ M := by
  unfold nb
  split
  · rename_i hf
    have := h _ ((feasB_iff p e (um m) g 0 true).1 hf).2
    split <;> omega
  · exact hb
theorem le_nb (p e : Int → Int) (g : List Int) (m : Nat) (b : Int) : b ≤ nb p e g m b := by
  unfold nb
  split
  · split <;> omega
  · omega
theorem bst_le (p e : Int → Int) (g : List Int) (M : Int) (h : ∀ u, feas p e u g 0 → sm (fun _ => 1) u g ≤ M) : ∀ (d m : Nat) (b : Int), b ≤ M → bst p e g d m b ≤ M
  | 0, _, b, hb => hb
  | d + 1, m, b, hb => bst_le p e g M h d (m + 1) _ (nb_le p e g M h m b hb)
theorem le_bst (p e : Int → Int) (g : List Int) : ∀ (d m : Nat) (b : Int), b ≤ bst p e g d m b
  | 0, _, b => Int.le_refl b
  | d + 1, m, b => Int.le_trans (le_nb p e g m b) (le_bst p e g d (m + 1) _)
theorem at_bst (p e : Int → Int) (g : List Int) (m : Nat) (hf : feas p e (um m) g 0) : ∀ (d m0 : Nat) (b : Int), m0 ≤ m → m < m0 + d → sm (fun _ => 1) (um m) g ≤ bst p e g d m0 b
  | 0, m0, b, h0, h1 => by omega
  | d + 1, m0, b, h0, h1 => by
    rw [bst]
    by_cases h : m0 = m
    · subst h
      refine Int.le_trans ?_ (le_bst p e g d (m0 + 1) _)
      unfold nb
      rw [if_pos ((feasB_iff p e (um m0) g 0 true).2 ⟨rfl, hf⟩)]
      split <;> omega
    · exact at_bst p e g m hf d (m0 + 1) _ (by omega) (by omega)
theorem one_l (l : List S40) (hg : goodB l = true) (g : List Int) (hgl : g.length ≤ 10) (hgv : ∀ a ∈ g, 0 ≤ a ∧ a < l.length) (m : Nat) (hm : m < 100000) (b : Int) (r : Int × Bool) : ∀ (d i : Nat) (N T : Int) (o : Bool), i + d = g.length → 0 ≤ N → N ≤ i → 0 ≤ T → T ≤ 20 * (i : Int) →
    Ev (fun k => spec_BestMany.l0 k l g (if feasB (Pn l) (En l) (um m) (g.drop i) T o = true then (if N + sm (fun _ => 1) (um m) (g.drop i) > b then N + sm (fun _ => 1) (um m) (g.drop i) else b) else b) ((m + 1 : Nat) : Int)) r →
    Ev (fun k => spec_BestMany.l1 k l g b (m : Int) N T o g (g.length : Int) (i : Int)) r
  | 0, i, N, T, o, hd, n0, n1, t0, t1, hr => by
    rw [List.drop_of_length_le (by omega), feasB, sm, Int.add_zero] at hr
    refine Ev.step (fun k => ?_) hr
    simp only [spec_BestMany.l1]
    rw [if_neg (by omega), w64s hm (by omega)]
    by_cases ho : o = true
    · rw [if_pos ho, if_pos ho]
      split <;> rfl
    · rw [if_neg ho, if_neg ho]
  | d + 1, i, N, T, o, hd, n0, n1, t0, t1, hr => by
    have hi : i < g.length := by omega
    have hl10 := (good_at hg).1
    rw [List.drop_eq_getElem_cons hi, feasB, sm] at hr
    have ei : rd g (i : Int) = g[i] := getD_at g i hi _
    obtain ⟨x, hx⟩ : ∃ x, x = g[i] := ⟨_, rfl⟩
    obtain ⟨x0, x1⟩ := hgv g[i] (List.getElem_mem hi)
    rw [← hx] at x0 x1 ei hr
    obtain ⟨p0, p1⟩ := Pn_ok hg x x0 x1
    obtain ⟨z, rfl⟩ : ∃ z : Nat, x = z := ⟨x.toNat, by omega⟩
    have hb := bit_eq m z hm (by omega)
    have hz : 0 ≤ IntKind.u64.wrap (z : Int) := by
      have : IntKind.u64.wrap (z : Int) = z := by simp [IntKind.wrap, IntKind.bits, IntKind.signed]; omega
      omega
    have hum : um m (z : Int) = m.testBit z := by unfold um; rw [Int.toNat_natCast]
    by_cases c : m.testBit z = true
    · rw [hum, if_pos c, if_pos c] at hr
      have hcond := hb.2 c
      have ew : wrap64 (T + (rd_T40 l (z : Int)).f0) = T + Pn l z := by
        show wrap64 (T + Pn l z) = _
        rw [w64 (by omega) (by omega)]
      have en : wrap64 (N + 1) = N + 1 := w64 (by omega) (by omega)
      have hee : (rd_T40 l (z : Int)).f1 = En l z := rfl
      rw [show N + (1 + sm (fun _ => 1) (um m) (g.drop (i + 1))) = N + 1 + sm (fun _ => 1) (um m) (g.drop (i + 1)) by omega] at hr
      refine Ev.step (fun k => ?_) (one_l l hg g hgl hgv m hm b r d (i + 1) (N + 1) (T + Pn l z) (o && decide (T + Pn l z ≤ En l z)) (by omega) (by omega) (by omega) (by omega) (by omega) hr)
      simp only [spec_BestMany.l1, ei, ew, en, hee]
      rw [if_pos (by omega), if_pos (by omega), if_pos (by omega), if_pos hz, if_pos hcond, if_pos x0, if_pos x1, w64s hi (by omega)]
      cases o with
      | true => rw [if_pos rfl, Bool.true_and]
      | false => rw [if_neg (by simp), Bool.false_and]
    · rw [hum, if_neg c, if_neg c, Int.zero_add] at hr
      refine Ev.step (fun k => ?_) (one_l l hg g hgl hgv m hm b r d (i + 1) N T o (by omega) n0 (by omega) t0 (by omega) hr)
      simp only [spec_BestMany.l1, ei]
      rw [if_pos (by omega), if_pos (by omega), if_pos (by omega), if_pos hz, if_neg (fun h => c (hb.1 h)), w64s hi (by omega)]
theorem all_l (l : List S40) (hg : goodB l = true) (g : List Int) (hgl : g.length ≤ 10) (hgv : ∀ a ∈ g, 0 ≤ a ∧ a < l.length) : ∀ (d m : Nat) (b : Int), m + d = 2 ^ l.length →
    Ev (fun k => spec_BestMany.l0 k l g b (m : Int)) (bst (Pn l) (En l) g d m b, true)
  | 0, m, b, hd => by
    have hl10 := (good_at hg).1
    have hn : 0 ≤ IntKind.u64.wrap (l.length : Int) := by
      have : IntKind.u64.wrap (l.length : Int) = l.length := by simp [IntKind.wrap, IntKind.bits, IntKind.signed]; omega
      omega
    refine Ev.step (f := fun _ => some (b, true)) (fun k => ?_) (Ev.now _)
    simp only [spec_BestMany.l0]
    rw [shl_eq l.length hl10, if_pos hn, if_neg (by omega)]
  | d + 1, m, b, hd => by
    have hl10 := (good_at hg).1
    have hp : 2 ^ l.length ≤ 2 ^ 10 := Nat.pow_le_pow_right (by omega) hl10
    have hn : 0 ≤ IntKind.u64.wrap (l.length : Int) := by
      have : IntKind.u64.wrap (l.length : Int) = l.length := by simp [IntKind.wrap, IntKind.bits, IntKind.signed]; omega
      omega
    rw [bst]
    refine Ev.step (f := fun k => spec_BestMany.l1 k l g b (m : Int) 0 0 true g (g.length : Int) ((0 : Nat) : Int)) (fun k => ?_) (one_l l hg g hgl hgv m (by omega) b _ g.length 0 0 0 true (by omega) (by omega) (by omega) (by omega) (by omega) ?_)
    · simp only [spec_BestMany.l0]
      rw [shl_eq l.length hl10, if_pos hn, if_pos (by omega)]
      rfl
    · have h := all_l l hg g hgl hgv d (m + 1) (nb (Pn l) (En l) g m b) (by omega)
      unfold nb at h ⊢
      rw [List.drop_zero, Int.zero_add]
      exact h
theorem both_ev (l : List S40) (hl : l.length ≤ 1048576) : ∃ (n : Int) (b : Bool), Ev (fun k => spec_BestMany.f k l) (n, b) ∧ Ev (fun k => impl_BestMany.f k l) (n, b) := by
  unfold spec_BestMany.f impl_BestMany.f
  have hs := spec_ev l hl
  have hi := impl_ev l hl
  by_cases hg : goodB l = true
  · rw [hg] at hs hi
    have h10 := (good_at hg).1
    have hen := good_En hg
    obtain ⟨s, u, v, w, hso, hin, hnd⟩ := sorted_ev l (by omega) hen
    obtain ⟨a, hl1, hl2⟩ := imoore_l l hg s (by omega) hin s.length 0 [] [] 0 (by omega) (by simp) (by simp) (by simp) (by omega) (by omega)
    rw [List.drop_zero] at a hl1 hl2
    obtain ⟨b1, b2, b3⟩ := best_of (Pn l) (En l) s hnd hso (fun x hx => (hen x (hin x hx).1 (hin x hx).2).1)
    obtain ⟨r, hr⟩ : ∃ r, r = mrun (Pn l) (En l) s [] [] 0 := ⟨_, rfl⟩
    rw [← hr] at a b1 b2 b3
    have c := all_l l hg s (by omega) hin (2 ^ l.length) 0 0 (by omega)
    have hval : bst (Pn l) (En l) s (2 ^ l.length) 0 0 = (r.1.length : Int) := by
      refine Int.le_antisymm (bst_le _ _ s _ b1 _ _ _ (by omega)) ?_
      obtain ⟨m, hm, hmask⟩ := mask (fun j => r.1.contains (j : Int)) l.length
      have hcg : ∀ x ∈ s, r.1.contains x = um m x := fun x hx => by
        obtain ⟨x0, x1⟩ := hin x hx
        unfold um
        rw [hmask x.toNat (by omega), show ((x.toNat : Nat) : Int) = x by omega]
      rw [← b3, sm_congr _ _ (um m) s hcg]
      exact at_bst _ _ s m ((feas_congr _ _ _ _ s 0 hcg).1 b2) _ 0 0 (by omega) (by omega)
    rw [hval] at c
    refine ⟨(r.1.length : Int), true, Ev.bind hs (Ev.bind (Ev.congr (fun k => rfl) u) c), Ev.bind hi (Ev.bind (a := (r.1 ++ r.2, (r.1.length : Int))) (Ev.bind (Ev.congr (fun k => ?_) v) a) (Ev.now _))⟩
    unfold impl_byEnd.f
    rw [if_pos (by omega)]
  · rw [Bool.eq_false_iff.2 hg] at hs hi
    exact ⟨0, false, Ev.bind hs (Ev.now _), Ev.bind hi (Ev.now _)⟩
theorem FnExactBestMany : laws_FnExactBestMany.Pure := by
  intro l hl _
  apply Ev.rounds
  unfold laws_FnExactBestMany.f
  simp only [szTask_eq l hl, Option.bind_some]
  by_cases h : (l.length : Int) ≤ 1048576
  case neg =>
    simp only [if_neg h]
    exact Ev.now _
  simp only [if_pos h, if_neg (show ¬ (1048576 - (l.length : Int) < 0) by omega)]
  have hl' : l.length ≤ 1048576 := by omega
  have hm : (l.map cvTask).length ≤ 1048576 := by simpa using hl'
  have hto := toTask_ev l hl'
  have heq := eqTask_ev (l.map cvTask) hm
  generalize l.map cvTask = x at hto heq hm
  refine Ev.bind hto ?_
  obtain ⟨n, b, h1, h2⟩ := both_ev x hm
  refine Ev.bind h1 (Ev.bind hto (Ev.bind h2 ?_))
  simp only [if_true, bne_self_eq_false, Bool.false_eq_true, if_false]
  refine Ev.step (f := fun k => (laws_toTaskS.f k l).bind fun t => (laws_eqTaskS.f k x t).bind fun u => if u = true then some true else some false) (fun k => rfl) ?_
  exact Ev.bind hto (Ev.bind heq (Ev.now _))

end Go.Proofs.Ytnohpcmbmlgplaa.Pure
