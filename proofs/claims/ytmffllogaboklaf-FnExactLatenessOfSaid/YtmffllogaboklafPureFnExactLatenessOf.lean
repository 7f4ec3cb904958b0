/- The pure statement of the law FnExactLatenessOf: over lists and numbers the law's function answers true. No conditions beyond those typed. -/
import Derived.Test.YtmffllogaboklafY7
import Derived.Test.YtmffllogaboklafLib
namespace Go.Proofs.Ytmffllogaboklaf.Pure
open Go.RowKit Go.Proofs.Ytmffllogaboklaf.Y Go.Proofs.YtmffllogaboklafW.PrintWords Go.Proofs.YtmffllogaboklafLib
set_option linter.unusedVariables false
set_option linter.unusedSimpArgs false

theorem in_eq (x y z : Int) : impl_in.f x y z = some (decide (x ≥ y ∧ x ≤ z)) := by
  unfold impl_in.f
  by_cases h : x ≥ y <;> simp only [h, if_true, if_false, true_and, false_and, decide_false]
theorem sin_eq (x y z : Int) : spec_l1In.f x y z = some (decide (x ≥ y ∧ x ≤ z)) := by
  unfold spec_l1In.f
  by_cases h : x ≥ y <;> simp only [h, if_true, if_false, true_and, false_and, decide_false]
theorem toInt_ev (l : List Int) (hl : l.length ≤ 1048576) : Ev (fun k => laws_toIntS.f k l) l := by
  have h := fill_ev (fun k x0 x3 x4 => laws_toIntS.l0 k x0 x3 x4) (fun x : Int => x) 0 (fun k x0 x3 x4 => rfl) l 0 (by omega)
  rw [List.map_id'] at h
  refine Ev.congr (fun k => ?_) h
  unfold laws_toIntS.f
  rw [if_pos (by omega), if_pos (by omega), Int.toNat_natCast]
theorem eqInt_ev (l : List Int) (hl : l.length ≤ 1048576) : Ev (fun k => laws_eqIntS.f k l l) true := by
  refine Ev.congr (fun k => ?_) (eqr_ev (fun k x0 x1 x5 => laws_eqIntS.l0 k x0 x1 x5) l (fun k j hj => ?_) (fun k => ?_) (by omega))
  · unfold laws_eqIntS.f
    rw [if_pos rfl]
  · simp only [laws_eqIntS.l0]
    rw [if_pos (by omega), if_pos (by omega), if_pos (by omega), if_pos trivial]
  · simp [laws_eqIntS.l0]
theorem markInt_ev (l : List Int) (m : Int) (h0 : 0 ≤ m) (h1 : m ≤ 1000000000) (hl : l.length ≤ 1048576) : Ev (fun k => laws_markIntS.f k l m) (m + (1 : Nat) * (l.length : Int), (List.range l.length).map fun j : Nat => (fun x : Int => x) (m + ((1 : Nat) : Int) * (j : Int))) := by
  refine Ev.congr (fun k => rfl) (mark_ev (fun k x0 x1 x5 => laws_markIntS.l0 k x0 x1 x5) 1 (fun x => x) m h0 h1 (by omega) (fun k x0 x1 j hj h0 h1 => ?_) (fun k x0 x1 => ?_) l (by omega))
  · simp only [laws_markIntS.l0]
    rw [if_pos (by omega), if_pos (by omega), Int.toNat_natCast, w64 (i := x1 + 1) (by omega) (by omega)]
    rfl
  · simp [laws_markIntS.l0]
theorem heldInt_ev (n : Nat) (m : Int) (h0 : 0 ≤ m) (h1 : m ≤ 1000000000) (hn : n ≤ 1048576) : Ev (fun k => laws_heldIntS.f k ((List.range n).map fun j : Nat => (fun x : Int => x) (m + ((1 : Nat) : Int) * (j : Int))) m) (m + (1 : Nat) * (n : Int)) := by
  refine Ev.congr (fun k => rfl) (held_ev (fun k x0 x1 x5 => laws_heldIntS.l0 k x0 x1 x5) 1 (fun x => x) m h0 h1 (by omega) (fun k x0 x1 j hx hj h0 h1 => ?_) (fun k x0 x1 => ?_) n (by omega))
  · simp only [laws_heldIntS.l0]
    rw [if_pos (by omega), if_pos (by omega), if_pos (by simp only [rd, Int.toNat_natCast, List.getD_eq_getElem?_getD, hx, Option.getD_some]), w64 (i := x1 + 1) (by omega) (by omega)]
    rfl
  · simp [laws_heldIntS.l0]
def cvTask (x : S47) : S45 := ⟨x.f0, x.f1⟩
theorem szTask_eq (l : List S47) (hl : l.length ≤ maxLen) : laws_szTaskS.f l 1048576 = some (if (l.length : Int) ≤ 1048576 then 1048576 - (l.length : Int) else -1) := by
  unfold laws_szTaskS.f
  unfold maxLen at hl
  rw [w64 (by omega) (by omega)]
  by_cases h : (l.length : Int) ≤ 1048576
  · rw [if_neg (by omega), if_pos h]
  · rw [if_pos (by omega), if_neg h]
theorem toTask_ev (l : List S47) (hl : l.length ≤ 1048576) : Ev (fun k => laws_toTaskS.f k l) (l.map cvTask) := by
  refine Ev.congr (fun k => ?_) (fill_ev (fun k x0 x3 x4 => laws_toTaskS.l0 k x0 x3 x4) cvTask z47 (fun k x0 x3 x4 => rfl) l z45 (by omega))
  unfold laws_toTaskS.f
  rw [if_pos (by omega), if_pos (by omega), Int.toNat_natCast]
theorem eqTask_ev (l : List S45) (hl : l.length ≤ 1048576) : Ev (fun k => laws_eqTaskS.f k l l) true := by
  refine Ev.congr (fun k => ?_) (eqr_ev (fun k x0 x1 x5 => laws_eqTaskS.l0 k x0 x1 x5) l (fun k j hj => ?_) (fun k => ?_) (by omega))
  · unfold laws_eqTaskS.f
    rw [if_pos rfl]
  · simp only [laws_eqTaskS.l0]
    rw [if_pos (by omega), if_pos (by omega), if_pos (by omega)]
    simp [laws_eqTask.f]
  · simp [laws_eqTaskS.l0]
def mkTask (m : Int) : S45 := ⟨m, m + 1⟩
theorem markTask_ev (l : List S45) (hl : l.length ≤ 1048576) : Ev (fun k => laws_markTaskS.f k l 1) (1 + (2 : Nat) * (l.length : Int), (List.range l.length).map fun j : Nat => mkTask (1 + ((2 : Nat) : Int) * (j : Int))) := by
  refine Ev.congr (fun k => rfl) (mark_ev (fun k x0 x1 x5 => laws_markTaskS.l0 k x0 x1 x5) 2 mkTask 1 (by omega) (by omega) (by omega) (fun k x0 x1 j hj h0 h1 => ?_) (fun k x0 x1 => ?_) l (by omega))
  · simp only [laws_markTaskS.l0]
    rw [if_pos (by omega), if_pos (by omega)]
    simp only [Option.bind_some, Int.toNat_natCast, rd_T45, List.getD_eq_getElem?_getD, List.set_set, List.getElem?_set_self hj, Option.getD_some]
    simp only [w64 (i := x1 + 1) (by omega) (by omega), w64 (i := x1 + 1 + 1) (by omega) (by omega)]
    simp only [show x1 + 1 + 1 = x1 + 2 by omega]
    rfl
  · simp [laws_markTaskS.l0]
def okB (x : S45) : Bool := decide (x.f0 ≥ 1 ∧ x.f0 ≤ 20) && decide (x.f1 ≥ 0 ∧ x.f1 ≤ 200)
def goodB (l : List S45) : Bool := l.all okB && decide ((l.length : Int) ≤ 10)
theorem spec_ev (l : List S45) (hl : l.length ≤ 1048576) : Ev (fun k => spec_GoodTasks.f k l) (goodB l) := by
  refine Ev.congr (fun k => rfl) (all_ev (fun k i => spec_GoodTasks.l0 k l l (l.length : Int) i) okB _ l (by omega) (fun k j hj => ?_) (fun k => ?_))
  · simp only [spec_GoodTasks.l0, sin_eq, Option.bind_some]
    rw [if_pos (by omega), if_pos (by omega), if_pos (by omega)]
    simp only [rd_T45, getD_at l j hj, okB]
    generalize l[j] = x
    by_cases h1 : x.f0 ≥ 1 ∧ x.f0 ≤ 20 <;> by_cases h2 : x.f1 ≥ 0 ∧ x.f1 ≤ 200 <;> simp [h1, h2]
  · simp [spec_GoodTasks.l0]
theorem idx_ev (l : List S45) (hl : l.length ≤ 1048576) : ∃ r, Ev (fun k => impl_Task_54.f k l) r ∧ decide (r ≥ 0) = l.any fun x => !okB x := by
  refine any_ev (fun k i => impl_Task_54.l0 k l (l.length : Int) i) (fun x => !okB x) l (by omega) (fun k j hj => ?_) (fun k => ?_)
  · simp only [impl_Task_54.l0, impl_GoodTasks_1.f, in_eq, Option.bind_some]
    rw [if_pos (by omega), if_pos (by omega), if_pos (by omega)]
    simp only [rd_T45, getD_at l j hj, okB]
    generalize l[j] = x
    by_cases h1 : x.f0 ≥ 1 ∧ x.f0 ≤ 20 <;> by_cases h2 : x.f1 ≥ 0 ∧ x.f1 ≤ 200 <;> simp [h1, h2]
  · simp [impl_Task_54.l0]
theorem impl_ev (l : List S45) (hl : l.length ≤ 1048576) : Ev (fun k => impl_GoodTasks.f k l) (goodB l) := by
  unfold impl_GoodTasks.f impl_Task_45.f goodB
  by_cases h : (l.length : Int) ≤ 10
  · simp only [h, if_true, decide_true, Bool.and_true]
    obtain ⟨r, hr, hd⟩ := idx_ev l hl
    refine Ev.bind (f := fun _ t => some (!t)) (a := decide (r ≥ 0)) (Ev.bind (f := fun _ t => some (decide (t ≥ 0))) hr (Ev.now _)) ?_
    rw [hd, not_any]
    exact Ev.now _
  · simp only [h, if_false, decide_false, Bool.and_false]
    exact Ev.now _
theorem good_at {l : List S45} (h : goodB l = true) : l.length ≤ 10 ∧ ∀ x ∈ l, 1 ≤ x.f0 ∧ x.f0 ≤ 20 ∧ 0 ≤ x.f1 ∧ x.f1 ≤ 200 := by
  unfold goodB at h
  rw [Bool.and_eq_true] at h
  refine ⟨by have := of_decide_eq_true h.2; omega, fun x hx => ?_⟩
  have h1 := List.all_eq_true.1 h.1 x hx
  unfold okB at h1
  rw [Bool.and_eq_true] at h1
  have a := of_decide_eq_true h1.1
  have b := of_decide_eq_true h1.2
  omega
/-- A list without twins whose members all lie in another is no longer than it. -/
theorem sub_len {α : Type} [DecidableEq α] : ∀ (a b : List α), a.Nodup → (∀ x ∈ a, x ∈ b) → a.length ≤ b.length
  | [], b, _, _ => by simp
  | x :: a, b, h, hs => by
    rw [List.nodup_cons] at h
    have hx := hs x List.mem_cons_self
    have h2 := sub_len a (b.erase x) h.2 (fun y hy => (List.mem_erase_of_ne (show y ≠ x from fun e => h.1 (e ▸ hy))).2 (hs y (List.mem_cons_of_mem _ hy)))
    rw [List.length_erase_of_mem hx] at h2
    have : 0 < b.length := List.length_pos_of_mem hx
    simp only [List.length_cons]
    omega
def nums (n : Nat) : List Int := (List.range n).map fun j : Nat => (j : Int)
theorem nums_len (n : Nat) : (nums n).length = n := by simp [nums]
theorem nums_mem (n : Nat) (x : Int) : x ∈ nums n ↔ 0 ≤ x ∧ x < n := by
  unfold nums
  rw [List.mem_map]
  constructor
  · rintro ⟨j, hj, rfl⟩
    have := List.mem_range.1 hj
    omega
  · rintro ⟨h0, h1⟩
    exact ⟨x.toNat, List.mem_range.2 (by omega), by omega⟩
theorem nums_nodup (n : Nat) : (nums n).Nodup := by
  unfold nums
  refine List.Pairwise.map _ (fun a b h => ?_) List.nodup_range
  omega
def ordB (l : List Int) (n : Nat) : Bool := decide (l.length = n) && (List.range n).all fun i => l.contains (i : Int)
theorem ordB_iff (l : List Int) (n : Nat) : ordB l n = true ↔ l.length = n ∧ ∀ i : Nat, i < n → (i : Int) ∈ l := by
  unfold ordB
  simp
/-- The spec's way to ask the same. -/
theorem ord_iff (l : List Int) (n : Nat) (hl : l.length = n) : (∀ i : Nat, i < n → (i : Int) ∈ l) ↔ ∀ j : Nat, (h : j < l.length) → (0 ≤ l[j] ∧ l[j] < n) ∧ l[j] ∉ l.take j := by
  constructor
  · intro h j hj
    have hsub : ∀ x ∈ nums n, x ∈ l := fun x hx => by
      obtain ⟨a, b⟩ := (nums_mem n x).1 hx
      have := h x.toNat (by omega)
      rwa [show ((x.toNat : Nat) : Int) = x by omega] at this
    refine ⟨?_, fun hm => ?_⟩
    · refine Decidable.byContradiction fun hn => ?_
      have h2 := sub_len (l[j] :: nums n) l (List.nodup_cons.2 ⟨fun hm => hn ((nums_mem n _).1 hm), nums_nodup n⟩) (fun x hx => by
        rcases List.mem_cons.1 hx with rfl | hx
        · exact List.getElem_mem hj
        · exact hsub x hx)
      rw [List.length_cons, nums_len] at h2
      omega
    · have h2 := sub_len (nums n) (l.eraseIdx j) (nums_nodup n) (fun x hx => by
        have hx := hsub x hx
        rw [List.eraseIdx_eq_take_drop_succ, List.mem_append]
        rw [← List.take_append_drop j l, List.drop_eq_getElem_cons hj, List.mem_append, List.mem_cons] at hx
        rcases hx with hx | rfl | hx
        · exact Or.inl hx
        · exact Or.inl hm
        · exact Or.inr hx)
      rw [nums_len, List.length_eraseIdx_of_lt hj] at h2
      omega
  · intro h i hi
    refine Decidable.byContradiction fun hn => ?_
    have hnd : l.Nodup := by
      rw [List.nodup_iff_pairwise_ne, List.pairwise_iff_getElem]
      intro a b ha hb hab e
      refine (h b hb).2 ?_
      rw [← e, List.mem_take_iff_getElem]
      exact ⟨a, by omega, rfl⟩
    have h2 := sub_len ((i : Int) :: l) (nums n) (List.nodup_cons.2 ⟨hn, hnd⟩) (fun x hx => by
      rcases List.mem_cons.1 hx with rfl | hx
      · exact (nums_mem n _).2 ⟨by omega, by omega⟩
      · obtain ⟨j, hj, rfl⟩ := List.getElem_of_mem hx
        exact (nums_mem n _).2 (h j hj).1)
    rw [List.length_cons, nums_len] at h2
    omega
theorem has_ev (l : List Int) (hl : l.length ≤ 1048576) (x : Int) : Ev (fun k => spec_l1Has.f k l x) (l.contains x) := by
  have key : ∀ d j, j ≤ l.length → l.length - j = d → Ev (fun k => spec_l1Has.l0 k x l (l.length : Int) (j : Int)) ((l.drop j).contains x) := by
    intro d
    induction d with
    | zero =>
      intro j hj hd
      obtain rfl : j = l.length := by omega
      rw [List.drop_length]
      exact Ev.step (f := fun _ => some false) (fun k => by simp [spec_l1Has.l0]) (Ev.now _)
    | succ d ih =>
      intro j hj hd
      have hj2 : j < l.length := by omega
      have e : rd l (j : Int) = l[j] := getD_at l j hj2 _
      rw [List.drop_eq_getElem_cons hj2, List.contains_cons]
      by_cases hx : l[j] = x
      · rw [show (x == l[j]) = true by simp [hx], Bool.true_or]
        refine Ev.step (f := fun _ => some true) (fun k => ?_) (Ev.now _)
        simp only [spec_l1Has.l0]
        rw [if_pos (by omega), if_pos (by omega), if_pos (by omega), e, if_pos hx]
      · rw [show (x == l[j]) = false by simp [Ne.symm hx], Bool.false_or]
        refine Ev.step (fun k => ?_) (ih (j + 1) (by omega) (by omega))
        simp only [spec_l1Has.l0]
        rw [if_pos (by omega), if_pos (by omega), if_pos (by omega), e, if_neg hx, w64s hj2 (by omega)]
  exact Ev.congr (fun k => rfl) (key l.length 0 (by omega) rfl)
theorem cont_ev (l : List Int) (hl : l.length ≤ 1048576) (x : Int) : Ev (fun k => slices_Contains_int_int.f k l x) (l.contains x) := by
  obtain ⟨r, hr, hd⟩ := any_ev (fun k i => slices_Index_int_int.l0 k l x (l.length : Int) i) (fun y => x == y) l (by omega) (fun k j hj => by
    simp only [slices_Index_int_int.l0]
    rw [if_pos (by omega), if_pos (by omega), if_pos (by omega)]
    simp only [rd, getD_at l j hj, beq_iff_eq]) (fun k => by simp [slices_Index_int_int.l0])
  unfold slices_Contains_int_int.f
  refine Ev.bind (f := fun _ t => some (decide (t ≥ 0))) (Ev.congr (fun k => rfl) hr) ?_
  rw [hd, List.contains_eq_any_beq]
  exact Ev.now _
theorem iord_ev (l : List Int) (hl : l.length ≤ 1048576) (n : Nat) (hn : n ≤ 1048576) : Ev (fun k => impl_isOrder.f k l (n : Int)) (ordB l n) := by
  have h := fun i => cont_ev l hl i
  unfold impl_isOrder.f ordB
  have key : ∀ d j, j ≤ n → n - j = d → Ev (fun k => impl_isOrder.l0 k l (n : Int) (n : Int) (j : Int)) (decide (l.length = n) && ((List.range n).drop j).all fun i => l.contains (i : Int)) := by
    intro d
    induction d with
    | zero =>
      intro j hj hd
      obtain rfl : j = n := by omega
      rw [List.drop_of_length_le (by simp)]
      refine Ev.step (f := fun _ => some ((l.length : Int) == (j : Int))) (fun k => by simp [impl_isOrder.l0]) ?_
      by_cases e : l.length = j
      · rw [decide_eq_true e, show ((l.length : Int) == (j : Int)) = true from beq_iff_eq.2 (by omega)]
        exact Ev.now _
      · rw [decide_eq_false e, show ((l.length : Int) == (j : Int)) = false from beq_eq_false_iff_ne.2 (by omega)]
        exact Ev.now _
    | succ d ih =>
      intro j hj hd
      have hj2 : j < n := by omega
      rw [List.drop_eq_getElem_cons (by simpa using hj2), List.all_cons, List.getElem_range]
      refine Ev.step (f := fun k => (slices_Contains_int_int.f k l (j : Int)).bind fun t => if t = true then impl_isOrder.l0 k l (n : Int) (n : Int) ((j + 1 : Nat) : Int) else some false) (fun k => ?_) (Ev.bind (h (j : Int)) ?_)
      · simp only [impl_isOrder.l0]
        rw [if_pos (by omega), w64s hj2 (by omega)]
      · by_cases c : l.contains (j : Int) = true
        · rw [c, Bool.true_and]
          exact ih (j + 1) (by omega) (by omega)
        · rw [Bool.eq_false_iff.2 c, Bool.false_and, Bool.and_false]
          exact Ev.now _
  have := key n 0 (by omega) rfl
  rw [List.drop_zero] at this
  exact this
theorem sord_ev (l : List Int) (hl : l.length ≤ 1048576) (n : Nat) (hn : n ≤ 1048576) : Ev (fun k => spec_l5Order.f k l (n : Int)) (ordB l n) := by
  unfold spec_l5Order.f
  by_cases hln : l.length = n
  · subst hln
    simp only [if_true]
    have key : ∀ d j, j ≤ l.length → l.length - j = d → ∀ b : Bool, (b = true ↔ ∀ i : Nat, j ≤ i → (h : i < l.length) → (0 ≤ l[i] ∧ l[i] < l.length) ∧ l[i] ∉ l.take i) → Ev (fun k => spec_l5Order.l0 k l (l.length : Int) l (l.length : Int) (j : Int)) b := by
      intro d
      induction d with
      | zero =>
        intro j hj hd b hb
        obtain rfl : j = l.length := by omega
        rw [hb.2 (fun i h1 h2 => absurd h1 (by omega))]
        exact Ev.step (f := fun _ => some true) (fun k => by simp [spec_l5Order.l0]) (Ev.now _)
      | succ d ih =>
        intro j hj hd b hb
        have hj2 : j < l.length := by omega
        have e : rd l (j : Int) = l[j] := getD_at l j hj2 _
        refine Ev.step (f := fun k => if decide (l[j] ≥ 0 ∧ l[j] ≤ (l.length : Int) - 1) = true then (spec_l1Has.f k (l.take j) l[j]).bind fun t => if t = true then some false else spec_l5Order.l0 k l (l.length : Int) l (l.length : Int) ((j + 1 : Nat) : Int) else some false) (fun k => ?_) ?_
        · simp only [spec_l5Order.l0, sin_eq, Option.bind_some, e, Int.toNat_natCast]
          rw [if_pos (by omega), if_pos (by omega), if_pos (by omega), w64 (i := (l.length : Int) - 1) (by omega) (by omega), w64s hj2 (by omega), if_pos (show (j : Int) ≤ (l.length : Int) by omega)]
        · by_cases c : 0 ≤ l[j] ∧ l[j] < l.length
          · simp only [decide_eq_true (show l[j] ≥ 0 ∧ l[j] ≤ (l.length : Int) - 1 by omega), if_true]
            refine Ev.bind (has_ev (l.take j) (by rw [List.length_take]; omega) l[j]) ?_
            by_cases c2 : l[j] ∈ l.take j
            · rw [List.contains_iff_mem.2 c2, Bool.eq_false_iff.2 (fun h => (hb.1 h j (Nat.le_refl _) hj2).2 c2)]
              exact Ev.now _
            · rw [Bool.eq_false_iff.2 (fun h => c2 (List.contains_iff_mem.1 h))]
              refine ih (j + 1) (by omega) (by omega) b (hb.trans ⟨fun h i h1 h2 => h i (by omega) h2, fun h i h1 h2 => ?_⟩)
              by_cases e3 : i = j
              · subst e3
                exact ⟨c, c2⟩
              · exact h i (by omega) h2
          · simp only [decide_eq_false (show ¬ (l[j] ≥ 0 ∧ l[j] ≤ (l.length : Int) - 1) by omega), Bool.false_eq_true, if_false]
            rw [Bool.eq_false_iff.2 (fun h => c (hb.1 h j (Nat.le_refl _) hj2).1)]
            exact Ev.now _
    refine key l.length 0 (by omega) rfl _ ?_
    rw [ordB_iff, ord_iff l l.length rfl]
    exact ⟨fun h j _ hj => h.2 j hj, fun h => ⟨rfl, fun j hj => h j (by omega) hj⟩⟩
  · simp only [if_neg (show ¬ (l.length : Int) = (n : Int) by omega)]
    rw [show ordB l n = false by unfold ordB; rw [decide_eq_false hln, Bool.false_and]]
    exact Ev.now _
theorem ord_at {l : List Int} {n : Nat} (h : ordB l n = true) : l.length = n ∧ l.Nodup ∧ ∀ x ∈ l, 0 ≤ x ∧ x < n := by
  obtain ⟨a, b⟩ := (ordB_iff l n).1 h
  have h := (ord_iff l n a).1 b
  refine ⟨a, ?_, fun x hx => ?_⟩
  · rw [List.nodup_iff_pairwise_ne, List.pairwise_iff_getElem]
    intro i j hi hj hij e
    refine (h j hj).2 ?_
    rw [← e, List.mem_take_iff_getElem]
    exact ⟨i, by omega, rfl⟩
  · obtain ⟨j, hj, rfl⟩ := List.getElem_of_mem hx
    exact (h j hj).1
theorem both_s (l : List S45) (p : List Int) (hl : l.length ≤ 1048576) (hp : p.length ≤ 1048576) : Ev (fun k => spec_l5Both.f k l p) (goodB l && ordB p l.length) := by
  unfold spec_l5Both.f
  refine Ev.bind (spec_ev l hl) ?_
  by_cases hg : goodB l = true
  · rw [hg, Bool.true_and]
    exact Ev.bind (f := fun _ t => some t) (sord_ev p hp l.length hl) (Ev.now _)
  · rw [Bool.eq_false_iff.2 hg]
    exact Ev.now _
theorem done_l (l : List S45) (hl : l.length ≤ 1048576) (p : List Int) (hp : p.length ≤ 1048576) (hat : ∀ x ∈ p, 0 ≤ x ∧ x < l.length) : ∀ (d j : Nat) (D : List Int) (n : Int), j ≤ p.length → p.length - j = d → D.length = l.length →
    ∃ E : List Int, E.length = l.length ∧ Ev (fun k => spec_l5Done.l0 k l D n p (p.length : Int) (j : Int)) E ∧ Ev (fun k => impl_completions.l0 k l D n p (p.length : Int) (j : Int)) E
  | 0, j, D, n, hj, hd, hD => by
    refine ⟨D, hD, Ev.step (f := fun _ => some D) (fun k => ?_) (Ev.now _), Ev.step (f := fun _ => some D) (fun k => ?_) (Ev.now _)⟩
    · simp only [spec_l5Done.l0]
      rw [if_neg (by omega)]
    · simp only [impl_completions.l0]
      rw [if_neg (by omega)]
  | d + 1, j, D, n, hj, hd, hD => by
    have hj2 : j < p.length := by omega
    obtain ⟨q0, q1⟩ := hat p[j] (List.getElem_mem hj2)
    have e : rd p (j : Int) = p[j] := getD_at p j hj2 _
    obtain ⟨E, hE, a, b⟩ := done_l l hl p hp hat d (j + 1) (D.set (p[j]).toNat (wrap64 (n + (rd_T45 l p[j]).f0))) (wrap64 (n + (rd_T45 l p[j]).f0)) (by omega) (by omega) (by rw [List.length_set]; exact hD)
    refine ⟨E, hE, Ev.step (fun k => ?_) a, Ev.step (fun k => ?_) b⟩
    · simp only [spec_l5Done.l0, e]
      rw [if_pos (by omega), if_pos (by omega), if_pos (by omega), if_pos (by omega), if_pos (by omega), if_pos (by omega), w64s hj2 (by omega)]
    · simp only [impl_completions.l0, e]
      rw [if_pos (by omega), if_pos (by omega), if_pos (by omega), if_pos (by omega), if_pos (by omega), if_pos (by omega), w64s hj2 (by omega)]
theorem done_ev (l : List S45) (hl : l.length ≤ 1048576) (p : List Int) (hp : p.length ≤ 1048576) (ho : ordB p l.length = true) : ∃ E : List Int, E.length = l.length ∧ Ev (fun k => spec_l5Done.f k l p) E ∧ Ev (fun k => impl_completions.f k l p) E := by
  obtain ⟨E, hE, a, b⟩ := done_l l hl p hp (ord_at ho).2.2 p.length 0 (List.replicate l.length 0) 0 (by omega) rfl (by simp)
  refine ⟨E, hE, Ev.congr (fun k => ?_) a, Ev.congr (fun k => ?_) b⟩
  · unfold spec_l5Done.f
    rw [if_pos (by omega), if_pos (by omega), Int.toNat_natCast]
    rfl
  · unfold impl_completions.f
    rw [if_pos (by omega), if_pos (by omega), Int.toNat_natCast]
    rfl
theorem most_eq (a b : Int) : spec_l1Most.f a b = some (mx a b) := by
  unfold spec_l1Most.f mx
  split <;> congr 1 <;> omega
theorem worst_l (l : List S45) (hl : l.length ≤ 1048576) (E : List Int) (hE : E.length = l.length) : ∀ (d j : Nat) (n : Int), j ≤ l.length → l.length - j = d →
    ∃ r, Ev (fun k => spec_LatenessOf.l0 k E n l (l.length : Int) (j : Int)) r ∧ Ev (fun k => impl_LatenessOf.l0 k E n l (l.length : Int) (j : Int)) r
  | 0, j, n, hj, hd => by
    refine ⟨(n, true), Ev.step (f := fun _ => some (n, true)) (fun k => ?_) (Ev.now _), Ev.step (f := fun _ => some (n, true)) (fun k => ?_) (Ev.now _)⟩
    · simp only [spec_LatenessOf.l0]
      rw [if_neg (by omega)]
    · simp only [impl_LatenessOf.l0]
      rw [if_neg (by omega)]
  | d + 1, j, n, hj, hd => by
    have hj2 : j < l.length := by omega
    obtain ⟨r, a, b⟩ := worst_l l hl E hE d (j + 1) (mx n (wrap64 (rd E (j : Int) - (rd_T45 l (j : Int)).f1))) (by omega) (by omega)
    refine ⟨r, Ev.step (fun k => ?_) a, Ev.step (fun k => ?_) b⟩
    · simp only [spec_LatenessOf.l0, most_eq, Option.bind_some]
      rw [if_pos (by omega), if_pos (by omega), if_pos (by omega), if_pos (by omega), w64s hj2 (by omega)]
    · simp only [impl_LatenessOf.l0]
      rw [if_pos (by omega), if_pos (by omega), if_pos (by omega), if_pos (by omega), w64s hj2 (by omega)]
theorem both_ev (l : List S45) (p : List Int) (hl : l.length ≤ 1048576) (hp : p.length ≤ 1048576) : ∃ r, Ev (fun k => spec_LatenessOf.f k l p) r ∧ Ev (fun k => impl_LatenessOf.f k l p) r := by
  unfold spec_LatenessOf.f impl_LatenessOf.f impl_CompletionsOf.f
  have hs := both_s l p hl hp
  have hi := impl_ev l hl
  have ho := iord_ev p hp l.length hl
  by_cases hg : goodB l = true
  · by_cases h1 : ordB p l.length = true
    · obtain ⟨E, hE, a, b⟩ := done_ev l hl p hp h1
      rw [hg, h1, Bool.and_true] at hs
      rw [hg] at hi
      rw [h1] at ho
      have hc : Ev (fun k => (impl_GoodTasks.f k l).bind fun t => if t = true then ((impl_isOrder.f k p (l.length : Int)).bind fun t => if t = true then ((impl_completions.f k l p).bind fun t => some (t, true)) else some (([] : List Int), false)) else some (([] : List Int), false)) (E, true) := Ev.bind hi (Ev.bind ho (Ev.bind b (Ev.now _)))
      by_cases h0 : l.length = 0
      · refine ⟨(0, true), Ev.bind hs ?_, Ev.bind hc ?_⟩
        · simp only [if_true, if_pos (show (l.length : Int) = 0 by omega)]
          exact Ev.now _
        · simp only [if_true]
          rw [show ((l.length : Int) == 0) = true from beq_iff_eq.2 (by omega)]
          exact Ev.step (f := fun _ => some (0, true)) (fun k => by simp only [impl_LatenessOf.j0, if_true]) (Ev.now _)
      · obtain ⟨r, u, v⟩ := worst_l l hl E hE l.length 0 (wrap64 (rd E 0 - (rd_T45 l 0).f1)) (by omega) rfl
        refine ⟨r, Ev.bind hs ?_, Ev.bind hc ?_⟩
        · simp only [if_true, if_neg (show ¬ (l.length : Int) = 0 by omega)]
          refine Ev.bind a ?_
          simp only [if_pos (show 0 < (E.length : Int) by omega), if_pos (show 0 < (l.length : Int) by omega)]
          exact u
        · simp only [if_true]
          rw [show ((l.length : Int) == 0) = false from beq_eq_false_iff_ne.2 (by omega)]
          refine Ev.step (fun k => ?_) v
          simp only [impl_LatenessOf.j0]
          rw [if_neg (by simp), if_pos (by omega), if_pos (by omega)]
          rfl
    · rw [hg, Bool.eq_false_iff.2 h1] at hs
      rw [hg] at hi
      rw [Bool.eq_false_iff.2 h1] at ho
      exact ⟨(0, false), Ev.bind hs (Ev.now _), Ev.bind (a := (([] : List Int), false)) (Ev.bind hi (Ev.bind ho (Ev.now _))) (Ev.step (f := fun _ => some (0, false)) (fun k => rfl) (Ev.now _))⟩
  · rw [Bool.eq_false_iff.2 hg] at hs hi
    exact ⟨(0, false), Ev.bind hs (Ev.now _), Ev.bind (a := (([] : List Int), false)) (Ev.bind hi (Ev.now _)) (Ev.step (f := fun _ => some (0, false)) (fun k => rfl) (Ev.now _))⟩
theorem FnExactLatenessOf : laws_FnExactLatenessOf.Pure := by
  intro l p hl _ _ _ _
  apply Ev.rounds
  unfold laws_FnExactLatenessOf.f
  by_cases hp0 : (p.length : Int) > 1048576
  · simp only [if_pos hp0]
    exact Ev.now _
  have hp : p.length ≤ 1048576 := by omega
  simp only [if_neg hp0, szTask_eq l hl, Option.bind_some]
  by_cases h : (l.length : Int) ≤ 1048576
  case neg =>
    simp only [if_neg h]
    exact Ev.now _
  simp only [if_pos h, if_neg (show ¬ (1048576 - (l.length : Int) < 0) by omega)]
  have hl' : l.length ≤ 1048576 := by omega
  have hm : (l.map cvTask).length ≤ 1048576 := by simpa using hl'
  have hto := toTask_ev l hl'
  have heq := eqTask_ev (l.map cvTask) hm
  generalize l.map cvTask = x at hto heq hm
  have htp := toInt_ev p hp
  have hep := eqInt_ev p hp
  obtain ⟨r, h1, h2⟩ := both_ev x p hm hp
  refine Ev.bind hto (Ev.bind htp (Ev.bind h1 (Ev.bind hto (Ev.bind htp (Ev.bind h2 ?_)))))
  simp only [if_true, bne_self_eq_false]
  refine Ev.step (fun k => by simp only [laws_FnExactLatenessOf.j0]; rfl) ?_
  simp only [Bool.false_eq_true, if_false]
  refine Ev.bind hto (Ev.bind heq ?_)
  simp only [if_true]
  exact Ev.bind htp (Ev.bind hep (Ev.now _))

end Go.Proofs.Ytmffllogaboklaf.Pure
