/- The pure statement of the law FnExactPopHeap: over lists and numbers the law's function answers true. No conditions beyond those typed. -/
import Derived.Test.YtmffllogaboklagB8
import Derived.Test.YtmffllogaboklagLib
namespace Go.Proofs.Ytmffllogaboklag.Pure
open Go.RowKit Go.Proofs.Ytmffllogaboklag.B Go.Proofs.YtmffllogaboklagW.PrintWords Go.Proofs.YtmffllogaboklagLib
set_option linter.unusedVariables false
set_option linter.unusedSimpArgs false

theorem in_eq (x y z : Int) : impl_in.f x y z = some (decide (x ≥ y ∧ x ≤ z)) := by
  unfold impl_in.f
  by_cases h : x ≥ y <;> simp only [h, if_true, if_false, true_and, false_and, decide_false]
theorem sin_eq (x y z : Int) : spec_l1In.f x y z = some (decide (x ≥ y ∧ x ≤ z)) := by
  unfold spec_l1In.f
  by_cases h : x ≥ y <;> simp only [h, if_true, if_false, true_and, false_and, decide_false]
/-- Whether work is less than other work. -/
def lessB (a b c d e f : Int) : Bool := if a = d then (if b = e then decide (c < f) else decide (b < e)) else decide (a < d)
theorem less_eq (a b c d e f : Int) : spec_l3Less.f a b c d e f = some (lessB a b c d e f) := by
  unfold spec_l3Less.f lessB
  split
  · split <;> rfl
  · rfl
theorem or_ev (x y z : Int) : Ev (fun k => cmp_Or_int.f k [x, y, z]) (if x = 0 then (if y = 0 then (if z = 0 then 0 else z) else y) else x) := by
  have e1 : wrap64 1 = 1 := w64 (by omega) (by omega)
  have e2 : wrap64 2 = 2 := w64 (by omega) (by omega)
  have e3 : wrap64 3 = 3 := w64 (by omega) (by omega)
  refine ⟨4, fun k hk => ?_⟩
  obtain ⟨n, rfl⟩ : ∃ n, k = n + 4 := ⟨k - 4, by omega⟩
  simp only [cmp_Or_int.f, cmp_Or_int.l0, rd, List.length_cons, List.length_nil]
  by_cases hx : x = 0
  · by_cases hy : y = 0
    · by_cases hz : z = 0
      · simp [hx, hy, hz, e1, e2, e3]
      · simp [hx, hy, hz, e1, e2]
    · simp [hx, hy, e1]
  · simp [hx]
theorem cmp_ev (a b c d e f : Int) (ha : a ≥ 0 ∧ a ≤ 1000000) (hb : b ≥ 0 ∧ b ≤ 1000000) (hc : c ≥ 0 ∧ c ≤ 1000000) (hd : d ≥ 0 ∧ d ≤ 1000000) (he : e ≥ 0 ∧ e ≤ 1000000) (hf : f ≥ 0 ∧ f ≤ 1000000) :
    ∃ r, Ev (fun k => impl_compareWork.f k a b c d e f) r ∧ decide (r < 0) = lessB a b c d e f := by
  refine ⟨if a - d = 0 then (if b - e = 0 then (if c - f = 0 then 0 else c - f) else b - e) else a - d, ?_, ?_⟩
  · unfold impl_compareWork.f
    rw [w64 (by omega) (by omega), w64 (by omega) (by omega), w64 (by omega) (by omega)]
    exact Ev.bind (f := fun _ t => some t) (or_ev _ _ _) (Ev.now _)
  · unfold lessB
    repeat' split
    all_goals first | rfl | (rw [decide_eq_decide]; omega)
def okB (x : S34) : Bool := decide (x.f0 ≥ 0 ∧ x.f0 ≤ 1000000) && (decide (x.f1 ≥ 0 ∧ x.f1 ≤ 1000000) && decide (x.f2 ≥ 0 ∧ x.f2 ≤ 1000000))
theorem swork_eq (x : S34) : spec_l3Work.f x.f0 x.f1 x.f2 = some (okB x) := by
  unfold spec_l3Work.f okB
  simp only [sin_eq, Option.bind_some]
  by_cases h1 : x.f0 ≥ 0 ∧ x.f0 ≤ 1000000 <;> by_cases h2 : x.f1 ≥ 0 ∧ x.f1 ≤ 1000000 <;> simp [h1, h2]
theorem work_eq (x : S34) : impl_isWork.f x.f0 x.f1 x.f2 = some (okB x) := by
  unfold impl_isWork.f okB
  simp only [in_eq, Option.bind_some]
  by_cases h1 : x.f0 ≥ 0 ∧ x.f0 ≤ 1000000 <;> by_cases h2 : x.f1 ≥ 0 ∧ x.f1 ≤ 1000000 <;> simp [h1, h2]
def goodB (l : List S34) : Bool := l.all okB && decide ((l.length : Int) ≤ 40)
theorem spec_ev (l : List S34) (hl : l.length ≤ 1048576) : Ev (fun k => spec_l3Good.f k l) (goodB l) := by
  refine Ev.congr (fun k => rfl) (all_ev (fun k i => spec_l3Good.l0 k l l (l.length : Int) i) okB _ l (by omega) (fun k j hj => ?_) (fun k => ?_))
  · simp only [spec_l3Good.l0, swork_eq, Option.bind_some]
    rw [if_pos (by omega), if_pos (by omega), if_pos (by omega)]
    simp only [rd_T34, getD_at l j hj]
  · simp [spec_l3Good.l0]
theorem impl_ev (l : List S34) (hl : l.length ≤ 1048576) : Ev (fun k => impl_areWork.f k l) (goodB l) := by
  unfold impl_areWork.f impl_Work_42.f goodB
  by_cases h : (l.length : Int) ≤ 40
  · simp only [h, if_true, decide_true, Bool.and_true]
    obtain ⟨r, hr, hd⟩ := any_ev (fun k i => impl_Work_50.l0 k l (l.length : Int) i) (fun x => !okB x) l (by omega) (fun k j hj => by
      simp only [impl_Work_50.l0, impl_areWork_1.f, work_eq, Option.bind_some]
      rw [if_pos (by omega), if_pos (by omega), if_pos (by omega)]
      simp only [rd_T34, getD_at l j hj]) (fun k => by simp [impl_Work_50.l0])
    refine Ev.bind (f := fun _ t => some (!t)) (a := decide (r ≥ 0)) (Ev.bind (f := fun _ t => some (decide (t ≥ 0))) (Ev.congr (fun k => rfl) hr) (Ev.now _)) ?_
    rw [hd, not_any]
    exact Ev.now _
  · simp only [h, if_false, decide_false, Bool.and_false]
    exact Ev.now _
def Fine (x : S34) : Prop := (x.f0 ≥ 0 ∧ x.f0 ≤ 1000000) ∧ (x.f1 ≥ 0 ∧ x.f1 ≤ 1000000) ∧ (x.f2 ≥ 0 ∧ x.f2 ≤ 1000000)
theorem okB_iff (x : S34) : okB x = true ↔ Fine x := by
  unfold okB Fine
  simp only [Bool.and_eq_true, decide_eq_true_eq]
theorem good_at {l : List S34} (h : goodB l = true) : l.length ≤ 40 ∧ ∀ x ∈ l, Fine x := by
  unfold goodB at h
  rw [Bool.and_eq_true] at h
  exact ⟨by have := of_decide_eq_true h.2; omega, fun x hx => (okB_iff x).1 (List.all_eq_true.1 h.1 x hx)⟩
def ltB (x y : S34) : Bool := lessB x.f0 x.f1 x.f2 y.f0 y.f1 y.f2
theorem cmpW_ev {x y : S34} (hx : Fine x) (hy : Fine y) : ∃ r, Ev (fun k => impl_compareWork.f k x.f0 x.f1 x.f2 y.f0 y.f1 y.f2) r ∧ decide (r < 0) = ltB x y :=
  cmp_ev _ _ _ _ _ _ hx.1 hx.2.1 hx.2.2 hy.1 hy.2.1 hy.2.2
theorem up_of {j : Nat} (h0 : 1 ≤ j) (h1 : j ≤ 1048576) : wrap64 (Int.tdiv (wrap64 ((j : Int) - 1)) 2) = (((j - 1) / 2 : Nat) : Int) := by
  rw [w64 (i := (j : Int) - 1) (by omega) (by omega), Int.tdiv_eq_ediv_of_nonneg (by omega), w64 (by omega) (by omega)]
  omega
theorem is_l (l : List S34) (hl : l.length ≤ 1048576) (hf : ∀ x ∈ l, Fine x) : ∀ (d j : Nat), 1 ≤ j → l.length - j = d →
    ∃ r, Ev (fun k => spec_l3Is.l0 k l (j : Int)) r ∧ Ev (fun k => impl_isHeap.l0 k l (j : Int)) r
  | 0, j, h1, hd => by
    refine ⟨true, Ev.step (f := fun _ => some true) (fun k => ?_) (Ev.now _), Ev.step (f := fun _ => some true) (fun k => ?_) (Ev.now _)⟩
    · simp only [spec_l3Is.l0]
      rw [if_neg (by omega)]
    · simp only [impl_isHeap.l0]
      rw [if_neg (by omega)]
  | d + 1, j, h1, hd => by
    have hj2 : j < l.length := by omega
    have hu2 : (j - 1) / 2 < l.length := by omega
    have e1 : rd_T34 l (j : Int) = l[j] := getD_at l j hj2 _
    have e2 : rd_T34 l (((j - 1) / 2 : Nat) : Int) = l[(j - 1) / 2] := getD_at l _ hu2 _
    obtain ⟨q, c1, c2⟩ := cmpW_ev (hf l[j] (List.getElem_mem hj2)) (hf l[(j - 1) / 2] (List.getElem_mem hu2))
    have s1 : ∀ k, spec_l3Is.l0 (k + 1) l (j : Int) = if ltB l[j] l[(j - 1) / 2] = true then some false else spec_l3Is.l0 k l ((j + 1 : Nat) : Int) := fun k => by
      simp only [spec_l3Is.l0, up_of h1 (by omega : j ≤ 1048576), less_eq, Option.bind_some, e1, e2]
      rw [if_pos (by omega), if_pos (by omega), if_pos (by omega), if_pos (by omega), w64s hj2 (by omega)]
      rfl
    have s2 : ∀ k, impl_isHeap.l0 (k + 1) l (j : Int) = (impl_compareWork.f k l[j].f0 l[j].f1 l[j].f2 l[(j - 1) / 2].f0 l[(j - 1) / 2].f1 l[(j - 1) / 2].f2).bind fun t => if t < 0 then some false else impl_isHeap.l0 k l ((j + 1 : Nat) : Int) := fun k => by
      simp only [impl_isHeap.l0, up_of h1 (by omega : j ≤ 1048576), e1, e2]
      rw [if_pos (by omega), if_pos (by omega), if_pos (by omega), if_pos (by omega), w64s hj2 (by omega)]
    by_cases c : ltB l[j] l[(j - 1) / 2] = true
    · refine ⟨false, Ev.step (f := fun _ => some false) (fun k => ?_) (Ev.now _), Ev.step s2 (Ev.bind c1 ?_)⟩
      · rw [s1, if_pos c]
      · have hq : q < 0 := of_decide_eq_true (c2.trans c)
        simp only [if_pos hq]
        exact Ev.now _
    · obtain ⟨r, a, b⟩ := is_l l hl hf d (j + 1) (by omega) (by omega)
      refine ⟨r, Ev.step (fun k => ?_) a, Ev.step s2 (Ev.bind c1 ?_)⟩
      · rw [s1, if_neg c]
      · have hq : ¬ q < 0 := of_decide_eq_false (c2.trans (Bool.eq_false_iff.2 c))
        simp only [if_neg hq]
        exact b
theorem is_ev (l : List S34) (hg : goodB l = true) : ∃ r, Ev (fun k => spec_l3Is.f k l) r ∧ Ev (fun k => impl_isHeap.f k l) r := by
  obtain ⟨h40, hf⟩ := good_at hg
  obtain ⟨r, a, b⟩ := is_l l (by omega) hf (l.length - 1) 1 (by omega) rfl
  refine ⟨r, a, ?_⟩
  unfold impl_isHeap.f
  have hi := impl_ev l (by omega)
  rw [hg] at hi
  exact Ev.bind hi b
theorem ltB_iff (x y : S34) : ltB x y = true ↔ x.f0 < y.f0 ∨ (x.f0 = y.f0 ∧ (x.f1 < y.f1 ∨ (x.f1 = y.f1 ∧ x.f2 < y.f2))) := by
  unfold ltB lessB
  split
  · split
    · rw [decide_eq_true_iff]; omega
    · rw [decide_eq_true_iff]; omega
  · rw [decide_eq_true_iff]; omega
theorem lt_trans' {x y z : S34} (h : ltB x y = true) (i : ltB y z = true) : ltB x z = true := by
  rw [ltB_iff] at h i ⊢
  omega
theorem le_trans' {x y z : S34} (h : ¬ ltB x y = true) (i : ¬ ltB y z = true) : ¬ ltB x z = true := by
  rw [ltB_iff] at h i ⊢
  omega
theorem rdW (l : List S34) {j : Nat} (h : j < l.length) : rd_T34 l (j : Int) = l[j] := getD_at l j h _
theorem rdF {l : List S34} (hf : ∀ x ∈ l, Fine x) {j : Nat} (h : j < l.length) : Fine (rd_T34 l (j : Int)) := by
  rw [rdW l h]
  exact hf _ (List.getElem_mem h)
/-- Two places changed about. -/
def sw (l : List S34) (i b : Nat) : List S34 := (l.set i (rd_T34 l (b : Int))).set b (rd_T34 l (i : Int))
theorem sw_len (l : List S34) (i b : Nat) : (sw l i b).length = l.length := by unfold sw; rw [List.length_set, List.length_set]
theorem sw_fine {l : List S34} (hf : ∀ x ∈ l, Fine x) {i b : Nat} (hi : i < l.length) (hb : b < l.length) : ∀ x ∈ sw l i b, Fine x := by
  intro x hx
  unfold sw at hx
  rcases List.mem_or_eq_of_mem_set hx with h | rfl
  · rcases List.mem_or_eq_of_mem_set h with h | rfl
    · exact hf _ h
    · exact rdF hf hb
  · exact rdF hf hi
/-- The lesser of a place and one further place. -/
def lesser (l : List S34) (m c : Nat) : Nat := if c < l.length ∧ ltB (rd_T34 l (c : Int)) (rd_T34 l (m : Int)) = true then c else m
def best (l : List S34) (i : Nat) : Nat := lesser l (lesser l i (2 * i + 1)) (2 * i + 2)
theorem lesser_lt {l : List S34} {m c : Nat} (h : m < l.length) : lesser l m c < l.length := by unfold lesser; split <;> omega
theorem best_lt {l : List S34} {i : Nat} (h : i < l.length) : best l i < l.length := lesser_lt (lesser_lt h)
theorem best_gt {l : List S34} {i : Nat} (h : best l i ≠ i) : i < best l i := by
  revert h
  unfold best lesser
  split <;> split <;> omega
theorem sd_round (k : Nat) (l : List S34) (i : Nat) (n : Int) (m c : Nat) (ys : List Int) (t : Nat) (hys : ys.length = 2) (ht : t < 2) (hrd : rd ys (t : Int) = (c : Int)) (hm : m < l.length) :
    spec_l3Down.l1 (k + 1) l (i : Int) n (m : Int) ys (ys.length : Int) (t : Int) = spec_l3Down.l1 k l (i : Int) n ((lesser l m c : Nat) : Int) ys (ys.length : Int) ((t + 1 : Nat) : Int) := by
  simp only [spec_l3Down.l1, hrd, less_eq, Option.bind_some]
  rw [if_pos (by omega), if_pos (by omega), if_pos (by omega), w64s (n := 2) ht (by omega)]
  unfold lesser
  by_cases h1 : c < l.length
  · rw [if_pos (show (c : Int) < (l.length : Int) by omega), if_pos (by omega), if_pos (by omega), if_pos (by omega)]
    by_cases h2 : ltB (rd_T34 l (c : Int)) (rd_T34 l (m : Int)) = true
    · rw [if_pos (show c < l.length ∧ _ from ⟨h1, h2⟩)]
      exact if_pos h2
    · rw [if_neg (show ¬ (c < l.length ∧ _) from fun h => h2 h.2)]
      exact if_neg h2
  · rw [if_neg (show ¬ (c : Int) < (l.length : Int) by omega), if_neg (show ¬ (c < l.length ∧ _) from fun h => h1 h.1)]
theorem sdown_step (l : List S34) (i : Nat) (n : Int) (hi : i < l.length) (hl : l.length ≤ 1048576) (k : Nat) :
    spec_l3Down.l0 (k + 4) l (i : Int) n = if best l i = i then some (n, l) else spec_l3Down.l0 k (sw l i (best l i)) ((best l i : Nat) : Int) (wrap64 (n + 1)) := by
  have hb := best_lt hi
  have e1 : wrap64 (wrap64 (2 * (i : Int)) + 1) = ((2 * i + 1 : Nat) : Int) := by rw [w64 (i := 2 * (i : Int)) (by omega) (by omega), w64 (by omega) (by omega)]; omega
  have e2 : wrap64 (wrap64 (2 * (i : Int)) + 2) = ((2 * i + 2 : Nat) : Int) := by rw [w64 (i := 2 * (i : Int)) (by omega) (by omega), w64 (by omega) (by omega)]; omega
  have s0 : spec_l3Down.l0 (k + 4) l (i : Int) n = spec_l3Down.l1 (k + 3) l (i : Int) n (i : Int) [((2 * i + 1 : Nat) : Int), ((2 * i + 2 : Nat) : Int)] (([((2 * i + 1 : Nat) : Int), ((2 * i + 2 : Nat) : Int)] : List Int).length : Int) ((0 : Nat) : Int) := by
    simp only [spec_l3Down.l0, Option.bind_some, e1, e2]
    rfl
  rw [s0, sd_round (k + 2) l i n i (2 * i + 1) _ 0 rfl (by omega) rfl hi, sd_round (k + 1) l i n _ (2 * i + 2) _ 1 rfl (by omega) rfl (lesser_lt hi)]
  show spec_l3Down.l1 (k + 1) l (i : Int) n ((best l i : Nat) : Int) _ _ _ = _
  simp only [spec_l3Down.l1]
  rw [if_neg (by simp)]
  by_cases h : best l i = i
  · rw [if_pos (show ((best l i : Nat) : Int) = (i : Int) by omega), if_pos h]
  · rw [if_neg (show ¬ ((best l i : Nat) : Int) = (i : Int) by omega), if_neg h, if_pos (by omega), if_pos (by omega), if_pos (by omega), if_pos (by omega), Int.toNat_natCast, Int.toNat_natCast]
    rfl
theorem ij1_ev (l : List S34) (hf : ∀ x ∈ l, Fine x) (hl : l.length ≤ 1048576) (i : Nat) (n : Int) (hi : i < l.length) (c : Nat) (x6 : Int) (b : Bool) (hc : c < l.length) (hx : (if b = true then wrap64 (x6 + 1) else x6) = (c : Int)) (v : Int × List S34)
    (h : Ev (fun k => if ltB (rd_T34 l (c : Int)) (rd_T34 l (i : Int)) = true then impl_down.l0 k (sw l i c) (c : Int) (wrap64 (n + 1)) else some (n, l)) v) : Ev (fun k => impl_down.j1 k l (i : Int) n x6 b) v := by
  obtain ⟨q, c1, c2⟩ := cmpW_ev (rdF hf hc) (rdF hf hi)
  have key : ∀ k, impl_down.j1 (k + 1) l (i : Int) n x6 b = (impl_compareWork.f k (rd_T34 l (c : Int)).f0 (rd_T34 l (c : Int)).f1 (rd_T34 l (c : Int)).f2 (rd_T34 l (i : Int)).f0 (rd_T34 l (i : Int)).f1 (rd_T34 l (i : Int)).f2).bind fun t => if t ≥ 0 then some (n, l) else impl_down.l0 k (sw l i c) (c : Int) (wrap64 (n + 1)) := fun k => by
    cases b with
    | true =>
      rw [if_pos rfl] at hx
      simp only [impl_down.j1, hx, if_true]
      rw [if_pos (by omega), if_pos (by omega), if_pos (by omega), if_pos (by omega), Int.toNat_natCast, Int.toNat_natCast]
      rfl
    | false =>
      rw [if_neg (by simp)] at hx
      simp only [impl_down.j1, hx, Bool.false_eq_true, if_false]
      rw [if_pos (by omega), if_pos (by omega), if_pos (by omega), if_pos (by omega), Int.toNat_natCast, Int.toNat_natCast]
      rfl
  refine Ev.step key (Ev.bind c1 ?_)
  by_cases c3 : ltB (rd_T34 l (c : Int)) (rd_T34 l (i : Int)) = true
  · have hq : q < 0 := of_decide_eq_true (c2.trans c3)
    simp only [if_neg (show ¬ q ≥ 0 by omega)]
    simp only [if_pos c3] at h
    exact h
  · have hq : ¬ q < 0 := of_decide_eq_false (c2.trans (Bool.eq_false_iff.2 c3))
    simp only [if_pos (show q ≥ 0 by omega)]
    simp only [if_neg c3] at h
    exact h
theorem idown_step (l : List S34) (hf : ∀ x ∈ l, Fine x) (hl : l.length ≤ 1048576) (i : Nat) (n : Int) (hi : i < l.length) (v : Int × List S34)
    (h : Ev (fun k => if best l i = i then some (n, l) else impl_down.l0 k (sw l i (best l i)) ((best l i : Nat) : Int) (wrap64 (n + 1))) v) : Ev (fun k => impl_down.l0 k l (i : Int) n) v := by
  have e1 : wrap64 (wrap64 (2 * (i : Int)) + 1) = ((2 * i + 1 : Nat) : Int) := by rw [w64 (i := 2 * (i : Int)) (by omega) (by omega), w64 (by omega) (by omega)]; omega
  have e2 : wrap64 (((2 * i + 1 : Nat) : Int) + 1) = ((2 * i + 2 : Nat) : Int) := by rw [w64 (by omega) (by omega)]; omega
  by_cases h1 : 2 * i + 1 < l.length
  · by_cases h2 : 2 * i + 2 < l.length
    · obtain ⟨q, c1, c2⟩ := cmpW_ev (rdF hf h2) (rdF hf h1)
      refine Ev.step (f := fun k => (impl_compareWork.f k (rd_T34 l ((2 * i + 2 : Nat) : Int)).f0 (rd_T34 l ((2 * i + 2 : Nat) : Int)).f1 (rd_T34 l ((2 * i + 2 : Nat) : Int)).f2 (rd_T34 l ((2 * i + 1 : Nat) : Int)).f0 (rd_T34 l ((2 * i + 1 : Nat) : Int)).f1 (rd_T34 l ((2 * i + 1 : Nat) : Int)).f2).bind fun t => impl_down.j1 k l (i : Int) n ((2 * i + 1 : Nat) : Int) (decide (t < 0))) (fun k => ?_) (Ev.bind c1 ?_)
      · simp only [impl_down.l0, e1, e2]
        rw [if_pos (by omega), if_pos (by omega), if_pos (by omega), if_pos (by omega)]
      · simp only [c2]
        by_cases c3 : ltB (rd_T34 l ((2 * i + 2 : Nat) : Int)) (rd_T34 l ((2 * i + 1 : Nat) : Int)) = true
        · refine ij1_ev l hf hl i n hi (2 * i + 2) _ _ h2 (by rw [if_pos c3, e2]) v ?_
          by_cases c4 : ltB (rd_T34 l ((2 * i + 2 : Nat) : Int)) (rd_T34 l (i : Int)) = true
          · have hb : best l i = 2 * i + 2 := by
              unfold best
              have : ltB (rd_T34 l ((2 * i + 2 : Nat) : Int)) (rd_T34 l ((lesser l i (2 * i + 1) : Nat) : Int)) = true := by
                unfold lesser
                split
                · exact c3
                · exact c4
              generalize lesser l i (2 * i + 1) = m at this
              unfold lesser
              rw [if_pos ⟨h2, this⟩]
            rw [hb] at h
            simp only [if_neg (show ¬ 2 * i + 2 = i by omega)] at h
            simp only [if_pos c4]
            exact h
          · have hb : best l i = i := by
              have c5 : ¬ ltB (rd_T34 l ((2 * i + 1 : Nat) : Int)) (rd_T34 l (i : Int)) = true := fun h5 => c4 (lt_trans' c3 h5)
              unfold best
              rw [show lesser l i (2 * i + 1) = i by unfold lesser; rw [if_neg (fun h => c5 h.2)]]
              unfold lesser
              rw [if_neg (fun h => c4 h.2)]
            rw [hb] at h
            simp only [if_true] at h
            simp only [if_neg c4]
            exact h
        · refine ij1_ev l hf hl i n hi (2 * i + 1) _ _ h1 (by rw [if_neg c3]) v ?_
          by_cases c4 : ltB (rd_T34 l ((2 * i + 1 : Nat) : Int)) (rd_T34 l (i : Int)) = true
          · have hb : best l i = 2 * i + 1 := by
              unfold best
              rw [show lesser l i (2 * i + 1) = 2 * i + 1 by unfold lesser; rw [if_pos ⟨h1, c4⟩]]
              unfold lesser
              rw [if_neg (fun h => c3 h.2)]
            rw [hb] at h
            simp only [if_neg (show ¬ 2 * i + 1 = i by omega)] at h
            simp only [if_pos c4]
            exact h
          · have hb : best l i = i := by
              unfold best
              rw [show lesser l i (2 * i + 1) = i by unfold lesser; rw [if_neg (fun h => c4 h.2)]]
              unfold lesser
              rw [if_neg (fun h => le_trans' c3 c4 h.2)]
            rw [hb] at h
            simp only [if_true] at h
            simp only [if_neg c4]
            exact h
    · refine Ev.step (f := fun k => impl_down.j1 k l (i : Int) n ((2 * i + 1 : Nat) : Int) false) (fun k => ?_) ?_
      · simp only [impl_down.l0, e1, e2]
        rw [if_pos (by omega), if_neg (by omega)]
      · refine ij1_ev l hf hl i n hi (2 * i + 1) _ _ h1 (by rw [if_neg (by simp)]) v ?_
        by_cases c4 : ltB (rd_T34 l ((2 * i + 1 : Nat) : Int)) (rd_T34 l (i : Int)) = true
        · have hb : best l i = 2 * i + 1 := by
            unfold best
            rw [show lesser l i (2 * i + 1) = 2 * i + 1 by unfold lesser; rw [if_pos ⟨h1, c4⟩]]
            unfold lesser
            rw [if_neg (fun h => h2 h.1)]
          rw [hb] at h
          simp only [if_neg (show ¬ 2 * i + 1 = i by omega)] at h
          simp only [if_pos c4]
          exact h
        · have hb : best l i = i := by
            unfold best
            rw [show lesser l i (2 * i + 1) = i by unfold lesser; rw [if_neg (fun h => c4 h.2)]]
            unfold lesser
            rw [if_neg (fun h => h2 h.1)]
          rw [hb] at h
          simp only [if_true] at h
          simp only [if_neg c4]
          exact h
  · have hb : best l i = i := by
      unfold best
      rw [show lesser l i (2 * i + 1) = i by unfold lesser; rw [if_neg (fun h => h1 h.1)]]
      unfold lesser
      rw [if_neg (fun h => by omega)]
    rw [hb] at h
    simp only [if_true] at h
    refine Ev.step (fun k => ?_) h
    simp only [impl_down.l0, e1]
    rw [if_neg (by omega)]
theorem down_l : ∀ (d : Nat) (l : List S34) (i : Nat) (n : Int), (∀ x ∈ l, Fine x) → l.length ≤ 1048576 → i < l.length → l.length - i ≤ d →
    ∃ m g, Ev (fun k => spec_l3Down.l0 k l (i : Int) n) (m, g) ∧ Ev (fun k => impl_down.l0 k l (i : Int) n) (m, g) ∧ g.length = l.length ∧ ∀ x ∈ g, Fine x
  | 0, l, i, n, hf, hl, hi, hd => by omega
  | d + 1, l, i, n, hf, hl, hi, hd => by
    by_cases hb : best l i = i
    · refine ⟨n, l, ⟨4, fun k hk => ?_⟩, idown_step l hf hl i n hi _ ?_, rfl, hf⟩
      · obtain ⟨k, rfl⟩ : ∃ m, k = m + 4 := ⟨k - 4, by omega⟩
        show spec_l3Down.l0 (k + 4) l (i : Int) n = _
        rw [sdown_step l i n hi hl k, if_pos hb]
      · simp only [if_pos hb]
        exact Ev.now _
    · have hb2 := best_lt hi
      have hb3 := best_gt hb
      obtain ⟨m, g, u, v, w, z⟩ := down_l d (sw l i (best l i)) (best l i) (wrap64 (n + 1)) (sw_fine hf hi hb2) (by rw [sw_len]; omega) (by rw [sw_len]; omega) (by rw [sw_len]; omega)
      refine ⟨m, g, ?_, idown_step l hf hl i n hi _ ?_, by rw [w, sw_len], z⟩
      · obtain ⟨N, hN⟩ := u
        refine ⟨N + 4, fun k hk => ?_⟩
        obtain ⟨k, rfl⟩ : ∃ m, k = m + 4 := ⟨k - 4, by omega⟩
        show spec_l3Down.l0 (k + 4) l (i : Int) n = _
        rw [sdown_step l i n hi hl k, if_neg hb]
        exact hN k (by omega)
      · simp only [if_neg hb]
        exact v
theorem down_ev (l : List S34) (i : Nat) (hf : ∀ x ∈ l, Fine x) (hl : l.length ≤ 1048576) (hi : i < l.length) :
    ∃ m g, Ev (fun k => spec_l3Down.f k l (i : Int)) (m, g) ∧ Ev (fun k => impl_down.f k l (i : Int)) (m, g) ∧ g.length = l.length ∧ ∀ x ∈ g, Fine x := by
  obtain ⟨m, g, a, b, c, d⟩ := down_l (l.length - i) l i 0 hf hl hi (by omega)
  exact ⟨m, g, a, b, c, d⟩
theorem pop_ev (l : List S34) (hf : ∀ x ∈ l, Fine x) (hl : l.length ≤ 1048576) (h0 : 0 < l.length) : ∃ g a b c, Ev (fun k => spec_l3Pop.f k l) (g, a, b, c) ∧ Ev (fun k => impl_pop.f k l) (g, a, b, c) ∧ g.length + 1 = l.length ∧ ∀ x ∈ g, Fine x := by
  have hj : l.length - 1 < l.length := by omega
  have e : wrap64 ((l.length : Int) - 1) = ((l.length - 1 : Nat) : Int) := by rw [w64 (by omega) (by omega)]; omega
  have hy : ∃ y : List S34, (l.set (0 : Int).toNat (rd_T34 l ((l.length - 1 : Nat) : Int))).take ((l.length - 1 : Nat) : Int).toNat = y := ⟨_, rfl⟩
  obtain ⟨y, hy⟩ := hy
  have hyl : y.length = l.length - 1 := by rw [← hy, List.length_take, List.length_set, Int.toNat_natCast]; omega
  have hyf : ∀ x ∈ y, Fine x := fun x hx => by
    rw [← hy] at hx
    rcases List.mem_or_eq_of_mem_set (List.mem_of_mem_take hx) with h | rfl
    · exact hf _ h
    · exact rdF hf hj
  have key : ∀ m g, Ev (fun k => impl_down.f k y 0) (m, g) → Ev (fun k => impl_pop.f k l) (g, (rd_T34 l 0).f0, (rd_T34 l 0).f1, (rd_T34 l 0).f2) := fun m g h => by
    refine Ev.congr (fun k => ?_) (Ev.bind (f := fun _ (bt : Int × List S34) => some (bt.2, (rd_T34 l 0).f0, (rd_T34 l 0).f1, (rd_T34 l 0).f2)) h (Ev.now _))
    unfold impl_pop.f
    rw [e, if_pos (by omega), if_pos (by omega), if_pos (by omega), if_pos (by omega)]
    show ((impl_down.f k ((l.set (0 : Int).toNat (rd_T34 l ((l.length - 1 : Nat) : Int))).take ((l.length - 1 : Nat) : Int).toNat) 0).bind _) = _
    rw [hy]
  have skey : ∀ k, spec_l3Pop.f k l = if (y.length : Int) > 0 then (spec_l3Down.f k y 0).bind fun bt => some (bt.2, (rd_T34 l 0).f0, (rd_T34 l 0).f1, (rd_T34 l 0).f2) else some (y, (rd_T34 l 0).f0, (rd_T34 l 0).f1, (rd_T34 l 0).f2) := fun k => by
    unfold spec_l3Pop.f
    simp only [Option.bind_some, List.nil_append, e]
    rw [if_pos (show ([] : List S34).length + l.length < 5864062014805 by simp; omega), if_pos (by omega), if_pos (by omega), if_pos (by omega), if_pos (by omega)]
    rw [← hy]
  by_cases h1 : 0 < y.length
  · obtain ⟨m, g, u, v, w, z⟩ := down_ev y 0 hyf (by omega) h1
    refine ⟨g, _, _, _, Ev.congr (fun k => ?_) (Ev.bind (f := fun _ (bt : Int × List S34) => some (bt.2, (rd_T34 l 0).f0, (rd_T34 l 0).f1, (rd_T34 l 0).f2)) u (Ev.now _)), key m g v, by omega, z⟩
    rw [skey, if_pos (by omega)]
    rfl
  · refine ⟨y, _, _, _, Ev.congr (f := fun _ => some (y, (rd_T34 l 0).f0, (rd_T34 l 0).f1, (rd_T34 l 0).f2)) (fun k => ?_) (Ev.now _), key 0 y (Ev.step (f := fun _ => some ((0 : Int), y)) (fun k => ?_) (Ev.now _)), by omega, hyf⟩
    · rw [skey, if_neg (by omega)]
    · simp only [impl_down.f, impl_down.l0]
      rw [if_neg]
      rw [Int.mul_zero, w64 (i := 0) (by omega) (by omega), w64 (by omega) (by omega)]
      omega
def cvWork (x : S31) : S34 := ⟨x.f0, x.f1, x.f2⟩
theorem szWork_eq (l : List S31) (hl : l.length ≤ maxLen) : laws_szWorkS.f l 1048576 = some (if (l.length : Int) ≤ 1048576 then 1048576 - (l.length : Int) else -1) := by
  unfold laws_szWorkS.f
  unfold maxLen at hl
  rw [w64 (by omega) (by omega)]
  by_cases h : (l.length : Int) ≤ 1048576
  · rw [if_neg (by omega), if_pos h]
  · rw [if_pos (by omega), if_neg h]
theorem toWork_ev (l : List S31) (hl : l.length ≤ 1048576) : Ev (fun k => laws_toWorkS.f k l) (l.map cvWork) := by
  refine Ev.congr (fun k => ?_) (fill_ev (fun k x0 x3 x4 => laws_toWorkS.l0 k x0 x3 x4) cvWork z31 (fun k x0 x3 x4 => rfl) l z34 (by omega))
  unfold laws_toWorkS.f
  rw [if_pos (by omega), if_pos (by omega), Int.toNat_natCast]
theorem eqWork_ev (l : List S34) (hl : l.length ≤ 1048576) : Ev (fun k => laws_eqWorkS.f k l l) true := by
  refine Ev.congr (fun k => ?_) (eqr_ev (fun k x0 x1 x5 => laws_eqWorkS.l0 k x0 x1 x5) l (fun k j hj => ?_) (fun k => ?_) (by omega))
  · unfold laws_eqWorkS.f
    rw [if_pos rfl]
  · simp only [laws_eqWorkS.l0]
    rw [if_pos (by omega), if_pos (by omega), if_pos (by omega)]
    simp [laws_eqWork.f]
  · simp [laws_eqWorkS.l0]
def mkWork (m : Int) : S34 := ⟨m, m + 1, m + 2⟩
theorem markWork_ev (l : List S34) (hl : l.length ≤ 1048576) : Ev (fun k => laws_markWorkS.f k l 1) (1 + (3 : Nat) * (l.length : Int), (List.range l.length).map fun j : Nat => mkWork (1 + ((3 : Nat) : Int) * (j : Int))) := by
  refine Ev.congr (fun k => rfl) (mark_ev (fun k x0 x1 x5 => laws_markWorkS.l0 k x0 x1 x5) 3 mkWork 1 (by omega) (by omega) (by omega) (fun k x0 x1 j hj h0 h1 => ?_) (fun k x0 x1 => ?_) l (by omega))
  · simp only [laws_markWorkS.l0]
    rw [if_pos (by omega), if_pos (by omega)]
    simp only [Option.bind_some, Int.toNat_natCast, rd_T34, List.getD_eq_getElem?_getD, List.set_set, List.getElem?_set_self hj, Option.getD_some]
    simp only [w64 (i := x1 + 1) (by omega) (by omega), w64 (i := x1 + 1 + 1) (by omega) (by omega), w64 (i := x1 + 1 + 1 + 1) (by omega) (by omega)]
    simp only [show x1 + 1 + 1 = x1 + 2 by omega, show x1 + 2 + 1 = x1 + 3 by omega]
    rfl
  · simp [laws_markWorkS.l0]
theorem heldWork_ev (n : Nat) (hn : n ≤ 1048576) : Ev (fun k => laws_heldWorkS.f k ((List.range n).map fun j : Nat => mkWork (1 + ((3 : Nat) : Int) * (j : Int))) 1) (1 + (3 : Nat) * (n : Int)) := by
  refine Ev.congr (fun k => rfl) (held_ev (fun k x0 x1 x5 => laws_heldWorkS.l0 k x0 x1 x5) 3 mkWork 1 (by omega) (by omega) (by omega) (fun k x0 x1 j hx hj h0 h1 => ?_) (fun k x0 x1 => ?_) n (by omega))
  · simp only [laws_heldWorkS.l0]
    rw [if_pos (by omega), if_pos (by omega)]
    simp only [Int.toNat_natCast, rd_T34, List.getD_eq_getElem?_getD, hx, Option.getD_some, mkWork, w64 (i := x1 + 1) (by omega) (by omega), w64 (i := x1 + 1 + 1) (by omega) (by omega), w64 (i := x1 + 1 + 1 + 1) (by omega) (by omega), if_true]
    simp only [show x1 + 1 + 1 = x1 + 2 by omega, show x1 + 2 + 1 = x1 + 3 by omega, if_true]
    rfl
  · simp [laws_heldWorkS.l0]
theorem clone_eq (l : List S34) (hl : l.length ≤ 1048576) : impl_Work_35.f l = some l := by
  unfold impl_Work_35.f
  rw [Option.bind_some, if_pos (show ([] : List S34).length + l.length < 5864062014805 by simp; omega), List.nil_append]
theorem both_ev (l : List S34) (hl : l.length ≤ 1048576) : ∃ g a b c r, Ev (fun k => spec_PopHeap.f k l) (g, a, b, c, r) ∧ Ev (fun k => impl_PopHeap.f k l) (g, a, b, c, r) ∧ g.length ≤ 1048576 := by
  unfold spec_PopHeap.f impl_PopHeap.f
  have hs := spec_ev l hl
  have ino : Ev (fun k => impl_PopHeap.j0 k l true) (([] : List S34), 0, 0, 0, false) := Ev.step (f := fun _ => some (([] : List S34), 0, 0, 0, false)) (fun k => rfl) (Ev.now _)
  by_cases hg : goodB l = true
  · obtain ⟨h40, hf⟩ := good_at hg
    rw [hg] at hs
    obtain ⟨r, a, b⟩ := is_ev l hg
    cases r with
    | false => exact ⟨[], 0, 0, 0, false, Ev.bind hs (Ev.bind a (Ev.now _)), Ev.bind b ino, by simp⟩
    | true =>
      by_cases h0 : l.length = 0
      · refine ⟨[], 0, 0, 0, false, Ev.bind hs (Ev.bind a ?_), Ev.bind b ?_, by simp⟩
        · simp only [if_true, if_pos (show (l.length : Int) = 0 by omega)]
          exact Ev.now _
        · simp only [if_true, show ((l.length : Int) == 0) = true from beq_iff_eq.2 (by omega)]
          exact ino
      · obtain ⟨g, x, y, z, u, v, w, _⟩ := pop_ev l hf hl (by omega)
        refine ⟨g, x, y, z, true, Ev.bind hs (Ev.bind a ?_), Ev.bind b ?_, by omega⟩
        · simp only [if_true, if_neg (show ¬ (l.length : Int) = 0 by omega)]
          refine Ev.bind u ?_
          simp only [Option.bind_some, List.nil_append, if_pos (show ([] : List S34).length + g.length < 5864062014805 by simp; omega)]
          exact Ev.now _
        · simp only [if_true, show ((l.length : Int) == 0) = false from beq_eq_false_iff_ne.2 (by omega)]
          refine Ev.step (f := fun k => (impl_pop.f k l).bind fun bt => some (bt.1, bt.2.1, bt.2.2.1, bt.2.2.2, true)) (fun k => ?_) (Ev.bind v (Ev.now _))
          simp only [impl_PopHeap.j0, Bool.false_eq_true, if_false]
          rw [clone_eq l hl, Option.bind_some]
  · rw [Bool.eq_false_iff.2 hg] at hs
    have hi := impl_ev l hl
    rw [Bool.eq_false_iff.2 hg] at hi
    refine ⟨[], 0, 0, 0, false, Ev.bind hs (Ev.now _), Ev.bind (a := false) ?_ ino, by simp⟩
    unfold impl_isHeap.f
    exact Ev.bind hi (Ev.now _)
theorem eqw (a b c : Int) : laws_eqWork.f a b c a b c = some true := by
  simp [laws_eqWork.f]
theorem FnExactPopHeap : laws_FnExactPopHeap.Pure := by
  intro l hl _
  apply Ev.rounds
  unfold laws_FnExactPopHeap.f
  simp only [szWork_eq l hl, Option.bind_some]
  by_cases h : (l.length : Int) ≤ 1048576
  case neg =>
    simp only [if_neg h]
    exact Ev.now _
  simp only [if_pos h, if_neg (show ¬ (1048576 - (l.length : Int) < 0) by omega)]
  have hl' : l.length ≤ 1048576 := by omega
  have hm : (l.map cvWork).length ≤ 1048576 := by simpa using hl'
  have hto := toWork_ev l hl'
  have heq := eqWork_ev (l.map cvWork) hm
  generalize l.map cvWork = x at hto heq hm
  refine Ev.bind hto ?_
  obtain ⟨g, a, b, c, r, h1, h2, hg⟩ := both_ev x hm
  have heg := eqWork_ev g hg
  refine Ev.bind h1 (Ev.bind hto (Ev.bind h2 (Ev.bind heg ?_)))
  simp only [if_true, bne_self_eq_false, eqw, Option.bind_some]
  refine Ev.step (fun k => by simp only [laws_FnExactPopHeap.j0]; rfl) ?_
  simp only [Bool.false_eq_true, if_false]
  refine Ev.bind hto (Ev.bind heq ?_)
  simp only [if_true]
  refine Ev.bind (markWork_ev x hm) ?_
  simp only [if_neg (show ¬ (1 + ((3 : Nat) : Int) * (x.length : Int) < 0) by omega)]
  refine Ev.bind heg ?_
  simp only [if_true, bne_self_eq_false, eqw, Option.bind_some]
  refine Ev.step (fun k => by simp only [laws_FnExactPopHeap.j1]; rfl) ?_
  simp only [Bool.false_eq_true, if_false]
  refine Ev.bind (markWork_ev g hg) (Ev.bind (heldWork_ev g.length hg) ?_)
  simp only [if_neg (show ¬ (1 + ((3 : Nat) : Int) * (g.length : Int) < 0) by omega), if_true]
  refine Ev.bind hto (Ev.bind h2 (Ev.bind heg ?_))
  simp only [if_true, bne_self_eq_false, eqw, Option.bind_some]
  refine Ev.step (fun k => by simp only [laws_FnExactPopHeap.j2]; rfl) ?_
  simp only [Bool.false_eq_true, if_false]
  refine Ev.bind (heldWork_ev g.length hg) ?_
  simp only [if_neg (show ¬ (1 + ((3 : Nat) : Int) * (g.length : Int) < 0) by omega), if_true]
  exact Ev.now _

end Go.Proofs.Ytmffllogaboklag.Pure
