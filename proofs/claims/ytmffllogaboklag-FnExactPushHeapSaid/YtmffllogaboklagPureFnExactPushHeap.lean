/- The pure statement of the law FnExactPushHeap: over lists and numbers the law's function answers true. No conditions beyond those typed. -/
import Derived.Test.YtmffllogaboklagA8
import Derived.Test.YtmffllogaboklagLib
namespace Go.Proofs.Ytmffllogaboklag.Pure
open Go.RowKit Go.Proofs.Ytmffllogaboklag.A Go.Proofs.YtmffllogaboklagW.PrintWords Go.Proofs.YtmffllogaboklagLib
set_option linter.unusedVariables false
set_option linter.unusedSimpArgs false

theorem in_eq (x y z : Int) : impl_in.f x y z = some (decide (x ≥ y ∧ x ≤ z)) := by
  unfold impl_in.f
  by_cases h : x ≥ y <;> simp only [h, if_true, if_false, true_and, false_and, decide_false]
theorem sin_eq (x y z : Int) : spec_l1In.f x y z = some (decide (x ≥ y ∧ x ≤ z)) := by
  unfold spec_l1In.f
  by_cases h : x ≥ y <;> simp only [h, if_true, if_false, true_and, false_and, decide_false]
/-- Whether work is less than other work. -/
def lessB (a b c d e f : Int) : Bool := if a = d then (if b = e then decide (c < f) else decide (b < e)) else decide (a < d)
theorem less_eq (a b c d e f : Int) : spec_l3Less.f a b c d e f = some (lessB a b c d e f) := by
  unfold spec_l3Less.f lessB
  split
  · split <;> rfl
  · rfl
theorem or_ev (x y z : Int) : Ev (fun k => cmp_Or_int.f k [x, y, z]) (if x = 0 then (if y = 0 then (if z = 0 then 0 else z) else y) else x) := by
  have e1 : wrap64 1 = 1 := w64 (by omega) (by omega)
  have e2 : wrap64 2 = 2 := w64 (by omega) (by omega)
  have e3 : wrap64 3 = 3 := w64 (by omega) (by omega)
  refine ⟨4, fun k hk => ?_⟩
  obtain ⟨n, rfl⟩ : ∃ n, k = n + 4 := ⟨k - 4, by omega⟩
  simp only [cmp_Or_int.f, cmp_Or_int.l0, rd, List.length_cons, List.length_nil]
  by_cases hx : x = 0
  · by_cases hy : y = 0
    · by_cases hz : z = 0
      · simp [hx, hy, hz, e1, e2, e3]
      · simp [hx, hy, hz, e1, e2]
    · simp [hx, hy, e1]
  · simp [hx]
theorem cmp_ev (a b c d e f : Int) (ha : a ≥ 0 ∧ a ≤ 1000000) (hb : b ≥ 0 ∧ b ≤ 1000000) (hc : c ≥ 0 ∧ c ≤ 1000000) (hd : d ≥ 0 ∧ d ≤ 1000000) (he : e ≥ 0 ∧ e ≤ 1000000) (hf : f ≥ 0 ∧ f ≤ 1000000) :
    ∃ r, Ev (fun k => impl_compareWork.f k a b c d e f) r ∧ decide (r < 0) = lessB a b c d e f := by
  refine ⟨if a - d = 0 then (if b - e = 0 then (if c - f = 0 then 0 else c - f) else b - e) else a - d, ?_, ?_⟩
  · unfold impl_compareWork.f
    rw [w64 (by omega) (by omega), w64 (by omega) (by omega), w64 (by omega) (by omega)]
    exact Ev.bind (f := fun _ t => some t) (or_ev _ _ _) (Ev.now _)
  · unfold lessB
    repeat' split
    all_goals first | rfl | (rw [decide_eq_decide]; omega)
def okB (x : S34) : Bool := decide (x.f0 ≥ 0 ∧ x.f0 ≤ 1000000) && (decide (x.f1 ≥ 0 ∧ x.f1 ≤ 1000000) && decide (x.f2 ≥ 0 ∧ x.f2 ≤ 1000000))
theorem swork_eq (x : S34) : spec_l3Work.f x.f0 x.f1 x.f2 = some (okB x) := by
  unfold spec_l3Work.f okB
  simp only [sin_eq, Option.bind_some]
  by_cases h1 : x.f0 ≥ 0 ∧ x.f0 ≤ 1000000 <;> by_cases h2 : x.f1 ≥ 0 ∧ x.f1 ≤ 1000000 <;> simp [h1, h2]
theorem work_eq (x : S34) : impl_isWork.f x.f0 x.f1 x.f2 = some (okB x) := by
  unfold impl_isWork.f okB
  simp only [in_eq, Option.bind_some]
  by_cases h1 : x.f0 ≥ 0 ∧ x.f0 ≤ 1000000 <;> by_cases h2 : x.f1 ≥ 0 ∧ x.f1 ≤ 1000000 <;> simp [h1, h2]
def goodB (l : List S34) : Bool := l.all okB && decide ((l.length : Int) ≤ 40)
theorem spec_ev (l : List S34) (hl : l.length ≤ 1048576) : Ev (fun k => spec_l3Good.f k l) (goodB l) := by
  refine Ev.congr (fun k => rfl) (all_ev (fun k i => spec_l3Good.l0 k l l (l.length : Int) i) okB _ l (by omega) (fun k j hj => ?_) (fun k => ?_))
  · simp only [spec_l3Good.l0, swork_eq, Option.bind_some]
    rw [if_pos (by omega), if_pos (by omega), if_pos (by omega)]
    simp only [rd_T34, getD_at l j hj]
  · simp [spec_l3Good.l0]
theorem impl_ev (l : List S34) (hl : l.length ≤ 1048576) : Ev (fun k => impl_areWork.f k l) (goodB l) := by
  unfold impl_areWork.f impl_Work_42.f goodB
  by_cases h : (l.length : Int) ≤ 40
  · simp only [h, if_true, decide_true, Bool.and_true]
    obtain ⟨r, hr, hd⟩ := any_ev (fun k i => impl_Work_50.l0 k l (l.length : Int) i) (fun x => !okB x) l (by omega) (fun k j hj => by
      simp only [impl_Work_50.l0, impl_areWork_1.f, work_eq, Option.bind_some]
      rw [if_pos (by omega), if_pos (by omega), if_pos (by omega)]
      simp only [rd_T34, getD_at l j hj]) (fun k => by simp [impl_Work_50.l0])
    refine Ev.bind (f := fun _ t => some (!t)) (a := decide (r ≥ 0)) (Ev.bind (f := fun _ t => some (decide (t ≥ 0))) (Ev.congr (fun k => rfl) hr) (Ev.now _)) ?_
    rw [hd, not_any]
    exact Ev.now _
  · simp only [h, if_false, decide_false, Bool.and_false]
    exact Ev.now _
def Fine (x : S34) : Prop := (x.f0 ≥ 0 ∧ x.f0 ≤ 1000000) ∧ (x.f1 ≥ 0 ∧ x.f1 ≤ 1000000) ∧ (x.f2 ≥ 0 ∧ x.f2 ≤ 1000000)
theorem okB_iff (x : S34) : okB x = true ↔ Fine x := by
  unfold okB Fine
  simp only [Bool.and_eq_true, decide_eq_true_eq]
theorem good_at {l : List S34} (h : goodB l = true) : l.length ≤ 40 ∧ ∀ x ∈ l, Fine x := by
  unfold goodB at h
  rw [Bool.and_eq_true] at h
  exact ⟨by have := of_decide_eq_true h.2; omega, fun x hx => (okB_iff x).1 (List.all_eq_true.1 h.1 x hx)⟩
def ltB (x y : S34) : Bool := lessB x.f0 x.f1 x.f2 y.f0 y.f1 y.f2
theorem cmpW_ev {x y : S34} (hx : Fine x) (hy : Fine y) : ∃ r, Ev (fun k => impl_compareWork.f k x.f0 x.f1 x.f2 y.f0 y.f1 y.f2) r ∧ decide (r < 0) = ltB x y :=
  cmp_ev _ _ _ _ _ _ hx.1 hx.2.1 hx.2.2 hy.1 hy.2.1 hy.2.2
theorem up_of {j : Nat} (h0 : 1 ≤ j) (h1 : j ≤ 1048576) : wrap64 (Int.tdiv (wrap64 ((j : Int) - 1)) 2) = (((j - 1) / 2 : Nat) : Int) := by
  rw [w64 (i := (j : Int) - 1) (by omega) (by omega), Int.tdiv_eq_ediv_of_nonneg (by omega), w64 (by omega) (by omega)]
  omega
theorem is_l (l : List S34) (hl : l.length ≤ 1048576) (hf : ∀ x ∈ l, Fine x) : ∀ (d j : Nat), 1 ≤ j → l.length - j = d →
    ∃ r, Ev (fun k => spec_l3Is.l0 k l (j : Int)) r ∧ Ev (fun k => impl_isHeap.l0 k l (j : Int)) r
  | 0, j, h1, hd => by
    refine ⟨true, Ev.step (f := fun _ => some true) (fun k => ?_) (Ev.now _), Ev.step (f := fun _ => some true) (fun k => ?_) (Ev.now _)⟩
    · simp only [spec_l3Is.l0]
      rw [if_neg (by omega)]
    · simp only [impl_isHeap.l0]
      rw [if_neg (by omega)]
  | d + 1, j, h1, hd => by
    have hj2 : j < l.length := by omega
    have hu2 : (j - 1) / 2 < l.length := by omega
    have e1 : rd_T34 l (j : Int) = l[j] := getD_at l j hj2 _
    have e2 : rd_T34 l (((j - 1) / 2 : Nat) : Int) = l[(j - 1) / 2] := getD_at l _ hu2 _
    obtain ⟨q, c1, c2⟩ := cmpW_ev (hf l[j] (List.getElem_mem hj2)) (hf l[(j - 1) / 2] (List.getElem_mem hu2))
    have s1 : ∀ k, spec_l3Is.l0 (k + 1) l (j : Int) = if ltB l[j] l[(j - 1) / 2] = true then some false else spec_l3Is.l0 k l ((j + 1 : Nat) : Int) := fun k => by
      simp only [spec_l3Is.l0, up_of h1 (by omega : j ≤ 1048576), less_eq, Option.bind_some, e1, e2]
      rw [if_pos (by omega), if_pos (by omega), if_pos (by omega), if_pos (by omega), w64s hj2 (by omega)]
      rfl
    have s2 : ∀ k, impl_isHeap.l0 (k + 1) l (j : Int) = (impl_compareWork.f k l[j].f0 l[j].f1 l[j].f2 l[(j - 1) / 2].f0 l[(j - 1) / 2].f1 l[(j - 1) / 2].f2).bind fun t => if t < 0 then some false else impl_isHeap.l0 k l ((j + 1 : Nat) : Int) := fun k => by
      simp only [impl_isHeap.l0, up_of h1 (by omega : j ≤ 1048576), e1, e2]
      rw [if_pos (by omega), if_pos (by omega), if_pos (by omega), if_pos (by omega), w64s hj2 (by omega)]
    by_cases c : ltB l[j] l[(j - 1) / 2] = true
    · refine ⟨false, Ev.step (f := fun _ => some false) (fun k => ?_) (Ev.now _), Ev.step s2 (Ev.bind c1 ?_)⟩
      · rw [s1, if_pos c]
      · have hq : q < 0 := of_decide_eq_true (c2.trans c)
        simp only [if_pos hq]
        exact Ev.now _
    · obtain ⟨r, a, b⟩ := is_l l hl hf d (j + 1) (by omega) (by omega)
      refine ⟨r, Ev.step (fun k => ?_) a, Ev.step s2 (Ev.bind c1 ?_)⟩
      · rw [s1, if_neg c]
      · have hq : ¬ q < 0 := of_decide_eq_false (c2.trans (Bool.eq_false_iff.2 c))
        simp only [if_neg hq]
        exact b
theorem is_ev (l : List S34) (hg : goodB l = true) : ∃ r, Ev (fun k => spec_l3Is.f k l) r ∧ Ev (fun k => impl_isHeap.f k l) r := by
  obtain ⟨h40, hf⟩ := good_at hg
  obtain ⟨r, a, b⟩ := is_l l (by omega) hf (l.length - 1) 1 (by omega) rfl
  refine ⟨r, a, ?_⟩
  unfold impl_isHeap.f
  have hi := impl_ev l (by omega)
  rw [hg] at hi
  exact Ev.bind hi b
theorem ltB_iff (x y : S34) : ltB x y = true ↔ x.f0 < y.f0 ∨ (x.f0 = y.f0 ∧ (x.f1 < y.f1 ∨ (x.f1 = y.f1 ∧ x.f2 < y.f2))) := by
  unfold ltB lessB
  split
  · split
    · rw [decide_eq_true_iff]; omega
    · rw [decide_eq_true_iff]; omega
  · rw [decide_eq_true_iff]; omega
theorem lt_trans' {x y z : S34} (h : ltB x y = true) (i : ltB y z = true) : ltB x z = true := by
  rw [ltB_iff] at h i ⊢
  omega
theorem le_trans' {x y z : S34} (h : ¬ ltB x y = true) (i : ¬ ltB y z = true) : ¬ ltB x z = true := by
  rw [ltB_iff] at h i ⊢
  omega
theorem rdW (l : List S34) {j : Nat} (h : j < l.length) : rd_T34 l (j : Int) = l[j] := getD_at l j h _
theorem rdF {l : List S34} (hf : ∀ x ∈ l, Fine x) {j : Nat} (h : j < l.length) : Fine (rd_T34 l (j : Int)) := by
  rw [rdW l h]
  exact hf _ (List.getElem_mem h)
/-- Two places changed about. -/
def sw (l : List S34) (i b : Nat) : List S34 := (l.set i (rd_T34 l (b : Int))).set b (rd_T34 l (i : Int))
theorem sw_len (l : List S34) (i b : Nat) : (sw l i b).length = l.length := by unfold sw; rw [List.length_set, List.length_set]
theorem sw_fine {l : List S34} (hf : ∀ x ∈ l, Fine x) {i b : Nat} (hi : i < l.length) (hb : b < l.length) : ∀ x ∈ sw l i b, Fine x := by
  intro x hx
  unfold sw at hx
  rcases List.mem_or_eq_of_mem_set hx with h | rfl
  · rcases List.mem_or_eq_of_mem_set h with h | rfl
    · exact hf _ h
    · exact rdF hf hb
  · exact rdF hf hi
theorem up_l : ∀ (d : Nat) (l : List S34) (i : Nat) (n : Int), (∀ x ∈ l, Fine x) → l.length ≤ 1048576 → i < l.length → i ≤ d →
    ∃ p q g, Ev (fun k => spec_l3Up.l0 k l (i : Int)) (p, g) ∧ Ev (fun k => impl_up.l0 k l (i : Int) n) (q, g) ∧ g.length = l.length
  | d, l, 0, n, hf, hl, hi, hd => by
    refine ⟨0, n, l, Ev.step (f := fun _ => some ((0 : Int), l)) (fun k => ?_) (Ev.now _), Ev.step (f := fun _ => some (n, l)) (fun k => ?_) (Ev.now _), rfl⟩
    · simp [spec_l3Up.l0]
    · simp [impl_up.l0]
  | 0, l, i + 1, n, hf, hl, hi, hd => by omega
  | d + 1, l, i + 1, n, hf, hl, hi, hd => by
    have hu : (i + 1 - 1) / 2 < l.length := by omega
    have e1 := up_of (j := i + 1) (by omega) (by omega)
    obtain ⟨q, c1, c2⟩ := cmpW_ev (rdF hf hi) (rdF hf hu)
    have s1 : ∀ k, spec_l3Up.l0 (k + 1) l ((i + 1 : Nat) : Int) = if ltB (rd_T34 l ((i + 1 : Nat) : Int)) (rd_T34 l (((i + 1 - 1) / 2 : Nat) : Int)) = true then spec_l3Up.l0 k (sw l (i + 1) ((i + 1 - 1) / 2)) (((i + 1 - 1) / 2 : Nat) : Int) else some (((i + 1 : Nat) : Int), l) := fun k => by
      simp only [spec_l3Up.l0, e1, less_eq, Option.bind_some]
      rw [if_pos (by omega), if_pos (by omega), if_pos (by omega), if_pos (by omega), if_pos (by omega), Int.toNat_natCast, Int.toNat_natCast]
      rfl
    have s2 : ∀ k, impl_up.l0 (k + 1) l ((i + 1 : Nat) : Int) n = (impl_compareWork.f k (rd_T34 l ((i + 1 : Nat) : Int)).f0 (rd_T34 l ((i + 1 : Nat) : Int)).f1 (rd_T34 l ((i + 1 : Nat) : Int)).f2 (rd_T34 l (((i + 1 - 1) / 2 : Nat) : Int)).f0 (rd_T34 l (((i + 1 - 1) / 2 : Nat) : Int)).f1 (rd_T34 l (((i + 1 - 1) / 2 : Nat) : Int)).f2).bind fun t => if t < 0 then impl_up.l0 k (sw l (i + 1) ((i + 1 - 1) / 2)) (((i + 1 - 1) / 2 : Nat) : Int) (wrap64 (n + 1)) else some (n, l) := fun k => by
      simp only [impl_up.l0, e1]
      rw [if_pos (by omega), if_pos (by omega), if_pos (by omega), if_pos (by omega), if_pos (by omega), Int.toNat_natCast, Int.toNat_natCast]
      rfl
    by_cases c : ltB (rd_T34 l ((i + 1 : Nat) : Int)) (rd_T34 l (((i + 1 - 1) / 2 : Nat) : Int)) = true
    · have hq : q < 0 := of_decide_eq_true (c2.trans c)
      obtain ⟨p, r, g, u, v, w⟩ := up_l d (sw l (i + 1) ((i + 1 - 1) / 2)) ((i + 1 - 1) / 2) (wrap64 (n + 1)) (sw_fine hf hi hu) (by rw [sw_len]; omega) (by rw [sw_len]; omega) (by omega)
      refine ⟨p, r, g, Ev.step (fun k => ?_) u, Ev.step s2 (Ev.bind c1 ?_), by rw [w, sw_len]⟩
      · rw [s1, if_pos c]
      · simp only [if_pos hq]
        exact v
    · have hq : ¬ q < 0 := of_decide_eq_false (c2.trans (Bool.eq_false_iff.2 c))
      refine ⟨((i + 1 : Nat) : Int), n, l, Ev.step (f := fun _ => some (((i + 1 : Nat) : Int), l)) (fun k => ?_) (Ev.now _), Ev.step s2 (Ev.bind c1 ?_), rfl⟩
      · rw [s1, if_neg c]
      · simp only [if_neg hq]
        exact Ev.now _
theorem up_ev (l : List S34) (i : Nat) (hf : ∀ x ∈ l, Fine x) (hl : l.length ≤ 1048576) (hi : i < l.length) :
    ∃ p q g, Ev (fun k => spec_l3Up.f k l (i : Int)) (p, g) ∧ Ev (fun k => impl_up.f k l (i : Int)) (q, g) ∧ g.length = l.length := by
  obtain ⟨p, q, g, a, b, c⟩ := up_l i l i 0 hf hl hi (Nat.le_refl _)
  exact ⟨p, q, g, a, b, c⟩
def cvWork (x : S31) : S34 := ⟨x.f0, x.f1, x.f2⟩
theorem szWork_eq (l : List S31) (hl : l.length ≤ maxLen) : laws_szWorkS.f l 1048576 = some (if (l.length : Int) ≤ 1048576 then 1048576 - (l.length : Int) else -1) := by
  unfold laws_szWorkS.f
  unfold maxLen at hl
  rw [w64 (by omega) (by omega)]
  by_cases h : (l.length : Int) ≤ 1048576
  · rw [if_neg (by omega), if_pos h]
  · rw [if_pos (by omega), if_neg h]
theorem toWork_ev (l : List S31) (hl : l.length ≤ 1048576) : Ev (fun k => laws_toWorkS.f k l) (l.map cvWork) := by
  refine Ev.congr (fun k => ?_) (fill_ev (fun k x0 x3 x4 => laws_toWorkS.l0 k x0 x3 x4) cvWork z31 (fun k x0 x3 x4 => rfl) l z34 (by omega))
  unfold laws_toWorkS.f
  rw [if_pos (by omega), if_pos (by omega), Int.toNat_natCast]
theorem eqWork_ev (l : List S34) (hl : l.length ≤ 1048576) : Ev (fun k => laws_eqWorkS.f k l l) true := by
  refine Ev.congr (fun k => ?_) (eqr_ev (fun k x0 x1 x5 => laws_eqWorkS.l0 k x0 x1 x5) l (fun k j hj => ?_) (fun k => ?_) (by omega))
  · unfold laws_eqWorkS.f
    rw [if_pos rfl]
  · simp only [laws_eqWorkS.l0]
    rw [if_pos (by omega), if_pos (by omega), if_pos (by omega)]
    simp [laws_eqWork.f]
  · simp [laws_eqWorkS.l0]
def mkWork (m : Int) : S34 := ⟨m, m + 1, m + 2⟩
theorem markWork_ev (l : List S34) (hl : l.length ≤ 1048576) : Ev (fun k => laws_markWorkS.f k l 1) (1 + (3 : Nat) * (l.length : Int), (List.range l.length).map fun j : Nat => mkWork (1 + ((3 : Nat) : Int) * (j : Int))) := by
  refine Ev.congr (fun k => rfl) (mark_ev (fun k x0 x1 x5 => laws_markWorkS.l0 k x0 x1 x5) 3 mkWork 1 (by omega) (by omega) (by omega) (fun k x0 x1 j hj h0 h1 => ?_) (fun k x0 x1 => ?_) l (by omega))
  · simp only [laws_markWorkS.l0]
    rw [if_pos (by omega), if_pos (by omega)]
    simp only [Option.bind_some, Int.toNat_natCast, rd_T34, List.getD_eq_getElem?_getD, List.set_set, List.getElem?_set_self hj, Option.getD_some]
    simp only [w64 (i := x1 + 1) (by omega) (by omega), w64 (i := x1 + 1 + 1) (by omega) (by omega), w64 (i := x1 + 1 + 1 + 1) (by omega) (by omega)]
    simp only [show x1 + 1 + 1 = x1 + 2 by omega, show x1 + 2 + 1 = x1 + 3 by omega]
    rfl
  · simp [laws_markWorkS.l0]
theorem heldWork_ev (n : Nat) (hn : n ≤ 1048576) : Ev (fun k => laws_heldWorkS.f k ((List.range n).map fun j : Nat => mkWork (1 + ((3 : Nat) : Int) * (j : Int))) 1) (1 + (3 : Nat) * (n : Int)) := by
  refine Ev.congr (fun k => rfl) (held_ev (fun k x0 x1 x5 => laws_heldWorkS.l0 k x0 x1 x5) 3 mkWork 1 (by omega) (by omega) (by omega) (fun k x0 x1 j hx hj h0 h1 => ?_) (fun k x0 x1 => ?_) n (by omega))
  · simp only [laws_heldWorkS.l0]
    rw [if_pos (by omega), if_pos (by omega)]
    simp only [Int.toNat_natCast, rd_T34, List.getD_eq_getElem?_getD, hx, Option.getD_some, mkWork, w64 (i := x1 + 1) (by omega) (by omega), w64 (i := x1 + 1 + 1) (by omega) (by omega), w64 (i := x1 + 1 + 1 + 1) (by omega) (by omega), if_true]
    simp only [show x1 + 1 + 1 = x1 + 2 by omega, show x1 + 2 + 1 = x1 + 3 by omega, if_true]
    rfl
  · simp [laws_heldWorkS.l0]
theorem both_ev (l : List S34) (x : S34) (hl : l.length ≤ 1048576) : ∃ g b, Ev (fun k => spec_PushHeap.f k l x.f0 x.f1 x.f2) (g, b) ∧ Ev (fun k => impl_PushHeap.f k l x.f0 x.f1 x.f2) (g, b) ∧ g.length ≤ 1048576 := by
  unfold spec_PushHeap.f impl_PushHeap.f
  have hs := spec_ev l hl
  have no : Ev (fun k => impl_PushHeap.j0 k l true x.f0 x.f1 x.f2) (([] : List S34), false) := Ev.step (f := fun _ => some (([] : List S34), false)) (fun k => rfl) (Ev.now _)
  by_cases hg : goodB l = true
  · obtain ⟨h40, hf⟩ := good_at hg
    rw [hg] at hs
    obtain ⟨r, a, b⟩ := is_ev l hg
    cases r with
    | false =>
      exact ⟨[], false, Ev.bind hs (Ev.bind a (Ev.now _)), Ev.bind b no, by simp⟩
    | true =>
      by_cases hx : okB x = true
      · by_cases h4 : (l.length : Int) = 40
        · refine ⟨[], false, Ev.bind hs (Ev.bind a ?_), Ev.bind b ?_, by simp⟩
          · simp only [if_true, swork_eq, Option.bind_some, hx, if_pos h4]
            exact Ev.now _
          · simp only [if_true, if_pos h4]
            exact no
        · have hf2 : ∀ y ∈ l ++ [x], Fine y := fun y hy => by
            rcases List.mem_append.1 hy with h | h
            · exact hf y h
            · rw [List.mem_singleton] at h
              subst h
              exact (okB_iff y).1 hx
          obtain ⟨p, q, g, u, v, w⟩ := up_ev (l ++ [x]) l.length hf2 (by simp; omega) (by simp)
          refine ⟨g, true, Ev.bind hs (Ev.bind a ?_), Ev.bind b ?_, by rw [w]; simp; omega⟩
          · simp only [if_true, swork_eq, Option.bind_some, hx, if_neg h4]
            refine Ev.bind (f := fun _ t => some (t, true)) (a := g) ?_ (Ev.now _)
            refine Ev.congr (fun k => ?_) (Ev.bind (f := fun _ (bt : Int × List S34) => some bt.2) u (Ev.now _))
            unfold spec_l3Push.f
            simp only [Option.bind_some, List.nil_append]
            rw [if_pos (show ([] : List S34).length + l.length < 5864062014805 by simp; omega), if_pos (show l.length + [(⟨x.f0, x.f1, x.f2⟩ : S34)].length < 5864062014805 by simp; omega), show ((l ++ [(⟨x.f0, x.f1, x.f2⟩ : S34)]).length : Int) = (l.length : Int) + 1 by simp, w64 (by omega) (by omega), show (l.length : Int) + 1 - 1 = (l.length : Int) by omega]
          · simp only [if_true, if_neg h4, work_eq, Option.bind_some, hx, Bool.not_true]
            refine Ev.step (f := fun k => (impl_up.f k (l ++ [x]) (l.length : Int)).bind fun bt => some (bt.2, true)) (fun k => ?_) (Ev.bind v (Ev.now _))
            simp only [impl_PushHeap.j0, impl_Work_35.f, Option.bind_some, List.nil_append, Bool.false_eq_true, if_false]
            rw [if_pos (show ([] : List S34).length + l.length < 5864062014805 by simp; omega), Option.bind_some, if_pos (show l.length + [(⟨x.f0, x.f1, x.f2⟩ : S34)].length < 5864062014805 by simp; omega)]
      · refine ⟨[], false, Ev.bind hs (Ev.bind a ?_), Ev.bind b ?_, by simp⟩
        · simp only [if_true, swork_eq, Option.bind_some, if_neg hx]
          exact Ev.now _
        · simp only [if_true, work_eq, Option.bind_some, Bool.eq_false_iff.2 hx, Bool.not_false, ite_self]
          exact no
  · rw [Bool.eq_false_iff.2 hg] at hs
    refine ⟨[], false, Ev.bind hs (Ev.now _), ?_, by simp⟩
    have hi := impl_ev l hl
    rw [Bool.eq_false_iff.2 hg] at hi
    refine Ev.bind (a := false) ?_ no
    unfold impl_isHeap.f
    exact Ev.bind hi (Ev.now _)
theorem FnExactPushHeap : laws_FnExactPushHeap.Pure := by
  intro l a b c hl _ _ _ _
  apply Ev.rounds
  unfold laws_FnExactPushHeap.f
  simp only [szWork_eq l hl, Option.bind_some]
  by_cases h : (l.length : Int) ≤ 1048576
  case neg =>
    simp only [if_neg h]
    exact Ev.now _
  simp only [if_pos h, if_neg (show ¬ (1048576 - (l.length : Int) < 0) by omega)]
  have hl' : l.length ≤ 1048576 := by omega
  have hm : (l.map cvWork).length ≤ 1048576 := by simpa using hl'
  have hto := toWork_ev l hl'
  have heq := eqWork_ev (l.map cvWork) hm
  generalize l.map cvWork = x at hto heq hm
  refine Ev.bind hto ?_
  simp only [laws_toWork.f, Option.bind_some]
  have hmk := markWork_ev x hm
  obtain ⟨g, r, h1, h2, hg⟩ := both_ev x ⟨a, b, c⟩ hm
  have heg := eqWork_ev g hg
  refine Ev.bind h1 (Ev.bind hto (Ev.bind h2 (Ev.bind heg ?_)))
  simp only [if_true, bne_self_eq_false]
  refine Ev.step (fun k => by simp only [laws_FnExactPushHeap.j0]; rfl) ?_
  simp only [Bool.false_eq_true, if_false]
  refine Ev.bind hto (Ev.bind heq ?_)
  simp only [if_true]
  refine Ev.bind hmk ?_
  simp only [if_neg (show ¬ (1 + ((3 : Nat) : Int) * (x.length : Int) < 0) by omega)]
  refine Ev.bind heg ?_
  simp only [if_true, bne_self_eq_false]
  refine Ev.step (fun k => by simp only [laws_FnExactPushHeap.j1]; rfl) ?_
  simp only [Bool.false_eq_true, if_false]
  refine Ev.bind (markWork_ev g hg) (Ev.bind (heldWork_ev g.length hg) ?_)
  simp only [if_neg (show ¬ (1 + ((3 : Nat) : Int) * (g.length : Int) < 0) by omega), if_true]
  simp only [laws_toWork.f, Option.bind_some]
  refine Ev.bind hto (Ev.bind h2 (Ev.bind heg ?_))
  simp only [if_true, bne_self_eq_false]
  refine Ev.step (fun k => by simp only [laws_FnExactPushHeap.j2]; rfl) ?_
  simp only [Bool.false_eq_true, if_false]
  refine Ev.bind (heldWork_ev g.length hg) ?_
  simp only [if_neg (show ¬ (1 + ((3 : Nat) : Int) * (g.length : Int) < 0) by omega), if_true]
  exact Ev.now _

end Go.Proofs.Ytmffllogaboklag.Pure
