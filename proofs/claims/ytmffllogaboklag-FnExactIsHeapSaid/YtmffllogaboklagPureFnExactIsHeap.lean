/- The pure statement of the law FnExactIsHeap: over lists and numbers the law's function answers true. No conditions beyond those typed. -/
import Derived.Test.YtmffllogaboklagY4
import Derived.Test.YtmffllogaboklagLib
namespace Go.Proofs.Ytmffllogaboklag.Pure
open Go.RowKit Go.Proofs.Ytmffllogaboklag.Y Go.Proofs.YtmffllogaboklagW.PrintWords Go.Proofs.YtmffllogaboklagLib
set_option linter.unusedVariables false
set_option linter.unusedSimpArgs false

theorem in_eq (x y z : Int) : impl_in.f x y z = some (decide (x ≥ y ∧ x ≤ z)) := by
  unfold impl_in.f
  by_cases h : x ≥ y <;> simp only [h, if_true, if_false, true_and, false_and, decide_false]
theorem sin_eq (x y z : Int) : spec_l1In.f x y z = some (decide (x ≥ y ∧ x ≤ z)) := by
  unfold spec_l1In.f
  by_cases h : x ≥ y <;> simp only [h, if_true, if_false, true_and, false_and, decide_false]
/-- Whether work is less than other work. -/
def lessB (a b c d e f : Int) : Bool := if a = d then (if b = e then decide (c < f) else decide (b < e)) else decide (a < d)
theorem less_eq (a b c d e f : Int) : spec_l3Less.f a b c d e f = some (lessB a b c d e f) := by
  unfold spec_l3Less.f lessB
  split
  · split <;> rfl
  · rfl
theorem or_ev (x y z : Int) : Ev (fun k => cmp_Or_int.f k [x, y, z]) (if x = 0 then (if y = 0 then (if z = 0 then 0 else z) else y) else x) := by
  have e1 : wrap64 1 = 1 := w64 (by omega) (by omega)
  have e2 : wrap64 2 = 2 := w64 (by omega) (by omega)
  have e3 : wrap64 3 = 3 := w64 (by omega) (by omega)
  refine ⟨4, fun k hk => ?_⟩
  obtain ⟨n, rfl⟩ : ∃ n, k = n + 4 := ⟨k - 4, by omega⟩
  simp only [cmp_Or_int.f, cmp_Or_int.l0, rd, List.length_cons, List.length_nil]
  by_cases hx : x = 0
  · by_cases hy : y = 0
    · by_cases hz : z = 0
      · simp [hx, hy, hz, e1, e2, e3]
      · simp [hx, hy, hz, e1, e2]
    · simp [hx, hy, e1]
  · simp [hx]
theorem cmp_ev (a b c d e f : Int) (ha : a ≥ 0 ∧ a ≤ 1000000) (hb : b ≥ 0 ∧ b ≤ 1000000) (hc : c ≥ 0 ∧ c ≤ 1000000) (hd : d ≥ 0 ∧ d ≤ 1000000) (he : e ≥ 0 ∧ e ≤ 1000000) (hf : f ≥ 0 ∧ f ≤ 1000000) :
    ∃ r, Ev (fun k => impl_compareWork.f k a b c d e f) r ∧ decide (r < 0) = lessB a b c d e f := by
  refine ⟨if a - d = 0 then (if b - e = 0 then (if c - f = 0 then 0 else c - f) else b - e) else a - d, ?_, ?_⟩
  · unfold impl_compareWork.f
    rw [w64 (by omega) (by omega), w64 (by omega) (by omega), w64 (by omega) (by omega)]
    exact Ev.bind (f := fun _ t => some t) (or_ev _ _ _) (Ev.now _)
  · unfold lessB
    repeat' split
    all_goals first | rfl | (rw [decide_eq_decide]; omega)
def okB (x : S34) : Bool := decide (x.f0 ≥ 0 ∧ x.f0 ≤ 1000000) && (decide (x.f1 ≥ 0 ∧ x.f1 ≤ 1000000) && decide (x.f2 ≥ 0 ∧ x.f2 ≤ 1000000))
theorem swork_eq (x : S34) : spec_l3Work.f x.f0 x.f1 x.f2 = some (okB x) := by
  unfold spec_l3Work.f okB
  simp only [sin_eq, Option.bind_some]
  by_cases h1 : x.f0 ≥ 0 ∧ x.f0 ≤ 1000000 <;> by_cases h2 : x.f1 ≥ 0 ∧ x.f1 ≤ 1000000 <;> simp [h1, h2]
theorem work_eq (x : S34) : impl_isWork.f x.f0 x.f1 x.f2 = some (okB x) := by
  unfold impl_isWork.f okB
  simp only [in_eq, Option.bind_some]
  by_cases h1 : x.f0 ≥ 0 ∧ x.f0 ≤ 1000000 <;> by_cases h2 : x.f1 ≥ 0 ∧ x.f1 ≤ 1000000 <;> simp [h1, h2]
def goodB (l : List S34) : Bool := l.all okB && decide ((l.length : Int) ≤ 40)
theorem spec_ev (l : List S34) (hl : l.length ≤ 1048576) : Ev (fun k => spec_l3Good.f k l) (goodB l) := by
  refine Ev.congr (fun k => rfl) (all_ev (fun k i => spec_l3Good.l0 k l l (l.length : Int) i) okB _ l (by omega) (fun k j hj => ?_) (fun k => ?_))
  · simp only [spec_l3Good.l0, swork_eq, Option.bind_some]
    rw [if_pos (by omega), if_pos (by omega), if_pos (by omega)]
    simp only [rd_T34, getD_at l j hj]
  · simp [spec_l3Good.l0]
theorem impl_ev (l : List S34) (hl : l.length ≤ 1048576) : Ev (fun k => impl_areWork.f k l) (goodB l) := by
  unfold impl_areWork.f impl_Work_42.f goodB
  by_cases h : (l.length : Int) ≤ 40
  · simp only [h, if_true, decide_true, Bool.and_true]
    obtain ⟨r, hr, hd⟩ := any_ev (fun k i => impl_Work_50.l0 k l (l.length : Int) i) (fun x => !okB x) l (by omega) (fun k j hj => by
      simp only [impl_Work_50.l0, impl_areWork_1.f, work_eq, Option.bind_some]
      rw [if_pos (by omega), if_pos (by omega), if_pos (by omega)]
      simp only [rd_T34, getD_at l j hj]) (fun k => by simp [impl_Work_50.l0])
    refine Ev.bind (f := fun _ t => some (!t)) (a := decide (r ≥ 0)) (Ev.bind (f := fun _ t => some (decide (t ≥ 0))) (Ev.congr (fun k => rfl) hr) (Ev.now _)) ?_
    rw [hd, not_any]
    exact Ev.now _
  · simp only [h, if_false, decide_false, Bool.and_false]
    exact Ev.now _
def Fine (x : S34) : Prop := (x.f0 ≥ 0 ∧ x.f0 ≤ 1000000) ∧ (x.f1 ≥ 0 ∧ x.f1 ≤ 1000000) ∧ (x.f2 ≥ 0 ∧ x.f2 ≤ 1000000)
theorem okB_iff (x : S34) : okB x = true ↔ Fine x := by
  unfold okB Fine
  simp only [Bool.and_eq_true, decide_eq_true_eq]
theorem good_at {l : List S34} (h : goodB l = true) : l.length ≤ 40 ∧ ∀ x ∈ l, Fine x := by
  unfold goodB at h
  rw [Bool.and_eq_true] at h
  exact ⟨by have := of_decide_eq_true h.2; omega, fun x hx => (okB_iff x).1 (List.all_eq_true.1 h.1 x hx)⟩
def ltB (x y : S34) : Bool := lessB x.f0 x.f1 x.f2 y.f0 y.f1 y.f2
theorem cmpW_ev {x y : S34} (hx : Fine x) (hy : Fine y) : ∃ r, Ev (fun k => impl_compareWork.f k x.f0 x.f1 x.f2 y.f0 y.f1 y.f2) r ∧ decide (r < 0) = ltB x y :=
  cmp_ev _ _ _ _ _ _ hx.1 hx.2.1 hx.2.2 hy.1 hy.2.1 hy.2.2
theorem up_of {j : Nat} (h0 : 1 ≤ j) (h1 : j ≤ 1048576) : wrap64 (Int.tdiv (wrap64 ((j : Int) - 1)) 2) = (((j - 1) / 2 : Nat) : Int) := by
  rw [w64 (i := (j : Int) - 1) (by omega) (by omega), Int.tdiv_eq_ediv_of_nonneg (by omega), w64 (by omega) (by omega)]
  omega
theorem is_l (l : List S34) (hl : l.length ≤ 1048576) (hf : ∀ x ∈ l, Fine x) : ∀ (d j : Nat), 1 ≤ j → l.length - j = d →
    ∃ r, Ev (fun k => spec_l3Is.l0 k l (j : Int)) r ∧ Ev (fun k => impl_isHeap.l0 k l (j : Int)) r
  | 0, j, h1, hd => by
    refine ⟨true, Ev.step (f := fun _ => some true) (fun k => ?_) (Ev.now _), Ev.step (f := fun _ => some true) (fun k => ?_) (Ev.now _)⟩
    · simp only [spec_l3Is.l0]
      rw [if_neg (by omega)]
    · simp only [impl_isHeap.l0]
      rw [if_neg (by omega)]
  | d + 1, j, h1, hd => by
    have hj2 : j < l.length := by omega
    have hu2 : (j - 1) / 2 < l.length := by omega
    have e1 : rd_T34 l (j : Int) = l[j] := getD_at l j hj2 _
    have e2 : rd_T34 l (((j - 1) / 2 : Nat) : Int) = l[(j - 1) / 2] := getD_at l _ hu2 _
    obtain ⟨q, c1, c2⟩ := cmpW_ev (hf l[j] (List.getElem_mem hj2)) (hf l[(j - 1) / 2] (List.getElem_mem hu2))
    have s1 : ∀ k, spec_l3Is.l0 (k + 1) l (j : Int) = if ltB l[j] l[(j - 1) / 2] = true then some false else spec_l3Is.l0 k l ((j + 1 : Nat) : Int) := fun k => by
      simp only [spec_l3Is.l0, up_of h1 (by omega : j ≤ 1048576), less_eq, Option.bind_some, e1, e2]
      rw [if_pos (by omega), if_pos (by omega), if_pos (by omega), if_pos (by omega), w64s hj2 (by omega)]
      rfl
    have s2 : ∀ k, impl_isHeap.l0 (k + 1) l (j : Int) = (impl_compareWork.f k l[j].f0 l[j].f1 l[j].f2 l[(j - 1) / 2].f0 l[(j - 1) / 2].f1 l[(j - 1) / 2].f2).bind fun t => if t < 0 then some false else impl_isHeap.l0 k l ((j + 1 : Nat) : Int) := fun k => by
      simp only [impl_isHeap.l0, up_of h1 (by omega : j ≤ 1048576), e1, e2]
      rw [if_pos (by omega), if_pos (by omega), if_pos (by omega), if_pos (by omega), w64s hj2 (by omega)]
    by_cases c : ltB l[j] l[(j - 1) / 2] = true
    · refine ⟨false, Ev.step (f := fun _ => some false) (fun k => ?_) (Ev.now _), Ev.step s2 (Ev.bind c1 ?_)⟩
      · rw [s1, if_pos c]
      · have hq : q < 0 := of_decide_eq_true (c2.trans c)
        simp only [if_pos hq]
        exact Ev.now _
    · obtain ⟨r, a, b⟩ := is_l l hl hf d (j + 1) (by omega) (by omega)
      refine ⟨r, Ev.step (fun k => ?_) a, Ev.step s2 (Ev.bind c1 ?_)⟩
      · rw [s1, if_neg c]
      · have hq : ¬ q < 0 := of_decide_eq_false (c2.trans (Bool.eq_false_iff.2 c))
        simp only [if_neg hq]
        exact b
theorem is_ev (l : List S34) (hg : goodB l = true) : ∃ r, Ev (fun k => spec_l3Is.f k l) r ∧ Ev (fun k => impl_isHeap.f k l) r := by
  obtain ⟨h40, hf⟩ := good_at hg
  obtain ⟨r, a, b⟩ := is_l l (by omega) hf (l.length - 1) 1 (by omega) rfl
  refine ⟨r, a, ?_⟩
  unfold impl_isHeap.f
  have hi := impl_ev l (by omega)
  rw [hg] at hi
  exact Ev.bind hi b
def cvWork (x : S31) : S34 := ⟨x.f0, x.f1, x.f2⟩
theorem szWork_eq (l : List S31) (hl : l.length ≤ maxLen) : laws_szWorkS.f l 1048576 = some (if (l.length : Int) ≤ 1048576 then 1048576 - (l.length : Int) else -1) := by
  unfold laws_szWorkS.f
  unfold maxLen at hl
  rw [w64 (by omega) (by omega)]
  by_cases h : (l.length : Int) ≤ 1048576
  · rw [if_neg (by omega), if_pos h]
  · rw [if_pos (by omega), if_neg h]
theorem toWork_ev (l : List S31) (hl : l.length ≤ 1048576) : Ev (fun k => laws_toWorkS.f k l) (l.map cvWork) := by
  refine Ev.congr (fun k => ?_) (fill_ev (fun k x0 x3 x4 => laws_toWorkS.l0 k x0 x3 x4) cvWork z31 (fun k x0 x3 x4 => rfl) l z34 (by omega))
  unfold laws_toWorkS.f
  rw [if_pos (by omega), if_pos (by omega), Int.toNat_natCast]
theorem eqWork_ev (l : List S34) (hl : l.length ≤ 1048576) : Ev (fun k => laws_eqWorkS.f k l l) true := by
  refine Ev.congr (fun k => ?_) (eqr_ev (fun k x0 x1 x5 => laws_eqWorkS.l0 k x0 x1 x5) l (fun k j hj => ?_) (fun k => ?_) (by omega))
  · unfold laws_eqWorkS.f
    rw [if_pos rfl]
  · simp only [laws_eqWorkS.l0]
    rw [if_pos (by omega), if_pos (by omega), if_pos (by omega)]
    simp [laws_eqWork.f]
  · simp [laws_eqWorkS.l0]
theorem both_ev (l : List S34) (hl : l.length ≤ 1048576) : ∃ r, Ev (fun k => spec_IsHeap.f k l) r ∧ Ev (fun k => impl_IsHeap.f k l) r := by
  unfold spec_IsHeap.f impl_IsHeap.f
  have hs := spec_ev l hl
  have hi := impl_ev l hl
  by_cases hg : goodB l = true
  · rw [hg] at hs hi
    obtain ⟨r, a, b⟩ := is_ev l hg
    exact ⟨(r, true), Ev.bind hs (Ev.bind a (Ev.now _)), Ev.bind hi (Ev.bind b (Ev.now _))⟩
  · rw [Bool.eq_false_iff.2 hg] at hs hi
    exact ⟨(false, false), Ev.bind hs (Ev.now _), Ev.bind hi (Ev.now _)⟩
theorem FnExactIsHeap : laws_FnExactIsHeap.Pure := by
  intro l hl _
  apply Ev.rounds
  unfold laws_FnExactIsHeap.f
  simp only [szWork_eq l hl, Option.bind_some]
  by_cases h : (l.length : Int) ≤ 1048576
  case neg =>
    simp only [if_neg h]
    exact Ev.now _
  simp only [if_pos h, if_neg (show ¬ (1048576 - (l.length : Int) < 0) by omega)]
  have hl' : l.length ≤ 1048576 := by omega
  have hm : (l.map cvWork).length ≤ 1048576 := by simpa using hl'
  have hto := toWork_ev l hl'
  have heq := eqWork_ev (l.map cvWork) hm
  generalize l.map cvWork = x at hto heq hm
  refine Ev.bind hto ?_
  obtain ⟨r, h1, h2⟩ := both_ev x hm
  refine Ev.bind h1 (Ev.bind hto (Ev.bind h2 ?_))
  simp only [if_true, bne_self_eq_false, Bool.false_eq_true, if_false]
  refine Ev.step (f := fun k => (laws_toWorkS.f k l).bind fun t => (laws_eqWorkS.f k x t).bind fun u => if u = true then some true else some false) (fun k => rfl) ?_
  exact Ev.bind hto (Ev.bind heq (Ev.now _))

end Go.Proofs.Ytmffllogaboklag.Pure
