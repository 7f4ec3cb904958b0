/- The pure statement of the law FnExactLongestOf: over lists and numbers the law's function answers true. No conditions beyond those typed. -/
import Derived.Test.YtmffllogaboklacY4
import Derived.Test.YtmffllogaboklacLib
namespace Go.Proofs.Ytmffllogaboklac.Pure
open Go.RowKit Go.Proofs.Ytmffllogaboklac.Y Go.Proofs.YtmffllogaboklacW.PrintWords Go.Proofs.YtmffllogaboklacLib
set_option linter.unusedVariables false
set_option linter.unusedSimpArgs false

theorem in_eq (x y z : Int) : impl_in.f x y z = some (decide (x ≥ y ∧ x ≤ z)) := by
  unfold impl_in.f
  by_cases h : x ≥ y <;> simp only [h, if_true, if_false, true_and, false_and, decide_false]
theorem sin_eq (x y z : Int) : spec_l1In.f x y z = some (decide (x ≥ y ∧ x ≤ z)) := by
  unfold spec_l1In.f
  by_cases h : x ≥ y <;> simp only [h, if_true, if_false, true_and, false_and, decide_false]
def okB (x : S62) : Bool := decide (x.f0 ≥ 1 ∧ x.f0 ≤ 10) && decide (x.f1 ≥ x.f0 ∧ x.f1 ≤ 40)
def goodB (l : List S62) : Bool := l.all okB && decide ((l.length : Int) ≤ 5)
theorem spec_ev (l : List S62) (hl : l.length ≤ 1048576) : Ev (fun k => spec_GoodAgain.f k l) (goodB l) := by
  refine Ev.congr (fun k => rfl) (all_ev (fun k i => spec_GoodAgain.l0 k l l (l.length : Int) i) okB _ l (by omega) (fun k j hj => ?_) (fun k => ?_))
  · simp only [spec_GoodAgain.l0, sin_eq, Option.bind_some]
    rw [if_pos (by omega), if_pos (by omega), if_pos (by omega)]
    simp only [rd_T62, getD_at l j hj, okB]
    generalize l[j] = x
    by_cases h1 : x.f0 ≥ 1 ∧ x.f0 ≤ 10 <;> by_cases h2 : x.f1 ≥ x.f0 ∧ x.f1 ≤ 40 <;> simp [h1, h2]
  · simp [spec_GoodAgain.l0]
theorem idx_ev (l : List S62) (hl : l.length ≤ 1048576) : ∃ r, Ev (fun k => impl_Again_70.f k l) r ∧ decide (r ≥ 0) = l.any fun x => !okB x := by
  refine any_ev (fun k i => impl_Again_70.l0 k l (l.length : Int) i) (fun x => !okB x) l (by omega) (fun k j hj => ?_) (fun k => ?_)
  · simp only [impl_Again_70.l0, impl_GoodAgain_1.f, in_eq, Option.bind_some]
    rw [if_pos (by omega), if_pos (by omega), if_pos (by omega)]
    simp only [rd_T62, getD_at l j hj, okB]
    generalize l[j] = x
    by_cases h1 : x.f0 ≥ 1 ∧ x.f0 ≤ 10 <;> by_cases h2 : x.f1 ≥ x.f0 ∧ x.f1 ≤ 40 <;> simp [h1, h2]
  · simp [impl_Again_70.l0]
theorem impl_ev (l : List S62) (hl : l.length ≤ 1048576) : Ev (fun k => impl_GoodAgain.f k l) (goodB l) := by
  unfold impl_GoodAgain.f impl_Again_65.f goodB
  by_cases h : (l.length : Int) ≤ 5
  · simp only [h, if_true, decide_true, Bool.and_true]
    obtain ⟨r, hr, hd⟩ := idx_ev l hl
    refine Ev.bind (f := fun _ t => some (!t)) (a := decide (r ≥ 0)) (Ev.bind (f := fun _ t => some (decide (t ≥ 0))) hr (Ev.now _)) ?_
    rw [hd, not_any]
    exact Ev.now _
  · simp only [h, if_false, decide_false, Bool.and_false]
    exact Ev.now _
theorem good_at {l : List S62} (h : goodB l = true) : l.length ≤ 5 ∧ ∀ (j : Nat), j < l.length → 1 ≤ (rd_T62 l (j : Int)).f0 ∧ (rd_T62 l (j : Int)).f0 ≤ 10 ∧ (rd_T62 l (j : Int)).f0 ≤ (rd_T62 l (j : Int)).f1 ∧ (rd_T62 l (j : Int)).f1 ≤ 40 := by
  unfold goodB at h
  rw [Bool.and_eq_true] at h
  have h8 := of_decide_eq_true h.2
  refine ⟨by omega, fun j hj => ?_⟩
  have h1 := List.all_eq_true.1 h.1 (l[j]) (List.getElem_mem hj)
  have e : rd_T62 l (j : Int) = l[j] := getD_at l j hj _
  rw [e]
  unfold okB at h1
  simp only [Bool.and_eq_true, decide_eq_true_eq] at h1
  obtain ⟨⟨a, b⟩, c, d⟩ := h1
  exact ⟨by omega, by omega, by omega, by omega⟩
def tm (r : Int) (x : S62) : Int := x.f0 * Int.tdiv (r + x.f1 - 1) x.f1
def sumF (r : Int) : List S62 → Int → Int
  | [], n => n
  | x :: l, n => sumF r l (n + tm r x)
def Fine (y : List S62) : Prop := ∀ x ∈ y, 1 ≤ x.f0 ∧ x.f0 ≤ 10 ∧ 1 ≤ x.f1 ∧ x.f1 ≤ 40
theorem tdiv_in {r e : Int} (h0 : 0 ≤ r) (h1 : r ≤ 200) (e0 : 1 ≤ e) (e1 : e ≤ 40) : 0 ≤ Int.tdiv (r + e - 1) e ∧ Int.tdiv (r + e - 1) e ≤ 240 := by
  rw [Int.tdiv_eq_ediv_of_nonneg (by omega)]
  refine ⟨Int.ediv_nonneg (by omega) (by omega), ?_⟩
  have := Int.ediv_le_self (e) (show 0 ≤ r + e - 1 by omega)
  omega
theorem tm_in {r : Int} {x : S62} (h0 : 0 ≤ r) (h1 : r ≤ 200) (hx : 1 ≤ x.f0 ∧ x.f0 ≤ 10 ∧ 1 ≤ x.f1 ∧ x.f1 ≤ 40) : 0 ≤ tm r x ∧ tm r x ≤ 2400 := by
  obtain ⟨a, b, c, d⟩ := hx
  obtain ⟨e, f⟩ := tdiv_in h0 h1 c d
  unfold tm
  refine ⟨Int.mul_nonneg (by omega) e, ?_⟩
  have h2 : x.f0 * Int.tdiv (r + x.f1 - 1) x.f1 ≤ 10 * Int.tdiv (r + x.f1 - 1) x.f1 := Int.mul_le_mul_of_nonneg_right b e
  omega
theorem tm_mono {r s : Int} {x : S62} (h0 : 0 ≤ r) (h : r ≤ s) (hx : 1 ≤ x.f0 ∧ x.f0 ≤ 10 ∧ 1 ≤ x.f1 ∧ x.f1 ≤ 40) : tm r x ≤ tm s x := by
  obtain ⟨a, b, c, d⟩ := hx
  unfold tm
  rw [Int.tdiv_eq_ediv_of_nonneg (by omega), Int.tdiv_eq_ediv_of_nonneg (by omega)]
  exact Int.mul_le_mul_of_nonneg_left (Int.ediv_le_ediv (by omega) (by omega)) (by omega)
theorem sumF_mono {r s : Int} (h0 : 0 ≤ r) (h : r ≤ s) : ∀ (y : List S62), Fine y → ∀ n m : Int, n ≤ m → sumF r y n ≤ sumF s y m
  | [], _, n, m, hn => hn
  | x :: y, hy, n, m, hn => by
    have := tm_mono h0 h (hy x (List.mem_cons_self))
    exact sumF_mono h0 h y (fun z hz => hy z (List.mem_cons_of_mem _ hz)) _ _ (by omega)
theorem sumF_ge {r : Int} (h0 : 0 ≤ r) (h1 : r ≤ 200) : ∀ (y : List S62), Fine y → ∀ n : Int, n ≤ sumF r y n
  | [], _, n => Int.le_refl _
  | x :: y, hy, n => by
    have := (tm_in h0 h1 (hy x (List.mem_cons_self))).1
    have := sumF_ge h0 h1 y (fun z hz => hy z (List.mem_cons_of_mem _ hz)) (n + tm r x)
    unfold sumF
    omega
theorem long_1 (l : List S62) (m r : Int) (h0 : 0 ≤ r) (h1 : r ≤ 200) (y : List S62) (hy : Fine y) (hyl : y.length ≤ 5) : ∀ (d j : Nat) (n : Int), j ≤ y.length → y.length - j = d → 0 ≤ n → n ≤ 10 + 2400 * j →
    (∀ v, Ev (fun k => spec_l6Longest.l1 k l m r (sumF r (y.drop j) n) y (y.length : Int) (y.length : Int)) v → Ev (fun k => spec_l6Longest.l1 k l m r n y (y.length : Int) (j : Int)) v) ∧
    (∀ v, Ev (fun k => impl_longest.l1 k l m r (sumF r (y.drop j) n) y (y.length : Int) (y.length : Int)) v → Ev (fun k => impl_longest.l1 k l m r n y (y.length : Int) (j : Int)) v)
  | 0, j, n, hj, hd, hn0, hn1 => by
    obtain rfl : j = y.length := by omega
    rw [List.drop_length]
    exact ⟨fun v h => h, fun v h => h⟩
  | d + 1, j, n, hj, hd, hn0, hn1 => by
    have hjl : j < y.length := by omega
    have hx := hy y[j] (List.getElem_mem hjl)
    obtain ⟨t0, t1⟩ := tm_in h0 h1 hx
    obtain ⟨q0, q1⟩ := tdiv_in h0 h1 hx.2.2.1 hx.2.2.2
    have e : rd_T62 y (j : Int) = y[j] := getD_at y j hjl _
    obtain ⟨i1, i2⟩ := long_1 l m r h0 h1 y hy hyl d (j + 1) (n + tm r y[j]) (by omega) (by omega) (by omega) (by omega)
    rw [List.drop_eq_getElem_cons hjl]
    refine ⟨fun v h => Ev.step (fun k => ?_) (i1 v h), fun v h => Ev.step (fun k => ?_) (i2 v h)⟩
    · simp only [spec_l6Longest.l1, e]
      rw [if_pos (by omega), if_pos (by omega), if_pos (by omega), if_neg (by omega), w64 (i := r + y[j].f1) (by omega) (by omega), w64 (i := r + y[j].f1 - 1) (by omega) (by omega), w64 (i := Int.tdiv (r + y[j].f1 - 1) y[j].f1) (by omega) (by omega)]
      unfold tm at t0 t1 ⊢
      rw [w64 (i := y[j].f0 * Int.tdiv (r + y[j].f1 - 1) y[j].f1) (by omega) (by omega), w64 (i := n + y[j].f0 * Int.tdiv (r + y[j].f1 - 1) y[j].f1) (by omega) (by omega), w64s hjl (by omega)]
    · simp only [impl_longest.l1, e]
      rw [if_pos (by omega), if_pos (by omega), if_pos (by omega), if_neg (by omega), w64 (i := r + y[j].f1) (by omega) (by omega), w64 (i := r + y[j].f1 - 1) (by omega) (by omega), w64 (i := Int.tdiv (r + y[j].f1 - 1) y[j].f1) (by omega) (by omega)]
      unfold tm at t0 t1 ⊢
      rw [w64 (i := y[j].f0 * Int.tdiv (r + y[j].f1 - 1) y[j].f1) (by omega) (by omega), w64 (i := n + y[j].f0 * Int.tdiv (r + y[j].f1 - 1) y[j].f1) (by omega) (by omega), w64s hjl (by omega)]
def encS : Option Int → Int
  | some r => r
  | none => -1
def encI : Option Int → Int × Bool
  | some r => (r, true)
  | none => (0, false)
theorem long_0 (l : List S62) (hl : l.length ≤ 5) (hy : Fine l) (m : Nat) (hm : m < l.length) (need : Int) (hneed : (rd_T62 l (m : Int)).f0 = need) (hn0 : 1 ≤ need) (hn1 : need ≤ 10) :
    ∀ (d : Nat) (r : Int), 0 ≤ r → 201 - r ≤ d → (r ≤ 200 → r ≤ sumF r (l.take m) need) → ∃ o, Ev (fun k => spec_l6Longest.l0 k l (m : Int) r) (encS o) ∧ Ev (fun k => impl_longest.l0 k l (m : Int) r) (encI o) ∧ ∀ v, o = some v → 0 ≤ v
  | d, r, h0, hd, hF => by
    by_cases h1 : r ≤ 200
    · have hyt : Fine (l.take m) := fun x hx => hy x (List.mem_of_mem_take hx)
      have hlt : (l.take m).length ≤ 5 := by rw [List.length_take]; omega
      obtain ⟨i1, i2⟩ := long_1 l (m : Int) r h0 h1 (l.take m) hyt hlt (l.take m).length 0 need (by omega) rfl (by omega) (by omega)
      rw [List.drop_zero] at i1 i2
      have s1 : ∀ k, spec_l6Longest.l0 (k + 1) l (m : Int) r = spec_l6Longest.l1 k l (m : Int) r need (l.take m) ((l.take m).length : Int) ((0 : Nat) : Int) := fun k => by
        simp only [spec_l6Longest.l0, Option.bind_some, Int.toNat_natCast]
        rw [if_pos h1, if_pos (by omega), if_pos (by omega), if_pos (by omega), hneed]
        rfl
      have s2 : ∀ k, impl_longest.l0 (k + 1) l (m : Int) r = impl_longest.l1 k l (m : Int) r need (l.take m) ((l.take m).length : Int) ((0 : Nat) : Int) := fun k => by
        simp only [impl_longest.l0, Option.bind_some, Int.toNat_natCast]
        rw [if_pos h1, if_pos (by omega), if_pos (by omega), if_pos (by omega), hneed]
        rfl
      by_cases he : sumF r (l.take m) need = r
      · refine ⟨some r, Ev.step s1 (i1 _ (Ev.step (f := fun _ => some r) (fun k => ?_) (Ev.now _))), Ev.step s2 (i2 _ (Ev.step (f := fun _ => some (r, true)) (fun k => ?_) (Ev.now _))), fun v hv => by cases hv; exact h0⟩
        · simp only [spec_l6Longest.l1]
          rw [if_neg (by omega), if_pos he]
        · simp only [impl_longest.l1]
          rw [if_neg (by omega), if_pos he]
      · have hge := hF h1
        match d with
        | 0 => omega
        | d + 1 =>
          obtain ⟨o, a, b, c⟩ := long_0 l hl hy m hm need hneed hn0 hn1 d (sumF r (l.take m) need) (by omega) (by omega) (fun _ => sumF_mono h0 hge _ hyt _ _ (Int.le_refl _))
          refine ⟨o, Ev.step s1 (i1 _ (Ev.step (fun k => ?_) a)), Ev.step s2 (i2 _ (Ev.step (fun k => ?_) b)), c⟩
          · simp only [spec_l6Longest.l1]
            rw [if_neg (by omega), if_neg he]
          · simp only [impl_longest.l1]
            rw [if_neg (by omega), if_neg he]
    · refine ⟨none, Ev.step (f := fun _ => some (-1)) (fun k => ?_) (Ev.now _), Ev.step (f := fun _ => some (0, false)) (fun k => ?_) (Ev.now _), fun v hv => by cases hv⟩
      · simp only [spec_l6Longest.l0]
        rw [if_neg h1]
      · simp only [impl_longest.l0]
        rw [if_neg h1]
theorem fine_of {l : List S62} (hg : goodB l = true) : Fine l := by
  intro x hx
  obtain ⟨j, hj, rfl⟩ := List.getElem_of_mem hx
  obtain ⟨a, b, c, d⟩ := (good_at hg).2 j hj
  have e : rd_T62 l (j : Int) = l[j] := getD_at l j hj _
  rw [e] at a b c d
  exact ⟨a, b, by omega, d⟩
theorem long_ev (l : List S62) (hg : goodB l = true) (m : Nat) (hm : m < l.length) : ∃ o, Ev (fun k => spec_l6Longest.f k l (m : Int)) (encS o) ∧ Ev (fun k => impl_longest.f k l (m : Int)) (encI o) ∧ ∀ v, o = some v → 0 ≤ v := by
  obtain ⟨h5, hat⟩ := good_at hg
  obtain ⟨a, b, _, _⟩ := hat m hm
  have hyt : Fine (l.take m) := fun x hx => fine_of hg x (List.mem_of_mem_take hx)
  obtain ⟨o, e, f, c⟩ := long_0 l h5 (fine_of hg) m hm _ rfl a b 201 (rd_T62 l (m : Int)).f0 (by omega) (by omega) (fun h => sumF_ge (by omega) h _ hyt _)
  refine ⟨o, Ev.congr (fun k => ?_) e, Ev.congr (fun k => ?_) f, c⟩
  · unfold spec_l6Longest.f
    rw [if_pos (by omega), if_pos (by omega)]
  · unfold impl_longest.f
    rw [if_pos (by omega), if_pos (by omega)]
def cvAgain (x : S65) : S62 := ⟨x.f0, x.f1⟩
theorem szAgain_eq (l : List S65) (hl : l.length ≤ maxLen) : laws_szAgainS.f l 1048576 = some (if (l.length : Int) ≤ 1048576 then 1048576 - (l.length : Int) else -1) := by
  unfold laws_szAgainS.f
  unfold maxLen at hl
  rw [w64 (by omega) (by omega)]
  by_cases h : (l.length : Int) ≤ 1048576
  · rw [if_neg (by omega), if_pos h]
  · rw [if_pos (by omega), if_neg h]
theorem toAgain_ev (l : List S65) (hl : l.length ≤ 1048576) : Ev (fun k => laws_toAgainS.f k l) (l.map cvAgain) := by
  refine Ev.congr (fun k => ?_) (fill_ev (fun k x0 x3 x4 => laws_toAgainS.l0 k x0 x3 x4) cvAgain z65 (fun k x0 x3 x4 => rfl) l z62 (by omega))
  unfold laws_toAgainS.f
  rw [if_pos (by omega), if_pos (by omega), Int.toNat_natCast]
theorem eqAgain_ev (l : List S62) (hl : l.length ≤ 1048576) : Ev (fun k => laws_eqAgainS.f k l l) true := by
  refine Ev.congr (fun k => ?_) (eqr_ev (fun k x0 x1 x5 => laws_eqAgainS.l0 k x0 x1 x5) l (fun k j hj => ?_) (fun k => ?_) (by omega))
  · unfold laws_eqAgainS.f
    rw [if_pos rfl]
  · simp only [laws_eqAgainS.l0]
    rw [if_pos (by omega), if_pos (by omega), if_pos (by omega)]
    simp [laws_eqAgain.f]
  · simp [laws_eqAgainS.l0]
theorem both_ev (l : List S62) (n : Int) (hw : (Lit.int .i64 n).wf = true) (hl : l.length ≤ 1048576) : ∃ r, Ev (fun k => spec_LongestOf.f k l n) r ∧ Ev (fun k => impl_LongestOf.f k l n) r := by
  have hn' := wfB hw
  unfold spec_LongestOf.f impl_LongestOf.f spec_l6There.f impl_isOne.f
  simp only [in_eq, Option.bind_some]
  have hs := spec_ev l hl
  have hi := impl_ev l hl
  by_cases hg : goodB l = true
  · obtain ⟨h5, hat⟩ := good_at hg
    rw [hg] at hs hi
    by_cases hn : 0 ≤ n ∧ n < l.length
    · obtain ⟨m, rfl⟩ : ∃ m : Nat, n = m := ⟨n.toNat, by omega⟩
      obtain ⟨o, e, f, c⟩ := long_ev l hg m (by omega)
      have s1 : Ev (fun k => (spec_GoodAgain.f k l).bind fun t => if t = true then if (m : Int) ≥ 0 then some (decide ((m : Int) < (l.length : Int))) else some false else some false) true := by
        refine Ev.bind hs ?_
        simp only [if_true, if_pos hn.1, decide_eq_true hn.2]
        exact Ev.now _
      have s2 : Ev (fun k => (impl_GoodAgain.f k l).bind fun t => if t = true then some (decide ((m : Int) ≥ 0 ∧ (m : Int) ≤ wrap64 ((l.length : Int) - 1))) else some false) true := by
        refine Ev.bind hi ?_
        simp only [if_true, w64 (i := (l.length : Int) - 1) (by omega) (by omega), decide_eq_true (show (m : Int) ≥ 0 ∧ (m : Int) ≤ (l.length : Int) - 1 by omega)]
        exact Ev.now _
      cases o with
      | none =>
        refine ⟨(0, false, true), Ev.bind s1 (Ev.bind e (Ev.now _)), Ev.bind s2 (Ev.bind f (Ev.now _))⟩
      | some v =>
        have hv := c v rfl
        refine ⟨(v, true, true), Ev.bind s1 (Ev.bind e ?_), Ev.bind s2 (Ev.bind f (Ev.now _))⟩
        exact Ev.congr (fun k => if_neg (show ¬ v < 0 by omega)) (Ev.now _)
    · refine ⟨(0, false, false), Ev.bind (a := false) (Ev.bind hs ?_) (Ev.now _), Ev.bind (a := false) (Ev.bind hi ?_) (Ev.now _)⟩
      · by_cases h0 : n ≥ 0
        · simp only [if_true, if_pos h0, decide_eq_false (show ¬ n < (l.length : Int) by omega)]
          exact Ev.now _
        · simp only [if_true, if_neg h0]
          exact Ev.now _
      · simp only [if_true, w64 (i := (l.length : Int) - 1) (by omega) (by omega), decide_eq_false (show ¬ (n ≥ 0 ∧ n ≤ (l.length : Int) - 1) by omega)]
        exact Ev.now _
  · rw [Bool.eq_false_iff.2 hg] at hs hi
    exact ⟨(0, false, false), Ev.bind (Ev.bind hs (Ev.now _)) (Ev.now _), Ev.bind (Ev.bind hi (Ev.now _)) (Ev.now _)⟩
theorem FnExactLongestOf : laws_FnExactLongestOf.Pure := by
  intro l n hl _ hn
  apply Ev.rounds
  unfold laws_FnExactLongestOf.f
  simp only [szAgain_eq l hl, Option.bind_some]
  by_cases h : (l.length : Int) ≤ 1048576
  case neg =>
    simp only [if_neg h]
    exact Ev.now _
  simp only [if_pos h, if_neg (show ¬ (1048576 - (l.length : Int) < 0) by omega)]
  have hl' : l.length ≤ 1048576 := by omega
  have hm : (l.map cvAgain).length ≤ 1048576 := by simpa using hl'
  have hto := toAgain_ev l hl'
  have heq := eqAgain_ev (l.map cvAgain) hm
  generalize l.map cvAgain = x at hto heq hm
  refine Ev.bind hto ?_
  obtain ⟨r, h1, h2⟩ := both_ev x n hn hm
  refine Ev.bind h1 (Ev.bind hto (Ev.bind h2 ?_))
  simp only [if_true, bne_self_eq_false, Bool.false_eq_true, if_false]
  refine Ev.step (f := fun k => (laws_toAgainS.f k l).bind fun t => (laws_eqAgainS.f k x t).bind fun u => if u = true then some true else some false) (fun k => rfl) ?_
  exact Ev.bind hto (Ev.bind heq (Ev.now _))

end Go.Proofs.Ytmffllogaboklac.Pure
