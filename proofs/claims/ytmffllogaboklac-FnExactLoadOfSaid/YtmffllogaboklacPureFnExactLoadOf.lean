/- The pure statement of the law FnExactLoadOf: over lists and numbers the law's function answers true. No conditions beyond those typed. -/
import Derived.Test.YtmffllogaboklacY2
import Derived.Test.YtmffllogaboklacLib
namespace Go.Proofs.Ytmffllogaboklac.Pure
open Go.RowKit Go.Proofs.Ytmffllogaboklac.Y Go.Proofs.YtmffllogaboklacW.PrintWords Go.Proofs.YtmffllogaboklacLib
set_option linter.unusedVariables false
set_option linter.unusedSimpArgs false

theorem in_eq (x y z : Int) : impl_in.f x y z = some (decide (x ≥ y ∧ x ≤ z)) := by
  unfold impl_in.f
  by_cases h : x ≥ y <;> simp only [h, if_true, if_false, true_and, false_and, decide_false]
theorem sin_eq (x y z : Int) : spec_l1In.f x y z = some (decide (x ≥ y ∧ x ≤ z)) := by
  unfold spec_l1In.f
  by_cases h : x ≥ y <;> simp only [h, if_true, if_false, true_and, false_and, decide_false]
def okB (x : S62) : Bool := decide (x.f0 ≥ 1 ∧ x.f0 ≤ 10) && decide (x.f1 ≥ x.f0 ∧ x.f1 ≤ 40)
def goodB (l : List S62) : Bool := l.all okB && decide ((l.length : Int) ≤ 5)
theorem spec_ev (l : List S62) (hl : l.length ≤ 1048576) : Ev (fun k => spec_GoodAgain.f k l) (goodB l) := by
  refine Ev.congr (fun k => rfl) (all_ev (fun k i => spec_GoodAgain.l0 k l l (l.length : Int) i) okB _ l (by omega) (fun k j hj => ?_) (fun k => ?_))
  · simp only [spec_GoodAgain.l0, sin_eq, Option.bind_some]
    rw [if_pos (by omega), if_pos (by omega), if_pos (by omega)]
    simp only [rd_T62, getD_at l j hj, okB]
    generalize l[j] = x
    by_cases h1 : x.f0 ≥ 1 ∧ x.f0 ≤ 10 <;> by_cases h2 : x.f1 ≥ x.f0 ∧ x.f1 ≤ 40 <;> simp [h1, h2]
  · simp [spec_GoodAgain.l0]
theorem idx_ev (l : List S62) (hl : l.length ≤ 1048576) : ∃ r, Ev (fun k => impl_Again_70.f k l) r ∧ decide (r ≥ 0) = l.any fun x => !okB x := by
  refine any_ev (fun k i => impl_Again_70.l0 k l (l.length : Int) i) (fun x => !okB x) l (by omega) (fun k j hj => ?_) (fun k => ?_)
  · simp only [impl_Again_70.l0, impl_GoodAgain_1.f, in_eq, Option.bind_some]
    rw [if_pos (by omega), if_pos (by omega), if_pos (by omega)]
    simp only [rd_T62, getD_at l j hj, okB]
    generalize l[j] = x
    by_cases h1 : x.f0 ≥ 1 ∧ x.f0 ≤ 10 <;> by_cases h2 : x.f1 ≥ x.f0 ∧ x.f1 ≤ 40 <;> simp [h1, h2]
  · simp [impl_Again_70.l0]
theorem impl_ev (l : List S62) (hl : l.length ≤ 1048576) : Ev (fun k => impl_GoodAgain.f k l) (goodB l) := by
  unfold impl_GoodAgain.f impl_Again_65.f goodB
  by_cases h : (l.length : Int) ≤ 5
  · simp only [h, if_true, decide_true, Bool.and_true]
    obtain ⟨r, hr, hd⟩ := idx_ev l hl
    refine Ev.bind (f := fun _ t => some (!t)) (a := decide (r ≥ 0)) (Ev.bind (f := fun _ t => some (decide (t ≥ 0))) hr (Ev.now _)) ?_
    rw [hd, not_any]
    exact Ev.now _
  · simp only [h, if_false, decide_false, Bool.and_false]
    exact Ev.now _
theorem good_at {l : List S62} (h : goodB l = true) : l.length ≤ 5 ∧ ∀ (j : Nat), j < l.length → 1 ≤ (rd_T62 l (j : Int)).f0 ∧ (rd_T62 l (j : Int)).f0 ≤ 10 ∧ (rd_T62 l (j : Int)).f0 ≤ (rd_T62 l (j : Int)).f1 ∧ (rd_T62 l (j : Int)).f1 ≤ 40 := by
  unfold goodB at h
  rw [Bool.and_eq_true] at h
  have h8 := of_decide_eq_true h.2
  refine ⟨by omega, fun j hj => ?_⟩
  have h1 := List.all_eq_true.1 h.1 (l[j]) (List.getElem_mem hj)
  have e : rd_T62 l (j : Int) = l[j] := getD_at l j hj _
  rw [e]
  unfold okB at h1
  simp only [Bool.and_eq_true, decide_eq_true_eq] at h1
  obtain ⟨⟨a, b⟩, c, d⟩ := h1
  exact ⟨by omega, by omega, by omega, by omega⟩
def cvAgain (x : S65) : S62 := ⟨x.f0, x.f1⟩
theorem szAgain_eq (l : List S65) (hl : l.length ≤ maxLen) : laws_szAgainS.f l 1048576 = some (if (l.length : Int) ≤ 1048576 then 1048576 - (l.length : Int) else -1) := by
  unfold laws_szAgainS.f
  unfold maxLen at hl
  rw [w64 (by omega) (by omega)]
  by_cases h : (l.length : Int) ≤ 1048576
  · rw [if_neg (by omega), if_pos h]
  · rw [if_pos (by omega), if_neg h]
theorem toAgain_ev (l : List S65) (hl : l.length ≤ 1048576) : Ev (fun k => laws_toAgainS.f k l) (l.map cvAgain) := by
  refine Ev.congr (fun k => ?_) (fill_ev (fun k x0 x3 x4 => laws_toAgainS.l0 k x0 x3 x4) cvAgain z65 (fun k x0 x3 x4 => rfl) l z62 (by omega))
  unfold laws_toAgainS.f
  rw [if_pos (by omega), if_pos (by omega), Int.toNat_natCast]
theorem eqAgain_ev (l : List S62) (hl : l.length ≤ 1048576) : Ev (fun k => laws_eqAgainS.f k l l) true := by
  refine Ev.congr (fun k => ?_) (eqr_ev (fun k x0 x1 x5 => laws_eqAgainS.l0 k x0 x1 x5) l (fun k j hj => ?_) (fun k => ?_) (by omega))
  · unfold laws_eqAgainS.f
    rw [if_pos rfl]
  · simp only [laws_eqAgainS.l0]
    rw [if_pos (by omega), if_pos (by omega), if_pos (by omega)]
    simp [laws_eqAgain.f]
  · simp [laws_eqAgainS.l0]
theorem gcd_ev : ∀ (n : Nat) (a b : Int), 0 ≤ a → 1 ≤ b → b ≤ n → ∃ g, 1 ≤ g ∧ g ≤ b ∧ Ev (fun k => spec_l6Gcd.l0 k a b) g ∧ Ev (fun k => impl_divisor.l0 k a b) g
  | 0, a, b, ha, h1, hn => by omega
  | n + 1, a, b, ha, h1, hn => by
    have e : Int.tmod a b = a % b := Int.tmod_eq_emod_of_nonneg ha
    have m0 : 0 ≤ a % b := Int.emod_nonneg a (by omega)
    have m1 : a % b < b := Int.emod_lt_of_pos a (by omega)
    have s1 : ∀ k, spec_l6Gcd.l0 (k + 1) a b = spec_l6Gcd.l0 k b (a % b) := fun k => by
      rw [← e]
      simp only [spec_l6Gcd.l0]
      rw [if_pos (by omega), if_neg (by omega)]
    have s2 : ∀ k, impl_divisor.l0 (k + 1) a b = impl_divisor.l0 k b (a % b) := fun k => by
      rw [← e]
      simp only [impl_divisor.l0]
      rw [if_neg (by omega)]
    by_cases z : a % b = 0
    · refine ⟨b, h1, Int.le_refl _, Ev.step s1 (Ev.step (f := fun _ => some b) (fun k => ?_) (Ev.now _)), Ev.step s2 (Ev.step (f := fun _ => some b) (fun k => ?_) (Ev.now _))⟩
      · simp only [spec_l6Gcd.l0]
        rw [if_neg (by omega)]
      · simp only [impl_divisor.l0]
        rw [if_pos z]
    · obtain ⟨g, g1, g2, h, i⟩ := gcd_ev n b (a % b) (by omega) (by omega) (by omega)
      exact ⟨g, g1, by omega, Ev.step s1 h, Ev.step s2 i⟩
theorem pow_ok : ∀ j : Nat, j ≤ 5 → (1 : Int) ≤ 50 ^ j ∧ (50 : Int) ^ j ≤ 312500000
  | 0, _ => by decide
  | 1, _ => by decide
  | 2, _ => by decide
  | 3, _ => by decide
  | 4, _ => by decide
  | 5, _ => by decide
  | n + 6, h => by omega
theorem load_l (l : List S62) (hg : goodB l = true) : ∀ (d j : Nat) (u v : Int), j ≤ l.length → l.length - j = d → 0 ≤ u → u ≤ 50 ^ j → 1 ≤ v → v ≤ 50 ^ j →
    ∃ r, Ev (fun k => spec_LoadOf.l0 k u v l (l.length : Int) (j : Int)) r ∧ Ev (fun k => impl_LoadOf.l0 k u v l (l.length : Int) (j : Int)) r
  | 0, j, u, v, hj, hd, u0, u1, v0, v1 => by
    refine ⟨(u, v, true), Ev.step (f := fun _ => some (u, v, true)) (fun k => ?_) (Ev.now _), Ev.step (f := fun _ => some (u, v, true)) (fun k => ?_) (Ev.now _)⟩
    · simp only [spec_LoadOf.l0]
      rw [if_neg (by omega)]
    · simp only [impl_LoadOf.l0]
      rw [if_neg (by omega)]
  | d + 1, j, u, v, hj, hd, u0, u1, v0, v1 => by
    obtain ⟨h5, hat⟩ := good_at hg
    have hj2 : j < l.length := by omega
    obtain ⟨a, b, c, e⟩ := hat j hj2
    obtain ⟨p0, p1⟩ := pow_ok j (by omega)
    have hp : (50 : Int) ^ (j + 1) = 50 ^ j * 50 := Int.pow_succ ..
    revert a b c e
    generalize hx : rd_T62 l (j : Int) = x
    intro a b c e
    have q1 : u * x.f1 ≤ u * 40 := Int.mul_le_mul_of_nonneg_left (by omega) u0
    have q2 : 0 ≤ u * x.f1 := Int.mul_nonneg u0 (by omega)
    have q3 : x.f0 * v ≤ 10 * v := Int.mul_le_mul_of_nonneg_right (by omega) (by omega)
    have q4 : 0 ≤ x.f0 * v := Int.mul_nonneg (by omega) (by omega)
    have q5 : v * x.f1 ≤ v * 40 := Int.mul_le_mul_of_nonneg_left (by omega) (by omega)
    have q6 : v * 1 ≤ v * x.f1 := Int.mul_le_mul_of_nonneg_left (by omega) (by omega)
    obtain ⟨g, g1, g2, i1, i2⟩ := gcd_ev (v * x.f1).toNat (u * x.f1 + x.f0 * v) (v * x.f1) (by omega) (by omega) (by omega)
    have t1 : Int.tdiv (u * x.f1 + x.f0 * v) g = (u * x.f1 + x.f0 * v) / g := Int.tdiv_eq_ediv_of_nonneg (by omega)
    have t2 : Int.tdiv (v * x.f1) g = v * x.f1 / g := Int.tdiv_eq_ediv_of_nonneg (by omega)
    have t3 : 0 ≤ (u * x.f1 + x.f0 * v) / g := Int.ediv_nonneg (by omega) (by omega)
    have t4 : (u * x.f1 + x.f0 * v) / g ≤ u * x.f1 + x.f0 * v := Int.ediv_le_self g (by omega)
    have t5 : v * x.f1 / g ≤ v * x.f1 := Int.ediv_le_self g (by omega)
    have t6 : 1 ≤ v * x.f1 / g := (Int.le_ediv_iff_mul_le (by omega)).2 (by omega)
    obtain ⟨r, k1, k2⟩ := load_l l hg d (j + 1) ((u * x.f1 + x.f0 * v) / g) (v * x.f1 / g) (by omega) (by omega) t3 (by omega) t6 (by omega)
    refine ⟨r, Ev.step (f := fun k => (spec_l6Gcd.l0 k (u * x.f1 + x.f0 * v) (v * x.f1)).bind fun t => if t = 0 then none else spec_LoadOf.l0 k (wrap64 (Int.tdiv (u * x.f1 + x.f0 * v) t)) (wrap64 (Int.tdiv (v * x.f1) t)) l (l.length : Int) ((j + 1 : Nat) : Int)) (fun k => ?_) (Ev.bind i1 ?_), Ev.step (f := fun k => (impl_divisor.l0 k (u * x.f1 + x.f0 * v) (v * x.f1)).bind fun t => if t = 0 then none else impl_LoadOf.l0 k (wrap64 (Int.tdiv (u * x.f1 + x.f0 * v) t)) (wrap64 (Int.tdiv (v * x.f1) t)) l (l.length : Int) ((j + 1 : Nat) : Int)) (fun k => ?_) (Ev.bind i2 ?_)⟩
    · simp only [spec_LoadOf.l0, spec_l6Gcd.f, hx]
      rw [if_pos (by omega), if_pos (by omega), if_pos (by omega), w64 (i := u * x.f1) (by omega) (by omega), w64 (i := x.f0 * v) (by omega) (by omega), w64 (i := u * x.f1 + x.f0 * v) (by omega) (by omega), w64 (i := v * x.f1) (by omega) (by omega), w64s hj2 (by omega)]
    · simp only [if_neg (show ¬ g = 0 by omega)]
      rw [t1, t2, w64 (by omega) (by omega), w64 (by omega) (by omega)]
      exact k1
    · simp only [impl_LoadOf.l0, impl_divisor.f, hx]
      rw [if_pos (by omega), if_pos (by omega), if_pos (by omega), w64 (i := u * x.f1) (by omega) (by omega), w64 (i := x.f0 * v) (by omega) (by omega), w64 (i := u * x.f1 + x.f0 * v) (by omega) (by omega), w64 (i := v * x.f1) (by omega) (by omega), w64s hj2 (by omega)]
    · simp only [if_neg (show ¬ g = 0 by omega)]
      rw [t1, t2, w64 (by omega) (by omega), w64 (by omega) (by omega)]
      exact k2
theorem both_ev (l : List S62) (hl : l.length ≤ 1048576) : ∃ r, Ev (fun k => spec_LoadOf.f k l) r ∧ Ev (fun k => impl_LoadOf.f k l) r := by
  unfold spec_LoadOf.f impl_LoadOf.f
  have hs := spec_ev l hl
  have hi := impl_ev l hl
  by_cases hg : goodB l = true
  · rw [hg] at hs hi
    obtain ⟨r, a, b⟩ := load_l l hg l.length 0 0 1 (by omega) rfl (by omega) (by omega) (by omega) (by decide)
    exact ⟨r, Ev.bind hs a, Ev.bind hi b⟩
  · rw [Bool.eq_false_iff.2 hg] at hs hi
    exact ⟨(0, 0, false), Ev.bind hs (Ev.now _), Ev.bind hi (Ev.now _)⟩
theorem FnExactLoadOf : laws_FnExactLoadOf.Pure := by
  intro l hl _
  apply Ev.rounds
  unfold laws_FnExactLoadOf.f
  simp only [szAgain_eq l hl, Option.bind_some]
  by_cases h : (l.length : Int) ≤ 1048576
  case neg =>
    simp only [if_neg h]
    exact Ev.now _
  simp only [if_pos h, if_neg (show ¬ (1048576 - (l.length : Int) < 0) by omega)]
  have hl' : l.length ≤ 1048576 := by omega
  have hm : (l.map cvAgain).length ≤ 1048576 := by simpa using hl'
  have hto := toAgain_ev l hl'
  have heq := eqAgain_ev (l.map cvAgain) hm
  generalize l.map cvAgain = x at hto heq hm
  refine Ev.bind hto ?_
  obtain ⟨r, h1, h2⟩ := both_ev x hm
  refine Ev.bind h1 (Ev.bind hto (Ev.bind h2 ?_))
  simp only [if_true, bne_self_eq_false, Bool.false_eq_true, if_false]
  refine Ev.step (f := fun k => (laws_toAgainS.f k l).bind fun t => (laws_eqAgainS.f k x t).bind fun u => if u = true then some true else some false) (fun k => rfl) ?_
  exact Ev.bind hto (Ev.bind heq (Ev.now _))

end Go.Proofs.Ytmffllogaboklac.Pure
