/- Loops of the printed functions in closed form, for whatever loop has the form that is typed. No conditions beyond those typed. -/
import Derived.Test.YtobnbhkfbdlioaaWMore
namespace Go.Proofs.YtobnbhkfbdlioaaLib
open Go.RowKit Go.Proofs.YtobnbhkfbdlioaaW.PrintWords

theorem w64 {i : Int} (h0 : -9223372036854775808 ≤ i) (h1 : i ≤ 9223372036854775807) : wrap64 i = i := by unfold wrap64; omega
theorem w64s {j n : Nat} (h : j < n) (hn : n ≤ 1000000000000) : wrap64 ((j : Int) + 1) = ((j + 1 : Nat) : Int) := by rw [w64 (by omega) (by omega)]; omega
theorem wfB {a : Int} (h : (Lit.int .i64 a).wf = true) : -9223372036854775808 ≤ a ∧ a ≤ 9223372036854775807 := by
  simp [Lit.wf, IntKind.min, IntKind.max, IntKind.signed, IntKind.bits] at h
  omega

/-- A loop over places, from j on, whose answer is r. -/
theorem loop_ev {σ ρ : Type} (L : Nat → σ → Int → Option ρ) (n : Nat) (Inv : Nat → σ → Prop) (r : ρ)
    (step : ∀ j s, j < n → Inv j s → (∀ s', Inv (j + 1) s' → Ev (fun k => L k s' ((j + 1 : Nat) : Int)) r) → Ev (fun k => L k s (j : Int)) r)
    (stop : ∀ s, Inv n s → Ev (fun k => L k s (n : Int)) r) (s : σ) (j : Nat) (hj : j ≤ n) (h : Inv j s) : Ev (fun k => L k s (j : Int)) r := by
  induction hd : n - j generalizing j s with
  | zero =>
    obtain rfl : j = n := by omega
    exact stop s h
  | succ d ih => exact step j s (by omega) h (fun s' h' => ih s' (j + 1) (by omega) h' (by omega))

theorem set_fill {α β : Type} (cv : α → β) (z : β) (l : List α) (j : Nat) (hj : j < l.length) (x : α) (hx : l[j] = x) :
    ((l.take j).map cv ++ List.replicate (l.length - j) z).set j (cv x) = (l.take (j + 1)).map cv ++ List.replicate (l.length - (j + 1)) z := by
  have hl : ((l.take j).map cv).length = j := by simp; omega
  rw [List.set_append_right _ _ (by omega), hl, Nat.sub_self, List.take_succ_eq_append_getElem hj, List.map_append, List.append_assoc]
  have : l.length - j = (l.length - (j + 1)) + 1 := by omega
  rw [this, List.replicate_succ, List.set_cons_zero, hx]
  rfl

/-- A list made element by element. -/
theorem fill_ev {α β : Type} (L : Nat → List α → List β → Int → Option (List β)) (cv : α → β) (za : α)
    (step : ∀ k x0 x3 (x4 : Int), L (k + 1) x0 x3 x4 = if x4 < (x0.length : Int) then (if 0 ≤ x4 then (if x4 < (x3.length : Int) then L k x0 (x3.set x4.toNat (cv (x0.getD x4.toNat za))) (wrap64 (x4 + 1)) else none) else none) else some x3)
    (l : List α) (z : β) (hl : l.length ≤ 1000000000000) : Ev (fun k => L k l (List.replicate l.length z) 0) (l.map cv) := by
  refine loop_ev (fun k (s : List β) i => L k l s i) l.length (fun j s => s = (l.take j).map cv ++ List.replicate (l.length - j) z) (l.map cv) ?_ ?_ (List.replicate l.length z) 0 (Nat.zero_le _) (by simp)
  · intro j s hj hs ih
    have hlen : s.length = l.length := by rw [hs]; simp; omega
    refine Ev.step (f := fun k => L k l (s.set j (cv (l.getD j za))) ((j + 1 : Nat) : Int)) (fun k => ?_) (ih _ ?_)
    · simp only [step]
      rw [if_pos (by omega), if_pos (by omega), if_pos (by omega), w64s hj hl, Int.toNat_natCast]
    · rw [hs]
      refine set_fill cv z l j hj _ ?_
      simp [List.getD_eq_getElem?_getD, List.getElem?_eq_getElem hj]
  · intro s hs
    refine Ev.step (f := fun _ => some (l.map cv)) (fun k => ?_) (Ev.now _)
    simp only [step]
    rw [if_neg (by omega), hs]
    simp

/-- A list held against itself, element by element. -/
theorem eqr_ev {β : Type} (L : Nat → List β → List β → Int → Option Bool) (l : List β)
    (step : ∀ k (j : Nat), j < l.length → L (k + 1) l l (j : Int) = L k l l (wrap64 ((j : Int) + 1)))
    (stop : ∀ k, L (k + 1) l l (l.length : Int) = some true) (hl : l.length ≤ 1000000000000) : Ev (fun k => L k l l 0) true := by
  refine loop_ev (fun k (_ : Unit) i => L k l l i) l.length (fun _ _ => True) true ?_ ?_ () 0 (Nat.zero_le _) trivial
  · intro j s hj _ ih
    refine Ev.step (f := fun k => L k l l ((j + 1 : Nat) : Int)) (fun k => ?_) (ih () trivial)
    show L (k + 1) l l (j : Int) = _
    rw [step k j hj, w64s hj hl]
  · intro s _
    exact Ev.step (f := fun _ => some true) (fun k => stop k) (Ev.now _)

/-- A list marked element by element. -/
theorem mark_ev {β : Type} (L : Nat → List β → Int → Int → Option (Int × List β)) (c : Nat) (mk : Int → β) (m : Int) (hm : 0 ≤ m) (hm2 : m ≤ 1000000000) (hc : c ≤ 1000)
    (step : ∀ k (x0 : List β) (x1 : Int) (j : Nat), j < x0.length → 0 ≤ x1 → x1 ≤ 1000000000000000000 → L (k + 1) x0 x1 (j : Int) = L k (x0.set j (mk x1)) (x1 + c) (wrap64 ((j : Int) + 1)))
    (stop : ∀ k (x0 : List β) (x1 : Int), L (k + 1) x0 x1 (x0.length : Int) = some (x1, x0)) (l : List β) (hl : l.length ≤ 1000000000000) :
    Ev (fun k => L k l m 0) (m + c * l.length, (List.range l.length).map fun j : Nat => mk (m + (c : Int) * (j : Int))) := by
  refine loop_ev (fun k (s : List β × Int) i => L k s.1 s.2 i) l.length (fun j s => s.1 = ((List.range j).map fun j : Nat => mk (m + (c : Int) * (j : Int))) ++ l.drop j ∧ s.2 = m + c * j) _ ?_ ?_ (l, m) 0 (Nat.zero_le _) (by simp)
  · rintro j ⟨x0, x1⟩ hj ⟨h1, h2⟩ ih
    dsimp only at h1 h2
    have hlen : x0.length = l.length := by rw [h1]; simp; omega
    have hcj : (c : Int) * j ≤ 1000 * 1000000000000 := by
      have : (c : Int) * j ≤ 1000 * j := Int.mul_le_mul_of_nonneg_right (by omega) (by omega)
      omega
    have hcj0 : 0 ≤ (c : Int) * j := Int.mul_nonneg (by omega) (by omega)
    refine Ev.step (f := fun k => L k (x0.set j (mk x1)) (x1 + c) ((j + 1 : Nat) : Int)) (fun k => ?_) (ih (x0.set j (mk x1), x1 + c) ⟨?_, ?_⟩)
    · show L (k + 1) x0 x1 (j : Int) = _
      rw [step k x0 x1 j (by omega) (by omega) (by omega), w64s hj hl]
    · show x0.set j (mk x1) = _
      rw [h1, List.set_append_right _ _ (by simp), List.length_map, List.length_range, Nat.sub_self, List.range_succ, List.map_append, List.append_assoc, List.drop_eq_getElem_cons hj, List.set_cons_zero, h2]
      rfl
    · show x1 + c = _
      rw [h2, Int.natCast_add, Int.mul_add]
      omega
  · rintro ⟨x0, x1⟩ ⟨h1, h2⟩
    dsimp only at h1 h2
    have hlen : x0.length = l.length := by rw [h1]; simp
    refine Ev.step (f := fun _ => some (x1, x0)) (fun k => ?_) ?_
    · show L (k + 1) x0 x1 (l.length : Int) = _
      rw [← hlen]
      exact stop k x0 x1
    · rw [h1, h2, List.drop_length, List.append_nil]
      exact Ev.now _

/-- A marked list, held against its marks. -/
theorem held_ev {β : Type} (L : Nat → List β → Int → Int → Option Int) (c : Nat) (mk : Int → β) (m : Int) (hm : 0 ≤ m) (hm2 : m ≤ 1000000000) (hc : c ≤ 1000)
    (step : ∀ k (x0 : List β) (x1 : Int) (j : Nat), x0[j]? = some (mk x1) → j < x0.length → 0 ≤ x1 → x1 ≤ 1000000000000000000 → L (k + 1) x0 x1 (j : Int) = L k x0 (x1 + c) (wrap64 ((j : Int) + 1)))
    (stop : ∀ k (x0 : List β) (x1 : Int), L (k + 1) x0 x1 (x0.length : Int) = some x1) (n : Nat) (hn : n ≤ 1000000000000) :
    Ev (fun k => L k ((List.range n).map fun j : Nat => mk (m + (c : Int) * (j : Int))) m 0) (m + c * n) := by
  refine loop_ev (fun k (s : Int) i => L k ((List.range n).map fun j : Nat => mk (m + (c : Int) * (j : Int))) s i) n (fun j s => s = m + c * j) _ ?_ ?_ m 0 (Nat.zero_le _) (by simp)
  · intro j s hj hs ih
    have hcj : (c : Int) * j ≤ 1000 * 1000000000000 := by
      have : (c : Int) * j ≤ 1000 * j := Int.mul_le_mul_of_nonneg_right (by omega) (by omega)
      omega
    have hcj0 : 0 ≤ (c : Int) * j := Int.mul_nonneg (by omega) (by omega)
    refine Ev.step (f := fun k => L k ((List.range n).map fun j : Nat => mk (m + (c : Int) * (j : Int))) (s + c) ((j + 1 : Nat) : Int)) (fun k => ?_) (ih (s + c) ?_)
    · show L (k + 1) _ s (j : Int) = _
      rw [step k _ s j (by rw [hs]; simp [hj]) (by simpa using hj) (by omega) (by omega), w64s hj hn]
    · rw [hs, Int.natCast_add, Int.mul_add]
      omega
  · intro s hs
    refine Ev.step (f := fun _ => some (m + c * n)) (fun k => ?_) (Ev.now _)
    have := stop k ((List.range n).map fun j : Nat => mk (m + (c : Int) * (j : Int))) s
    rw [List.length_map, List.length_range] at this
    show L (k + 1) _ s (n : Int) = _
    rw [this, hs]

/-- The first place of which p holds, or -1. -/
theorem any_ev {β : Type} (L : Nat → Int → Option Int) (p : β → Bool) (l : List β) (hl : l.length ≤ 1000000000000)
    (step : ∀ k (j : Nat) (h : j < l.length), L (k + 1) (j : Int) = if p l[j] = true then some (j : Int) else L k (wrap64 ((j : Int) + 1)))
    (stop : ∀ k, L (k + 1) (l.length : Int) = some (-1)) : ∃ r, Ev (fun k => L k 0) r ∧ decide (r ≥ 0) = l.any p := by
  have key : ∀ d j, j ≤ l.length → l.length - j = d → ∃ r, Ev (fun k => L k (j : Int)) r ∧ decide (r ≥ 0) = (l.drop j).any p := by
    intro d
    induction d with
    | zero =>
      intro j hj hd
      obtain rfl : j = l.length := by omega
      exact ⟨-1, Ev.step (f := fun _ => some (-1)) (fun k => stop k) (Ev.now _), by simp⟩
    | succ d ih =>
      intro j hj hd
      have hjl : j < l.length := by omega
      rw [List.drop_eq_getElem_cons hjl, List.any_cons]
      by_cases hp : p l[j] = true
      · refine ⟨j, Ev.step (f := fun _ => some (j : Int)) (fun k => ?_) (Ev.now _), ?_⟩
        · rw [step k j hjl, if_pos hp]
        · simp [hp]
      · obtain ⟨r, hr, hd'⟩ := ih (j + 1) (by omega) (by omega)
        refine ⟨r, Ev.step (f := fun k => L k ((j + 1 : Nat) : Int)) (fun k => ?_) hr, ?_⟩
        · rw [step k j hjl, if_neg hp, w64s hjl hl]
        · rw [hd']
          simp [hp]
  exact key l.length 0 (Nat.zero_le _) rfl

/-- Whether p holds of all, and R behind it. -/
theorem all_ev {β : Type} (L : Nat → Int → Option Bool) (p : β → Bool) (R : Bool) (l : List β) (hl : l.length ≤ 1000000000000)
    (step : ∀ k (j : Nat) (h : j < l.length), L (k + 1) (j : Int) = if p l[j] = true then L k (wrap64 ((j : Int) + 1)) else some false)
    (stop : ∀ k, L (k + 1) (l.length : Int) = some R) : Ev (fun k => L k 0) (l.all p && R) := by
  have key : ∀ d j, j ≤ l.length → l.length - j = d → Ev (fun k => L k (j : Int)) ((l.drop j).all p && R) := by
    intro d
    induction d with
    | zero =>
      intro j hj hd
      obtain rfl : j = l.length := by omega
      refine Ev.step (f := fun _ => some R) (fun k => stop k) ?_
      simp only [List.drop_length, List.all_nil, Bool.true_and]
      exact Ev.now _
    | succ d ih =>
      intro j hj hd
      have hjl : j < l.length := by omega
      rw [List.drop_eq_getElem_cons hjl, List.all_cons]
      by_cases hp : p l[j] = true
      · refine Ev.step (f := fun k => L k ((j + 1 : Nat) : Int)) (fun k => ?_) ?_
        · rw [step k j hjl, if_pos hp, w64s hjl hl]
        · rw [hp, Bool.true_and]
          exact ih (j + 1) (by omega) (by omega)
      · refine Ev.step (f := fun _ => some false) (fun k => ?_) ?_
        · rw [step k j hjl, if_neg hp]
        · simp only [Bool.eq_false_iff.2 hp, Bool.false_and]
          exact Ev.now _
  exact key l.length 0 (Nat.zero_le _) rfl
/-- The same by places. -/
theorem allI_ev (L : Nat → Int → Option Bool) (n : Nat) (p : Nat → Bool) (R : Bool) (hl : n ≤ 1000000000000)
    (step : ∀ k (j : Nat), j < n → L (k + 1) (j : Int) = if p j = true then L k (wrap64 ((j : Int) + 1)) else some false)
    (stop : ∀ k, L (k + 1) (n : Int) = some R) : Ev (fun k => L k 0) ((List.range n).all p && R) := by
  refine all_ev L p R (List.range n) (by simpa using hl) (fun k j hj => ?_) (fun k => ?_)
  · rw [List.getElem_range]
    exact step k j (by simpa using hj)
  · rw [List.length_range]
    exact stop k
theorem getD_at {β : Type} (l : List β) (j : Nat) (h : j < l.length) (z : β) : l.getD ((j : Int)).toNat z = l[j] := by
  rw [Int.toNat_natCast, List.getD_eq_getElem?_getD, List.getElem?_eq_getElem h]
  rfl
theorem not_any {β : Type} (l : List β) (p : β → Bool) : (!l.any fun x => !p x) = l.all p := by
  induction l with
  | nil => rfl
  | cons x l ih => rw [List.any_cons, List.all_cons, ← ih]; cases p x <;> simp
end Go.Proofs.YtobnbhkfbdlioaaLib
