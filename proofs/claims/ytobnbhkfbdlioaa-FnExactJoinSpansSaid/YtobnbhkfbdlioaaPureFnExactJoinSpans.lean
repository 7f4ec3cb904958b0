/- The pure statement of the law FnExactJoinSpans: over lists and numbers the law's function answers true. No conditions beyond those typed. -/
import Derived.Test.YtobnbhkfbdlioaaSj10
import Derived.Test.YtobnbhkfbdlioaaLib
namespace Go.Proofs.Ytobnbhkfbdlioaa.Pure
open Go.RowKit Go.Proofs.Ytobnbhkfbdlioaa.Sj Go.Proofs.YtobnbhkfbdlioaaW.PrintWords Go.Proofs.YtobnbhkfbdlioaaLib
set_option linter.unusedVariables false
set_option linter.unusedSimpArgs false

def spB (x : S30) : Bool := decide (x.f0 ≥ 0) && (decide (x.f0 < x.f1) && decide (x.f1 ≤ 1000000))
theorem sspan_eq (x : S30) : spec_l2Span.f x.f0 x.f1 = some (spB x) := by
  unfold spec_l2Span.f spB
  by_cases h1 : x.f0 ≥ 0 <;> by_cases h2 : x.f0 < x.f1 <;> simp [h1, h2]
theorem span_eq (x : S30) : impl_isSpan.f x.f0 x.f1 = some (spB x) := by
  unfold impl_isSpan.f spB
  by_cases h1 : x.f0 ≥ 0 <;> by_cases h2 : x.f0 < x.f1 <;> simp [h1, h2]
/-- What is asked at place j. -/
def atB (l : List S30) (j : Nat) : Bool := spB (rd_T30 l (j : Int)) && (decide (j = 0) || decide ((rd_T30 l ((j : Int) - 1)).f1 < (rd_T30 l (j : Int)).f0))
def goodB (l : List S30) : Bool := (List.range l.length).all (atB l) && decide ((l.length : Int) ≤ 20)
theorem sgood_ev (l : List S30) (hl : l.length ≤ 1048576) : Ev (fun k => spec_GoodSpans.f k l) (goodB l) := by
  refine Ev.congr (fun k => rfl) (allI_ev (fun k i => spec_GoodSpans.l0 k l l (l.length : Int) i) l.length (atB l) _ (by omega) (fun k j hj => ?_) (fun k => ?_))
  · simp only [spec_GoodSpans.l0, sspan_eq, Option.bind_some]
    rw [if_pos (by omega), if_pos (by omega), if_pos (by omega)]
    by_cases h1 : spB (rd_T30 l (j : Int)) = true
    · rw [if_pos h1]
      by_cases h0 : j = 0
      · have hA : atB l j = true := by
          unfold atB
          rw [h1, decide_eq_true h0]
          rfl
        rw [if_pos hA, if_neg (by omega)]
      · rw [if_pos (by omega), w64 (by omega) (by omega), if_pos (by omega), if_pos (by omega)]
        by_cases h2 : (rd_T30 l ((j : Int) - 1)).f1 < (rd_T30 l (j : Int)).f0
        · have hA : atB l j = true := by
            unfold atB
            rw [h1, decide_eq_true h2]
            simp
          rw [if_neg (by omega), if_pos hA]
        · have hA : ¬ atB l j = true := by
            unfold atB
            rw [h1, decide_eq_false h2, decide_eq_false h0]
            simp
          rw [if_pos (by omega), if_neg hA]
    · have hA : ¬ atB l j = true := by
        unfold atB
        rw [Bool.eq_false_iff.2 h1]
        simp
      rw [if_neg h1, if_neg hA]
  · simp [spec_GoodSpans.l0]
theorem good_ev (l : List S30) (hl : l.length ≤ 1048576) : Ev (fun k => impl_areSpans.f k l) (goodB l) := by
  unfold impl_areSpans.f goodB
  by_cases h : (l.length : Int) ≤ 20
  · simp only [if_neg (show ¬ (l.length : Int) > 20 by omega), h, decide_true]
    refine allI_ev (fun k i => impl_areSpans.l0 k l l (l.length : Int) i) l.length (atB l) true (by omega) (fun k j hj => ?_) (fun k => ?_)
    · simp only [impl_areSpans.l0, span_eq, Option.bind_some]
      rw [if_pos (by omega), if_pos (by omega), if_pos (by omega)]
      by_cases h1 : spB (rd_T30 l (j : Int)) = true
      · rw [if_pos h1]
        by_cases h0 : j = 0
        · have hA : atB l j = true := by
            unfold atB
            rw [h1, decide_eq_true h0]
            rfl
          rw [if_pos hA, if_neg (by omega)]
        · rw [if_pos (by omega), w64 (by omega) (by omega), if_pos (by omega), if_pos (by omega)]
          by_cases h2 : (rd_T30 l ((j : Int) - 1)).f1 < (rd_T30 l (j : Int)).f0
          · have hA : atB l j = true := by
              unfold atB
              rw [h1, decide_eq_true h2]
              simp
            rw [if_neg (by omega), if_pos hA]
          · have hA : ¬ atB l j = true := by
              unfold atB
              rw [h1, decide_eq_false h2, decide_eq_false h0]
              simp
            rw [if_pos (by omega), if_neg hA]
      · have hA : ¬ atB l j = true := by
          unfold atB
          rw [Bool.eq_false_iff.2 h1]
          simp
        rw [if_neg h1, if_neg hA]
    · simp [impl_areSpans.l0]
  · simp only [if_pos (show (l.length : Int) > 20 by omega), h, decide_false, Bool.and_false]
    exact Ev.now _
theorem good_at {l : List S30} (h : goodB l = true) : l.length ≤ 20 ∧ (∀ j : Nat, (hj : j < l.length) → 0 ≤ l[j].f0 ∧ l[j].f0 < l[j].f1 ∧ l[j].f1 ≤ 1000000) ∧ ∀ j : Nat, (hj : j + 1 < l.length) → (l[j]'(by omega)).f1 < l[j + 1].f0 := by
  unfold goodB at h
  rw [Bool.and_eq_true] at h
  have h1 := List.all_eq_true.1 h.1
  have hA : ∀ j : Nat, (hj : j < l.length) → spB l[j] = true ∧ (j = 0 ∨ (rd_T30 l ((j : Int) - 1)).f1 < l[j].f0) := fun j hj => by
    have h2 := h1 j (List.mem_range.2 hj)
    have e : rd_T30 l (j : Int) = l[j] := getD_at l j hj _
    unfold atB at h2
    rw [e, Bool.and_eq_true, Bool.or_eq_true] at h2
    refine ⟨h2.1, h2.2.imp (fun h => of_decide_eq_true h) (fun h => of_decide_eq_true h)⟩
  refine ⟨by have := of_decide_eq_true h.2; omega, fun j hj => ?_, fun j hj => ?_⟩
  · have h2 := (hA j hj).1
    unfold spB at h2
    rw [Bool.and_eq_true, Bool.and_eq_true] at h2
    exact ⟨of_decide_eq_true h2.1, of_decide_eq_true h2.2.1, of_decide_eq_true h2.2.2⟩
  · have h2 := (hA (j + 1) hj).2
    have e : rd_T30 l (((j + 1 : Nat) : Int) - 1) = l[j]'(by omega) := by
      rw [show (((j + 1 : Nat) : Int) - 1) = (j : Int) by omega]
      exact getD_at l j (by omega) _
    rw [e] at h2
    omega
/-- Spans in as few ones as can be, in their order. -/
def Canon (l : List S30) : Prop := (∀ x ∈ l, x.f0 < x.f1) ∧ l.Pairwise fun a b => a.f1 < b.f0
/-- The numbers that are in spans. -/
def pts (l : List S30) (z : Int) : Prop := ∃ x ∈ l, x.f0 ≤ z ∧ z < x.f1
theorem pts_nil (z : Int) : ¬ pts [] z := fun ⟨_, h, _⟩ => by cases h
theorem pts_cons (x : S30) (l : List S30) (z : Int) : pts (x :: l) z ↔ (x.f0 ≤ z ∧ z < x.f1) ∨ pts l z := by
  constructor
  · rintro ⟨y, hy, h⟩
    rcases List.mem_cons.1 hy with rfl | hy
    · exact Or.inl h
    · exact Or.inr ⟨y, hy, h⟩
  · rintro (h | ⟨y, hy, h⟩)
    · exact ⟨x, List.mem_cons_self, h⟩
    · exact ⟨y, List.mem_cons_of_mem _ hy, h⟩
theorem pts_append (a b : List S30) (z : Int) : pts (a ++ b) z ↔ pts a z ∨ pts b z := by
  constructor
  · rintro ⟨y, hy, h⟩
    rcases List.mem_append.1 hy with hy | hy
    · exact Or.inl ⟨y, hy, h⟩
    · exact Or.inr ⟨y, hy, h⟩
  · rintro (⟨y, hy, h⟩ | ⟨y, hy, h⟩)
    · exact ⟨y, List.mem_append_left _ hy, h⟩
    · exact ⟨y, List.mem_append_right _ hy, h⟩
theorem pts_one (x : S30) (z : Int) : pts [x] z ↔ x.f0 ≤ z ∧ z < x.f1 := by
  rw [pts_cons]
  exact or_iff_left (pts_nil z)
theorem pts_perm {a b : List S30} (h : a.Perm b) (z : Int) : pts a z ↔ pts b z :=
  ⟨fun ⟨x, hx, hz⟩ => ⟨x, h.mem_iff.1 hx, hz⟩, fun ⟨x, hx, hz⟩ => ⟨x, h.mem_iff.2 hx, hz⟩⟩
theorem Canon.tail {x : S30} {l : List S30} (h : Canon (x :: l)) : Canon l := ⟨fun y hy => h.1 y (List.mem_cons_of_mem _ hy), (List.pairwise_cons.1 h.2).2⟩
/-- The first span begins not behind another's first, if its numbers are there. -/
theorem canon_first {x y : S30} {a b : List S30} (ha : Canon (x :: a)) (hb : Canon (y :: b)) (h : ∀ z, pts (x :: a) z → pts (y :: b) z) : y.f0 ≤ x.f0 := by
  have hx := ha.1 x List.mem_cons_self
  obtain ⟨w, hw, h1, _⟩ := h x.f0 ⟨x, List.mem_cons_self, Int.le_refl _, hx⟩
  rcases List.mem_cons.1 hw with rfl | hw
  · exact h1
  · have := (List.pairwise_cons.1 hb.2).1 w hw
    have := hb.1 y List.mem_cons_self
    omega
theorem canon_last {x y : S30} {a b : List S30} (ha : Canon (x :: a)) (hb : Canon (y :: b)) (h : ∀ z, pts (x :: a) z → pts (y :: b) z) (e : x.f0 = y.f0) : x.f1 ≤ y.f1 := by
  refine Decidable.byContradiction fun hn => ?_
  have hy := hb.1 y List.mem_cons_self
  obtain ⟨w, hw, h1, h2⟩ := h y.f1 ⟨x, List.mem_cons_self, by omega, by omega⟩
  rcases List.mem_cons.1 hw with rfl | hw
  · omega
  · have := (List.pairwise_cons.1 hb.2).1 w hw
    omega
theorem canon_rest {x : S30} {a b : List S30} (ha : Canon (x :: a)) (h : ∀ z, pts (x :: a) z → pts (x :: b) z) : ∀ z, pts a z → pts b z := by
  rintro z ⟨w, hw, h1, h2⟩
  have h3 := (List.pairwise_cons.1 ha.2).1 w hw
  obtain ⟨v, hv, h4, h5⟩ := h z ⟨w, List.mem_cons_of_mem _ hw, h1, h2⟩
  rcases List.mem_cons.1 hv with rfl | hv
  · omega
  · exact ⟨v, hv, h4, h5⟩
/-- Such spans are told by their numbers. -/
theorem canon_eq : ∀ (a b : List S30), Canon a → Canon b → (∀ z, pts a z ↔ pts b z) → a = b
  | [], [], _, _, _ => rfl
  | [], y :: b, _, hb, h => (pts_nil y.f0 ((h y.f0).2 ⟨y, List.mem_cons_self, Int.le_refl _, hb.1 y List.mem_cons_self⟩)).elim
  | x :: a, [], ha, _, h => (pts_nil x.f0 ((h x.f0).1 ⟨x, List.mem_cons_self, Int.le_refl _, ha.1 x List.mem_cons_self⟩)).elim
  | x :: a, y :: b, ha, hb, h => by
    have e0 : x.f0 = y.f0 := Int.le_antisymm (canon_first hb ha fun z => (h z).2) (canon_first ha hb fun z => (h z).1)
    have e1 : x.f1 = y.f1 := Int.le_antisymm (canon_last ha hb (fun z => (h z).1) e0) (canon_last hb ha (fun z => (h z).2) e0.symm)
    obtain rfl : x = y := by
      cases x
      cases y
      simp only at e0 e1
      subst e0
      subst e1
      rfl
    rw [canon_eq a b ha.tail hb.tail fun z => ⟨canon_rest ha (fun z => (h z).1) z, canon_rest hb (fun z => (h z).2) z⟩]
/-- One span more, behind those that begin not behind it. -/
def mstep (out : List S30) (x : S30) : List S30 := if 0 < out.length ∧ x.f0 ≤ (out.getD (out.length - 1) z30).f1 then out.set (out.length - 1) ⟨(out.getD (out.length - 1) z30).f0, mx (out.getD (out.length - 1) z30).f1 x.f1⟩ else out ++ [x]
def mg : List S30 → List S30 → List S30
  | out, [] => out
  | out, x :: xs => mg (mstep out x) xs
theorem mstep_len (out : List S30) (x : S30) : (mstep out x).length ≤ out.length + 1 := by
  unfold mstep
  split <;> simp
theorem mg_len : ∀ (xs out : List S30), (mg out xs).length ≤ out.length + xs.length
  | [], out => by simp [mg]
  | x :: xs, out => by
    rw [mg, List.length_cons]
    have := mg_len xs (mstep out x)
    have := mstep_len out x
    omega
theorem mstep_ok (out : List S30) (x : S30) (hc : Canon out) (hx : x.f0 < x.f1) (hb : ∀ a ∈ out, a.f0 ≤ x.f0) : Canon (mstep out x) ∧ (∀ z, pts (mstep out x) z ↔ pts out z ∨ (x.f0 ≤ z ∧ z < x.f1)) ∧ ∀ a ∈ mstep out x, a.f0 ≤ x.f0 := by
  rcases List.eq_nil_or_concat out with rfl | ⟨A, l, rfl⟩
  · unfold mstep
    rw [if_neg (by simp), List.nil_append]
    refine ⟨⟨fun y hy => by rw [List.mem_singleton] at hy; subst hy; exact hx, List.pairwise_singleton _ _⟩, fun z => ?_, fun a ha => by rw [List.mem_singleton] at ha; subst ha; exact Int.le_refl _⟩
    rw [pts_one]
    exact ⟨Or.inr, fun h => h.resolve_left (pts_nil z)⟩
  · rw [List.concat_eq_append] at hc hb ⊢
    have hlen : (A ++ [l]).length - 1 = A.length := by simp
    have hget : (A ++ [l]).getD A.length z30 = l := by
      rw [List.getD_eq_getElem?_getD, List.getElem?_append_right (by omega), Nat.sub_self]
      rfl
    have hset : ∀ y, (A ++ [l]).set A.length y = A ++ [y] := fun y => by
      rw [List.set_append_right _ _ (by omega), Nat.sub_self]
      rfl
    have hl := hc.1 l (by simp)
    have hlx := hb l (by simp)
    have hA := List.pairwise_append.1 hc.2
    have hAl : ∀ a ∈ A, a.f1 < l.f0 := fun a ha => hA.2.2 a ha l (by simp)
    unfold mstep
    rw [hlen, hget, hset]
    by_cases c : x.f0 ≤ l.f1
    · have hm0 : l.f1 ≤ mx l.f1 x.f1 := by unfold mx; split <;> omega
      have hm1 : ∀ z, z < mx l.f1 x.f1 ↔ z < l.f1 ∨ z < x.f1 := fun z => by unfold mx; split <;> omega
      rw [if_pos ⟨by simp, c⟩]
      refine ⟨⟨fun y hy => ?_, ?_⟩, fun z => ?_, fun a ha => ?_⟩
      · rcases List.mem_append.1 hy with hy | hy
        · exact hc.1 y (List.mem_append_left _ hy)
        · rw [List.mem_singleton] at hy
          subst hy
          show l.f0 < mx l.f1 x.f1
          omega
      · rw [List.pairwise_append]
        refine ⟨hA.1, List.pairwise_singleton _ _, fun a ha b hb' => ?_⟩
        rw [List.mem_singleton] at hb'
        subst hb'
        exact hAl a ha
      · rw [pts_append, pts_append, pts_one, pts_one]
        show pts A z ∨ (l.f0 ≤ z ∧ z < mx l.f1 x.f1) ↔ _
        rw [hm1 z]
        constructor
        · rintro (h | ⟨h1, h2⟩)
          · exact Or.inl (Or.inl h)
          · by_cases h3 : z < l.f1
            · exact Or.inl (Or.inr ⟨h1, h3⟩)
            · exact Or.inr (by omega)
        · rintro ((h | h) | h)
          · exact Or.inl h
          · exact Or.inr ⟨h.1, Or.inl h.2⟩
          · exact Or.inr ⟨by omega, Or.inr h.2⟩
      · rcases List.mem_append.1 ha with ha | ha
        · exact hb a (List.mem_append_left _ ha)
        · rw [List.mem_singleton] at ha
          subst ha
          exact hlx
    · rw [if_neg (fun h => c h.2)]
      refine ⟨⟨fun y hy => ?_, ?_⟩, fun z => ?_, fun a ha => ?_⟩
      · rcases List.mem_append.1 hy with hy | hy
        · exact hc.1 y hy
        · rw [List.mem_singleton] at hy
          subst hy
          exact hx
      · rw [List.pairwise_append]
        refine ⟨hc.2, List.pairwise_singleton _ _, fun a ha b hb' => ?_⟩
        rw [List.mem_singleton] at hb'
        subst hb'
        rcases List.mem_append.1 ha with ha | ha
        · have := hAl a ha
          omega
        · rw [List.mem_singleton] at ha
          subst ha
          omega
      · rw [pts_append (A ++ [l]), pts_one]
      · rcases List.mem_append.1 ha with ha | ha
        · exact hb a ha
        · rw [List.mem_singleton] at ha
          subst ha
          exact Int.le_refl _
theorem mg_ok : ∀ (xs out : List S30), Canon out → (∀ x ∈ xs, x.f0 < x.f1) → (∀ a ∈ out, ∀ x ∈ xs, a.f0 ≤ x.f0) → (xs.Pairwise fun a b => a.f0 ≤ b.f0) → Canon (mg out xs) ∧ ∀ z, pts (mg out xs) z ↔ pts out z ∨ pts xs z
  | [], out, hc, _, _, _ => ⟨hc, fun z => ⟨Or.inl, fun h => h.resolve_right (pts_nil z)⟩⟩
  | x :: xs, out, hc, hx, hb, hs => by
    rw [List.pairwise_cons] at hs
    obtain ⟨h1, h2, h3⟩ := mstep_ok out x hc (hx x List.mem_cons_self) (fun a ha => hb a ha x List.mem_cons_self)
    obtain ⟨h4, h5⟩ := mg_ok xs (mstep out x) h1 (fun y hy => hx y (List.mem_cons_of_mem _ hy)) (fun a ha y hy => Int.le_trans (h3 a ha) (hs.1 y hy)) hs.2
    refine ⟨h4, fun z => ?_⟩
    rw [mg, h5 z, h2 z, pts_cons, or_assoc]
theorem clone_eq (l : List S30) (hl : l.length ≤ 1048576) : impl_Span_30.f l = some l := by
  unfold impl_Span_30.f
  rw [Option.bind_some, if_pos (show ([] : List S30).length + l.length < 8796093022208 by simp; omega), List.nil_append]
theorem joined_l (L : List S30) (hL : L.length ≤ 1000) : ∀ (d i : Nat) (out : List S30), i + d = L.length → out.length ≤ i → Ev (fun k => impl_joined.l0 k out L (L.length : Int) (i : Int)) (mg out (L.drop i))
  | 0, i, out, hd, ho => by
    rw [List.drop_of_length_le (by omega), mg]
    refine Ev.step (f := fun _ => some out) (fun k => ?_) (Ev.now _)
    simp only [impl_joined.l0]
    rw [if_neg (by omega)]
  | d + 1, i, out, hd, ho => by
    have hi : i < L.length := by omega
    have e : rd_T30 L (i : Int) = L[i] := getD_at L i hi _
    rw [List.drop_eq_getElem_cons hi, mg]
    have hlen := mstep_len out L[i]
    have h := joined_l L hL d (i + 1) (mstep out L[i]) (by omega) (by omega)
    refine Ev.step (fun k => ?_) h
    simp only [impl_joined.l0, e]
    rw [if_pos (by omega), if_pos (by omega), if_pos (by omega), w64s hi (by omega)]
    unfold mstep
    by_cases h0 : 0 < out.length
    · have ew : wrap64 ((out.length : Int) - 1) = ((out.length - 1 : Nat) : Int) := by rw [w64 (by omega) (by omega)]; omega
      have el : rd_T30 out ((out.length - 1 : Nat) : Int) = out.getD (out.length - 1) z30 := rfl
      rw [ew, el, if_pos (by omega), if_pos (by omega), if_pos (by omega)]
      by_cases c : L[i].f0 ≤ (out.getD (out.length - 1) z30).f1
      · rw [if_pos c, if_pos ⟨h0, c⟩]
        rfl
      · rw [if_neg c, if_pos (show out.length < 8796093022208 by omega), if_neg (fun h : 0 < out.length ∧ L[i].f0 ≤ (out.getD (out.length - 1) z30).f1 => c h.2)]
    · have ew : wrap64 ((out.length : Int) - 1) = -1 := by rw [w64 (by omega) (by omega)]; omega
      rw [ew, if_neg (by omega), if_pos (show out.length < 8796093022208 by omega), if_neg (fun h : 0 < out.length ∧ L[i].f0 ≤ (out.getD (out.length - 1) z30).f1 => h0 h.1)]
theorem joined_ev (l : List S30) (hl : l.length ≤ 1000) (hv : ∀ x ∈ l, 0 ≤ x.f0 ∧ x.f0 < x.f1 ∧ x.f1 ≤ 1000000) : ∃ r, Ev (fun k => impl_joined.f k l) r ∧ Canon r ∧ (∀ z, pts r z ↔ pts l z) ∧ r.length ≤ l.length := by
  obtain ⟨s, hs⟩ : ∃ s, impl_Span_42.f l = some s := by
    unfold impl_Span_42.f
    have hb : ∀ x ∈ l, 0 ≤ x.f0 ∧ x.f0 ≤ 1000000 := fun x hx => ⟨(hv x hx).1, by have := hv x hx; omega⟩
    rw [if_pos (by omega), dif_pos hb]
    exact ⟨_, rfl⟩
  obtain ⟨hp, ho⟩ := impl_Span_42.out l s hs
  have hsl := hp.length_eq
  obtain ⟨h1, h2⟩ := mg_ok s [] ⟨fun x hx => (by cases hx), List.Pairwise.nil⟩ (fun x hx => (hv x (hp.mem_iff.1 hx)).2.1) (fun a ha => by cases ha) ho
  refine ⟨mg [] s, Ev.congr (fun k => ?_) (joined_l s (by omega) s.length 0 [] (by omega) (by simp)), h1, fun z => ?_, ?_⟩
  · unfold impl_joined.f
    rw [clone_eq l (by omega), Option.bind_some, hs, Option.bind_some, ← hsl]
    rfl
  · rw [h2 z, pts_perm hp z]
    exact or_iff_right (pts_nil z)
  · have := mg_len s []
    simp only [List.length_nil] at this
    omega
theorem canon_of {l : List S30} (h : goodB l = true) : Canon l ∧ (∀ x ∈ l, 0 ≤ x.f0 ∧ x.f0 < x.f1 ∧ x.f1 ≤ 1000000) ∧ l.length ≤ 20 := by
  obtain ⟨h20, h1, h2⟩ := good_at h
  have hv : ∀ x ∈ l, 0 ≤ x.f0 ∧ x.f0 < x.f1 ∧ x.f1 ≤ 1000000 := fun x hx => by
    obtain ⟨j, hj, rfl⟩ := List.getElem_of_mem hx
    exact h1 j hj
  refine ⟨⟨fun x hx => (hv x hx).2.1, ?_⟩, hv, h20⟩
  rw [List.pairwise_iff_getElem]
  intro i j hi hj hij
  induction j with
  | zero => omega
  | succ j ih =>
    have h3 := h2 j hj
    by_cases hij2 : i = j
    · subst hij2
      exact h3
    · have h4 := ih (by omega) (by omega)
      have h5 := h1 j (by omega)
      omega
theorem few_eq (r : List S30) : impl_few.f r = spec_l2Tell.f r := rfl
theorem tell_eq (r : List S30) (hr : r.length ≤ 1048576) : ∃ g b, spec_l2Tell.f r = some (g, b) ∧ g.length ≤ 1048576 := by
  unfold spec_l2Tell.f
  by_cases h : (r.length : Int) > 20
  · exact ⟨[], false, by rw [if_pos h], by simp⟩
  · exact ⟨r, true, by rw [if_neg h], hr⟩
theorem least_eq (a b : Int) : spec_l1Least.f a b = some (mn a b) := by
  unfold spec_l1Least.f mn
  split <;> split <;> congr 1 <;> omega
theorem most_eq (a b : Int) : spec_l1Most.f a b = some (mx a b) := by
  unfold spec_l1Most.f mx
  split <;> split <;> congr 1 <;> omega
theorem canon_drop {l : List S30} (h : Canon l) (i : Nat) : Canon (l.drop i) := ⟨fun y hy => h.1 y (List.mem_of_mem_drop hy), h.2.sublist (List.drop_sublist i l)⟩
/-- A span between others. -/
theorem canon_mid {A B : List S30} {x0 x1 : Int} (hA : Canon A) (hB : Canon B) (hx : x0 < x1) (h1 : ∀ a ∈ A, a.f1 < x0) (h2 : ∀ b ∈ B, x1 < b.f0) : Canon (A ++ [(⟨x0, x1⟩ : S30)] ++ B) ∧ ∀ z, pts (A ++ [(⟨x0, x1⟩ : S30)] ++ B) z ↔ pts A z ∨ (x0 ≤ z ∧ z < x1) ∨ pts B z := by
  refine ⟨⟨fun y hy => ?_, ?_⟩, fun z => ?_⟩
  · rcases List.mem_append.1 hy with hy | hy
    · rcases List.mem_append.1 hy with hy | hy
      · exact hA.1 y hy
      · rw [List.mem_singleton] at hy
        subst hy
        exact hx
    · exact hB.1 y hy
  · rw [List.pairwise_append, List.pairwise_append]
    refine ⟨⟨hA.2, List.pairwise_singleton _ _, fun a ha b hb => ?_⟩, hB.2, fun a ha b hb => ?_⟩
    · rw [List.mem_singleton] at hb
      subst hb
      exact h1 a ha
    · have h3 := h2 b hb
      rcases List.mem_append.1 ha with ha | ha
      · have := h1 a ha
        omega
      · rw [List.mem_singleton] at ha
        subst ha
        exact h3
  · rw [pts_append, pts_append, pts_one, or_assoc]
theorem sadd_1 (l : List S30) (hl : l.length ≤ 1000) (hc : Canon l) : ∀ (d i : Nat) (acc : List S30) (x0 x1 : Int), i + d = l.length → acc.length ≤ 1000 → x0 < x1 → Canon acc → (∀ a ∈ acc, a.f1 < x0) → (∀ a ∈ acc, ∀ b ∈ l.drop i, a.f1 < b.f0) → (∀ b ∈ l.drop i, x0 ≤ b.f1) →
    ∃ r, Ev (fun k => spec_l2Add.l1 k l acc (i : Int) x0 x1) r ∧ Canon r ∧ (∀ z, pts r z ↔ pts acc z ∨ (x0 ≤ z ∧ z < x1) ∨ pts (l.drop i) z) ∧ r.length ≤ acc.length + 1 + d
  | 0, i, acc, x0, x1, hd, ha, hx, hca, h1, h2, h3 => by
    obtain ⟨u, v⟩ := canon_mid hca (canon_drop hc i) hx h1 (fun b hb => by rw [List.drop_of_length_le (by omega)] at hb; cases hb)
    have hdl : (l.drop i).length = 0 := by rw [List.length_drop]; omega
    refine ⟨acc ++ [⟨x0, x1⟩] ++ l.drop i, Ev.step (f := fun k => spec_l2Add.j3 k l acc (i : Int) false x0 x1) (fun k => ?_) (Ev.step (f := fun _ => some (acc ++ [⟨x0, x1⟩] ++ l.drop i)) (fun k => ?_) (Ev.now _)), u, v, by simp only [List.length_append, hdl, List.length_singleton]; omega⟩
    · simp only [spec_l2Add.l1]
      rw [if_neg (by omega)]
    · simp only [spec_l2Add.j3, Option.bind_some, Int.toNat_natCast]
      rw [if_neg (by simp), if_pos (by omega), if_pos (by omega), if_pos (by omega), if_pos (by simp only [List.length_append, hdl, List.length_singleton]; omega)]
  | d + 1, i, acc, x0, x1, hd, ha, hx, hca, h1, h2, h3 => by
    have hi : i < l.length := by omega
    have e : rd_T30 l (i : Int) = l[i] := getD_at l i hi _
    have hdr := List.drop_eq_getElem_cons hi
    have hli := hc.1 l[i] (List.getElem_mem hi)
    have hcd := canon_drop hc i
    by_cases c : l[i].f0 ≤ x1
    · have h3i := h3 l[i] (by rw [hdr]; exact List.mem_cons_self)
      have m0 : mn x0 l[i].f0 ≤ x0 ∧ mn x0 l[i].f0 ≤ l[i].f0 ∧ (mn x0 l[i].f0 = x0 ∨ mn x0 l[i].f0 = l[i].f0) := by unfold mn; split <;> omega
      have m1 : x1 ≤ mx x1 l[i].f1 ∧ l[i].f1 ≤ mx x1 l[i].f1 ∧ (mx x1 l[i].f1 = x1 ∨ mx x1 l[i].f1 = l[i].f1) := by unfold mx; split <;> omega
      obtain ⟨y0, hy0⟩ : ∃ y, y = mn x0 l[i].f0 := ⟨_, rfl⟩
      obtain ⟨y1, hy1⟩ : ∃ y, y = mx x1 l[i].f1 := ⟨_, rfl⟩
      rw [← hy0] at m0
      rw [← hy1] at m1
      obtain ⟨r, u, v, w, s⟩ := sadd_1 l hl hc d (i + 1) acc y0 y1 (by omega) ha (by omega) hca (fun a haa => by
        have p := h1 a haa
        have q := h2 a haa l[i] (by rw [hdr]; exact List.mem_cons_self)
        omega) (fun a haa b hb => h2 a haa b (by rw [hdr]; exact List.mem_cons_of_mem _ hb)) (fun b hb => by
        have := h3 b (by rw [hdr]; exact List.mem_cons_of_mem _ hb)
        omega)
      refine ⟨r, Ev.step (f := fun k => spec_l2Add.j3 k l acc (i : Int) true x0 x1) (fun k => ?_) (Ev.step (fun k => ?_) u), v, fun z => ?_, by omega⟩
      · simp only [spec_l2Add.l1, e]
        rw [if_pos (by omega), if_pos (by omega), decide_eq_true c]
      · simp only [spec_l2Add.j3, e, least_eq, most_eq, Option.bind_some, if_true]
        rw [if_pos (by omega), if_pos (by omega), w64s hi (by omega), hy0, hy1]
      · rw [w z, hdr, pts_cons]
        constructor
        · rintro (h | h | h)
          · exact Or.inl h
          · by_cases hz : x0 ≤ z ∧ z < x1
            · exact Or.inr (Or.inl hz)
            · exact Or.inr (Or.inr (Or.inl (by omega)))
          · exact Or.inr (Or.inr (Or.inr h))
        · rintro (h | h | h | h)
          · exact Or.inl h
          · exact Or.inr (Or.inl (by omega))
          · exact Or.inr (Or.inl (by omega))
          · exact Or.inr (Or.inr h)
    · obtain ⟨u, v⟩ := canon_mid hca hcd hx h1 (fun b hb => by
        rw [hdr] at hb hcd
        rcases List.mem_cons.1 hb with rfl | hb
        · omega
        · have := (List.pairwise_cons.1 hcd.2).1 b hb
          omega)
      have hdl : (l.drop i).length = d + 1 := by rw [List.length_drop]; omega
      refine ⟨acc ++ [⟨x0, x1⟩] ++ l.drop i, Ev.step (f := fun k => spec_l2Add.j3 k l acc (i : Int) false x0 x1) (fun k => ?_) (Ev.step (f := fun _ => some (acc ++ [⟨x0, x1⟩] ++ l.drop i)) (fun k => ?_) (Ev.now _)), u, v, by simp only [List.length_append, hdl, List.length_singleton]; omega⟩
      · simp only [spec_l2Add.l1, e]
        rw [if_pos (by omega), if_pos (by omega), decide_eq_false c]
      · simp only [spec_l2Add.j3, Option.bind_some, Int.toNat_natCast]
        rw [if_neg (by simp), if_pos (by omega), if_pos (by omega), if_pos (by omega), if_pos (by simp only [List.length_append, hdl, List.length_singleton]; omega)]
theorem sadd_0 (l : List S30) (hl : l.length ≤ 900) (hc : Canon l) (x0 x1 : Int) (hx : x0 < x1) : ∀ (d i : Nat), i + d = l.length → (∀ a ∈ l.take i, a.f1 < x0) →
    ∃ r, Ev (fun k => spec_l2Add.l0 k l (l.take i) (i : Int) x0 x1) r ∧ Canon r ∧ (∀ z, pts r z ↔ pts l z ∨ (x0 ≤ z ∧ z < x1)) ∧ r.length ≤ l.length + 1 := by
  have hsplit : ∀ (i : Nat), Canon (l.take i) ∧ ∀ a ∈ l.take i, ∀ b ∈ l.drop i, a.f1 < b.f0 := fun i => by
    have h := hc.2
    rw [← List.take_append_drop i l, List.pairwise_append] at h
    exact ⟨⟨fun y hy => hc.1 y (List.mem_of_mem_take hy), h.1⟩, h.2.2⟩
  have hgo : ∀ (d i : Nat), i + d = l.length → (∀ a ∈ l.take i, a.f1 < x0) → (∀ b ∈ l.drop i, x0 ≤ b.f1) →
      ∃ r, Ev (fun k => spec_l2Add.l1 k l (l.take i) (i : Int) x0 x1) r ∧ Canon r ∧ (∀ z, pts r z ↔ pts l z ∨ (x0 ≤ z ∧ z < x1)) ∧ r.length ≤ l.length + 1 := fun d i hd h1 h3 => by
    obtain ⟨p, q⟩ := hsplit i
    have htl : (l.take i).length = i := by rw [List.length_take]; omega
    obtain ⟨r, u, v, w, s⟩ := sadd_1 l (by omega) hc d i (l.take i) x0 x1 hd (by omega) hx p h1 q h3
    refine ⟨r, u, v, fun z => ?_, by omega⟩
    rw [w z]
    have h4 := pts_append (l.take i) (l.drop i) z
    rw [List.take_append_drop] at h4
    rw [h4, or_assoc, or_comm (a := pts (l.drop i) z)]
  intro d
  induction d with
  | zero =>
    intro i hd h1
    obtain ⟨r, u, v⟩ := hgo 0 i hd h1 (fun b hb => by rw [List.drop_of_length_le (by omega)] at hb; cases hb)
    refine ⟨r, Ev.step (f := fun k => spec_l2Add.j1 k l (l.take i) (i : Int) x0 x1) (fun k => ?_) (Ev.step (fun k => rfl) u), v⟩
    simp only [spec_l2Add.l0]
    rw [if_neg (by omega)]
  | succ d ih =>
    intro i hd h1
    have hi : i < l.length := by omega
    have e : rd_T30 l (i : Int) = l[i] := getD_at l i hi _
    have htl : (l.take i).length = i := by rw [List.length_take]; omega
    by_cases c : l[i].f1 < x0
    · obtain ⟨r, u, v⟩ := ih (i + 1) (by omega) (fun a ha => by
        rw [List.take_succ_eq_append_getElem hi, List.mem_append, List.mem_singleton] at ha
        rcases ha with ha | rfl
        · exact h1 a ha
        · exact c)
      rw [List.take_succ_eq_append_getElem hi] at u
      refine ⟨r, Ev.step (fun k => ?_) u, v⟩
      simp only [spec_l2Add.l0, e]
      rw [if_pos (by omega), if_pos (by omega), if_pos c, if_pos (by omega), w64s hi (by omega)]
    · have hdr := List.drop_eq_getElem_cons hi
      have hcd := canon_drop hc i
      obtain ⟨r, u, v⟩ := hgo (d + 1) i hd h1 (fun b hb => by
        rw [hdr] at hb hcd
        rcases List.mem_cons.1 hb with rfl | hb
        · omega
        · have := (List.pairwise_cons.1 hcd.2).1 b hb
          have := hcd.1 b (List.mem_cons_of_mem _ hb)
          omega)
      refine ⟨r, Ev.step (f := fun k => spec_l2Add.j1 k l (l.take i) (i : Int) x0 x1) (fun k => ?_) (Ev.step (fun k => rfl) u), v⟩
      simp only [spec_l2Add.l0, e]
      rw [if_pos (by omega), if_pos (by omega), if_neg c]
theorem sadd_ev (l : List S30) (hl : l.length ≤ 900) (hc : Canon l) (x0 x1 : Int) (hx : x0 < x1) : ∃ r, Ev (fun k => spec_l2Add.f k l x0 x1) r ∧ Canon r ∧ (∀ z, pts r z ↔ pts l z ∨ (x0 ≤ z ∧ z < x1)) ∧ r.length ≤ l.length + 1 :=
  sadd_0 l hl hc x0 x1 hx l.length 0 (by omega) (by simp)
def cvSpan (x : S24) : S30 := ⟨x.f0, x.f1⟩
theorem toSpan_ev (l : List S24) (hl : l.length ≤ 1048576) : Ev (fun k => laws_toSpanS.f k l) (l.map cvSpan) := by
  refine Ev.congr (fun k => ?_) (fill_ev (fun k x0 x3 x4 => laws_toSpanS.l0 k x0 x3 x4) cvSpan z24 (fun k x0 x3 x4 => rfl) l z30 (by omega))
  unfold laws_toSpanS.f
  rw [if_pos (by omega), if_pos (by omega), Int.toNat_natCast]
theorem eqSpan_ev (l : List S30) (hl : l.length ≤ 1048576) : Ev (fun k => laws_eqSpanS.f k l l) true := by
  refine Ev.congr (fun k => ?_) (eqr_ev (fun k x0 x1 x5 => laws_eqSpanS.l0 k x0 x1 x5) l (fun k j hj => ?_) (fun k => ?_) (by omega))
  · unfold laws_eqSpanS.f
    rw [if_pos rfl]
  · simp only [laws_eqSpanS.l0]
    rw [if_pos (by omega), if_pos (by omega), if_pos (by omega)]
    simp [laws_eqSpan.f]
  · simp [laws_eqSpanS.l0]
theorem szwSpan_eq (l : List S24) (hl : l.length ≤ maxLen) (a : Int) (h0 : 0 ≤ a) (h1 : a ≤ 1048576) : laws_szSpanS.f l a = some (if (l.length : Int) ≤ a then a - (l.length : Int) else -1) := by
  unfold laws_szSpanS.f
  unfold maxLen at hl
  rw [w64 (by omega) (by omega)]
  by_cases h : (l.length : Int) ≤ a
  · rw [if_neg (by omega), if_pos h]
  · rw [if_pos (by omega), if_neg h]
def mkSpan (m : Int) : S30 := ⟨m, m + 1⟩
theorem markwSpan_ev (l : List S30) (m : Int) (g0 : 0 ≤ m) (g1 : m ≤ 1000000000) (hl : l.length ≤ 1048576) : Ev (fun k => laws_markSpanS.f k l m) (m + (2 : Nat) * (l.length : Int), (List.range l.length).map fun j : Nat => mkSpan (m + ((2 : Nat) : Int) * (j : Int))) := by
  refine Ev.congr (fun k => rfl) (mark_ev (fun k x0 x1 x5 => laws_markSpanS.l0 k x0 x1 x5) 2 mkSpan m g0 g1 (by omega) (fun k x0 x1 j hj h0 h1 => ?_) (fun k x0 x1 => ?_) l (by omega))
  · simp only [laws_markSpanS.l0]
    rw [if_pos (by omega), if_pos (by omega)]
    simp only [Option.bind_some, Int.toNat_natCast, rd_T30, List.getD_eq_getElem?_getD, List.set_set, List.getElem?_set_self hj, Option.getD_some]
    simp only [w64 (i := x1 + 1) (by omega) (by omega), w64 (i := x1 + 1 + 1) (by omega) (by omega)]
    simp only [show x1 + 1 + 1 = x1 + 2 by omega]
    rfl
  · simp [laws_markSpanS.l0]
theorem heldSpan_ev (n : Nat) (hn : n ≤ 1048576) : Ev (fun k => laws_heldSpanS.f k ((List.range n).map fun j : Nat => mkSpan (1 + ((2 : Nat) : Int) * (j : Int))) 1) (1 + (2 : Nat) * (n : Int)) := by
  refine Ev.congr (fun k => rfl) (held_ev (fun k x0 x1 x5 => laws_heldSpanS.l0 k x0 x1 x5) 2 mkSpan 1 (by omega) (by omega) (by omega) (fun k x0 x1 j hx hj h0 h1 => ?_) (fun k x0 x1 => ?_) n (by omega))
  · simp only [laws_heldSpanS.l0]
    rw [if_pos (by omega), if_pos (by omega)]
    simp only [Int.toNat_natCast, rd_T30, List.getD_eq_getElem?_getD, hx, Option.getD_some, mkSpan, w64 (i := x1 + 1) (by omega) (by omega), w64 (i := x1 + 1 + 1) (by omega) (by omega), if_true]
    congr 1
    omega
  · simp [laws_heldSpanS.l0]
theorem concat_eq (a b : List S30) (ha : a.length ≤ 20) (hb : b.length ≤ 20) : impl_Span_35.f [a, b] = some (a ++ b) := by
  unfold impl_Span_35.f
  have e : [a, b].flatten = a ++ b := by simp
  rw [e, if_pos ⟨by simp, by rw [List.length_append]; omega⟩]
theorem sjoin_l (b : List S30) (hb : ∀ y ∈ b, y.f0 < y.f1) (hbl : b.length ≤ 20) : ∀ (d j : Nat) (acc : List S30), j + d = b.length → acc.length ≤ 20 + j → Canon acc →
    ∃ r, Ev (fun k => spec_l2Join.l0 k acc b (b.length : Int) (j : Int)) r ∧ Canon r ∧ (∀ z, pts r z ↔ pts acc z ∨ pts (b.drop j) z) ∧ r.length ≤ 40
  | 0, j, acc, hd, hl, hc => by
    refine ⟨acc, Ev.step (f := fun _ => some acc) (fun k => ?_) (Ev.now _), hc, fun z => ?_, by omega⟩
    · simp only [spec_l2Join.l0]
      rw [if_neg (by omega)]
    · rw [List.drop_of_length_le (by omega)]
      exact ⟨Or.inl, fun h => h.resolve_right (pts_nil z)⟩
  | d + 1, j, acc, hd, hl, hc => by
    have hj : j < b.length := by omega
    have e : rd_T30 b (j : Int) = b[j] := getD_at b j hj _
    obtain ⟨r1, u1, v1, w1, s1⟩ := sadd_ev acc (by omega) hc b[j].f0 b[j].f1 (hb b[j] (List.getElem_mem hj))
    obtain ⟨r, u, v, w, s⟩ := sjoin_l b hb hbl d (j + 1) r1 (by omega) (by omega) v1
    refine ⟨r, Ev.step (f := fun k => (spec_l2Add.f k acc b[j].f0 b[j].f1).bind fun t => spec_l2Join.l0 k t b (b.length : Int) ((j + 1 : Nat) : Int)) (fun k => ?_) (Ev.bind u1 u), v, fun z => ?_, s⟩
    · simp only [spec_l2Join.l0, e]
      rw [if_pos (by omega), if_pos (by omega), if_pos (by omega), w64s hj (by omega)]
    · rw [w z, w1 z, List.drop_eq_getElem_cons hj, pts_cons, or_assoc]
theorem join_ev (a b : List S30) (ca : Canon a) (va : ∀ x ∈ a, 0 ≤ x.f0 ∧ x.f0 < x.f1 ∧ x.f1 ≤ 1000000) (la : a.length ≤ 20) (cb : Canon b) (vb : ∀ x ∈ b, 0 ≤ x.f0 ∧ x.f0 < x.f1 ∧ x.f1 ≤ 1000000) (lb : b.length ≤ 20) : ∃ M, Ev (fun k => spec_l2Join.f k a b) M ∧ Ev (fun k => impl_joined.f k (a ++ b)) M ∧ M.length ≤ 40 := by
  obtain ⟨r, u, v, w, s⟩ := sjoin_l b (fun y hy => (vb y hy).2.1) lb b.length 0 a (by omega) (by omega) ca
  obtain ⟨r2, u2, v2, w2, s2⟩ := joined_ev (a ++ b) (by rw [List.length_append]; omega) (fun y hy => by
    rcases List.mem_append.1 hy with hy | hy
    · exact va y hy
    · exact vb y hy)
  obtain rfl : r = r2 := canon_eq r r2 v v2 (fun z => by rw [w z, w2 z, pts_append, List.drop_zero])
  refine ⟨r, Ev.congr (fun k => ?_) u, u2, s⟩
  unfold spec_l2Join.f
  rw [Option.bind_some, if_pos (show ([] : List S30).length + a.length < 8796093022208 by simp; omega), List.nil_append]
  rfl
theorem both_ev (a b : List S30) (hal : a.length ≤ 1048576) (hbl : b.length ≤ 1048576) : ∃ (g : List S30) (o : Bool), Ev (fun k => spec_JoinSpans.f k a b) (g, o) ∧ Ev (fun k => impl_JoinSpans.f k a b) (g, o) ∧ g.length ≤ 1048576 := by
  unfold spec_JoinSpans.f impl_JoinSpans.f
  have hsa := sgood_ev a hal
  have hia := good_ev a hal
  have hsb := sgood_ev b hbl
  have hib := good_ev b hbl
  have no2 : Ev (fun k => impl_JoinSpans.j0 k a b true) (([] : List S30), false) := Ev.step (f := fun _ => some (([] : List S30), false)) (fun k => rfl) (Ev.now _)
  by_cases hga : goodB a = true
  · rw [hga] at hsa hia
    by_cases hgb : goodB b = true
    · rw [hgb] at hsb hib
      obtain ⟨ca, va, la⟩ := canon_of hga
      obtain ⟨cb, vb, lb⟩ := canon_of hgb
      obtain ⟨M, u, v, w⟩ := join_ev a b ca va la cb vb lb
      obtain ⟨g, o, ht, hg2⟩ := tell_eq M (by omega)
      have hbo : Ev (fun k => spec_l2Both.f k a b) true := by
        unfold spec_l2Both.f
        refine Ev.bind hsa ?_
        simp only [if_true]
        exact Ev.bind hsb (Ev.now _)
      refine ⟨g, o, Ev.bind hbo ?_, Ev.bind hia ?_, hg2⟩
      · simp only [if_true]
        refine Ev.bind u ?_
        simp only [ht, Option.bind_some]
        exact Ev.now _
      · simp only [if_true]
        refine Ev.bind hib ?_
        refine Ev.step (f := fun k => (impl_joined.f k (a ++ b)).bind fun t => (impl_few.f t).bind fun bt => some (bt.1, bt.2)) (fun k => ?_) (Ev.bind v ?_)
        · simp only [impl_JoinSpans.j0, concat_eq a b la lb, Option.bind_some]
          rw [if_neg (by simp)]
        simp only [few_eq, ht, Option.bind_some]
        exact Ev.now _
    · rw [Bool.eq_false_iff.2 hgb] at hsb hib
      have hbo : Ev (fun k => spec_l2Both.f k a b) false := by
        unfold spec_l2Both.f
        refine Ev.bind hsa ?_
        simp only [if_true]
        exact Ev.bind hsb (Ev.now _)
      refine ⟨[], false, Ev.bind hbo (Ev.now _), Ev.bind hia ?_, by simp⟩
      simp only [if_true]
      exact Ev.bind hib no2
  · rw [Bool.eq_false_iff.2 hga] at hsa hia
    have hbo : Ev (fun k => spec_l2Both.f k a b) false := by
      unfold spec_l2Both.f
      refine Ev.bind hsa ?_
      simp only [Bool.false_eq_true, if_false]
      exact Ev.now _
    refine ⟨[], false, Ev.bind hbo (Ev.now _), Ev.bind hia ?_, by simp⟩
    simp only [Bool.false_eq_true, if_false]
    exact no2
theorem FnExactJoinSpans : laws_FnExactJoinSpans.Pure := by
  intro l l2 hl _ hl2 _
  apply Ev.rounds
  unfold laws_FnExactJoinSpans.f
  simp only [szwSpan_eq l hl 1048576 (by omega) (by omega), Option.bind_some]
  by_cases h : (l.length : Int) ≤ 1048576
  case neg =>
    simp only [if_neg h]
    exact Ev.now _
  simp only [if_pos h, if_neg (show ¬ (1048576 - (l.length : Int) < 0) by omega), szwSpan_eq l2 hl2 (1048576 - (l.length : Int)) (by omega) (by omega), Option.bind_some]
  by_cases h' : (l2.length : Int) ≤ 1048576 - (l.length : Int)
  case neg =>
    simp only [if_neg h']
    exact Ev.now _
  simp only [if_pos h', if_neg (show ¬ (1048576 - (l.length : Int) - (l2.length : Int) < 0) by omega)]
  have hl' : l.length ≤ 1048576 := by omega
  have hl2' : l2.length ≤ 1048576 := by omega
  have hm : (l.map cvSpan).length ≤ 1048576 := by simpa using hl'
  have hn : (l2.map cvSpan).length ≤ 1048576 := by simpa using hl2'
  have hto := toSpan_ev l hl'
  have hto2 := toSpan_ev l2 hl2'
  have heq := eqSpan_ev (l.map cvSpan) hm
  have heq2 := eqSpan_ev (l2.map cvSpan) hn
  generalize l.map cvSpan = x at hto heq hm
  generalize l2.map cvSpan = y at hto2 heq2 hn
  refine Ev.bind hto (Ev.bind hto2 ?_)
  obtain ⟨g, o, h1, h2, hg⟩ := both_ev x y hm hn
  refine Ev.bind h1 (Ev.bind hto (Ev.bind hto2 (Ev.bind h2 ?_)))
  refine Ev.bind (eqSpan_ev g hg) ?_
  simp only [if_true, bne_self_eq_false]
  refine Ev.step (fun k => by simp only [laws_FnExactJoinSpans.j0]; rfl) ?_
  simp only [Bool.false_eq_true, if_false]
  refine Ev.bind hto (Ev.bind heq ?_)
  simp only [if_true]
  refine Ev.bind hto2 (Ev.bind heq2 ?_)
  simp only [if_true]
  refine Ev.bind (markwSpan_ev x 1 (by omega) (by omega) hm) (Ev.bind (markwSpan_ev y (1 + ((2 : Nat) : Int) * (x.length : Int)) (by omega) (by omega) hn) ?_)
  simp only [if_neg (show ¬ (1 + ((2 : Nat) : Int) * (x.length : Int) + ((2 : Nat) : Int) * (y.length : Int) < 0) by omega)]
  refine Ev.bind (eqSpan_ev g hg) ?_
  simp only [if_true, bne_self_eq_false]
  refine Ev.step (fun k => by simp only [laws_FnExactJoinSpans.j1]; rfl) ?_
  simp only [Bool.false_eq_true, if_false]
  refine Ev.bind (markwSpan_ev g 1 (by omega) (by omega) hg) (Ev.bind (heldSpan_ev g.length hg) ?_)
  simp only [if_neg (show ¬ (1 + ((2 : Nat) : Int) * (g.length : Int) < 0) by omega), if_true]
  refine Ev.bind hto (Ev.bind hto2 (Ev.bind h2 (Ev.bind (eqSpan_ev g hg) ?_)))
  simp only [if_true, bne_self_eq_false]
  refine Ev.step (fun k => by simp only [laws_FnExactJoinSpans.j2]; rfl) ?_
  simp only [Bool.false_eq_true, if_false]
  refine Ev.bind (heldSpan_ev g.length hg) ?_
  simp only [if_neg (show ¬ (1 + ((2 : Nat) : Int) * (g.length : Int) < 0) by omega), if_true]
  exact Ev.now _

end Go.Proofs.Ytobnbhkfbdlioaa.Pure
