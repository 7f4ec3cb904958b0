/- The pure statement of the law FnExactGetList: over lists and numbers the law's function answers true. No conditions beyond those typed. -/
import Derived.Test.YtmffllogaboklaaX6
import Derived.Test.YtmffllogaboklaaLib
namespace Go.Proofs.Ytmffllogaboklaa.Pure
open Go.RowKit Go.Proofs.Ytmffllogaboklaa.X Go.Proofs.YtmffllogaboklaaW.PrintWords Go.Proofs.YtmffllogaboklaaLib
set_option linter.unusedVariables false
set_option linter.unusedSimpArgs false

theorem in_eq (x y z : Int) : impl_in.f x y z = some (decide (x ≥ y ∧ x ≤ z)) := by
  unfold impl_in.f
  by_cases h : x ≥ y <;> simp only [h, if_true, if_false, true_and, false_and, decide_false]
theorem sin_eq (x y z : Int) : spec_l1In.f x y z = some (decide (x ≥ y ∧ x ≤ z)) := by
  unfold spec_l1In.f
  by_cases h : x ≥ y <;> simp only [h, if_true, if_false, true_and, false_and, decide_false]
def numB (n : Int) : Bool := decide (n ≥ 0 ∧ n ≤ 1152921504606846975)
theorem snum_eq (n : Int) : spec_l1Number.f n = some (numB n) := by
  unfold spec_l1Number.f
  rw [sin_eq]
  rfl
theorem inum_eq (n : Int) : impl_isNumber.f n = some (numB n) := by
  unfold impl_isNumber.f
  rw [in_eq]
  rfl
def sizeI (n : Int) : Int := if n < 64 then 1 else if n < 16384 then 2 else if n < 1073741824 then 4 else 8
theorem ssize_eq (n : Int) : spec_l1Size.f n = some (sizeI n) := by
  unfold spec_l1Size.f sizeI
  repeat' split
  all_goals rfl
theorem isize_eq (n : Int) : impl_sizeOf.f n = some (sizeI n) := by
  unfold impl_sizeOf.f sizeI
  repeat' split
  all_goals rfl
theorem sizeI_in (n : Int) : sizeI n = 1 ∨ sizeI n = 2 ∨ sizeI n = 4 ∨ sizeI n = 8 := by
  unfold sizeI
  repeat' split
  all_goals simp
def toS : Option (Int × Int) → Int × Int
  | some p => p
  | none => (0, -1)
def toI : Option (Int × Int) → Int × Int × Bool
  | some p => (p.1, p.2, true)
  | none => (0, 0, false)
theorem get_l (s : ByteArray) (p sz : Int) (h0 : 0 ≤ p) (h1 : 0 < sz) (h2 : p + sz ≤ s.size) (hs : s.size ≤ 1048576) : ∀ (d : Nat) (n i : Int), 0 ≤ i → i ≤ sz → sz - i = d →
    ∃ o, Ev (fun k => spec_l1Get.l0 k s p sz n i) (toS o) ∧ Ev (fun k => impl_GetNumber.l0 k s p sz n i) (toI o) ∧ ∀ q, o = some q → 0 ≤ q.1 ∧ q.1 ≤ 1152921504606846975 ∧ q.2 = p + sz
  | 0, n, i, hi, hi2, hd => by
    obtain rfl : i = sz := by omega
    by_cases hn : numB n = true
    · by_cases hz : sizeI n = i
      · refine ⟨some (n, p + i), Ev.step (f := fun _ => some (n, p + i)) (fun k => ?_) (Ev.now _), Ev.step (f := fun _ => some (n, p + i, true)) (fun k => ?_) (Ev.now _), ?_⟩
        · simp only [spec_l1Get.l0]
          rw [if_neg (by omega), snum_eq, Option.bind_some, if_pos hn, ssize_eq, Option.bind_some, if_pos hz, w64 (by omega) (by omega)]
        · simp only [impl_GetNumber.l0]
          rw [if_neg (by omega), inum_eq, Option.bind_some, if_pos hn, isize_eq, Option.bind_some, if_pos hz, w64 (by omega) (by omega)]
        · rintro q ⟨⟩
          unfold numB at hn
          have := of_decide_eq_true hn
          exact ⟨by omega, by omega, rfl⟩
      · refine ⟨none, Ev.step (f := fun _ => some (0, -1)) (fun k => ?_) (Ev.now _), Ev.step (f := fun _ => some (0, 0, false)) (fun k => ?_) (Ev.now _), fun q hq => by cases hq⟩
        · simp only [spec_l1Get.l0]
          rw [if_neg (by omega), snum_eq, Option.bind_some, if_pos hn, ssize_eq, Option.bind_some, if_neg hz]
        · simp only [impl_GetNumber.l0]
          rw [if_neg (by omega), inum_eq, Option.bind_some, if_pos hn, isize_eq, Option.bind_some, if_neg hz]
    · refine ⟨none, Ev.step (f := fun _ => some (0, -1)) (fun k => ?_) (Ev.now _), Ev.step (f := fun _ => some (0, 0, false)) (fun k => ?_) (Ev.now _), fun q hq => by cases hq⟩
      · simp only [spec_l1Get.l0]
        rw [if_neg (by omega), snum_eq, Option.bind_some, if_neg hn]
      · simp only [impl_GetNumber.l0]
        rw [if_neg (by omega), inum_eq, Option.bind_some, if_neg hn]
  | d + 1, n, i, hi, hi2, hd => by
    obtain ⟨o, ho1, ho2, ho3⟩ := get_l s p sz h0 h1 h2 hs d (Go.bits .or .i64 (wrap64 (n * 256)) (wrap64 (bt s (p + i)))) (i + 1) (by omega) (by omega) (by omega)
    refine ⟨o, Ev.step (fun k => ?_) ho1, Ev.step (fun k => ?_) ho2, ho3⟩
    · simp only [spec_l1Get.l0]
      rw [w64 (i := p + i) (by omega) (by omega), w64 (i := i + 1) (by omega) (by omega), if_pos (by omega), if_pos (by omega), if_pos (by omega)]
    · simp only [impl_GetNumber.l0]
      rw [w64 (i := p + i) (by omega) (by omega), w64 (i := i + 1) (by omega) (by omega), if_pos (by omega), if_pos (by omega), if_pos (by omega)]
theorem shl_in (b : Int) (h0 : 0 ≤ b) (h1 : b ≤ 255) : IntKind.u64.wrap (b / 64) = b / 64 ∧ 0 < shl .i64 1 (b / 64) ∧ shl .i64 1 (b / 64) ≤ 8 := by
  have h : b / 64 = 0 ∨ b / 64 = 1 ∨ b / 64 = 2 ∨ b / 64 = 3 := by omega
  rcases h with h | h | h | h <;> rw [h] <;> decide
theorem get_ev (s : ByteArray) (p : Int) (h0 : 0 ≤ p) (h1 : p < s.size) (hs : s.size ≤ 1048576) :
    ∃ o, Ev (fun k => spec_l1Get.f k s p) (toS o) ∧ Ev (fun k => impl_GetNumber.f k s p) (toI o) ∧ ∀ q, o = some q → 0 ≤ q.1 ∧ q.1 ≤ 1152921504606846975 ∧ p < q.2 ∧ q.2 ≤ s.size := by
  obtain ⟨hb0, hb1⟩ := bt_range s p
  obtain ⟨e1, e2, e3⟩ := shl_in (bt s p) hb0 hb1
  unfold spec_l1Get.f impl_GetNumber.f
  simp only [e1, in_eq, Option.bind_some, w64 (i := (s.size : Int) - 1) (by omega) (by omega), w64 (i := (s.size : Int) - p) (by omega) (by omega), w64 (i := p + shl .i64 1 (bt s p / 64)) (by omega) (by omega),
    if_neg (show ¬ p ≥ (s.size : Int) by omega), if_pos h0, if_pos h1, if_pos (show 0 ≤ bt s p / 64 by omega), if_pos (decide_eq_true (show p ≥ 0 ∧ p ≤ (s.size : Int) - 1 by omega))]
  by_cases h : p + shl .i64 1 (bt s p / 64) > (s.size : Int)
  · simp only [if_pos h, if_pos (show shl .i64 1 (bt s p / 64) > (s.size : Int) - p by omega)]
    exact ⟨none, Ev.now _, Ev.now _, fun q hq => by cases hq⟩
  · simp only [if_neg h, if_neg (show ¬ shl .i64 1 (bt s p / 64) > (s.size : Int) - p by omega)]
    obtain ⟨o, a, b, c⟩ := get_l s p (shl .i64 1 (bt s p / 64)) h0 e2 (by omega) hs (shl .i64 1 (bt s p / 64) - 1).toNat (wrap64 (Go.bits .and .u8 (bt s p) 63)) 1 (by omega) (by omega) (by omega)
    exact ⟨o, a, b, fun q hq => by obtain ⟨x, y, z⟩ := c q hq; exact ⟨x, y, by omega, by omega⟩⟩
theorem get_out (s : ByteArray) (p : Int) (h : ¬ (0 ≤ p ∧ p < s.size)) (hs : s.size ≤ 1048576) : Ev (fun k => impl_GetNumber.f k s p) (0, 0, false) := by
  unfold impl_GetNumber.f
  simp only [in_eq, Option.bind_some, w64 (i := (s.size : Int) - 1) (by omega) (by omega), decide_eq_false (show ¬ (p ≥ 0 ∧ p ≤ (s.size : Int) - 1) by omega)]
  exact Ev.now _
theorem eqInt_ev (l : List Int) (hl : l.length ≤ 1048576) : Ev (fun k => laws_eqIntS.f k l l) true := by
  refine Ev.congr (fun k => ?_) (eqr_ev (fun k x0 x1 x5 => laws_eqIntS.l0 k x0 x1 x5) l (fun k j hj => ?_) (fun k => ?_) (by omega))
  · unfold laws_eqIntS.f
    rw [if_pos rfl]
  · simp only [laws_eqIntS.l0]
    rw [if_pos (by omega), if_pos (by omega), if_pos (by omega), if_pos trivial]
  · simp [laws_eqIntS.l0]
theorem markInt_ev (l : List Int) (m : Int) (h0 : 0 ≤ m) (h1 : m ≤ 1000000) (hl : l.length ≤ 1048576) : Ev (fun k => laws_markIntS.f k l m) (m + (1 : Nat) * (l.length : Int), (List.range l.length).map fun j : Nat => (fun x : Int => x) (m + ((1 : Nat) : Int) * (j : Int))) := by
  refine Ev.congr (fun k => rfl) (mark_ev (fun k x0 x1 x5 => laws_markIntS.l0 k x0 x1 x5) 1 (fun x => x) m h0 h1 (by omega) (fun k x0 x1 j hj h0 h1 => ?_) (fun k x0 x1 => ?_) l (by omega))
  · simp only [laws_markIntS.l0]
    rw [if_pos (by omega), if_pos (by omega), Int.toNat_natCast, w64 (i := x1 + 1) (by omega) (by omega)]
    rfl
  · simp [laws_markIntS.l0]
theorem heldInt_ev (n : Nat) (m : Int) (h0 : 0 ≤ m) (h1 : m ≤ 1000000) (hn : n ≤ 1048576) : Ev (fun k => laws_heldIntS.f k ((List.range n).map fun j : Nat => (fun x : Int => x) (m + ((1 : Nat) : Int) * (j : Int))) m) (m + (1 : Nat) * (n : Int)) := by
  refine Ev.congr (fun k => rfl) (held_ev (fun k x0 x1 x5 => laws_heldIntS.l0 k x0 x1 x5) 1 (fun x => x) m h0 h1 (by omega) (fun k x0 x1 j hx hj h0 h1 => ?_) (fun k x0 x1 => ?_) n (by omega))
  · simp only [laws_heldIntS.l0]
    rw [if_pos (by omega), if_pos (by omega), if_pos (by simp only [rd, Int.toNat_natCast, List.getD_eq_getElem?_getD, hx, Option.getD_some]), w64 (i := x1 + 1) (by omega) (by omega)]
    rfl
  · simp [laws_heldIntS.l0]
def outS : Option (List Int) → List Int × Bool
  | some l => (l, true)
  | none => ([], false)
def outI : Option (List Int) → List Int × Bool
  | some l => if l.length ≤ 60 then (l, true) else ([], false)
  | none => ([], false)
theorem outI_le {l : List Int} (h : l.length ≤ 60) : outI (some l) = (l, true) := if_pos h
theorem outI_gt {l : List Int} (h : ¬ l.length ≤ 60) : outI (some l) = ([], false) := if_neg h
theorem list_l (s : ByteArray) (hs : s.size ≤ 600) : ∀ (d : Nat) (a : List Int) (p : Int), 0 ≤ p → p ≤ s.size → (s.size : Int) - p ≤ d → (a.length : Int) ≤ p → a.length ≤ 60 →
    ∃ o, Ev (fun k => spec_l1List.l0 k s a p) (outS o) ∧ Ev (fun k => impl_GetList.l0 k s a p) (outI o)
  | 0, a, p, h0, h1, hd, ha, ha2 => by
    refine ⟨some a, Ev.step (f := fun _ => some (a, true)) (fun k => ?_) (Ev.now _), Ev.step (f := fun _ => some (a, true)) (fun k => ?_) ?_⟩
    · simp only [spec_l1List.l0]
      rw [if_neg (by omega)]
    · simp only [impl_GetList.l0]
      rw [if_neg (by omega)]
    · rw [outI_le ha2]
      exact Ev.now _
  | d + 1, a, p, h0, h1, hd, ha, ha2 => by
    by_cases hp : p < s.size
    · obtain ⟨o, g1, g2, g3⟩ := get_ev s p h0 hp (by omega)
      match o, g1, g2, g3 with
      | none, g1, g2, _ =>
        have g1' : Ev (fun k => spec_l1Get.f k s p) (0, -1) := g1
        have g2' : Ev (fun k => impl_GetNumber.f k s p) (0, 0, false) := g2
        refine ⟨none, Ev.step (fun k => by simp only [spec_l1List.l0]; rw [if_pos hp]) (Ev.bind g1' (Ev.now _)), Ev.step (fun k => by simp only [impl_GetList.l0]; rw [if_pos hp]) (Ev.bind g2' (Ev.now _))⟩
      | some (n, e), g1, g2, g3 =>
        obtain ⟨b1, b2, b3, b4⟩ := g3 _ rfl
        dsimp only at b1 b2 b3 b4
        have g1' : Ev (fun k => spec_l1Get.f k s p) (n, e) := g1
        have g2' : Ev (fun k => impl_GetNumber.f k s p) (n, e, true) := g2
        by_cases h60 : a.length = 60
        · -- what comes is one too many
          have hsp : ∀ (d : Nat) (b : List Int) (q : Int), 0 ≤ q → q ≤ s.size → (s.size : Int) - q ≤ d → (b.length : Int) ≤ q → 60 < b.length → ∃ o, Ev (fun k => spec_l1List.l0 k s b q) (outS o) ∧ ∀ l, o = some l → 60 < l.length := by
            intro d
            induction d with
            | zero =>
              intro b q q0 q1 qd qb qb2
              refine ⟨some b, Ev.step (f := fun _ => some (b, true)) (fun k => ?_) (Ev.now _), fun l hl => by cases hl; exact qb2⟩
              simp only [spec_l1List.l0]
              rw [if_neg (by omega)]
            | succ d ih =>
              intro b q q0 q1 qd qb qb2
              by_cases hq : q < s.size
              · obtain ⟨o, g1, _, g3⟩ := get_ev s q q0 hq (by omega)
                match o, g1, g3 with
                | none, g1, _ =>
                  have g1' : Ev (fun k => spec_l1Get.f k s q) (0, -1) := g1
                  exact ⟨none, Ev.step (fun k => by simp only [spec_l1List.l0]; rw [if_pos hq]) (Ev.bind g1' (Ev.now _)), fun l hl => by cases hl⟩
                | some (n, e), g1, g3 =>
                  obtain ⟨b1, b2, b3, b4⟩ := g3 _ rfl
                  dsimp only at b1 b2 b3 b4
                  have g1' : Ev (fun k => spec_l1Get.f k s q) (n, e) := g1
                  obtain ⟨o, i1, i2⟩ := ih (b ++ [n]) e (by omega) (by omega) (by omega) (by rw [List.length_append, List.length_singleton]; omega) (by rw [List.length_append]; omega)
                  refine ⟨o, Ev.step (fun k => by simp only [spec_l1List.l0]; rw [if_pos hq]) (Ev.bind g1' ?_), i2⟩
                  simp only [if_neg (show ¬ e < 0 by omega), if_pos (show b.length < 17592186044416 by omega)]
                  exact i1
              · refine ⟨some b, Ev.step (f := fun _ => some (b, true)) (fun k => ?_) (Ev.now _), fun l hl => by cases hl; exact qb2⟩
                simp only [spec_l1List.l0]
                rw [if_neg hq]
          obtain ⟨o, i1, i2⟩ := hsp s.size (a ++ [n]) e (by omega) (by omega) (by omega) (by rw [List.length_append, List.length_singleton]; omega) (by rw [List.length_append, List.length_singleton]; omega)
          refine ⟨o, Ev.step (fun k => by simp only [spec_l1List.l0]; rw [if_pos hp]) (Ev.bind g1' ?_), Ev.step (fun k => by simp only [impl_GetList.l0]; rw [if_pos hp]) (Ev.bind g2' ?_)⟩
          · simp only [if_neg (show ¬ e < 0 by omega), if_pos (show a.length < 17592186044416 by omega)]
            exact i1
          · simp only [if_true, if_pos (show (a.length : Int) = 60 by omega)]
            match o, i2 with
            | none, _ => exact Ev.now _
            | some l, i2 =>
              have := i2 l rfl
              rw [outI_gt (by omega)]
              exact Ev.now _
        · obtain ⟨o, i1, i2⟩ := list_l s hs d (a ++ [n]) e (by omega) (by omega) (by omega) (by rw [List.length_append, List.length_singleton]; omega) (by rw [List.length_append, List.length_singleton]; omega)
          refine ⟨o, Ev.step (fun k => by simp only [spec_l1List.l0]; rw [if_pos hp]) (Ev.bind g1' ?_), Ev.step (fun k => by simp only [impl_GetList.l0]; rw [if_pos hp]) (Ev.bind g2' ?_)⟩
          · simp only [if_neg (show ¬ e < 0 by omega), if_pos (show a.length < 17592186044416 by omega)]
            exact i1
          · simp only [if_true, if_neg (show ¬ (a.length : Int) = 60 by omega), if_pos (show a.length < 17592186044416 by omega)]
            exact i2
    · refine ⟨some a, Ev.step (f := fun _ => some (a, true)) (fun k => ?_) (Ev.now _), Ev.step (f := fun _ => some (a, true)) (fun k => ?_) ?_⟩
      · simp only [spec_l1List.l0]
        rw [if_neg hp]
      · simp only [impl_GetList.l0]
        rw [if_neg hp]
      · rw [outI_le ha2]
        exact Ev.now _
theorem list_ev (s : ByteArray) : ∃ l b, Ev (fun k => spec_GetList.f k s) (l, b) ∧ Ev (fun k => impl_GetList.f k s) (l, b) ∧ l.length ≤ 60 := by
  unfold spec_GetList.f impl_GetList.f
  by_cases h : (s.size : Int) > 600
  · simp only [if_pos h]
    exact ⟨[], false, Ev.now _, Ev.now _, by decide⟩
  · simp only [if_neg h]
    obtain ⟨o, h1, h2⟩ := list_l s (by omega) s.size [] 0 (by omega) (by omega) (by omega) (by decide) (by decide)
    match o, h1, h2 with
    | none, h1, h2 =>
      have h1' : Ev (fun k => spec_l1List.f k s) ([], false) := h1
      exact ⟨[], false, Ev.bind h1' (Ev.now _), h2, by decide⟩
    | some l, h1, h2 =>
      have h1' : Ev (fun k => spec_l1List.f k s) (l, true) := h1
      by_cases hl : l.length ≤ 60
      · refine ⟨l, true, Ev.bind h1' ?_, ?_, hl⟩
        · simp only [if_true, if_neg (show ¬ (l.length : Int) > 60 by omega)]
          exact Ev.now _
        · rw [outI_le hl] at h2
          exact h2
      · refine ⟨[], false, Ev.bind h1' ?_, ?_, by decide⟩
        · simp only [if_true, if_pos (show (l.length : Int) > 60 by omega)]
          exact Ev.now _
        · rw [outI_gt hl] at h2
          exact h2
theorem FnExactGetList : laws_FnExactGetList.Pure := by
  intro s _
  apply Ev.rounds
  unfold laws_FnExactGetList.f
  by_cases h : (s.size : Int) > 1048576
  · simp only [if_pos h]
    exact Ev.now _
  simp only [if_neg h]
  obtain ⟨l, b, h1, h2, hl⟩ := list_ev s
  have hm := markInt_ev l 1 (by omega) (by omega) (by omega)
  have hh := heldInt_ev l.length 1 (by omega) (by omega) (by omega)
  have he := eqInt_ev l (by omega)
  refine Ev.bind h1 (Ev.bind h2 (Ev.bind he ?_))
  simp only [if_true, bne_self_eq_false]
  refine Ev.step (fun k => by simp only [laws_FnExactGetList.j0]; rfl) ?_
  simp only [Bool.false_eq_true, if_false]
  refine Ev.bind hm (Ev.bind hh ?_)
  simp only [if_neg (show ¬ (1 + ((1 : Nat) : Int) * (l.length : Int) < 0) by omega), if_true]
  refine Ev.bind h2 (Ev.bind he ?_)
  simp only [if_true, bne_self_eq_false]
  refine Ev.step (fun k => by simp only [laws_FnExactGetList.j1]; rfl) ?_
  simp only [Bool.false_eq_true, if_false]
  refine Ev.bind hh ?_
  simp only [if_neg (show ¬ (1 + ((1 : Nat) : Int) * (l.length : Int) < 0) by omega), if_true]
  exact Ev.now _

end Go.Proofs.Ytmffllogaboklaa.Pure
