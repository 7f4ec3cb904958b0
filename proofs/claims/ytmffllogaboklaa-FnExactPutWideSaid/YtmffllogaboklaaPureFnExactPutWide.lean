/- The pure statement of the law FnExactPutWide: over lists and numbers the law's function answers true. No conditions beyond those typed. -/
import Derived.Test.YtmffllogaboklaaX2
import Derived.Test.YtmffllogaboklaaLib
namespace Go.Proofs.Ytmffllogaboklaa.Pure
open Go.RowKit Go.Proofs.Ytmffllogaboklaa.X Go.Proofs.YtmffllogaboklaaW.PrintWords Go.Proofs.YtmffllogaboklaaLib
set_option linter.unusedVariables false
set_option linter.unusedSimpArgs false

theorem in_eq (x y z : Int) : impl_in.f x y z = some (decide (x ≥ y ∧ x ≤ z)) := by
  unfold impl_in.f
  by_cases h : x ≥ y <;> simp only [h, if_true, if_false, true_and, false_and, decide_false]
theorem sin_eq (x y z : Int) : spec_l1In.f x y z = some (decide (x ≥ y ∧ x ≤ z)) := by
  unfold spec_l1In.f
  by_cases h : x ≥ y <;> simp only [h, if_true, if_false, true_and, false_and, decide_false]
def numB (n : Int) : Bool := decide (n ≥ 0 ∧ n ≤ 1152921504606846975)
theorem snum_eq (n : Int) : spec_l1Number.f n = some (numB n) := by
  unfold spec_l1Number.f
  rw [sin_eq]
  rfl
theorem inum_eq (n : Int) : impl_isNumber.f n = some (numB n) := by
  unfold impl_isNumber.f
  rw [in_eq]
  rfl
/-- The bytes of a number, laid from the last one on. -/
def wideL : Nat → Int → List Int → List Int
  | 0, _, x => x
  | m + 1, n, x => wideL m (n / 256) (x.set m (n % 256))
theorem wideL_len : ∀ (m : Nat) (n : Int) (x : List Int), (wideL m n x).length = x.length
  | 0, _, _ => rfl
  | m + 1, n, x => by rw [wideL, wideL_len, List.length_set]
theorem wideL_head : ∀ (m : Nat) (n : Int) (x : List Int), m ≤ x.length → (0 < m ∨ (0 ≤ rd x 0 ∧ rd x 0 ≤ 255)) → 0 ≤ rd (wideL m n x) 0 ∧ rd (wideL m n x) 0 ≤ 255
  | 0, _, x, _, h => by rcases h with h | h; omega; exact h
  | m + 1, n, x, hm, _ => by
    rw [wideL]
    refine wideL_head m _ _ (by rw [List.length_set]; omega) ?_
    by_cases h0 : m = 0
    · subst h0
      right
      simp only [rd, Int.toNat_zero, List.getD_eq_getElem?_getD, List.getElem?_set_self (show 0 < x.length by omega), Option.getD_some]
      omega
    · left; omega
def markI (s : Int) : Int := if s = 2 then 64 else if s = 4 then 128 else if s = 8 then 192 else 0
def wideS (n size : Int) : ByteArray := strOfNums ((wideL size.toNat n (List.replicate size.toNat 0)).set 0 ((rd (wideL size.toNat n (List.replicate size.toNat 0)) 0 + markI size) % 256))
theorem smark_eq (s : Int) : spec_l1Mark.f s = some (markI s) := by
  unfold spec_l1Mark.f markI
  repeat' split
  all_goals rfl
theorem swide_l (x1 : Int) : ∀ (m : Nat) (n : Int) (x : List Int), m ≤ x.length → 0 < x.length → x.length ≤ 1000 →
    Ev (fun k => spec_l1Wide.l0 k n x1 x ((m : Int) - 1)) (strOfNums ((wideL m n x).set 0 ((rd (wideL m n x) 0 + markI x1) % 256)))
  | 0, n, x, _, h0, _ => by
    refine Ev.step (f := fun _ => some (strOfNums (x.set 0 ((rd x 0 + markI x1) % 256)))) (fun k => ?_) (Ev.now _)
    simp only [spec_l1Wide.l0, smark_eq, Option.bind_some]
    rw [if_neg (by omega), if_pos (by omega), Int.toNat_zero]
    have : markI x1 % 256 = markI x1 := by unfold markI; repeat' split
                                           all_goals rfl
    rw [this]
  | m + 1, n, x, hm, h0, hx => by
    refine Ev.step (f := fun k => spec_l1Wide.l0 k (n / 256) x1 (x.set m (n % 256)) ((m : Int) - 1)) (fun k => ?_) (swide_l x1 m _ _ (by rw [List.length_set]; omega) (by rw [List.length_set]; omega) (by rw [List.length_set]; omega))
    simp only [spec_l1Wide.l0]
    rw [if_pos (by omega), if_pos (by omega), if_pos (by omega), w64 (by omega) (by omega), show (((m + 1 : Nat) : Int) - 1).toNat = m by omega, show ((m + 1 : Nat) : Int) - 1 - 1 = (m : Int) - 1 by omega]
theorem iwide_l (x1 : Int) (r : ByteArray) : ∀ (m : Nat) (n : Int) (x : List Int), m ≤ x.length → x.length ≤ 1000 →
    Ev (fun k => impl_wide.l1 k x1 (wideL m n x) 1) r → Ev (fun k => impl_wide.l0 k n x1 x ((m : Int) - 1)) r
  | 0, n, x, _, _, h => by
    refine Ev.step (fun k => ?_) h
    simp only [impl_wide.l0]
    rw [if_neg (by omega)]
    rfl
  | m + 1, n, x, hm, hx, h => by
    refine Ev.step (f := fun k => impl_wide.l0 k (n / 256) x1 (x.set m (n % 256)) ((m : Int) - 1)) (fun k => ?_) (iwide_l x1 r m _ _ (by rw [List.length_set]; omega) (by rw [List.length_set]; omega) h)
    simp only [impl_wide.l0]
    rw [if_pos (by omega), if_pos (by omega), if_pos (by omega), w64 (by omega) (by omega), show (((m + 1 : Nat) : Int) - 1).toNat = m by omega, show ((m + 1 : Nat) : Int) - 1 - 1 = (m : Int) - 1 by omega]
theorem set_self0 (x : List Int) : x.set 0 (rd x 0) = x := by
  cases x with
  | nil => rfl
  | cons a l => simp [rd]
theorem rd_set0 (x : List Int) (h : 0 < x.length) (v : Int) : rd (x.set 0 v) 0 = v := by
  simp [rd, List.getD_eq_getElem?_getD, List.getElem?_set_self h]
theorem iwide_end (size : Int) (hs : size = 1 ∨ size = 2 ∨ size = 4 ∨ size = 8) (x : List Int) (hx : 0 < x.length) (h0 : 0 ≤ rd x 0 ∧ rd x 0 ≤ 255) :
    Ev (fun k => impl_wide.l1 k size x 1) (strOfNums (x.set 0 ((rd x 0 + markI size) % 256))) := by
  have e2 : wrap64 (1 * 2) = 2 := w64 (by omega) (by omega)
  have e4 : wrap64 (2 * 2) = 4 := w64 (by omega) (by omega)
  have e8 : wrap64 (4 * 2) = 8 := w64 (by omega) (by omega)
  have hl : ∀ v, 0 < (x.set 0 v).length := fun v => by rw [List.length_set]; exact hx
  refine ⟨5, fun k hk => ?_⟩
  obtain ⟨n, rfl⟩ : ∃ n, k = n + 5 := ⟨k - 5, by omega⟩
  rcases hs with rfl | rfl | rfl | rfl
  · simp only [impl_wide.l1]
    rw [if_neg (by omega)]
    have : (rd x 0 + markI 1) % 256 = rd x 0 := by rw [show markI 1 = 0 from rfl]; omega
    rw [this, set_self0]
  · simp only [impl_wide.l1, e2, Int.toNat_zero, List.length_set]
    rw [if_pos (by omega), if_pos (by omega), if_neg (by omega)]
    rfl
  · simp only [impl_wide.l1, e2, e4, Int.toNat_zero, List.length_set, List.set_set, rd_set0 x hx]
    rw [if_pos (by omega), if_pos (by omega), if_pos (by omega), if_pos (by omega), if_neg (by omega)]
    have : ((rd x 0 + 64) % 256 + 64) % 256 = (rd x 0 + markI 4) % 256 := by rw [show markI 4 = 128 from rfl]; omega
    rw [this]
  · simp only [impl_wide.l1, e2, e4, e8, Int.toNat_zero, List.length_set, List.set_set, rd_set0 x hx]
    rw [if_pos (by omega), if_pos (by omega), if_pos (by omega), if_pos (by omega), if_pos (by omega), if_pos (by omega), if_neg (by omega)]
    have : (((rd x 0 + 64) % 256 + 64) % 256 + 64) % 256 = (rd x 0 + markI 8) % 256 := by rw [show markI 8 = 192 from rfl]; omega
    rw [this]
theorem swide_ev (n size : Int) (hs : size = 1 ∨ size = 2 ∨ size = 4 ∨ size = 8) : Ev (fun k => spec_l1Wide.f k n size) (wideS n size) := by
  obtain ⟨m, rfl⟩ : ∃ m : Nat, size = m := ⟨size.toNat, by omega⟩
  unfold spec_l1Wide.f wideS
  simp only [if_pos (show (0 : Int) ≤ (m : Int) by omega), Int.toNat_natCast, if_pos (show m ≤ 281474976710656 by omega), w64 (i := (m : Int) - 1) (by omega) (by omega)]
  exact swide_l (m : Int) m n (List.replicate m 0) (by simp) (by simp; omega) (by simp; omega)
theorem iwide_ev (n size : Int) (hs : size = 1 ∨ size = 2 ∨ size = 4 ∨ size = 8) : Ev (fun k => impl_wide.f k n size) (wideS n size) := by
  obtain ⟨m, rfl⟩ : ∃ m : Nat, size = m := ⟨size.toNat, by omega⟩
  unfold impl_wide.f wideS
  simp only [if_pos (show (0 : Int) ≤ (m : Int) by omega), Int.toNat_natCast, if_pos (show m ≤ 281474976710656 by omega), w64 (i := (m : Int) - 1) (by omega) (by omega)]
  refine iwide_l (m : Int) _ m n (List.replicate m 0) (by simp) (by simp; omega) (iwide_end _ hs _ (by rw [wideL_len]; simp; omega) (wideL_head m n _ (by simp) (Or.inl (by omega))))
def sizeI (n : Int) : Int := if n < 64 then 1 else if n < 16384 then 2 else if n < 1073741824 then 4 else 8
theorem ssize_eq (n : Int) : spec_l1Size.f n = some (sizeI n) := by
  unfold spec_l1Size.f sizeI
  repeat' split
  all_goals rfl
theorem isize_eq (n : Int) : impl_sizeOf.f n = some (sizeI n) := by
  unfold impl_sizeOf.f sizeI
  repeat' split
  all_goals rfl
theorem sizeI_in (n : Int) : sizeI n = 1 ∨ sizeI n = 2 ∨ sizeI n = 4 ∨ sizeI n = 8 := by
  unfold sizeI
  repeat' split
  all_goals simp
theorem wideS_size (n size : Int) : (wideS n size).size = size.toNat := by
  simp [wideS, strOfNums, wideL_len, ByteArray.size]
theorem pw_ev (n size : Int) : ∃ r, Ev (fun k => spec_PutWide.f k n size) r ∧ Ev (fun k => impl_PutWide.f k n size) r := by
  unfold spec_PutWide.f impl_PutWide.f
  simp only [snum_eq, inum_eq, ssize_eq, isize_eq, Option.bind_some]
  by_cases h : numB n = true
  · simp only [if_pos h]
    by_cases hs : size = 1 ∨ size = 2 ∨ size = 4 ∨ size = 8
    · by_cases hz : size < sizeI n
      · refine ⟨((⟨#[]⟩ : ByteArray), false), ?_, ?_⟩
        · simp only [if_pos hz]
          rcases hs with rfl | rfl | rfl | rfl <;> exact Ev.now _
        · simp only [if_pos hz]
          rcases hs with rfl | rfl | rfl | rfl <;> exact Ev.now _
      · refine ⟨(wideS n size, true), ?_, ?_⟩
        · simp only [if_neg hz]
          have := swide_ev n size hs
          rcases hs with rfl | rfl | rfl | rfl <;> exact Ev.bind this (Ev.now _)
        · simp only [if_neg hz]
          have := iwide_ev n size hs
          rcases hs with rfl | rfl | rfl | rfl <;> exact Ev.bind this (Ev.now _)
    · refine ⟨((⟨#[]⟩ : ByteArray), false), ?_, ?_⟩
      · simp only [if_neg (show ¬ size = 1 by omega), if_neg (show ¬ size = 2 by omega), if_neg (show ¬ size = 4 by omega), if_neg (show ¬ size = 8 by omega)]
        exact Ev.now _
      · simp only [if_neg (show ¬ size = 1 by omega), if_neg (show ¬ size = 2 by omega), if_neg (show ¬ size = 4 by omega), if_neg (show ¬ size = 8 by omega)]
        exact Ev.now _
  · exact ⟨((⟨#[]⟩ : ByteArray), false), by simp only [if_neg h]; exact Ev.now _, by simp only [if_neg h]; exact Ev.now _⟩
theorem FnExactPutWide : laws_FnExactPutWide.Pure := by
  intro n size _ _
  apply Ev.rounds
  unfold laws_FnExactPutWide.f
  obtain ⟨r, h1, h2⟩ := pw_ev n size
  refine Ev.bind h1 ?_
  refine Ev.bind h2 ?_
  simp
  exact Ev.now _

end Go.Proofs.Ytmffllogaboklaa.Pure
