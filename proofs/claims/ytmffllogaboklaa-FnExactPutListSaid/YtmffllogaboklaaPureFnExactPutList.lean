/- The pure statement of the law FnExactPutList: over lists and numbers the law's function answers true. No conditions beyond those typed. -/
import Derived.Test.YtmffllogaboklaaX5
import Derived.Test.YtmffllogaboklaaLib
namespace Go.Proofs.Ytmffllogaboklaa.Pure
open Go.RowKit Go.Proofs.Ytmffllogaboklaa.X Go.Proofs.YtmffllogaboklaaW.PrintWords Go.Proofs.YtmffllogaboklaaLib
set_option linter.unusedVariables false
set_option linter.unusedSimpArgs false

theorem in_eq (x y z : Int) : impl_in.f x y z = some (decide (x ≥ y ∧ x ≤ z)) := by
  unfold impl_in.f
  by_cases h : x ≥ y <;> simp only [h, if_true, if_false, true_and, false_and, decide_false]
theorem sin_eq (x y z : Int) : spec_l1In.f x y z = some (decide (x ≥ y ∧ x ≤ z)) := by
  unfold spec_l1In.f
  by_cases h : x ≥ y <;> simp only [h, if_true, if_false, true_and, false_and, decide_false]
def numB (n : Int) : Bool := decide (n ≥ 0 ∧ n ≤ 1152921504606846975)
theorem snum_eq (n : Int) : spec_l1Number.f n = some (numB n) := by
  unfold spec_l1Number.f
  rw [sin_eq]
  rfl
theorem inum_eq (n : Int) : impl_isNumber.f n = some (numB n) := by
  unfold impl_isNumber.f
  rw [in_eq]
  rfl
/-- The bytes of a number, laid from the last one on. -/
def wideL : Nat → Int → List Int → List Int
  | 0, _, x => x
  | m + 1, n, x => wideL m (n / 256) (x.set m (n % 256))
theorem wideL_len : ∀ (m : Nat) (n : Int) (x : List Int), (wideL m n x).length = x.length
  | 0, _, _ => rfl
  | m + 1, n, x => by rw [wideL, wideL_len, List.length_set]
theorem wideL_head : ∀ (m : Nat) (n : Int) (x : List Int), m ≤ x.length → (0 < m ∨ (0 ≤ rd x 0 ∧ rd x 0 ≤ 255)) → 0 ≤ rd (wideL m n x) 0 ∧ rd (wideL m n x) 0 ≤ 255
  | 0, _, x, _, h => by rcases h with h | h; omega; exact h
  | m + 1, n, x, hm, _ => by
    rw [wideL]
    refine wideL_head m _ _ (by rw [List.length_set]; omega) ?_
    by_cases h0 : m = 0
    · subst h0
      right
      simp only [rd, Int.toNat_zero, List.getD_eq_getElem?_getD, List.getElem?_set_self (show 0 < x.length by omega), Option.getD_some]
      omega
    · left; omega
def markI (s : Int) : Int := if s = 2 then 64 else if s = 4 then 128 else if s = 8 then 192 else 0
def wideS (n size : Int) : ByteArray := strOfNums ((wideL size.toNat n (List.replicate size.toNat 0)).set 0 ((rd (wideL size.toNat n (List.replicate size.toNat 0)) 0 + markI size) % 256))
theorem smark_eq (s : Int) : spec_l1Mark.f s = some (markI s) := by
  unfold spec_l1Mark.f markI
  repeat' split
  all_goals rfl
theorem swide_l (x1 : Int) : ∀ (m : Nat) (n : Int) (x : List Int), m ≤ x.length → 0 < x.length → x.length ≤ 1000 →
    Ev (fun k => spec_l1Wide.l0 k n x1 x ((m : Int) - 1)) (strOfNums ((wideL m n x).set 0 ((rd (wideL m n x) 0 + markI x1) % 256)))
  | 0, n, x, _, h0, _ => by
    refine Ev.step (f := fun _ => some (strOfNums (x.set 0 ((rd x 0 + markI x1) % 256)))) (fun k => ?_) (Ev.now _)
    simp only [spec_l1Wide.l0, smark_eq, Option.bind_some]
    rw [if_neg (by omega), if_pos (by omega), Int.toNat_zero]
    have : markI x1 % 256 = markI x1 := by unfold markI; repeat' split
                                           all_goals rfl
    rw [this]
  | m + 1, n, x, hm, h0, hx => by
    refine Ev.step (f := fun k => spec_l1Wide.l0 k (n / 256) x1 (x.set m (n % 256)) ((m : Int) - 1)) (fun k => ?_) (swide_l x1 m _ _ (by rw [List.length_set]; omega) (by rw [List.length_set]; omega) (by rw [List.length_set]; omega))
    simp only [spec_l1Wide.l0]
    rw [if_pos (by omega), if_pos (by omega), if_pos (by omega), w64 (by omega) (by omega), show (((m + 1 : Nat) : Int) - 1).toNat = m by omega, show ((m + 1 : Nat) : Int) - 1 - 1 = (m : Int) - 1 by omega]
theorem iwide_l (x1 : Int) (r : ByteArray) : ∀ (m : Nat) (n : Int) (x : List Int), m ≤ x.length → x.length ≤ 1000 →
    Ev (fun k => impl_wide.l1 k x1 (wideL m n x) 1) r → Ev (fun k => impl_wide.l0 k n x1 x ((m : Int) - 1)) r
  | 0, n, x, _, _, h => by
    refine Ev.step (fun k => ?_) h
    simp only [impl_wide.l0]
    rw [if_neg (by omega)]
    rfl
  | m + 1, n, x, hm, hx, h => by
    refine Ev.step (f := fun k => impl_wide.l0 k (n / 256) x1 (x.set m (n % 256)) ((m : Int) - 1)) (fun k => ?_) (iwide_l x1 r m _ _ (by rw [List.length_set]; omega) (by rw [List.length_set]; omega) h)
    simp only [impl_wide.l0]
    rw [if_pos (by omega), if_pos (by omega), if_pos (by omega), w64 (by omega) (by omega), show (((m + 1 : Nat) : Int) - 1).toNat = m by omega, show ((m + 1 : Nat) : Int) - 1 - 1 = (m : Int) - 1 by omega]
theorem set_self0 (x : List Int) : x.set 0 (rd x 0) = x := by
  cases x with
  | nil => rfl
  | cons a l => simp [rd]
theorem rd_set0 (x : List Int) (h : 0 < x.length) (v : Int) : rd (x.set 0 v) 0 = v := by
  simp [rd, List.getD_eq_getElem?_getD, List.getElem?_set_self h]
theorem iwide_end (size : Int) (hs : size = 1 ∨ size = 2 ∨ size = 4 ∨ size = 8) (x : List Int) (hx : 0 < x.length) (h0 : 0 ≤ rd x 0 ∧ rd x 0 ≤ 255) :
    Ev (fun k => impl_wide.l1 k size x 1) (strOfNums (x.set 0 ((rd x 0 + markI size) % 256))) := by
  have e2 : wrap64 (1 * 2) = 2 := w64 (by omega) (by omega)
  have e4 : wrap64 (2 * 2) = 4 := w64 (by omega) (by omega)
  have e8 : wrap64 (4 * 2) = 8 := w64 (by omega) (by omega)
  have hl : ∀ v, 0 < (x.set 0 v).length := fun v => by rw [List.length_set]; exact hx
  refine ⟨5, fun k hk => ?_⟩
  obtain ⟨n, rfl⟩ : ∃ n, k = n + 5 := ⟨k - 5, by omega⟩
  rcases hs with rfl | rfl | rfl | rfl
  · simp only [impl_wide.l1]
    rw [if_neg (by omega)]
    have : (rd x 0 + markI 1) % 256 = rd x 0 := by rw [show markI 1 = 0 from rfl]; omega
    rw [this, set_self0]
  · simp only [impl_wide.l1, e2, Int.toNat_zero, List.length_set]
    rw [if_pos (by omega), if_pos (by omega), if_neg (by omega)]
    rfl
  · simp only [impl_wide.l1, e2, e4, Int.toNat_zero, List.length_set, List.set_set, rd_set0 x hx]
    rw [if_pos (by omega), if_pos (by omega), if_pos (by omega), if_pos (by omega), if_neg (by omega)]
    have : ((rd x 0 + 64) % 256 + 64) % 256 = (rd x 0 + markI 4) % 256 := by rw [show markI 4 = 128 from rfl]; omega
    rw [this]
  · simp only [impl_wide.l1, e2, e4, e8, Int.toNat_zero, List.length_set, List.set_set, rd_set0 x hx]
    rw [if_pos (by omega), if_pos (by omega), if_pos (by omega), if_pos (by omega), if_pos (by omega), if_pos (by omega), if_neg (by omega)]
    have : (((rd x 0 + 64) % 256 + 64) % 256 + 64) % 256 = (rd x 0 + markI 8) % 256 := by rw [show markI 8 = 192 from rfl]; omega
    rw [this]
theorem swide_ev (n size : Int) (hs : size = 1 ∨ size = 2 ∨ size = 4 ∨ size = 8) : Ev (fun k => spec_l1Wide.f k n size) (wideS n size) := by
  obtain ⟨m, rfl⟩ : ∃ m : Nat, size = m := ⟨size.toNat, by omega⟩
  unfold spec_l1Wide.f wideS
  simp only [if_pos (show (0 : Int) ≤ (m : Int) by omega), Int.toNat_natCast, if_pos (show m ≤ 281474976710656 by omega), w64 (i := (m : Int) - 1) (by omega) (by omega)]
  exact swide_l (m : Int) m n (List.replicate m 0) (by simp) (by simp; omega) (by simp; omega)
theorem iwide_ev (n size : Int) (hs : size = 1 ∨ size = 2 ∨ size = 4 ∨ size = 8) : Ev (fun k => impl_wide.f k n size) (wideS n size) := by
  obtain ⟨m, rfl⟩ : ∃ m : Nat, size = m := ⟨size.toNat, by omega⟩
  unfold impl_wide.f wideS
  simp only [if_pos (show (0 : Int) ≤ (m : Int) by omega), Int.toNat_natCast, if_pos (show m ≤ 281474976710656 by omega), w64 (i := (m : Int) - 1) (by omega) (by omega)]
  refine iwide_l (m : Int) _ m n (List.replicate m 0) (by simp) (by simp; omega) (iwide_end _ hs _ (by rw [wideL_len]; simp; omega) (wideL_head m n _ (by simp) (Or.inl (by omega))))
def sizeI (n : Int) : Int := if n < 64 then 1 else if n < 16384 then 2 else if n < 1073741824 then 4 else 8
theorem ssize_eq (n : Int) : spec_l1Size.f n = some (sizeI n) := by
  unfold spec_l1Size.f sizeI
  repeat' split
  all_goals rfl
theorem isize_eq (n : Int) : impl_sizeOf.f n = some (sizeI n) := by
  unfold impl_sizeOf.f sizeI
  repeat' split
  all_goals rfl
theorem sizeI_in (n : Int) : sizeI n = 1 ∨ sizeI n = 2 ∨ sizeI n = 4 ∨ sizeI n = 8 := by
  unfold sizeI
  repeat' split
  all_goals simp
theorem wideS_size (n size : Int) : (wideS n size).size = size.toNat := by
  simp [wideS, strOfNums, wideL_len, ByteArray.size]
theorem sput_ev (n : Int) : Ev (fun k => spec_l1Put.f k n) (wideS n (sizeI n)) := by
  unfold spec_l1Put.f
  simp only [ssize_eq, Option.bind_some]
  exact Ev.bind (f := fun _ t => some t) (swide_ev n _ (sizeI_in n)) (Ev.now _)
theorem iput_ev (n : Int) : Ev (fun k => impl_number.f k n) (wideS n (sizeI n)) := by
  unfold impl_number.f
  simp only [isize_eq, Option.bind_some]
  exact Ev.bind (f := fun _ t => some t) (iwide_ev n _ (sizeI_in n)) (Ev.now _)
theorem toInt_ev (l : List Int) (hl : l.length ≤ 1048576) : Ev (fun k => laws_toIntS.f k l) l := by
  have h := fill_ev (fun k x0 x3 x4 => laws_toIntS.l0 k x0 x3 x4) (fun x : Int => x) 0 (fun k x0 x3 x4 => rfl) l 0 (by omega)
  rw [List.map_id'] at h
  refine Ev.congr (fun k => ?_) h
  unfold laws_toIntS.f
  rw [if_pos (by omega), if_pos (by omega), Int.toNat_natCast]
theorem eqInt_ev (l : List Int) (hl : l.length ≤ 1048576) : Ev (fun k => laws_eqIntS.f k l l) true := by
  refine Ev.congr (fun k => ?_) (eqr_ev (fun k x0 x1 x5 => laws_eqIntS.l0 k x0 x1 x5) l (fun k j hj => ?_) (fun k => ?_) (by omega))
  · unfold laws_eqIntS.f
    rw [if_pos rfl]
  · simp only [laws_eqIntS.l0]
    rw [if_pos (by omega), if_pos (by omega), if_pos (by omega), if_pos trivial]
  · simp [laws_eqIntS.l0]
def strsB (l : List Int) : ByteArray → ByteArray := fun a => l.foldl (fun a n => a ++ wideS n (sizeI n)) a
theorem wide_le (n : Int) : (wideS n (sizeI n)).size ≤ 8 := by
  rw [wideS_size]
  have := sizeI_in n
  omega
theorem sall_ev (l : List Int) (hl : l.length ≤ 1048576) : Ev (fun k => spec_l1All.f k l 0 1152921504606846975) (l.all numB) := by
  have h := all_ev (fun k i => spec_l1All.l0 k 0 1152921504606846975 l (l.length : Int) i) numB true l (by omega) (fun k j hj => ?_) (fun k => ?_)
  · rw [Bool.and_true] at h
    exact Ev.congr (fun k => rfl) h
  · simp only [spec_l1All.l0, sin_eq, Option.bind_some]
    rw [if_pos (by omega), if_pos (by omega), if_pos (by omega)]
    simp only [rd, getD_at l j hj]
    rfl
  · simp [spec_l1All.l0]
theorem slist_ev (l : List Int) (hl : l.length ≤ 60) : ∀ (d j : Nat) (a : ByteArray), j ≤ l.length → l.length - j = d → a.size ≤ 8 * j →
    Ev (fun k => spec_PutList.l0 k a l (l.length : Int) (j : Int)) (strsB (l.drop j) a, true)
  | 0, j, a, hj, hd, ha => by
    obtain rfl : j = l.length := by omega
    refine Ev.step (f := fun _ => some (a, true)) (fun k => ?_) ?_
    · simp [spec_PutList.l0]
    · rw [List.drop_length]
      exact Ev.now _
  | d + 1, j, a, hj, hd, ha => by
    have hjl : j < l.length := by omega
    have hw := wide_le (l[j])
    have ih := slist_ev l hl d (j + 1) (a ++ wideS l[j] (sizeI l[j])) (by omega) (by omega) (by rw [ByteArray.size_append]; omega)
    refine Ev.step (f := fun k => (spec_l1Put.f k l[j]).bind fun t => if a.size + t.size ≤ 9223372036854775807 then spec_PutList.l0 k (a ++ t) l (l.length : Int) ((j + 1 : Nat) : Int) else none) (fun k => ?_) (Ev.bind (sput_ev _) ?_)
    · simp only [spec_PutList.l0]
      rw [if_pos (by omega), if_pos (by omega), if_pos (by omega), w64s hjl (by omega)]
      simp only [rd, getD_at l j hjl]
    · simp only [if_pos (show a.size + (wideS l[j] (sizeI l[j])).size ≤ 9223372036854775807 by omega)]
      rw [List.drop_eq_getElem_cons hjl]
      exact ih
theorem ilist_ev (l : List Int) (hl : l.length ≤ 60) : ∀ (d j : Nat) (a : ByteArray), j ≤ l.length → l.length - j = d → a.size ≤ 8 * j →
    Ev (fun k => impl_PutList.l0 k a l (l.length : Int) (j : Int)) (if (l.drop j).all numB = true then (strsB (l.drop j) a, true) else ((⟨#[]⟩ : ByteArray), false))
  | 0, j, a, hj, hd, ha => by
    obtain rfl : j = l.length := by omega
    refine Ev.step (f := fun _ => some (a, true)) (fun k => ?_) ?_
    · simp [impl_PutList.l0]
    · rw [List.drop_length]
      exact Ev.now _
  | d + 1, j, a, hj, hd, ha => by
    have hjl : j < l.length := by omega
    have hw := wide_le (l[j])
    have ih := ilist_ev l hl d (j + 1) (a ++ wideS l[j] (sizeI l[j])) (by omega) (by omega) (by rw [ByteArray.size_append]; omega)
    rw [List.drop_eq_getElem_cons hjl, List.all_cons]
    by_cases hn : numB l[j] = true
    · refine Ev.step (f := fun k => (impl_number.f k l[j]).bind fun t => if a.size + t.size ≤ 9223372036854775807 then impl_PutList.l0 k (a ++ t) l (l.length : Int) ((j + 1 : Nat) : Int) else none) (fun k => ?_) (Ev.bind (iput_ev _) ?_)
      · simp only [impl_PutList.l0]
        rw [if_pos (by omega), if_pos (by omega), if_pos (by omega), w64s hjl (by omega)]
        simp only [rd, getD_at l j hjl, inum_eq, Option.bind_some]
        rw [if_pos hn]
      · simp only [if_pos (show a.size + (wideS l[j] (sizeI l[j])).size ≤ 9223372036854775807 by omega)]
        rw [hn, Bool.true_and]
        exact ih
    · refine Ev.step (f := fun _ => some ((⟨#[]⟩ : ByteArray), false)) (fun k => ?_) ?_
      · simp only [impl_PutList.l0]
        rw [if_pos (by omega), if_pos (by omega), if_pos (by omega)]
        simp only [rd, getD_at l j hjl, inum_eq, Option.bind_some]
        rw [if_neg hn]
      · rw [Bool.eq_false_iff.2 hn, Bool.false_and]
        exact Ev.now _
theorem list_ev (l : List Int) (hl : l.length ≤ 1048576) : ∃ r, Ev (fun k => spec_PutList.f k l) r ∧ Ev (fun k => impl_PutList.f k l) r := by
  unfold spec_PutList.f impl_PutList.f
  by_cases h : (l.length : Int) > 60
  · simp only [if_pos h]
    exact ⟨_, Ev.step (f := fun _ => some ((⟨#[]⟩ : ByteArray), false)) (fun k => rfl) (Ev.now _), Ev.now _⟩
  · simp only [if_neg h]
    have hs := slist_ev l (by omega) l.length 0 (⟨#[]⟩ : ByteArray) (by omega) rfl (by decide)
    have hi := ilist_ev l (by omega) l.length 0 (⟨#[]⟩ : ByteArray) (by omega) rfl (by decide)
    rw [List.drop_zero] at hs hi
    refine ⟨_, Ev.bind (sall_ev l hl) ?_, hi⟩
    by_cases ha : l.all numB = true
    · rw [if_pos ha, ha]
      exact Ev.step (f := fun k => spec_PutList.l0 k (⟨#[]⟩ : ByteArray) l (l.length : Int) 0) (fun k => rfl) hs
    · rw [if_neg ha, Bool.eq_false_iff.2 ha]
      exact Ev.step (f := fun _ => some ((⟨#[]⟩ : ByteArray), false)) (fun k => rfl) (Ev.now _)
theorem FnExactPutList : laws_FnExactPutList.Pure := by
  intro l _ _ _
  apply Ev.rounds
  unfold laws_FnExactPutList.f
  by_cases h : (l.length : Int) > 1048576
  · simp only [if_pos h]
    exact Ev.now _
  simp only [if_neg h]
  have hl : l.length ≤ 1048576 := by omega
  obtain ⟨r, h1, h2⟩ := list_ev l hl
  refine Ev.bind (toInt_ev l hl) (Ev.bind h1 (Ev.bind (toInt_ev l hl) (Ev.bind h2 ?_)))
  simp only [if_true, bne_self_eq_false]
  refine Ev.step (f := fun k => (laws_toIntS.f k l).bind fun t => (laws_eqIntS.f k l t).bind fun u => if u = true then some true else some false) (fun k => rfl) ?_
  refine Ev.bind (toInt_ev l hl) (Ev.bind (eqInt_ev l hl) ?_)
  exact Ev.now _

end Go.Proofs.Ytmffllogaboklaa.Pure
