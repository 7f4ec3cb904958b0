/- The pure statement of the law FnExactGetText: over lists and numbers the law's function answers true. No conditions beyond those typed. -/
import Derived.Test.YtmffllogaboklaaX4
import Derived.Test.YtmffllogaboklaaLib
namespace Go.Proofs.Ytmffllogaboklaa.Pure
open Go.RowKit Go.Proofs.Ytmffllogaboklaa.X Go.Proofs.YtmffllogaboklaaW.PrintWords Go.Proofs.YtmffllogaboklaaLib
set_option linter.unusedVariables false
set_option linter.unusedSimpArgs false

theorem in_eq (x y z : Int) : impl_in.f x y z = some (decide (x ≥ y ∧ x ≤ z)) := by
  unfold impl_in.f
  by_cases h : x ≥ y <;> simp only [h, if_true, if_false, true_and, false_and, decide_false]
theorem sin_eq (x y z : Int) : spec_l1In.f x y z = some (decide (x ≥ y ∧ x ≤ z)) := by
  unfold spec_l1In.f
  by_cases h : x ≥ y <;> simp only [h, if_true, if_false, true_and, false_and, decide_false]
def numB (n : Int) : Bool := decide (n ≥ 0 ∧ n ≤ 1152921504606846975)
theorem snum_eq (n : Int) : spec_l1Number.f n = some (numB n) := by
  unfold spec_l1Number.f
  rw [sin_eq]
  rfl
theorem inum_eq (n : Int) : impl_isNumber.f n = some (numB n) := by
  unfold impl_isNumber.f
  rw [in_eq]
  rfl
def sizeI (n : Int) : Int := if n < 64 then 1 else if n < 16384 then 2 else if n < 1073741824 then 4 else 8
theorem ssize_eq (n : Int) : spec_l1Size.f n = some (sizeI n) := by
  unfold spec_l1Size.f sizeI
  repeat' split
  all_goals rfl
theorem isize_eq (n : Int) : impl_sizeOf.f n = some (sizeI n) := by
  unfold impl_sizeOf.f sizeI
  repeat' split
  all_goals rfl
theorem sizeI_in (n : Int) : sizeI n = 1 ∨ sizeI n = 2 ∨ sizeI n = 4 ∨ sizeI n = 8 := by
  unfold sizeI
  repeat' split
  all_goals simp
def toS : Option (Int × Int) → Int × Int
  | some p => p
  | none => (0, -1)
def toI : Option (Int × Int) → Int × Int × Bool
  | some p => (p.1, p.2, true)
  | none => (0, 0, false)
theorem get_l (s : ByteArray) (p sz : Int) (h0 : 0 ≤ p) (h1 : 0 < sz) (h2 : p + sz ≤ s.size) (hs : s.size ≤ 1048576) : ∀ (d : Nat) (n i : Int), 0 ≤ i → i ≤ sz → sz - i = d →
    ∃ o, Ev (fun k => spec_l1Get.l0 k s p sz n i) (toS o) ∧ Ev (fun k => impl_GetNumber.l0 k s p sz n i) (toI o) ∧ ∀ q, o = some q → 0 ≤ q.1 ∧ q.1 ≤ 1152921504606846975 ∧ q.2 = p + sz
  | 0, n, i, hi, hi2, hd => by
    obtain rfl : i = sz := by omega
    by_cases hn : numB n = true
    · by_cases hz : sizeI n = i
      · refine ⟨some (n, p + i), Ev.step (f := fun _ => some (n, p + i)) (fun k => ?_) (Ev.now _), Ev.step (f := fun _ => some (n, p + i, true)) (fun k => ?_) (Ev.now _), ?_⟩
        · simp only [spec_l1Get.l0]
          rw [if_neg (by omega), snum_eq, Option.bind_some, if_pos hn, ssize_eq, Option.bind_some, if_pos hz, w64 (by omega) (by omega)]
        · simp only [impl_GetNumber.l0]
          rw [if_neg (by omega), inum_eq, Option.bind_some, if_pos hn, isize_eq, Option.bind_some, if_pos hz, w64 (by omega) (by omega)]
        · rintro q ⟨⟩
          unfold numB at hn
          have := of_decide_eq_true hn
          exact ⟨by omega, by omega, rfl⟩
      · refine ⟨none, Ev.step (f := fun _ => some (0, -1)) (fun k => ?_) (Ev.now _), Ev.step (f := fun _ => some (0, 0, false)) (fun k => ?_) (Ev.now _), fun q hq => by cases hq⟩
        · simp only [spec_l1Get.l0]
          rw [if_neg (by omega), snum_eq, Option.bind_some, if_pos hn, ssize_eq, Option.bind_some, if_neg hz]
        · simp only [impl_GetNumber.l0]
          rw [if_neg (by omega), inum_eq, Option.bind_some, if_pos hn, isize_eq, Option.bind_some, if_neg hz]
    · refine ⟨none, Ev.step (f := fun _ => some (0, -1)) (fun k => ?_) (Ev.now _), Ev.step (f := fun _ => some (0, 0, false)) (fun k => ?_) (Ev.now _), fun q hq => by cases hq⟩
      · simp only [spec_l1Get.l0]
        rw [if_neg (by omega), snum_eq, Option.bind_some, if_neg hn]
      · simp only [impl_GetNumber.l0]
        rw [if_neg (by omega), inum_eq, Option.bind_some, if_neg hn]
  | d + 1, n, i, hi, hi2, hd => by
    obtain ⟨o, ho1, ho2, ho3⟩ := get_l s p sz h0 h1 h2 hs d (Go.bits .or .i64 (wrap64 (n * 256)) (wrap64 (bt s (p + i)))) (i + 1) (by omega) (by omega) (by omega)
    refine ⟨o, Ev.step (fun k => ?_) ho1, Ev.step (fun k => ?_) ho2, ho3⟩
    · simp only [spec_l1Get.l0]
      rw [w64 (i := p + i) (by omega) (by omega), w64 (i := i + 1) (by omega) (by omega), if_pos (by omega), if_pos (by omega), if_pos (by omega)]
    · simp only [impl_GetNumber.l0]
      rw [w64 (i := p + i) (by omega) (by omega), w64 (i := i + 1) (by omega) (by omega), if_pos (by omega), if_pos (by omega), if_pos (by omega)]
theorem shl_in (b : Int) (h0 : 0 ≤ b) (h1 : b ≤ 255) : IntKind.u64.wrap (b / 64) = b / 64 ∧ 0 < shl .i64 1 (b / 64) ∧ shl .i64 1 (b / 64) ≤ 8 := by
  have h : b / 64 = 0 ∨ b / 64 = 1 ∨ b / 64 = 2 ∨ b / 64 = 3 := by omega
  rcases h with h | h | h | h <;> rw [h] <;> decide
theorem get_ev (s : ByteArray) (p : Int) (h0 : 0 ≤ p) (h1 : p < s.size) (hs : s.size ≤ 1048576) :
    ∃ o, Ev (fun k => spec_l1Get.f k s p) (toS o) ∧ Ev (fun k => impl_GetNumber.f k s p) (toI o) ∧ ∀ q, o = some q → 0 ≤ q.1 ∧ q.1 ≤ 1152921504606846975 ∧ p < q.2 ∧ q.2 ≤ s.size := by
  obtain ⟨hb0, hb1⟩ := bt_range s p
  obtain ⟨e1, e2, e3⟩ := shl_in (bt s p) hb0 hb1
  unfold spec_l1Get.f impl_GetNumber.f
  simp only [e1, in_eq, Option.bind_some, w64 (i := (s.size : Int) - 1) (by omega) (by omega), w64 (i := (s.size : Int) - p) (by omega) (by omega), w64 (i := p + shl .i64 1 (bt s p / 64)) (by omega) (by omega),
    if_neg (show ¬ p ≥ (s.size : Int) by omega), if_pos h0, if_pos h1, if_pos (show 0 ≤ bt s p / 64 by omega), if_pos (decide_eq_true (show p ≥ 0 ∧ p ≤ (s.size : Int) - 1 by omega))]
  by_cases h : p + shl .i64 1 (bt s p / 64) > (s.size : Int)
  · simp only [if_pos h, if_pos (show shl .i64 1 (bt s p / 64) > (s.size : Int) - p by omega)]
    exact ⟨none, Ev.now _, Ev.now _, fun q hq => by cases hq⟩
  · simp only [if_neg h, if_neg (show ¬ shl .i64 1 (bt s p / 64) > (s.size : Int) - p by omega)]
    obtain ⟨o, a, b, c⟩ := get_l s p (shl .i64 1 (bt s p / 64)) h0 e2 (by omega) hs (shl .i64 1 (bt s p / 64) - 1).toNat (wrap64 (Go.bits .and .u8 (bt s p) 63)) 1 (by omega) (by omega) (by omega)
    exact ⟨o, a, b, fun q hq => by obtain ⟨x, y, z⟩ := c q hq; exact ⟨x, y, by omega, by omega⟩⟩
theorem get_out (s : ByteArray) (p : Int) (h : ¬ (0 ≤ p ∧ p < s.size)) (hs : s.size ≤ 1048576) : Ev (fun k => impl_GetNumber.f k s p) (0, 0, false) := by
  unfold impl_GetNumber.f
  simp only [in_eq, Option.bind_some, w64 (i := (s.size : Int) - 1) (by omega) (by omega), decide_eq_false (show ¬ (p ≥ 0 ∧ p ≤ (s.size : Int) - 1) by omega)]
  exact Ev.now _
theorem text_ev (s : ByteArray) (p : Int) (hs : s.size ≤ 1048576) : ∃ r, Ev (fun k => spec_GetText.f k s p) r ∧ Ev (fun k => impl_GetText.f k s p) r := by
  by_cases hin : 0 ≤ p ∧ p < s.size
  · obtain ⟨o, h1, h2, h3⟩ := get_ev s p hin.1 hin.2 hs
    have hsp : ∀ r, Ev (fun k => (spec_l1Get.f k s p).bind fun bt163 => (if bt163.2 < 0 then (some ((⟨#[]⟩ : ByteArray), 0, false)) else (if bt163.1 > 200 then (some ((⟨#[]⟩ : ByteArray), 0, false)) else (if bt163.1 > (wrap64 ((s.size : Int) - bt163.2)) then (some ((⟨#[]⟩ : ByteArray), 0, false)) else (if 0 ≤ bt163.2 then (if bt163.2 ≤ (wrap64 (bt163.2 + bt163.1)) then (if (wrap64 (bt163.2 + bt163.1)) ≤ (s.size : Int) then (some (s.extract (bt163.2 : Int).toNat ((wrap64 (bt163.2 + bt163.1)) : Int).toNat, wrap64 (bt163.2 + bt163.1), true)) else (none)) else (none)) else (none)))))) r → Ev (fun k => spec_GetText.f k s p) r := by
      intro r hr
      unfold spec_GetText.f
      simp only [if_neg (show ¬ p < 0 by omega), decide_eq_false (show ¬ p ≥ (s.size : Int) by omega)]
      exact Ev.step (fun k => by simp only [spec_GetText.j0]; rw [if_neg (by simp)]) hr
    match o, h1, h2, h3 with
    | none, h1, h2, _ => exact ⟨((⟨#[]⟩ : ByteArray), 0, false), hsp _ (Ev.bind h1 (Ev.now _)), Ev.bind h2 (Ev.now _)⟩
    | some (n, e), h1, h2, h3 =>
      obtain ⟨a, b, c, d⟩ := h3 _ rfl
      have h1' : Ev (fun k => spec_l1Get.f k s p) (n, e) := h1
      have h2' : Ev (fun k => impl_GetNumber.f k s p) (n, e, true) := h2
      dsimp only at a b c d
      by_cases g1 : n > 200
      · refine ⟨((⟨#[]⟩ : ByteArray), 0, false), hsp _ (Ev.bind h1' ?_), Ev.bind h2' ?_⟩
        · simp only [if_neg (show ¬ e < 0 by omega), if_pos g1]
          exact Ev.now _
        · simp only [if_true, if_pos g1]
          exact Ev.now _
      by_cases g2 : e + n > s.size
      · refine ⟨((⟨#[]⟩ : ByteArray), 0, false), hsp _ (Ev.bind h1' ?_), Ev.bind h2' ?_⟩
        · simp only [if_neg (show ¬ e < 0 by omega), if_neg g1, w64 (i := (s.size : Int) - e) (by omega) (by omega), if_pos (show n > (s.size : Int) - e by omega)]
          exact Ev.now _
        · simp only [if_true, if_neg g1, w64 (i := e + n) (by omega) (by omega), if_pos g2]
          exact Ev.now _
      · refine ⟨(s.extract e.toNat (e + n).toNat, e + n, true), hsp _ (Ev.bind h1' ?_), Ev.bind h2' ?_⟩
        · simp only [if_neg (show ¬ e < 0 by omega), if_neg g1, w64 (i := (s.size : Int) - e) (by omega) (by omega), if_neg (show ¬ n > (s.size : Int) - e by omega), w64 (i := e + n) (by omega) (by omega), if_pos (show 0 ≤ e by omega), if_pos (show e ≤ e + n by omega), if_pos (show e + n ≤ (s.size : Int) by omega)]
          exact Ev.now _
        · simp only [if_true, if_neg g1, w64 (i := e + n) (by omega) (by omega), if_neg g2, if_pos (show 0 ≤ e by omega), if_pos (show e ≤ e + n by omega), if_pos (show e + n ≤ (s.size : Int) by omega)]
          exact Ev.now _
  · refine ⟨((⟨#[]⟩ : ByteArray), 0, false), ?_, Ev.bind (get_out s p hin hs) (Ev.now _)⟩
    unfold spec_GetText.f
    by_cases hn : p < 0
    · simp only [if_pos hn]
      exact Ev.step (f := fun _ => some ((⟨#[]⟩ : ByteArray), 0, false)) (fun k => rfl) (Ev.now _)
    · simp only [if_neg hn, decide_eq_true (show p ≥ (s.size : Int) by omega)]
      exact Ev.step (f := fun _ => some ((⟨#[]⟩ : ByteArray), 0, false)) (fun k => rfl) (Ev.now _)
theorem FnExactGetText : laws_FnExactGetText.Pure := by
  intro s p _ hp
  apply Ev.rounds
  unfold laws_FnExactGetText.f
  by_cases h : (s.size : Int) > 1048576
  · simp only [if_pos h]
    exact Ev.now _
  simp only [if_neg h]
  obtain ⟨r, h1, h2⟩ := text_ev s p (by omega)
  refine Ev.bind h1 (Ev.bind h2 ?_)
  simp
  exact Ev.now _

end Go.Proofs.Ytmffllogaboklaa.Pure
