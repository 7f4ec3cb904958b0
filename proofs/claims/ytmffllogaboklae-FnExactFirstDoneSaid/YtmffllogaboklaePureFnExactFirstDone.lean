/- The pure statement of the law FnExactFirstDone: over lists and numbers the law's function answers true. No conditions beyond those typed. -/
import Derived.Test.YtmffllogaboklaeY5
import Derived.Test.YtmffllogaboklaeLib
namespace Go.Proofs.Ytmffllogaboklae.Pure
open Go.RowKit Go.Proofs.Ytmffllogaboklae.Y Go.Proofs.YtmffllogaboklaeW.PrintWords Go.Proofs.YtmffllogaboklaeLib
set_option linter.unusedVariables false
set_option linter.unusedSimpArgs false

theorem in_eq (x y z : Int) : impl_in.f x y z = some (decide (x ≥ y ∧ x ≤ z)) := by
  unfold impl_in.f
  by_cases h : x ≥ y <;> simp only [h, if_true, if_false, true_and, false_and, decide_false]
theorem sin_eq (x y z : Int) : spec_l1In.f x y z = some (decide (x ≥ y ∧ x ≤ z)) := by
  unfold spec_l1In.f
  by_cases h : x ≥ y <;> simp only [h, if_true, if_false, true_and, false_and, decide_false]
def okB (x : S64) : Bool := decide (x.f0 ≥ 1 ∧ x.f0 ≤ 10) && decide (x.f1 ≥ x.f0 ∧ x.f1 ≤ 40)
def goodB (l : List S64) : Bool := l.all okB && decide ((l.length : Int) ≤ 5)
theorem spec_ev (l : List S64) (hl : l.length ≤ 1048576) : Ev (fun k => spec_GoodAgain.f k l) (goodB l) := by
  refine Ev.congr (fun k => rfl) (all_ev (fun k i => spec_GoodAgain.l0 k l l (l.length : Int) i) okB _ l (by omega) (fun k j hj => ?_) (fun k => ?_))
  · simp only [spec_GoodAgain.l0, sin_eq, Option.bind_some]
    rw [if_pos (by omega), if_pos (by omega), if_pos (by omega)]
    simp only [rd_T64, getD_at l j hj, okB]
    generalize l[j] = x
    by_cases h1 : x.f0 ≥ 1 ∧ x.f0 ≤ 10 <;> by_cases h2 : x.f1 ≥ x.f0 ∧ x.f1 ≤ 40 <;> simp [h1, h2]
  · simp [spec_GoodAgain.l0]
theorem idx_ev (l : List S64) (hl : l.length ≤ 1048576) : ∃ r, Ev (fun k => impl_Again_76.f k l) r ∧ decide (r ≥ 0) = l.any fun x => !okB x := by
  refine any_ev (fun k i => impl_Again_76.l0 k l (l.length : Int) i) (fun x => !okB x) l (by omega) (fun k j hj => ?_) (fun k => ?_)
  · simp only [impl_Again_76.l0, impl_GoodAgain_1.f, in_eq, Option.bind_some]
    rw [if_pos (by omega), if_pos (by omega), if_pos (by omega)]
    simp only [rd_T64, getD_at l j hj, okB]
    generalize l[j] = x
    by_cases h1 : x.f0 ≥ 1 ∧ x.f0 ≤ 10 <;> by_cases h2 : x.f1 ≥ x.f0 ∧ x.f1 ≤ 40 <;> simp [h1, h2]
  · simp [impl_Again_76.l0]
theorem impl_ev (l : List S64) (hl : l.length ≤ 1048576) : Ev (fun k => impl_GoodAgain.f k l) (goodB l) := by
  unfold impl_GoodAgain.f impl_Again_71.f goodB
  by_cases h : (l.length : Int) ≤ 5
  · simp only [h, if_true, decide_true, Bool.and_true]
    obtain ⟨r, hr, hd⟩ := idx_ev l hl
    refine Ev.bind (f := fun _ t => some (!t)) (a := decide (r ≥ 0)) (Ev.bind (f := fun _ t => some (decide (t ≥ 0))) hr (Ev.now _)) ?_
    rw [hd, not_any]
    exact Ev.now _
  · simp only [h, if_false, decide_false, Bool.and_false]
    exact Ev.now _
theorem good_at {l : List S64} (h : goodB l = true) : l.length ≤ 5 ∧ ∀ (j : Nat), j < l.length → 1 ≤ (rd_T64 l (j : Int)).f0 ∧ (rd_T64 l (j : Int)).f0 ≤ 10 ∧ (rd_T64 l (j : Int)).f0 ≤ (rd_T64 l (j : Int)).f1 ∧ (rd_T64 l (j : Int)).f1 ≤ 40 := by
  unfold goodB at h
  rw [Bool.and_eq_true] at h
  have h8 := of_decide_eq_true h.2
  refine ⟨by omega, fun j hj => ?_⟩
  have h1 := List.all_eq_true.1 h.1 (l[j]) (List.getElem_mem hj)
  have e : rd_T64 l (j : Int) = l[j] := getD_at l j hj _
  rw [e]
  unfold okB at h1
  simp only [Bool.and_eq_true, decide_eq_true_eq] at h1
  obtain ⟨⟨a, b⟩, c, d⟩ := h1
  exact ⟨by omega, by omega, by omega, by omega⟩
def Slots (n : Nat) (o : List Int) : Prop := ∀ x ∈ o, -1 ≤ x ∧ x < n
theorem Slots.snoc {n : Nat} {o : List Int} {b : Int} (h : Slots n o) (hb : -1 ≤ b ∧ b < n) : Slots n (o ++ [b]) := by
  intro x hx
  rcases List.mem_append.1 hx with hx | hx
  · exact h x hx
  · rw [List.mem_singleton.1 hx]
    exact hb
def RBoth (l : List S64) (long : Nat) (left out : List Int) (t : Int) : Prop := ∃ r, Ev (fun k => spec_l6Run.l0 k l (long : Int) left out t) r ∧ Ev (fun k => impl_run.l0 k l out left (long : Int) t) r ∧ r.length = long
theorem run_1 (l : List S64) (hl : l.length ≤ 5) (hev : ∀ (j : Nat), j < l.length → 1 ≤ (rd_T64 l (j : Int)).f1) (long t : Nat) (hlong : long ≤ 200) (ht : t < long) (ih : ∀ left out, left.length = l.length → out.length = t + 1 → RBoth l long left out ((t + 1 : Nat) : Int)) (out : List Int) (h2 : out.length = t) :
    ∀ (d j : Nat) (left : List Int) (b : Int), left.length = l.length → j ≤ l.length → l.length - j = d → -1 ≤ b → b < l.length →
      ∃ r, Ev (fun k => spec_l6Run.l1 k l (long : Int) left out (t : Int) b l (l.length : Int) (j : Int)) r ∧ Ev (fun k => impl_run.l1 k l out left (t : Int) b (long : Int) (t : Int) l (l.length : Int) (j : Int)) r ∧ r.length = long
  | 0, j, left, b, h1, hj, hd, hb0, hb1 => by
    obtain rfl : j = l.length := by omega
    by_cases hb : b ≥ 0
    · obtain ⟨r, a1, a2, a3⟩ := ih (left.set b.toNat (wrap64 (rd left b - 1))) (out ++ [b]) (by rw [List.length_set]; exact h1) (by rw [List.length_append, List.length_singleton, h2])
      refine ⟨r, Ev.step (fun k => ?_) a1, Ev.step (fun k => ?_) a2, a3⟩
      · simp only [spec_l6Run.l1]
        rw [if_neg (by omega), if_pos hb, if_pos (by omega), if_pos (by omega), if_pos (by omega), w64s ht (by omega)]
      · simp only [impl_run.l1]
        rw [if_neg (by omega), if_pos hb, if_pos (by omega), if_pos (by omega), if_pos (by omega), w64s ht (by omega)]
    · obtain ⟨r, a1, a2, a3⟩ := ih left (out ++ [b]) h1 (by rw [List.length_append, List.length_singleton, h2])
      refine ⟨r, Ev.step (fun k => ?_) a1, Ev.step (fun k => ?_) a2, a3⟩
      · simp only [spec_l6Run.l1]
        rw [if_neg (by omega), if_neg hb, if_pos (by omega), w64s ht (by omega)]
      · simp only [impl_run.l1]
        rw [if_neg (by omega), if_neg hb, if_pos (by omega), w64s ht (by omega)]
  | d + 1, j, left, b, h1, hj, hd, hb0, hb1 => by
    have hjl : j < l.length := by omega
    have hf := hev j hjl
    have go := fun (left' : List Int) (b' : Int) (g1 : left'.length = l.length) (g2 : -1 ≤ b') (g3 : b' < l.length) => run_1 l hl hev long t hlong ht ih out h2 d (j + 1) left' b' g1 (by omega) (by omega) g2 g3
    by_cases c1 : Int.tmod (t : Int) (rd_T64 l (j : Int)).f1 = 0
    · by_cases c2 : b < 0 ∧ wrap64 (rd left (j : Int) + (rd_T64 l (j : Int)).f0) > 0
      · obtain ⟨r, a1, a2, a3⟩ := go (left.set j (wrap64 (rd left (j : Int) + (rd_T64 l (j : Int)).f0))) (j : Int) (by rw [List.length_set]; exact h1) (by omega) (by omega)
        refine ⟨r, Ev.step (fun k => ?_) a1, Ev.step (fun k => ?_) a2, a3⟩
        · simp only [spec_l6Run.l1, Option.bind_some]
          rw [if_pos (by omega), if_pos (by omega), if_pos (by omega), if_neg (by omega), if_pos c1, if_pos (by omega), if_pos c2.1, if_pos c2.2, w64s hjl (by omega), Int.toNat_natCast]
        · simp only [impl_run.l1, Option.bind_some]
          rw [if_pos (by omega), if_pos (by omega), if_pos (by omega), if_neg (by omega), if_pos c1, if_pos (by omega), if_pos c2.1, if_pos c2.2, w64s hjl (by omega), Int.toNat_natCast]
      · obtain ⟨r, a1, a2, a3⟩ := go (left.set j (wrap64 (rd left (j : Int) + (rd_T64 l (j : Int)).f0))) b (by rw [List.length_set]; exact h1) hb0 hb1
        refine ⟨r, Ev.step (fun k => ?_) a1, Ev.step (fun k => ?_) a2, a3⟩
        · simp only [spec_l6Run.l1, Option.bind_some]
          rw [if_pos (by omega), if_pos (by omega), if_pos (by omega), if_neg (by omega), if_pos c1, if_pos (by omega), w64s hjl (by omega), Int.toNat_natCast]
          by_cases c3 : b < 0
          · rw [if_pos c3, if_neg (fun h => c2 ⟨c3, h⟩)]
          · rw [if_neg c3]
        · simp only [impl_run.l1, Option.bind_some]
          rw [if_pos (by omega), if_pos (by omega), if_pos (by omega), if_neg (by omega), if_pos c1, if_pos (by omega), w64s hjl (by omega), Int.toNat_natCast]
          by_cases c3 : b < 0
          · rw [if_pos c3, if_neg (fun h => c2 ⟨c3, h⟩)]
          · rw [if_neg c3]
    · by_cases c2 : b < 0 ∧ rd left (j : Int) > 0
      · obtain ⟨r, a1, a2, a3⟩ := go left (j : Int) h1 (by omega) (by omega)
        refine ⟨r, Ev.step (fun k => ?_) a1, Ev.step (fun k => ?_) a2, a3⟩
        · simp only [spec_l6Run.l1]
          rw [if_pos (by omega), if_pos (by omega), if_pos (by omega), if_neg (by omega), if_neg c1, if_pos c2.1, if_pos (by omega), if_pos c2.2, w64s hjl (by omega)]
        · simp only [impl_run.l1]
          rw [if_pos (by omega), if_pos (by omega), if_pos (by omega), if_neg (by omega), if_neg c1, if_pos c2.1, if_pos (by omega), if_pos c2.2, w64s hjl (by omega)]
      · obtain ⟨r, a1, a2, a3⟩ := go left b h1 hb0 hb1
        refine ⟨r, Ev.step (fun k => ?_) a1, Ev.step (fun k => ?_) a2, a3⟩
        · simp only [spec_l6Run.l1]
          rw [if_pos (by omega), if_pos (by omega), if_pos (by omega), if_neg (by omega), if_neg c1, w64s hjl (by omega)]
          by_cases c3 : b < 0
          · rw [if_pos c3, if_pos (by omega), if_neg (fun h => c2 ⟨c3, h⟩)]
          · rw [if_neg c3]
        · simp only [impl_run.l1]
          rw [if_pos (by omega), if_pos (by omega), if_pos (by omega), if_neg (by omega), if_neg c1, w64s hjl (by omega)]
          by_cases c3 : b < 0
          · rw [if_pos c3, if_pos (by omega), if_neg (fun h => c2 ⟨c3, h⟩)]
          · rw [if_neg c3]
theorem run_0 (l : List S64) (hl : l.length ≤ 5) (hev : ∀ (j : Nat), j < l.length → 1 ≤ (rd_T64 l (j : Int)).f1) (long : Nat) (hlong : long ≤ 200) : ∀ (d t : Nat) (left out : List Int), t ≤ long → long - t = d → left.length = l.length → out.length = t → RBoth l long left out (t : Int)
  | 0, t, left, out, ht, hd, h1, h2 => by
    obtain rfl : t = long := by omega
    refine ⟨out, Ev.step (f := fun _ => some out) (fun k => ?_) (Ev.now _), Ev.step (f := fun _ => some out) (fun k => ?_) (Ev.now _), h2⟩
    · simp only [spec_l6Run.l0]
      rw [if_neg (by omega)]
    · simp only [impl_run.l0]
      rw [if_neg (by omega)]
  | d + 1, t, left, out, ht, hd, h1, h2 => by
    obtain ⟨r, a1, a2, a3⟩ := run_1 l hl hev long t hlong (by omega) (fun left' out' g1 g2 => run_0 l hl hev long hlong d (t + 1) left' out' (by omega) (by omega) g1 g2) out h2 l.length 0 left (-1) h1 (by omega) rfl (by omega) (by omega)
    refine ⟨r, Ev.step (fun k => ?_) a1, Ev.step (fun k => ?_) a2, a3⟩
    · simp only [spec_l6Run.l0]
      rw [if_pos (by omega)]
      rfl
    · simp only [impl_run.l0]
      rw [if_pos (by omega)]
      rfl
theorem run_ev (l : List S64) (hg : goodB l = true) (long : Nat) (hlong : long ≤ 200) : ∃ r, Ev (fun k => spec_l6Run.f k l (long : Int)) r ∧ Ev (fun k => impl_run.f k l (long : Int)) r ∧ r.length = long := by
  obtain ⟨h5, hat⟩ := good_at hg
  obtain ⟨r, a1, a2, a3⟩ := run_0 l h5 (fun j hj => by obtain ⟨_, _, _, _⟩ := hat j hj; omega) long hlong long 0 (List.replicate l.length 0) [] (by omega) rfl (by simp) rfl
  refine ⟨r, Ev.congr (fun k => ?_) a1, Ev.congr (fun k => ?_) a2, a3⟩
  · unfold spec_l6Run.f
    rw [if_pos (by omega), if_pos (by omega), Int.toNat_natCast]
    rfl
  · unfold impl_run.f
    rw [if_pos (by omega), if_pos (by omega), Int.toNat_natCast]
    rfl
def cvAgain (x : S66) : S64 := ⟨x.f0, x.f1⟩
theorem szAgain_eq (l : List S66) (hl : l.length ≤ maxLen) : laws_szAgainS.f l 1048576 = some (if (l.length : Int) ≤ 1048576 then 1048576 - (l.length : Int) else -1) := by
  unfold laws_szAgainS.f
  unfold maxLen at hl
  rw [w64 (by omega) (by omega)]
  by_cases h : (l.length : Int) ≤ 1048576
  · rw [if_neg (by omega), if_pos h]
  · rw [if_pos (by omega), if_neg h]
theorem toAgain_ev (l : List S66) (hl : l.length ≤ 1048576) : Ev (fun k => laws_toAgainS.f k l) (l.map cvAgain) := by
  refine Ev.congr (fun k => ?_) (fill_ev (fun k x0 x3 x4 => laws_toAgainS.l0 k x0 x3 x4) cvAgain z66 (fun k x0 x3 x4 => rfl) l z64 (by omega))
  unfold laws_toAgainS.f
  rw [if_pos (by omega), if_pos (by omega), Int.toNat_natCast]
theorem eqAgain_ev (l : List S64) (hl : l.length ≤ 1048576) : Ev (fun k => laws_eqAgainS.f k l l) true := by
  refine Ev.congr (fun k => ?_) (eqr_ev (fun k x0 x1 x5 => laws_eqAgainS.l0 k x0 x1 x5) l (fun k j hj => ?_) (fun k => ?_) (by omega))
  · unfold laws_eqAgainS.f
    rw [if_pos rfl]
  · simp only [laws_eqAgainS.l0]
    rw [if_pos (by omega), if_pos (by omega), if_pos (by omega)]
    simp [laws_eqAgain.f]
  · simp [laws_eqAgainS.l0]
theorem sbit_eq (b : Bool) : spec_l1Bit.f b = some (if b = true then 1 else 0) := by
  unfold spec_l1Bit.f
  split <;> rfl
theorem done_l (l : List S64) (m : Nat) (hm : m < l.length) (need : Int) (hn0 : 1 ≤ need) (hn1 : need ≤ 10) (hneed : (rd_T64 l (m : Int)).f0 = need) (s : List Int) (hs : s.length = 200) :
    ∀ (d j : Nat) (n : Int), j ≤ 200 → 200 - j = d → 0 ≤ n → n < need → ∃ r, Ev (fun k => spec_FirstDone.l0 k l (m : Int) n s (s.length : Int) (j : Int)) r ∧ Ev (fun k => impl_FirstDone.l0 k (m : Int) (need - n) s (s.length : Int) (j : Int)) r
  | 0, j, n, hj, hd, h0, h1 => by
    obtain rfl : j = 200 := by omega
    refine ⟨(0, false, true), Ev.step (f := fun _ => some (0, false, true)) (fun k => ?_) (Ev.now _), Ev.step (f := fun _ => some (0, false, true)) (fun k => ?_) (Ev.now _)⟩
    · simp only [spec_FirstDone.l0]
      rw [if_neg (by omega)]
    · simp only [impl_FirstDone.l0]
      rw [if_neg (by omega)]
  | d + 1, j, n, hj, hd, h0, h1 => by
    have hj2 : j < 200 := by omega
    by_cases c : rd s (j : Int) = (m : Int)
    · by_cases e : n + 1 = need
      · refine ⟨((j : Int) + 1, true, true), Ev.step (f := fun _ => some ((j : Int) + 1, true, true)) (fun k => ?_) (Ev.now _), Ev.step (f := fun _ => some ((j : Int) + 1, true, true)) (fun k => ?_) (Ev.now _)⟩
        · simp only [spec_FirstDone.l0, sbit_eq, Option.bind_some]
          rw [if_pos (by omega), if_pos (by omega), if_pos (by omega), if_pos (by omega), if_pos (by omega), if_pos (beq_iff_eq.2 c), w64 (i := n + 1) (by omega) (by omega), if_pos (by omega), w64 (i := (j : Int) + 1) (by omega) (by omega)]
        · simp only [impl_FirstDone.l0]
          rw [if_pos (by omega), if_pos (by omega), if_pos (by omega), if_pos c, w64 (i := need - n - 1) (by omega) (by omega), if_pos (by omega), w64 (i := (j : Int) + 1) (by omega) (by omega)]
      · obtain ⟨r, a, b⟩ := done_l l m hm need hn0 hn1 hneed s hs d (j + 1) (n + 1) (by omega) (by omega) (by omega) (by omega)
        refine ⟨r, Ev.step (fun k => ?_) a, Ev.step (fun k => ?_) b⟩
        · simp only [spec_FirstDone.l0, sbit_eq, Option.bind_some]
          rw [if_pos (by omega), if_pos (by omega), if_pos (by omega), if_pos (by omega), if_pos (by omega), if_pos (beq_iff_eq.2 c), w64 (i := n + 1) (by omega) (by omega), if_neg (by omega), w64s hj2 (by omega)]
        · simp only [impl_FirstDone.l0]
          rw [if_pos (by omega), if_pos (by omega), if_pos (by omega), if_pos c, w64 (i := need - n - 1) (by omega) (by omega), if_neg (by omega), w64s hj2 (by omega), show need - n - 1 = need - (n + 1) by omega]
    · obtain ⟨r, a, b⟩ := done_l l m hm need hn0 hn1 hneed s hs d (j + 1) n (by omega) (by omega) (by omega) (by omega)
      refine ⟨r, Ev.step (fun k => ?_) a, Ev.step (fun k => ?_) b⟩
      · simp only [spec_FirstDone.l0, sbit_eq, Option.bind_some]
        rw [if_pos (by omega), if_pos (by omega), if_pos (by omega), if_pos (by omega), if_pos (by omega), if_neg (fun h => c (beq_iff_eq.1 h)), Int.add_zero, w64 (i := n) (by omega) (by omega), if_neg (by omega), w64s hj2 (by omega)]
      · simp only [impl_FirstDone.l0]
        rw [if_pos (by omega), if_pos (by omega), if_pos (by omega), if_neg c, w64s hj2 (by omega)]
theorem both_ev (l : List S64) (n : Int) (hw : (Lit.int .i64 n).wf = true) (hl : l.length ≤ 1048576) : ∃ r, Ev (fun k => spec_FirstDone.f k l n) r ∧ Ev (fun k => impl_FirstDone.f k l n) r := by
  have hn' := wfB hw
  unfold spec_FirstDone.f impl_FirstDone.f spec_l6There.f impl_isOne.f
  simp only [in_eq, Option.bind_some]
  have hs := spec_ev l hl
  have hi := impl_ev l hl
  by_cases hg : goodB l = true
  · obtain ⟨h5, hat⟩ := good_at hg
    rw [hg] at hs hi
    by_cases hn : 0 ≤ n ∧ n < l.length
    · obtain ⟨m, rfl⟩ : ∃ m : Nat, n = m := ⟨n.toNat, by omega⟩
      obtain ⟨q1, q2, _, _⟩ := hat m (by omega)
      obtain ⟨s, a, b, c⟩ := run_ev l hg 200 (by omega)
      obtain ⟨r, e, f⟩ := done_l l m (by omega) _ q1 q2 rfl s c 200 0 0 (by omega) rfl (by omega) (by omega)
      rw [Int.sub_zero] at f
      refine ⟨r, Ev.bind (a := true) (Ev.bind hs ?_) (Ev.bind a e), Ev.bind (a := true) (Ev.bind hi ?_) ?_⟩
      · simp only [if_true, if_pos hn.1, decide_eq_true hn.2]
        exact Ev.now _
      · simp only [if_true, w64 (i := (l.length : Int) - 1) (by omega) (by omega), decide_eq_true (show (m : Int) ≥ 0 ∧ (m : Int) ≤ (l.length : Int) - 1 by omega)]
        exact Ev.now _
      · simp only [if_true, if_pos hn.1, if_pos hn.2]
        exact Ev.bind b f
    · refine ⟨(0, false, false), Ev.bind (a := false) (Ev.bind hs ?_) (Ev.now _), Ev.bind (a := false) (Ev.bind hi ?_) (Ev.now _)⟩
      · by_cases h0 : n ≥ 0
        · simp only [if_true, if_pos h0, decide_eq_false (show ¬ n < (l.length : Int) by omega)]
          exact Ev.now _
        · simp only [if_true, if_neg h0]
          exact Ev.now _
      · simp only [if_true, w64 (i := (l.length : Int) - 1) (by omega) (by omega), decide_eq_false (show ¬ (n ≥ 0 ∧ n ≤ (l.length : Int) - 1) by omega)]
        exact Ev.now _
  · rw [Bool.eq_false_iff.2 hg] at hs hi
    exact ⟨(0, false, false), Ev.bind (Ev.bind hs (Ev.now _)) (Ev.now _), Ev.bind (Ev.bind hi (Ev.now _)) (Ev.now _)⟩
theorem FnExactFirstDone : laws_FnExactFirstDone.Pure := by
  intro l n hl _ hn
  apply Ev.rounds
  unfold laws_FnExactFirstDone.f
  simp only [szAgain_eq l hl, Option.bind_some]
  by_cases h : (l.length : Int) ≤ 1048576
  case neg =>
    simp only [if_neg h]
    exact Ev.now _
  simp only [if_pos h, if_neg (show ¬ (1048576 - (l.length : Int) < 0) by omega)]
  have hl' : l.length ≤ 1048576 := by omega
  have hm : (l.map cvAgain).length ≤ 1048576 := by simpa using hl'
  have hto := toAgain_ev l hl'
  have heq := eqAgain_ev (l.map cvAgain) hm
  generalize l.map cvAgain = x at hto heq hm
  refine Ev.bind hto ?_
  obtain ⟨r, h1, h2⟩ := both_ev x n hn hm
  refine Ev.bind h1 (Ev.bind hto (Ev.bind h2 ?_))
  simp only [if_true, bne_self_eq_false, Bool.false_eq_true, if_false]
  refine Ev.step (f := fun k => (laws_toAgainS.f k l).bind fun t => (laws_eqAgainS.f k x t).bind fun u => if u = true then some true else some false) (fun k => rfl) ?_
  exact Ev.bind hto (Ev.bind heq (Ev.now _))

end Go.Proofs.Ytmffllogaboklae.Pure
