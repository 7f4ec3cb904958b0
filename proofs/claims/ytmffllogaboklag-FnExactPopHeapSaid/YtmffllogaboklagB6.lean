/- Functions of the translation as plain Lean functions, and contracts: each call answers what its function says; no conditions beyond those typed. Written by this session's program. -/
import Derived.Test.YtmffllogaboklagB0
import Derived.Test.YtmffllogaboklagB5
namespace Go.Proofs.Ytmffllogaboklag.B
open Go.RowKit Go.Proofs.YtmffllogaboklagW.PrintWords Go.Proofs.YtmffllogaboklagW.PrintLast Go.Proofs.YtmffllogaboklagW.PrintMore
attribute [local go_sem] max2_int min2_int max_two min_two max_three min_three max_four min_four   -- for this text's walks alone
set_option linter.unusedVariables false
set_option linter.unusedSimpArgs false

/-! ### impl_down: function 49 -/
mutual
def impl_down.l0 : Nat → List (S34) → Int → Int → Option (Int × (List (S34)))
  | 0, _, _, _ => none
  | k + 1, x0, x1, x5 => if (wrap64 ((wrap64 (2 * x1)) + 1)) < (x0.length : Int) then (if (wrap64 ((wrap64 ((wrap64 (2 * x1)) + 1)) + 1)) < (x0.length : Int) then (if 0 ≤ (wrap64 ((wrap64 ((wrap64 (2 * x1)) + 1)) + 1)) then (if 0 ≤ (wrap64 ((wrap64 (2 * x1)) + 1)) then ((impl_compareWork.f k ((rd_T34 x0 (wrap64 ((wrap64 ((wrap64 (2 * x1)) + 1)) + 1))).f0) ((rd_T34 x0 (wrap64 ((wrap64 ((wrap64 (2 * x1)) + 1)) + 1))).f1) ((rd_T34 x0 (wrap64 ((wrap64 ((wrap64 (2 * x1)) + 1)) + 1))).f2) ((rd_T34 x0 (wrap64 ((wrap64 (2 * x1)) + 1))).f0) ((rd_T34 x0 (wrap64 ((wrap64 (2 * x1)) + 1))).f1) ((rd_T34 x0 (wrap64 ((wrap64 (2 * x1)) + 1))).f2)).bind fun t208 => (impl_down.j1 k x0 x1 x5 (wrap64 ((wrap64 (2 * x1)) + 1)) (decide (t208 < 0)))) else (none)) else (none)) else (impl_down.j1 k x0 x1 x5 (wrap64 ((wrap64 (2 * x1)) + 1)) false)) else (some (x5, x0))
def impl_down.j1 : Nat → List (S34) → Int → Int → Int → Bool → Option (Int × (List (S34)))
  | 0, _, _, _, _, _ => none
  | k + 1, x0, x1, x5, x6, x33 => if x33 = true then (if 0 ≤ (wrap64 (x6 + 1)) then (if (wrap64 (x6 + 1)) < (x0.length : Int) then (if 0 ≤ x1 then (if x1 < (x0.length : Int) then ((impl_compareWork.f k ((rd_T34 x0 (wrap64 (x6 + 1))).f0) ((rd_T34 x0 (wrap64 (x6 + 1))).f1) ((rd_T34 x0 (wrap64 (x6 + 1))).f2) ((rd_T34 x0 x1).f0) ((rd_T34 x0 x1).f1) ((rd_T34 x0 x1).f2)).bind fun t211 => (if t211 ≥ 0 then (some (x5, x0)) else (impl_down.l0 k ((x0.set (x1 : Int).toNat (⟨(rd_T34 x0 (wrap64 (x6 + 1))).f0, (rd_T34 x0 (wrap64 (x6 + 1))).f1, (rd_T34 x0 (wrap64 (x6 + 1))).f2⟩ : S34)).set ((wrap64 (x6 + 1)) : Int).toNat (⟨(rd_T34 x0 x1).f0, (rd_T34 x0 x1).f1, (rd_T34 x0 x1).f2⟩ : S34)) (wrap64 (x6 + 1)) (wrap64 (x5 + 1))))) else (none)) else (none)) else (none)) else (none)) else (if 0 ≤ x6 then (if x6 < (x0.length : Int) then (if 0 ≤ x1 then (if x1 < (x0.length : Int) then ((impl_compareWork.f k ((rd_T34 x0 x6).f0) ((rd_T34 x0 x6).f1) ((rd_T34 x0 x6).f2) ((rd_T34 x0 x1).f0) ((rd_T34 x0 x1).f1) ((rd_T34 x0 x1).f2)).bind fun t218 => (if t218 ≥ 0 then (some (x5, x0)) else (impl_down.l0 k ((x0.set (x1 : Int).toNat (⟨(rd_T34 x0 x6).f0, (rd_T34 x0 x6).f1, (rd_T34 x0 x6).f2⟩ : S34)).set (x6 : Int).toNat (⟨(rd_T34 x0 x1).f0, (rd_T34 x0 x1).f1, (rd_T34 x0 x1).f2⟩ : S34)) x6 (wrap64 (x5 + 1))))) else (none)) else (none)) else (none)) else (none))
end
def impl_down.f (k : Nat) (l0 : List (S34)) (a1 : Int) : Option (Int × (List (S34))) := impl_down.l0 k l0 a1 0
theorem impl_down.mono_l : ∀ k, (∀ y0 y1 y2, LeO (impl_down.l0 k y0 y1 y2) (impl_down.l0 (k + 1) y0 y1 y2)) ∧ (∀ y0 y1 y2 y3 y4, LeO (impl_down.j1 k y0 y1 y2 y3 y4) (impl_down.j1 (k + 1) y0 y1 y2 y3 y4))
  | 0 => ⟨fun _ _ _ r h => by simp [impl_down.l0] at h, fun _ _ _ _ _ r h => by simp [impl_down.j1] at h⟩
  | k + 1 => by
    obtain ⟨ih0, ih1⟩ := impl_down.mono_l k
    refine ⟨?_, ?_⟩
    · intro y0 y1 y2
      unfold impl_down.l0
      repeat' first
      | (with_reducible exact ih0 _ _ _)
      | (with_reducible exact ih1 _ _ _ _ _)
      | (with_reducible exact impl_compareWork.mono _ _ _ _ _ _ _)
      | (with_reducible exact LeO.refl _)
      | (with_reducible exact LeO.none _)
      | (with_reducible refine LeO.ite ?_ ?_)
      | (with_reducible refine LeO.bind ?_ (fun _ => ?_))
      | exact ih0 _ _ _
      | exact ih1 _ _ _ _ _
      | exact impl_compareWork.mono _ _ _ _ _ _ _
      | exact LeO.none _
      | refine LeO.ite ?_ ?_
      | refine LeO.bind ?_ (fun _ => ?_)
    · intro y0 y1 y2 y3 y4
      unfold impl_down.j1
      repeat' first
      | (with_reducible exact ih0 _ _ _)
      | (with_reducible exact ih1 _ _ _ _ _)
      | (with_reducible exact impl_compareWork.mono _ _ _ _ _ _ _)
      | (with_reducible exact LeO.refl _)
      | (with_reducible exact LeO.none _)
      | (with_reducible refine LeO.ite ?_ ?_)
      | (with_reducible refine LeO.bind ?_ (fun _ => ?_))
      | exact ih0 _ _ _
      | exact ih1 _ _ _ _ _
      | exact impl_compareWork.mono _ _ _ _ _ _ _
      | exact LeO.none _
      | refine LeO.ite ?_ ?_
      | refine LeO.bind ?_ (fun _ => ?_)
theorem impl_down.mono : ∀ a0 a1 k, LeO (impl_down.f k a0 a1) (impl_down.f (k + 1) a0 a1) := by
  intro a0 a1 k
  obtain ⟨ih0, ih1⟩ := impl_down.mono_l k
  unfold impl_down.f
  repeat' first
      | (with_reducible exact ih0 _ _ _)
      | (with_reducible exact ih1 _ _ _ _ _)
      | (with_reducible exact impl_compareWork.mono _ _ _ _ _ _ _)
      | (with_reducible exact LeO.refl _)
      | (with_reducible exact LeO.none _)
      | (with_reducible refine LeO.ite ?_ ?_)
      | (with_reducible refine LeO.bind ?_ (fun _ => ?_))
      | exact ih0 _ _ _
      | exact ih1 _ _ _ _ _
      | exact impl_compareWork.mono _ _ _ _ _ _ _
      | exact LeO.none _
      | refine LeO.ite ?_ ?_
      | refine LeO.bind ?_ (fun _ => ?_)
def impl_down.T4 : Bool × List (List Nat × List Nat) := (true, [([], []), ([0], [0]), ([], []), ([2], [2]), ([1, 3], [1, 3]), ([4], [4]), ([5], [5]), ([5], [5]), ([7, 5], [5, 7]), ([6, 8, 5], [5, 6, 8]), ([9, 5], [5, 9]), ([5], [5]), ([5], [5]), ([11, 12, 5], [5, 11, 12]), ([13, 5], [5, 13]), ([10, 14, 5, 5], [5, 10, 14]), ([15, 5], [5, 15]), ([5, 16], [5, 16])])
def impl_down.B4 : List Nat := [0, 1, 0, 4, 15, 31, 63, 63, 191, 511, 1023, 63, 63, 6207, 14399, 32767, 65535, 131071]
theorem impl_down.tab4 : rtab .any (opsOf Try.f49 4) = impl_down.T4 := by kernel_rfl
theorem impl_down.bits4 : waitsOk impl_down.T4.2 impl_down.B4 = true := by kernel_rfl
def impl_down.T6 : Bool × List (List Nat × List Nat) := (true, [([], []), ([], []), ([0, 1], [0, 1]), ([2], [2]), ([], []), ([], []), ([4, 5], [4, 5]), ([6], [6]), ([3, 7], [3, 7]), ([8], [8])])
def impl_down.B6 : List Nat := [0, 0, 3, 7, 0, 0, 48, 112, 255, 511]
theorem impl_down.tab6 : rtab .any (opsOf Try.f49 6) = impl_down.T6 := by kernel_rfl
theorem impl_down.bits6 : waitsOk impl_down.T6.2 impl_down.B6 = true := by kernel_rfl
def impl_down.T7 : Bool × List (List Nat × List Nat) := (true, [([], []), ([], []), ([], []), ([], []), ([], []), ([], []), ([4, 5], [4, 5]), ([6], [6]), ([], []), ([], []), ([8, 9], [8, 9]), ([10], [10]), ([0, 1, 0, 1, 4, 5, 6, 7, 11], [0, 1]), ([12, 7, 0, 1, 4, 5, 6, 7, 11], [7, 12]), ([2, 3, 0, 1, 2, 3, 4, 5, 6, 7, 8, 9, 10, 11, 12, 13], [2, 3]), ([14, 11, 13, 0, 1, 2, 3, 4, 5, 6, 7, 8, 9, 10, 11, 12, 13], [11, 14])])
def impl_down.B7 : List Nat := [0, 0, 0, 0, 0, 0, 48, 112, 0, 0, 768, 1792, 4083, 8179, 16383, 32767]
theorem impl_down.tab7 : rtab .any (opsOf Try.f49 7) = impl_down.T7 := by kernel_rfl
theorem impl_down.bits7 : waitsOk impl_down.T7.2 impl_down.B7 = true := by kernel_rfl
set_option maxHeartbeats 8000000 in
set_option maxRecDepth 100000 in
theorem impl_down.calls (k : Nat) (P0_ : Nat → Prop) (u9000_ : Value) (l0 : List (S34)) (a1 : Int) (r1 : Int) (r2 : List (S34)) (w0 w : World) (hB : Below w0.heap.size w0 w) (ho0 : Kd.R k34 34 w w0.heap.size P0_ u9000_ l0) (h : impl_down.f k l0 a1 = some (r1, r2)) :
    Calls Try.prog 49 #[u9000_, .int .i64 a1] w fun e w' => e = .returned (.int .i64 r1) ∧ Kd.R k34 34 w' w0.heap.size (fun k_ => (P0_ k_ ∨ w.heap.size ≤ k_)) u9000_ r2 ∧ Below w0.heap.size w0 w' ∧ Kept w w' (fun k_ => P0_ k_) := by
  have hu34 := Try.underlying34
  have HO0 := Aside0.mk (show Kd.R k34 34 w w0.heap.size (fun k_ => (P0_ k_ ∨ w.heap.size ≤ k_)) u9000_ l0 from Kd.R_mono ho0 (fun k_ hk => (.inl hk)))
  have HK := Aside0.mk (Kept.refl w (fun k_ => P0_ k_))
  have HW0 := Aside0.mk hB.size
  have HB := Aside0.mk hB
  clear hB
  have H : (impl_down.l0 k l0 a1 0) = some (r1, r2) := h
  clear h
  have H' := Aside0.mk H
  clear H
  go_enter Try.func49, Try.ntmps49
  go_wp2
  go_loopg [1, 5] k (fun kq v1 v5 w' => ∃ (x0_1 : List (S34)) (x1_1 : Int) (x5_1 : Int), v1 = .int .i64 x1_1 ∧ v5 = .int .i64 x5_1 ∧ Aside0 (impl_down.l0 kq x0_1 x1_1 x5_1 = some (r1, r2)) ∧ Aside0 (kq ≤ k) ∧ Aside0 (Kd.R k34 34 w' w0.heap.size (fun k_ => (P0_ k_ ∨ w.heap.size ≤ k_)) u9000_ x0_1) ∧ Aside0 (Kept w w' (fun k_ => P0_ k_)) ∧ Aside0 (Below w0.heap.size w0 w'))
  case atStart => exact ⟨(l0), (a1), (0), (by first | rfl | (simp; done) | (simp [*]; done)), (by first | rfl | (simp; done) | (simp [*]; done)), H', ⟨Nat.le_refl _⟩, ⟨by (with_reducible repeat (first | apply Kd.R_alloc | apply Kd.R_drewN | apply Kd.R_drew)); exact HO0.out⟩, ⟨by repeat (first | (with_reducible first | exact HK.out | apply Kept.alloc | apply Kept.drewN | apply Kept.drew) | exact HK.out)⟩, ⟨by repeat (first | (with_reducible first | exact HB.out | apply below_alloc | apply pw_below_drewN | apply below_drew1) | exact HB.out)⟩⟩
  case round =>
    clear H'
    try clear p2
    obtain ⟨x0_1, x1_1, x5_1, rfl, rfl, HA, HK1, HO_0, HK, HB⟩ := hrel
    cases gk with
    | zero => exact absurd HA.out (by simp [impl_down.l0])
    | succ k1 =>
      have H := HA.out
      clear HA
      simp only [impl_down.l0] at H
      by_cases c3 : (wrap64 ((wrap64 (2 * x1_1)) + 1)) < (x0_1.length : Int)
      · rw [if_pos c3] at H
        have c3b0 : decide ((wrap64 ((wrap64 (2 * x1_1)) + 1)) < (x0_1.length : Int)) = true := decide_eq_true c3
        clear c3
        have HC4 := Aside0.mk H
        clear H
        obtain ⟨Ao5, co5, eo5⟩ := Kd.R_slice HO_0.out
        subst eo5
        go_upto_region 4 with (fail)
        go_cut [33] (fun v33 wc => ∃ (kq : Nat) (x33_3 : Bool), v33 = .bool x33_3 ∧ Aside0 (impl_down.j1 kq x0_1 x1_1 x5_1 (wrap64 ((wrap64 (2 * x1_1)) + 1)) x33_3 = some (r1, r2)) ∧ Aside0 (kq ≤ k1) ∧ Aside0 (Kd.R k34 34 wc w0.heap.size (fun k_ => (P0_ k_ ∨ w.heap.size ≤ k_)) (.slice Ao5 x0_1.length co5) x0_1) ∧ Aside0 (Kept w wc (fun k_ => P0_ k_)) ∧ Aside0 (Below w0.heap.size w0 wc))
        case first =>
          have H := HC4.out
          clear HC4
          by_cases c6 : (wrap64 ((wrap64 ((wrap64 (2 * x1_1)) + 1)) + 1)) < (x0_1.length : Int)
          · rw [if_pos c6] at H
            have c6b0 : decide ((wrap64 ((wrap64 ((wrap64 (2 * x1_1)) + 1)) + 1)) < (x0_1.length : Int)) = true := decide_eq_true c6
            clear c6
            (first | rw [c6b0] | (simp only [i64_w, i32_w]; rw [c6b0]) | skip)
            obtain ⟨ji7, hji7⟩ : ∃ j_ : Int, (wrap64 ((wrap64 ((wrap64 (2 * x1_1)) + 1)) + 1)) = j_ := ⟨_, rfl⟩
            replace H : (if 0 ≤ (ji7) then (if 0 ≤ (wrap64 ((wrap64 (2 * x1_1)) + 1)) then ((impl_compareWork.f k1 ((rd_T34 x0_1 (ji7)).f0) ((rd_T34 x0_1 (ji7)).f1) ((rd_T34 x0_1 (ji7)).f2) ((rd_T34 x0_1 (wrap64 ((wrap64 (2 * x1_1)) + 1))).f0) ((rd_T34 x0_1 (wrap64 ((wrap64 (2 * x1_1)) + 1))).f1) ((rd_T34 x0_1 (wrap64 ((wrap64 (2 * x1_1)) + 1))).f2)).bind fun t208 => (impl_down.j1 k1 x0_1 x1_1 x5_1 (wrap64 ((wrap64 (2 * x1_1)) + 1)) (decide (t208 < 0)))) else (none)) else (none)) = some (r1, r2) := by first | (rw [hji7] at H; exact H) | (simp only [hji7] at H ⊢; exact H)
            (try rw [hji7] at c6b0)
            have hji7w : (IntKind.i64.wrap ((wrap64 ((wrap64 (2 * x1_1)) + 1)) + 1)) = ji7 := (i64_w _).trans hji7
            by_cases c8 : 0 ≤ (ji7)
            · rw [if_pos c8] at H
              have c8b0 : decide (0 ≤ (ji7)) = true := decide_eq_true c8
              clear c8
              obtain ⟨ji9, hji9⟩ : ∃ j_ : Int, (wrap64 ((wrap64 (2 * x1_1)) + 1)) = j_ := ⟨_, rfl⟩
              replace H : (if 0 ≤ (ji9) then ((impl_compareWork.f k1 ((rd_T34 x0_1 (ji7)).f0) ((rd_T34 x0_1 (ji7)).f1) ((rd_T34 x0_1 (ji7)).f2) ((rd_T34 x0_1 (ji9)).f0) ((rd_T34 x0_1 (ji9)).f1) ((rd_T34 x0_1 (ji9)).f2)).bind fun t208 => (impl_down.j1 k1 x0_1 x1_1 x5_1 ji9 (decide (t208 < 0)))) else (none)) = some (r1, r2) := by first | (rw [hji9] at H; exact H) | (simp only [hji9] at H ⊢; exact H)
              (try rw [hji9] at c3b0)
              (try rw [hji9] at c6b0)
              have hji9w : (IntKind.i64.wrap ((wrap64 (2 * x1_1)) + 1)) = ji9 := (i64_w _).trans hji9
              (try (have hji7_9 := hji7; rw [hji9] at hji7_9))
              by_cases c10 : 0 ≤ (ji9)
              · rw [if_pos c10] at H
                have c10b0 : decide (0 ≤ (ji9)) = true := decide_eq_true c10
                clear c10
                replace H := Option.bind_eq_some_iff.mp H
                obtain ⟨t208, A110, H⟩ := H
                replace H : (impl_down.j1 k1 x0_1 x1_1 x5_1 ji9 (decide (t208 < 0))) = some (r1, r2) := H
                have A11 := Aside0.mk A110
                clear A110
                have H' := Aside0.mk H
                clear H
                try go_wp2
                have n0_ := Aside0.mk (Kd.R_drew HO_0.out)
                have n1_ := Aside0.mk (Kept.drew HK.out)
                have n2_ := Aside0.mk (below_drew1 HB.out)
                clear HO_0
                clear HK
                clear HB
                have HO_0 := n0_
                have HK := n1_
                have HB := n2_
                clear n0_ n1_ n2_
                have p206 : 0 ≤ ((ji7) : Int) := of_decide_eq_true (by first | (with_reducible assumption) | assumption)
                have q206 : (ji7) < (x0_1.length : Int) := of_decide_eq_true (by first | (with_reducible assumption) | assumption)
                obtain ⟨ad206, e206, hx206_0, hx206_1, hx206_2⟩ := at_T34 (Kd.R_reads' HO_0.out).2.2 (ji7) p206 q206
                cases e206
                replace p206 := eq_true p206
                replace q206 := eq_true q206
                have p207 : 0 ≤ ((ji9) : Int) := of_decide_eq_true (by first | (with_reducible assumption) | assumption)
                have q207 : (ji9) < (x0_1.length : Int) := of_decide_eq_true (by first | (with_reducible assumption) | assumption)
                obtain ⟨ad207, e207, hx207_0, hx207_1, hx207_2⟩ := at_T34 (Kd.R_reads' HO_0.out).2.2 (ji9) p207 q207
                obtain rfl : ad206 = ad207 := (by injection e207)
                replace p207 := eq_true p207
                replace q207 := eq_true q207
                refine start_ (n := 18) (S := fun w' => w'.cell? (ad206.add (((ji7)).toNat * 3)) = some (.int .i64 ((rd_T34 x0_1 (ji7)).f0)) ∧ w'.cell? ⟨(ad206.add (((ji7)).toNat * 3)).block, (ad206.add (((ji7)).toNat * 3)).off + 1, none⟩ = some (.int .i64 ((rd_T34 x0_1 (ji7)).f1)) ∧ w'.cell? ⟨(ad206.add (((ji7)).toNat * 3)).block, (ad206.add (((ji7)).toNat * 3)).off + 2, none⟩ = some (.int .i64 ((rd_T34 x0_1 (ji7)).f2)) ∧ w'.cell? (ad206.add (((ji9)).toNat * 3)) = some (.int .i64 ((rd_T34 x0_1 (ji9)).f0)) ∧ w'.cell? ⟨(ad206.add (((ji9)).toNat * 3)).block, (ad206.add (((ji9)).toNat * 3)).off + 1, none⟩ = some (.int .i64 ((rd_T34 x0_1 (ji9)).f1)) ∧ w'.cell? ⟨(ad206.add (((ji9)).toNat * 3)).block, (ad206.add (((ji9)).toNat * 3)).off + 2, none⟩ = some (.int .i64 ((rd_T34 x0_1 (ji9)).f2))) (ds := []) #[false, false, false, false, false, false, false, false, false, false, false, false, false, false, false, false, false, false] (by kernel_rfl) rfl rfl ⟨hx206_0, hx206_1, hx206_2, hx207_0, hx207_1, hx207_2⟩ (fun hHeld => ?_); refine with_tabW impl_down.tab4 impl_down.bits4 (fun HT_ HW_ => ?_)
                generalize wr.drew = w12 at HO_0 HK HB hx206_0 hx206_1 hx206_2 hx207_0 hx207_1 hx207_2 hHeld ⊢
                refine pure_ (i := 0) (N := some 16) (v := ?_) (a' := ?_) #[true, false, false, false, false, false, false, false, false, false, false, false, false, false, false, false, false, false] rfl rfl (any_of HT_.out (by kernel_rfl)) (fun _ _ _ h => h) (Or.inl ⟨by rfl, ?_⟩) ?_ ?_
                rotate_left
                · intro w'
                  go_simp
                  with_reducible rfl
                rotate_left
                · simp only [Act.put, List.setIfInBounds_toArray, List.set_cons_zero, List.set_cons_succ, i64_w, i32_w]
                  rfl
                refine pure_ (i := 1) (N := some 17) (v := ?_) (a' := ?_) #[true, true, false, false, false, false, false, false, false, false, false, false, false, false, false, false, false, false] rfl rfl (any_of HT_.out (by kernel_rfl)) (fun _ _ _ h => h) (Or.inl ⟨by rfl, ?_⟩) ?_ ?_
                rotate_left
                · intro w'
                  go_simp
                  with_reducible rfl
                rotate_left
                · simp only [Act.put, List.setIfInBounds_toArray, List.set_cons_zero, List.set_cons_succ, i64_w, i32_w]
                  rfl
                refine pure_ (i := 2) (N := some 18) (v := ?_) (a' := ?_) #[true, true, true, false, false, false, false, false, false, false, false, false, false, false, false, false, false, false] rfl rfl (any_of HT_.out (by kernel_rfl)) (fun _ _ _ h => h) (Or.inl ⟨by rfl, ?_⟩) ?_ ?_
                rotate_left
                · intro w'
                  go_simp
                  with_reducible rfl
                rotate_left
                · simp only [Act.put, List.setIfInBounds_toArray, List.set_cons_zero, List.set_cons_succ, i64_w, i32_w]
                  rfl
                refine pure_ (i := 3) (N := some 19) (v := ?_) (a' := ?_) #[true, true, true, true, false, false, false, false, false, false, false, false, false, false, false, false, false, false] rfl rfl (any_of HT_.out (by kernel_rfl)) (fun _ _ _ h => h) (Or.inl ⟨by rfl, ?_⟩) ?_ ?_
                rotate_left
                · intro w'
                  go_simp
                  with_reducible rfl
                rotate_left
                · simp only [Act.put, List.setIfInBounds_toArray, List.set_cons_zero, List.set_cons_succ, i64_w, i32_w]
                  rfl
                refine pure_ (i := 4) (N := some 20) (v := ?_) (a' := ?_) #[true, true, true, true, true, false, false, false, false, false, false, false, false, false, false, false, false, false] rfl rfl (any_of HT_.out (by kernel_rfl)) (fun _ _ _ h => h) (Or.inl ⟨by rfl, ?_⟩) ?_ ?_
                rotate_left
                · intro w'
                  go_simp
                  with_reducible rfl
                rotate_left
                · simp only [Act.put, List.setIfInBounds_toArray, List.set_cons_zero, List.set_cons_succ, i64_w, i32_w]
                  rfl
                refine pure_ (i := 5) (N := some 21) (v := ?_) (a' := ?_) #[true, true, true, true, true, true, false, false, false, false, false, false, false, false, false, false, false, false] rfl rfl (any_of HT_.out (by kernel_rfl)) (fun _ _ _ h => h) (Or.inl ⟨by rfl, ?_⟩) ?_ ?_
                rotate_left
                · intro w'
                  go_simp
                  with_reducible rfl
                rotate_left
                · simp only [Act.put, List.setIfInBounds_toArray, List.set_cons_zero, List.set_cons_succ, i64_w, i32_w]
                  rfl
                refine pure_ (i := 6) (N := some 22) (v := ?_) (a' := ?_) #[true, true, true, true, true, true, true, false, false, false, false, false, false, false, false, false, false, false] rfl rfl (any_of HT_.out (by kernel_rfl)) (fun _ _ _ h => h) (Or.inl ⟨by rfl, ?_⟩) ?_ ?_
                rotate_left
                · intro w'
                  go_simp
                  with_reducible rfl
                rotate_left
                · simp only [Act.put, List.setIfInBounds_toArray, List.set_cons_zero, List.set_cons_succ, i64_w, i32_w]
                  rfl
                refine pure_ (i := 7) (N := some 23) (v := ?_) (a' := ?_) #[true, true, true, true, true, true, true, true, false, false, false, false, false, false, false, false, false, false] rfl rfl (any_of HT_.out (by kernel_rfl)) (fun _ _ _ h => h) (Or.inl ⟨by rfl, ?_⟩) ?_ ?_
                rotate_left
                · intro w'
                  go_simp
                  with_reducible rfl
                rotate_left
                · simp only [Act.put, List.setIfInBounds_toArray, List.set_cons_zero, List.set_cons_succ, i64_w, i32_w]
                  rfl
                refine pure_ (i := 8) (N := some 24) (v := ?_) (a' := ?_) #[true, true, true, true, true, true, true, true, true, false, false, false, false, false, false, false, false, false] rfl rfl (any_of HT_.out (by kernel_rfl)) (fun _ _ _ h => h) (Or.inl ⟨by rfl, ?_⟩) ?_ ?_
                rotate_left
                · intro w'
                  go_simp
                  with_reducible rfl
                rotate_left
                · simp only [Act.put, List.setIfInBounds_toArray, List.set_cons_zero, List.set_cons_succ, i64_w, i32_w]
                  rfl
                refine pure_ (i := 9) (N := some 25) (v := ?_) (a' := ?_) #[true, true, true, true, true, true, true, true, true, true, false, false, false, false, false, false, false, false] rfl rfl (any_of HT_.out (by kernel_rfl)) (fun _ _ _ h => h) (Or.inl ⟨by rfl, ?_⟩) ?_ ?_
                rotate_left
                · intro w'
                  go_simp
                  with_reducible rfl
                rotate_left
                · simp only [Act.put, List.setIfInBounds_toArray, List.set_cons_zero, List.set_cons_succ, i64_w, i32_w]
                  rfl
                refine pure_ (i := 11) (N := some 27) (v := ?_) (a' := ?_) #[true, true, true, true, true, true, true, true, true, true, false, true, false, false, false, false, false, false] rfl rfl (any_of HT_.out (by kernel_rfl)) (fun _ _ _ h => h) (Or.inl ⟨by rfl, ?_⟩) ?_ ?_
                rotate_left
                · intro w'
                  go_simp
                  with_reducible rfl
                rotate_left
                · simp only [Act.put, List.setIfInBounds_toArray, List.set_cons_zero, List.set_cons_succ, i64_w, i32_w]
                  rfl
                refine pure_ (i := 12) (N := some 28) (v := ?_) (a' := ?_) #[true, true, true, true, true, true, true, true, true, true, false, true, true, false, false, false, false, false] rfl rfl (any_of HT_.out (by kernel_rfl)) (fun _ _ _ h => h) (Or.inl ⟨by rfl, ?_⟩) ?_ ?_
                rotate_left
                · intro w'
                  go_simp
                  with_reducible rfl
                rotate_left
                · simp only [Act.put, List.setIfInBounds_toArray, List.set_cons_zero, List.set_cons_succ, i64_w, i32_w]
                  rfl
                refine pure_ (i := 13) (N := some 29) (v := ?_) (a' := ?_) #[true, true, true, true, true, true, true, true, true, true, false, true, true, true, false, false, false, false] rfl rfl (any_of HT_.out (by kernel_rfl)) (fun _ _ _ h => h) (Or.inl ⟨by rfl, ?_⟩) ?_ ?_
                rotate_left
                · intro w'
                  go_simp
                  with_reducible rfl
                rotate_left
                · simp only [Act.put, List.setIfInBounds_toArray, List.set_cons_zero, List.set_cons_succ, i64_w, i32_w]
                  rfl
                refine take_ (i := 10) (N := some 26) (v := ?_) (a' := ?_) #[true, true, true, true, true, true, true, true, true, true, true, true, true, true, false, false, false, false] rfl rfl (take_ofW HT_.out HW_.out (by kernel_rfl)) (fun _ _ _ h => h) (Or.inl ⟨by rfl, ?_⟩) hHeld ?_ ?_
                rotate_left
                · rintro w' ⟨s0, s1, s2, s3, s4, s5⟩
                  go_simp
                  with_reducible rfl
                rotate_left
                · simp only [Act.put, List.setIfInBounds_toArray, List.set_cons_zero, List.set_cons_succ, i64_w, i32_w]
                  rfl
                refine take_ (i := 14) (N := some 30) (v := ?_) (a' := ?_) #[true, true, true, true, true, true, true, true, true, true, true, true, true, true, true, false, false, false] rfl rfl (take_ofW HT_.out HW_.out (by kernel_rfl)) (fun _ _ _ h => h) (Or.inl ⟨by rfl, ?_⟩) hHeld ?_ ?_
                rotate_left
                · rintro w' ⟨s0, s1, s2, s3, s4, s5⟩
                  go_simp
                  with_reducible rfl
                rotate_left
                · simp only [Act.put, List.setIfInBounds_toArray, List.set_cons_zero, List.set_cons_succ, i64_w, i32_w]
                  rfl
                refine one_ (i := 15) (N := some 31) #[true, true, true, true, true, true, true, true, true, true, true, true, true, true, true, true, false, false] rfl rfl (one_of HT_.out (by kernel_rfl)) (by decide) (fun K hK => ?_)
                refine goes_ Try.func44 (by kernel_rfl) rfl #[.agg #[.int .i64 ((rd_T34 x0_1 (ji7)).f0), .int .i64 ((rd_T34 x0_1 (ji7)).f1), .int .i64 ((rd_T34 x0_1 (ji7)).f2)], .agg #[.int .i64 ((rd_T34 x0_1 (ji9)).f0), .int .i64 ((rd_T34 x0_1 (ji9)).f1), .int .i64 ((rd_T34 x0_1 (ji9)).f2)]] (by rfl) rfl rfl (by (try simp only [List.map_toArray, List.map_cons, List.map_nil]); first | done | (simp only [hji7, hji9]; rfl) | rfl | (simp only [List.length_drop, List.length_take]; rfl)) ?_
                with_reducible refine (impl_compareWork.calls k1 ((rd_T34 x0_1 (ji7)).f0) ((rd_T34 x0_1 (ji7)).f1) ((rd_T34 x0_1 (ji7)).f2) ((rd_T34 x0_1 (ji9)).f0) ((rd_T34 x0_1 (ji9)).f1) ((rd_T34 x0_1 (ji9)).f2) t208 _ A11.out).mono ?_
                rintro e w13 ⟨rfl, hb⟩
                have HS0_ := (hb.cell (World.block_lt_of_cell? _ _ (hHeld.1))).trans (hHeld.1)
                have HS1_ := (hb.cell (World.block_lt_of_cell? _ _ (hHeld.2.1))).trans (hHeld.2.1)
                have HS2_ := (hb.cell (World.block_lt_of_cell? _ _ (hHeld.2.2.1))).trans (hHeld.2.2.1)
                have HS3_ := (hb.cell (World.block_lt_of_cell? _ _ (hHeld.2.2.2.1))).trans (hHeld.2.2.2.1)
                have HS4_ := (hb.cell (World.block_lt_of_cell? _ _ (hHeld.2.2.2.2.1))).trans (hHeld.2.2.2.2.1)
                have HS5_ := (hb.cell (World.block_lt_of_cell? _ _ (hHeld.2.2.2.2.2))).trans (hHeld.2.2.2.2.2)
                refine ⟨_, rfl, ?_⟩
                have n0_ := Aside0.mk (Kd.R_below (by (with_reducible repeat (first | apply Kd.R_alloc | apply Kd.R_drewN | apply Kd.R_drew)); exact HO_0.out) hb)
                have n1_ := Aside0.mk (Kept.below (S := (fun k_ => P0_ k_)) (by repeat (first | (with_reducible first | exact HK.out | apply Kept.alloc | apply Kept.drewN | apply Kept.drew) | exact HK.out)) hb)
                have n2_ := Aside0.mk (below_step (by repeat (first | (with_reducible first | exact HB.out | apply below_alloc | apply pw_below_drewN | apply below_drew1) | exact HB.out)) hb)
                clear HO_0
                clear HK
                clear HB
                have HO_0 := n0_
                have HK := n1_
                have HB := n2_
                clear n0_ n1_ n2_
                (try clear hb)
                (try clear hb2)
                (try clear hk)
                (try clear hi)
                refine hK.out _ _ ⟨HS0_, HS1_, HS2_, HS3_, HS4_, HS5_⟩ (fun hHeld => ?_)
                clear hK K
                refine norm_ (a' := ?_) ?_ ?_
                rotate_left
                · show Act.put _ (some 31) _ = _
                  simp only [Act.put, List.setIfInBounds_toArray, List.set_cons_zero, List.set_cons_succ, i64_w, i32_w]
                  rfl
                refine pure_ (i := 16) (N := some 32) (v := ?_) (a' := ?_) #[true, true, true, true, true, true, true, true, true, true, true, true, true, true, true, true, true, false] rfl rfl (any_of HT_.out (by kernel_rfl)) (fun _ _ _ h => h) (Or.inl ⟨by rfl, ?_⟩) ?_ ?_
                rotate_left
                · intro w'
                  go_simp
                  with_reducible rfl
                rotate_left
                · simp only [Act.put, List.setIfInBounds_toArray, List.set_cons_zero, List.set_cons_succ, i64_w, i32_w]
                  rfl
                refine pure_ (i := 17) (N := some 33) (v := ?_) (a' := ?_) #[true, true, true, true, true, true, true, true, true, true, true, true, true, true, true, true, true, true] rfl rfl (any_of HT_.out (by kernel_rfl)) (fun _ _ _ h => h) (Or.inl ⟨by rfl, ?_⟩) ?_ ?_
                rotate_left
                · intro w'
                  go_simp
                  with_reducible rfl
                rotate_left
                · simp only [Act.put, List.setIfInBounds_toArray, List.set_cons_zero, List.set_cons_succ, i64_w, i32_w]
                  rfl
                refine done_ (done_of HT_.out (by kernel_rfl)) ?_
                try go_wp2
                first | go_meet | ((try subst hji9); (try subst hji7); go_meet)
                case rel => exact ⟨_, (decide (t208 < 0)), (by first | rfl | (simp; done) | (simp [*]; done)), H', ⟨by have := HK1.out; first | omega | exact Nat.le_refl _⟩, ⟨by (with_reducible repeat (first | apply Kd.R_alloc | apply Kd.R_drewN | apply Kd.R_drew)); exact HO_0.out⟩, ⟨by repeat (first | (with_reducible first | exact HK.out | apply Kept.alloc | apply Kept.drewN | apply Kept.drew) | exact HK.out)⟩, ⟨by repeat (first | (with_reducible first | exact HB.out | apply below_alloc | apply pw_below_drewN | apply below_drew1) | exact HB.out)⟩⟩
              · rw [if_neg c10] at H
                exact absurd H (by simp)
            · rw [if_neg c8] at H
              exact absurd H (by simp)
          · rw [if_neg c6] at H
            have c6b0 : decide ((wrap64 ((wrap64 ((wrap64 (2 * x1_1)) + 1)) + 1)) < (x0_1.length : Int)) = false := decide_eq_false c6
            clear c6
            (first | rw [c6b0] | (simp only [i64_w, i32_w]; rw [c6b0]) | skip)
            have H' := Aside0.mk H
            clear H
            try go_wp2
            have n0_ := Aside0.mk (Kd.R_drew HO_0.out)
            have n1_ := Aside0.mk (Kept.drew HK.out)
            have n2_ := Aside0.mk (below_drew1 HB.out)
            clear HO_0
            clear HK
            clear HB
            have HO_0 := n0_
            have HK := n1_
            have HB := n2_
            clear n0_ n1_ n2_
            refine start_ (n := 18) (S := fun w' => True) (ds := []) #[false, false, false, false, false, false, false, false, false, false, false, false, false, false, false, false, false, false] (by kernel_rfl) rfl rfl trivial (fun hHeld => ?_); refine with_tabW impl_down.tab4 impl_down.bits4 (fun HT_ HW_ => ?_)
            generalize wr.drew = w14 at HO_0 HK HB hHeld ⊢
            refine pure_ (i := 0) (N := some 16) (v := ?_) (a' := ?_) #[true, false, false, false, false, false, false, false, false, false, false, false, false, false, false, false, false, false] rfl rfl (any_of HT_.out (by kernel_rfl)) (fun _ _ _ h => h) (Or.inl ⟨by rfl, ?_⟩) ?_ ?_
            rotate_left
            · intro w'
              go_simp
              with_reducible rfl
            rotate_left
            · simp only [Act.put, List.setIfInBounds_toArray, List.set_cons_zero, List.set_cons_succ, i64_w, i32_w]
              rfl
            refine pure_ (i := 1) (N := some 17) (v := ?_) (a' := ?_) #[true, true, false, false, false, false, false, false, false, false, false, false, false, false, false, false, false, false] rfl rfl (any_of HT_.out (by kernel_rfl)) (fun _ _ _ h => h) (Or.inl ⟨by rfl, ?_⟩) ?_ ?_
            rotate_left
            · intro w'
              go_simp
              with_reducible rfl
            rotate_left
            · simp only [Act.put, List.setIfInBounds_toArray, List.set_cons_zero, List.set_cons_succ, i64_w, i32_w]
              rfl
            refine pure_ (i := 2) (N := some 18) (v := ?_) (a' := ?_) #[true, true, true, false, false, false, false, false, false, false, false, false, false, false, false, false, false, false] rfl rfl (any_of HT_.out (by kernel_rfl)) (fun _ _ _ h => h) (Or.inl ⟨by rfl, ?_⟩) ?_ ?_
            rotate_left
            · intro w'
              go_simp
              with_reducible rfl
            rotate_left
            · simp only [Act.put, List.setIfInBounds_toArray, List.set_cons_zero, List.set_cons_succ, i64_w, i32_w]
              rfl
            refine pure_ (i := 3) (N := some 19) (v := ?_) (a' := ?_) #[true, true, true, true, false, false, false, false, false, false, false, false, false, false, false, false, false, false] rfl rfl (any_of HT_.out (by kernel_rfl)) (fun _ _ _ h => h) (Or.inl ⟨by rfl, ?_⟩) ?_ ?_
            rotate_left
            · intro w'
              go_simp
              with_reducible rfl
            rotate_left
            · simp only [Act.put, List.setIfInBounds_toArray, List.set_cons_zero, List.set_cons_succ, i64_w, i32_w]
              rfl
            refine pure_ (i := 4) (N := some 20) (v := ?_) (a' := ?_) #[true, true, true, true, true, false, false, false, false, false, false, false, false, false, false, false, false, false] rfl rfl (any_of HT_.out (by kernel_rfl)) (fun _ _ _ h => h) (Or.inl ⟨by rfl, ?_⟩) ?_ ?_
            rotate_left
            · intro w'
              go_simp
              with_reducible rfl
            rotate_left
            · simp only [Act.put, List.setIfInBounds_toArray, List.set_cons_zero, List.set_cons_succ, i64_w, i32_w]
              rfl
            refine pure_ (i := 5) (N := some 21) (v := ?_) (a' := ?_) #[true, true, true, true, true, true, false, false, false, false, false, false, false, false, false, false, false, false] rfl rfl (any_of HT_.out (by kernel_rfl)) (fun _ _ _ h => h) (Or.inl ⟨by rfl, ?_⟩) ?_ ?_
            rotate_left
            · intro w'
              go_simp
              with_reducible rfl
            rotate_left
            · simp only [Act.put, List.setIfInBounds_toArray, List.set_cons_zero, List.set_cons_succ, i64_w, i32_w]
              rfl
            refine pure_ (i := 6) (N := some 22) (v := undef) (a' := ?_) #[true, true, true, true, true, true, true, false, false, false, false, false, false, false, false, false, false, false] rfl rfl (any_of HT_.out (by kernel_rfl)) (fun _ _ _ h => h) (Or.inr ⟨by rfl, rfl⟩) ?_ ?_
            rotate_left
            · simp only [Act.put, List.setIfInBounds_toArray, List.set_cons_zero, List.set_cons_succ, i64_w, i32_w]
              rfl
            refine pure_ (i := 7) (N := some 23) (v := undef) (a' := ?_) #[true, true, true, true, true, true, true, true, false, false, false, false, false, false, false, false, false, false] rfl rfl (any_of HT_.out (by kernel_rfl)) (fun _ _ _ h => h) (Or.inr ⟨by rfl, rfl⟩) ?_ ?_
            rotate_left
            · simp only [Act.put, List.setIfInBounds_toArray, List.set_cons_zero, List.set_cons_succ, i64_w, i32_w]
              rfl
            refine pure_ (i := 8) (N := some 24) (v := undef) (a' := ?_) #[true, true, true, true, true, true, true, true, true, false, false, false, false, false, false, false, false, false] rfl rfl (any_of HT_.out (by kernel_rfl)) (fun _ _ _ h => h) (Or.inr ⟨by rfl, rfl⟩) ?_ ?_
            rotate_left
            · simp only [Act.put, List.setIfInBounds_toArray, List.set_cons_zero, List.set_cons_succ, i64_w, i32_w]
              rfl
            refine pure_ (i := 9) (N := some 25) (v := undef) (a' := ?_) #[true, true, true, true, true, true, true, true, true, true, false, false, false, false, false, false, false, false] rfl rfl (any_of HT_.out (by kernel_rfl)) (fun _ _ _ h => h) (Or.inr ⟨by rfl, rfl⟩) ?_ ?_
            rotate_left
            · simp only [Act.put, List.setIfInBounds_toArray, List.set_cons_zero, List.set_cons_succ, i64_w, i32_w]
              rfl
            refine pure_ (i := 10) (N := some 26) (v := undef) (a' := ?_) #[true, true, true, true, true, true, true, true, true, true, true, false, false, false, false, false, false, false] rfl rfl (any_of HT_.out (by kernel_rfl)) (fun _ _ _ h => h) (Or.inr ⟨by rfl, rfl⟩) ?_ ?_
            rotate_left
            · simp only [Act.put, List.setIfInBounds_toArray, List.set_cons_zero, List.set_cons_succ, i64_w, i32_w]
              rfl
            refine pure_ (i := 11) (N := some 27) (v := undef) (a' := ?_) #[true, true, true, true, true, true, true, true, true, true, true, true, false, false, false, false, false, false] rfl rfl (any_of HT_.out (by kernel_rfl)) (fun _ _ _ h => h) (Or.inr ⟨by rfl, rfl⟩) ?_ ?_
            rotate_left
            · simp only [Act.put, List.setIfInBounds_toArray, List.set_cons_zero, List.set_cons_succ, i64_w, i32_w]
              rfl
            refine pure_ (i := 12) (N := some 28) (v := undef) (a' := ?_) #[true, true, true, true, true, true, true, true, true, true, true, true, true, false, false, false, false, false] rfl rfl (any_of HT_.out (by kernel_rfl)) (fun _ _ _ h => h) (Or.inr ⟨by rfl, rfl⟩) ?_ ?_
            rotate_left
            · simp only [Act.put, List.setIfInBounds_toArray, List.set_cons_zero, List.set_cons_succ, i64_w, i32_w]
              rfl
            refine pure_ (i := 13) (N := some 29) (v := undef) (a' := ?_) #[true, true, true, true, true, true, true, true, true, true, true, true, true, true, false, false, false, false] rfl rfl (any_of HT_.out (by kernel_rfl)) (fun _ _ _ h => h) (Or.inr ⟨by rfl, rfl⟩) ?_ ?_
            rotate_left
            · simp only [Act.put, List.setIfInBounds_toArray, List.set_cons_zero, List.set_cons_succ, i64_w, i32_w]
              rfl
            refine pure_ (i := 14) (N := some 30) (v := undef) (a' := ?_) #[true, true, true, true, true, true, true, true, true, true, true, true, true, true, true, false, false, false] rfl rfl (any_of HT_.out (by kernel_rfl)) (fun _ _ _ h => h) (Or.inr ⟨by rfl, rfl⟩) ?_ ?_
            rotate_left
            · simp only [Act.put, List.setIfInBounds_toArray, List.set_cons_zero, List.set_cons_succ, i64_w, i32_w]
              rfl
            refine pure_ (i := 15) (N := some 31) (v := undef) (a' := ?_) #[true, true, true, true, true, true, true, true, true, true, true, true, true, true, true, true, false, false] rfl rfl (any_of HT_.out (by kernel_rfl)) (fun _ _ _ h => h) (Or.inr ⟨by rfl, rfl⟩) ?_ ?_
            rotate_left
            · simp only [Act.put, List.setIfInBounds_toArray, List.set_cons_zero, List.set_cons_succ, i64_w, i32_w]
              rfl
            refine pure_ (i := 16) (N := some 32) (v := undef) (a' := ?_) #[true, true, true, true, true, true, true, true, true, true, true, true, true, true, true, true, true, false] rfl rfl (any_of HT_.out (by kernel_rfl)) (fun _ _ _ h => h) (Or.inr ⟨by rfl, rfl⟩) ?_ ?_
            rotate_left
            · simp only [Act.put, List.setIfInBounds_toArray, List.set_cons_zero, List.set_cons_succ, i64_w, i32_w]
              rfl
            refine pure_ (i := 17) (N := some 33) (v := ?_) (a' := ?_) #[true, true, true, true, true, true, true, true, true, true, true, true, true, true, true, true, true, true] rfl rfl (any_of HT_.out (by kernel_rfl)) (fun _ _ _ h => h) (Or.inl ⟨by rfl, ?_⟩) ?_ ?_
            rotate_left
            · intro w'
              go_simp
              with_reducible rfl
            rotate_left
            · simp only [Act.put, List.setIfInBounds_toArray, List.set_cons_zero, List.set_cons_succ, i64_w, i32_w]
              rfl
            refine done_ (done_of HT_.out (by kernel_rfl)) ?_
            try go_wp2
            first | go_meet | ((try subst hji9); (try subst hji7); go_meet)
            case rel => exact ⟨_, (false), (by first | rfl | (simp; done) | (simp [*]; done)), H', ⟨by have := HK1.out; first | omega | exact Nat.le_refl _⟩, ⟨by (with_reducible repeat (first | apply Kd.R_alloc | apply Kd.R_drewN | apply Kd.R_drew)); exact HO_0.out⟩, ⟨by repeat (first | (with_reducible first | exact HK.out | apply Kept.alloc | apply Kept.drewN | apply Kept.drew) | exact HK.out)⟩, ⟨by repeat (first | (with_reducible first | exact HB.out | apply below_alloc | apply pw_below_drewN | apply below_drew1) | exact HB.out)⟩⟩
        case rest =>
          clear HC4
          try clear c1
          try clear p2
          try clear q2
          try clear hx2
          try clear c3
          try clear c3b0
          try clear c4
          try clear c6
          try clear c6b0
          try clear p6
          try clear c8
          try clear c8b0
          try clear c10
          try clear c10b0
          try clear hx206_0
          try clear hx206_1
          try clear hx206_2
          try clear hx207_0
          try clear hx207_1
          try clear hx207_2
          try clear p2
          try clear p206
          try clear p207
          try clear q206
          try clear q207
          obtain ⟨kq, x33_3, rfl, HA, HJ3, HO_0, HK, HB⟩ := hcut
          cases kq with
          | zero => exact absurd HA.out (by simp [impl_down.j1])
          | succ kj3 =>
            have H := HA.out
            clear HA
            simp only [impl_down.j1] at H
            by_cases c15 : x33_3 = true
            · subst c15
              have H1 : (if 0 ≤ (wrap64 ((wrap64 ((wrap64 (2 * x1_1)) + 1)) + 1)) then (if (wrap64 ((wrap64 ((wrap64 (2 * x1_1)) + 1)) + 1)) < (x0_1.length : Int) then (if 0 ≤ x1_1 then (if x1_1 < (x0_1.length : Int) then ((impl_compareWork.f kj3 ((rd_T34 x0_1 (wrap64 ((wrap64 ((wrap64 (2 * x1_1)) + 1)) + 1))).f0) ((rd_T34 x0_1 (wrap64 ((wrap64 ((wrap64 (2 * x1_1)) + 1)) + 1))).f1) ((rd_T34 x0_1 (wrap64 ((wrap64 ((wrap64 (2 * x1_1)) + 1)) + 1))).f2) ((rd_T34 x0_1 x1_1).f0) ((rd_T34 x0_1 x1_1).f1) ((rd_T34 x0_1 x1_1).f2)).bind fun t211 => (if t211 ≥ 0 then (some (x5_1, x0_1)) else (impl_down.l0 kj3 ((x0_1.set (x1_1 : Int).toNat (⟨(rd_T34 x0_1 (wrap64 ((wrap64 ((wrap64 (2 * x1_1)) + 1)) + 1))).f0, (rd_T34 x0_1 (wrap64 ((wrap64 ((wrap64 (2 * x1_1)) + 1)) + 1))).f1, (rd_T34 x0_1 (wrap64 ((wrap64 ((wrap64 (2 * x1_1)) + 1)) + 1))).f2⟩ : S34)).set ((wrap64 ((wrap64 ((wrap64 (2 * x1_1)) + 1)) + 1)) : Int).toNat (⟨(rd_T34 x0_1 x1_1).f0, (rd_T34 x0_1 x1_1).f1, (rd_T34 x0_1 x1_1).f2⟩ : S34)) (wrap64 ((wrap64 ((wrap64 (2 * x1_1)) + 1)) + 1)) (wrap64 (x5_1 + 1))))) else (none)) else (none)) else (none)) else (none)) = some (r1, r2) := by rw [if_pos rfl] at H; exact H
              clear H
              have H := H1
              clear H1
              obtain ⟨ji16, hji16⟩ : ∃ j_ : Int, (wrap64 ((wrap64 ((wrap64 (2 * x1_1)) + 1)) + 1)) = j_ := ⟨_, rfl⟩
              replace H : (if 0 ≤ (ji16) then (if (ji16) < (x0_1.length : Int) then (if 0 ≤ x1_1 then (if x1_1 < (x0_1.length : Int) then ((impl_compareWork.f kj3 ((rd_T34 x0_1 (ji16)).f0) ((rd_T34 x0_1 (ji16)).f1) ((rd_T34 x0_1 (ji16)).f2) ((rd_T34 x0_1 x1_1).f0) ((rd_T34 x0_1 x1_1).f1) ((rd_T34 x0_1 x1_1).f2)).bind fun t211 => (if t211 ≥ 0 then (some (x5_1, x0_1)) else (impl_down.l0 kj3 ((x0_1.set (x1_1 : Int).toNat (⟨(rd_T34 x0_1 (ji16)).f0, (rd_T34 x0_1 (ji16)).f1, (rd_T34 x0_1 (ji16)).f2⟩ : S34)).set ((ji16) : Int).toNat (⟨(rd_T34 x0_1 x1_1).f0, (rd_T34 x0_1 x1_1).f1, (rd_T34 x0_1 x1_1).f2⟩ : S34)) ji16 (wrap64 (x5_1 + 1))))) else (none)) else (none)) else (none)) else (none)) = some (r1, r2) := by first | (rw [hji16] at H; exact H) | (simp only [hji16] at H ⊢; exact H)
              have hji16w : (IntKind.i64.wrap ((wrap64 ((wrap64 (2 * x1_1)) + 1)) + 1)) = ji16 := (i64_w _).trans hji16
              (try (have hji7_16 := hji7; rw [hji16] at hji7_16))
              (try (have hji9_16 := hji9; rw [hji16] at hji9_16))
              by_cases c17 : 0 ≤ (ji16)
              · rw [if_pos c17] at H
                have c17b0 : decide (0 ≤ (ji16)) = true := decide_eq_true c17
                clear c17
                by_cases c18 : (ji16) < (x0_1.length : Int)
                · rw [if_pos c18] at H
                  have c18b0 : decide ((ji16) < (x0_1.length : Int)) = true := decide_eq_true c18
                  clear c18
                  by_cases c19 : 0 ≤ x1_1
                  · rw [if_pos c19] at H
                    have c19b0 : decide (0 ≤ x1_1) = true := decide_eq_true c19
                    clear c19
                    by_cases c20 : x1_1 < (x0_1.length : Int)
                    · rw [if_pos c20] at H
                      have c20b0 : decide (x1_1 < (x0_1.length : Int)) = true := decide_eq_true c20
                      clear c20
                      replace H := Option.bind_eq_some_iff.mp H
                      obtain ⟨t211, A210, H⟩ := H
                      replace H : (if t211 ≥ 0 then (some (x5_1, x0_1)) else (impl_down.l0 kj3 ((x0_1.set (x1_1 : Int).toNat (⟨(rd_T34 x0_1 (ji16)).f0, (rd_T34 x0_1 (ji16)).f1, (rd_T34 x0_1 (ji16)).f2⟩ : S34)).set ((ji16) : Int).toNat (⟨(rd_T34 x0_1 x1_1).f0, (rd_T34 x0_1 x1_1).f1, (rd_T34 x0_1 x1_1).f2⟩ : S34)) ji16 (wrap64 (x5_1 + 1)))) = some (r1, r2) := H
                      have A21 := Aside0.mk A210
                      clear A210
                      by_cases c22 : t211 ≥ 0
                      · rw [if_pos c22] at H
                        have c22b0 : decide (0 ≤ t211) = true := decide_eq_true c22
                        clear c22
                        simp only [Option.some.injEq, Prod.mk.injEq] at H
                        obtain ⟨rfl, rfl⟩ := H
                        try go_wp2
                        have n0_ := Aside0.mk (Kd.R_drew HO_0.out)
                        have n1_ := Aside0.mk (Kept.drew HK.out)
                        have n2_ := Aside0.mk (below_drew1 HB.out)
                        clear HO_0
                        clear HK
                        clear HB
                        have HO_0 := n0_
                        have HK := n1_
                        have HB := n2_
                        clear n0_ n1_ n2_
                        have p209 : 0 ≤ ((ji16) : Int) := of_decide_eq_true (by first | (with_reducible assumption) | assumption)
                        have q209 : (ji16) < (x0_1.length : Int) := of_decide_eq_true (by first | (with_reducible assumption) | assumption)
                        obtain ⟨ad209, e209, hx209_0, hx209_1, hx209_2⟩ := at_T34 (Kd.R_reads' HO_0.out).2.2 (ji16) p209 q209
                        cases e209
                        replace p209 := eq_true p209
                        replace q209 := eq_true q209
                        have p210 : 0 ≤ (x1_1 : Int) := of_decide_eq_true (by first | (with_reducible assumption) | assumption)
                        have q210 : x1_1 < (x0_1.length : Int) := of_decide_eq_true (by first | (with_reducible assumption) | assumption)
                        obtain ⟨ad210, e210, hx210_0, hx210_1, hx210_2⟩ := at_T34 (Kd.R_reads' HO_0.out).2.2 x1_1 p210 q210
                        obtain rfl : ad209 = ad210 := (by injection e210)
                        replace p210 := eq_true p210
                        replace q210 := eq_true q210
                        refine start_ (n := 10) (S := fun w' => w'.cell? (ad209.add (((ji16)).toNat * 3)) = some (.int .i64 ((rd_T34 x0_1 (ji16)).f0)) ∧ w'.cell? ⟨(ad209.add (((ji16)).toNat * 3)).block, (ad209.add (((ji16)).toNat * 3)).off + 1, none⟩ = some (.int .i64 ((rd_T34 x0_1 (ji16)).f1)) ∧ w'.cell? ⟨(ad209.add (((ji16)).toNat * 3)).block, (ad209.add (((ji16)).toNat * 3)).off + 2, none⟩ = some (.int .i64 ((rd_T34 x0_1 (ji16)).f2)) ∧ w'.cell? (ad209.add ((x1_1).toNat * 3)) = some (.int .i64 ((rd_T34 x0_1 x1_1).f0)) ∧ w'.cell? ⟨(ad209.add ((x1_1).toNat * 3)).block, (ad209.add ((x1_1).toNat * 3)).off + 1, none⟩ = some (.int .i64 ((rd_T34 x0_1 x1_1).f1)) ∧ w'.cell? ⟨(ad209.add ((x1_1).toNat * 3)).block, (ad209.add ((x1_1).toNat * 3)).off + 2, none⟩ = some (.int .i64 ((rd_T34 x0_1 x1_1).f2))) (ds := []) #[false, false, false, false, false, false, false, false, false, false] (by kernel_rfl) rfl rfl ⟨hx209_0, hx209_1, hx209_2, hx210_0, hx210_1, hx210_2⟩ (fun hHeld => ?_); refine with_tabW impl_down.tab6 impl_down.bits6 (fun HT_ HW_ => ?_)
                        generalize wc.drew = w23 at HO_0 HK HB hx209_0 hx209_1 hx209_2 hx210_0 hx210_1 hx210_2 hHeld ⊢
                        refine pure_ (i := 0) (N := some 36) (v := ?_) (a' := ?_) #[true, false, false, false, false, false, false, false, false, false] rfl rfl (any_of HT_.out (by kernel_rfl)) (fun _ _ _ h => h) (Or.inl ⟨by rfl, ?_⟩) ?_ ?_
                        rotate_left
                        · intro w'
                          go_simp
                          with_reducible rfl
                        rotate_left
                        · simp only [Act.put, List.setIfInBounds_toArray, List.set_cons_zero, List.set_cons_succ, i64_w, i32_w]
                          rfl
                        refine pure_ (i := 1) (N := some 37) (v := ?_) (a' := ?_) #[true, true, false, false, false, false, false, false, false, false] rfl rfl (any_of HT_.out (by kernel_rfl)) (fun _ _ _ h => h) (Or.inl ⟨by rfl, ?_⟩) ?_ ?_
                        rotate_left
                        · intro w'
                          go_simp
                          with_reducible rfl
                        rotate_left
                        · simp only [Act.put, List.setIfInBounds_toArray, List.set_cons_zero, List.set_cons_succ, i64_w, i32_w]
                          rfl
                        refine pure_ (i := 2) (N := some 38) (v := ?_) (a' := ?_) #[true, true, true, false, false, false, false, false, false, false] rfl rfl (any_of HT_.out (by kernel_rfl)) (fun _ _ _ h => h) (Or.inl ⟨by rfl, ?_⟩) ?_ ?_
                        rotate_left
                        · intro w'
                          go_simp
                          with_reducible rfl
                        rotate_left
                        · simp only [Act.put, List.setIfInBounds_toArray, List.set_cons_zero, List.set_cons_succ, i64_w, i32_w]
                          rfl
                        refine pure_ (i := 4) (N := some 40) (v := ?_) (a' := ?_) #[true, true, true, false, true, false, false, false, false, false] rfl rfl (any_of HT_.out (by kernel_rfl)) (fun _ _ _ h => h) (Or.inl ⟨by rfl, ?_⟩) ?_ ?_
                        rotate_left
                        · intro w'
                          go_simp
                          with_reducible rfl
                        rotate_left
                        · simp only [Act.put, List.setIfInBounds_toArray, List.set_cons_zero, List.set_cons_succ, i64_w, i32_w]
                          rfl
                        refine pure_ (i := 5) (N := some 41) (v := ?_) (a' := ?_) #[true, true, true, false, true, true, false, false, false, false] rfl rfl (any_of HT_.out (by kernel_rfl)) (fun _ _ _ h => h) (Or.inl ⟨by rfl, ?_⟩) ?_ ?_
                        rotate_left
                        · intro w'
                          go_simp
                          with_reducible rfl
                        rotate_left
                        · simp only [Act.put, List.setIfInBounds_toArray, List.set_cons_zero, List.set_cons_succ, i64_w, i32_w]
                          rfl
                        refine pure_ (i := 6) (N := some 42) (v := ?_) (a' := ?_) #[true, true, true, false, true, true, true, false, false, false] rfl rfl (any_of HT_.out (by kernel_rfl)) (fun _ _ _ h => h) (Or.inl ⟨by rfl, ?_⟩) ?_ ?_
                        rotate_left
                        · intro w'
                          go_simp
                          with_reducible rfl
                        rotate_left
                        · simp only [Act.put, List.setIfInBounds_toArray, List.set_cons_zero, List.set_cons_succ, i64_w, i32_w]
                          rfl
                        refine take_ (i := 3) (N := some 39) (v := ?_) (a' := ?_) #[true, true, true, true, true, true, true, false, false, false] rfl rfl (take_ofW HT_.out HW_.out (by kernel_rfl)) (fun _ _ _ h => h) (Or.inl ⟨by rfl, ?_⟩) hHeld ?_ ?_
                        rotate_left
                        · rintro w' ⟨s0, s1, s2, s3, s4, s5⟩
                          go_simp
                          with_reducible rfl
                        rotate_left
                        · simp only [Act.put, List.setIfInBounds_toArray, List.set_cons_zero, List.set_cons_succ, i64_w, i32_w]
                          rfl
                        refine take_ (i := 7) (N := some 43) (v := ?_) (a' := ?_) #[true, true, true, true, true, true, true, true, false, false] rfl rfl (take_ofW HT_.out HW_.out (by kernel_rfl)) (fun _ _ _ h => h) (Or.inl ⟨by rfl, ?_⟩) hHeld ?_ ?_
                        rotate_left
                        · rintro w' ⟨s0, s1, s2, s3, s4, s5⟩
                          go_simp
                          with_reducible rfl
                        rotate_left
                        · simp only [Act.put, List.setIfInBounds_toArray, List.set_cons_zero, List.set_cons_succ, i64_w, i32_w]
                          rfl
                        refine one_ (i := 8) (N := some 44) #[true, true, true, true, true, true, true, true, true, false] rfl rfl (one_of HT_.out (by kernel_rfl)) (by decide) (fun K hK => ?_)
                        refine goes_ Try.func44 (by kernel_rfl) rfl #[.agg #[.int .i64 ((rd_T34 x0_1 (ji16)).f0), .int .i64 ((rd_T34 x0_1 (ji16)).f1), .int .i64 ((rd_T34 x0_1 (ji16)).f2)], .agg #[.int .i64 ((rd_T34 x0_1 x1_1).f0), .int .i64 ((rd_T34 x0_1 x1_1).f1), .int .i64 ((rd_T34 x0_1 x1_1).f2)]] (by rfl) rfl rfl (by (try simp only [List.map_toArray, List.map_cons, List.map_nil]); first | done | (simp only [hji16]; rfl) | rfl | (simp only [List.length_drop, List.length_take]; rfl)) ?_
                        with_reducible refine (impl_compareWork.calls kj3 ((rd_T34 x0_1 (ji16)).f0) ((rd_T34 x0_1 (ji16)).f1) ((rd_T34 x0_1 (ji16)).f2) ((rd_T34 x0_1 x1_1).f0) ((rd_T34 x0_1 x1_1).f1) ((rd_T34 x0_1 x1_1).f2) t211 _ A21.out).mono ?_
                        rintro e w24 ⟨rfl, hb⟩
                        have HS0_ := (hb.cell (World.block_lt_of_cell? _ _ (hHeld.1))).trans (hHeld.1)
                        have HS1_ := (hb.cell (World.block_lt_of_cell? _ _ (hHeld.2.1))).trans (hHeld.2.1)
                        have HS2_ := (hb.cell (World.block_lt_of_cell? _ _ (hHeld.2.2.1))).trans (hHeld.2.2.1)
                        have HS3_ := (hb.cell (World.block_lt_of_cell? _ _ (hHeld.2.2.2.1))).trans (hHeld.2.2.2.1)
                        have HS4_ := (hb.cell (World.block_lt_of_cell? _ _ (hHeld.2.2.2.2.1))).trans (hHeld.2.2.2.2.1)
                        have HS5_ := (hb.cell (World.block_lt_of_cell? _ _ (hHeld.2.2.2.2.2))).trans (hHeld.2.2.2.2.2)
                        refine ⟨_, rfl, ?_⟩
                        have n0_ := Aside0.mk (Kd.R_below (by (with_reducible repeat (first | apply Kd.R_alloc | apply Kd.R_drewN | apply Kd.R_drew)); exact HO_0.out) hb)
                        have n1_ := Aside0.mk (Kept.below (S := (fun k_ => P0_ k_)) (by repeat (first | (with_reducible first | exact HK.out | apply Kept.alloc | apply Kept.drewN | apply Kept.drew) | exact HK.out)) hb)
                        have n2_ := Aside0.mk (below_step (by repeat (first | (with_reducible first | exact HB.out | apply below_alloc | apply pw_below_drewN | apply below_drew1) | exact HB.out)) hb)
                        clear HO_0
                        clear HK
                        clear HB
                        have HO_0 := n0_
                        have HK := n1_
                        have HB := n2_
                        clear n0_ n1_ n2_
                        (try clear hb)
                        (try clear hb2)
                        (try clear hk)
                        (try clear hi)
                        refine hK.out _ _ ⟨HS0_, HS1_, HS2_, HS3_, HS4_, HS5_⟩ (fun hHeld => ?_)
                        clear hK K
                        refine norm_ (a' := ?_) ?_ ?_
                        rotate_left
                        · show Act.put _ (some 44) _ = _
                          simp only [Act.put, List.setIfInBounds_toArray, List.set_cons_zero, List.set_cons_succ, i64_w, i32_w]
                          rfl
                        refine pure_ (i := 9) (N := some 45) (v := ?_) (a' := ?_) #[true, true, true, true, true, true, true, true, true, true] rfl rfl (any_of HT_.out (by kernel_rfl)) (fun _ _ _ h => h) (Or.inl ⟨by rfl, ?_⟩) ?_ ?_
                        rotate_left
                        · intro w'
                          go_simp
                          with_reducible rfl
                        rotate_left
                        · simp only [Act.put, List.setIfInBounds_toArray, List.set_cons_zero, List.set_cons_succ, i64_w, i32_w]
                          rfl
                        refine done_ (done_of HT_.out (by kernel_rfl)) ?_
                        try go_wp2
                        go_ret
                        exact ⟨by first | rfl | (simp [errW_none, errW_some] <;> rfl) | (simp only [← hji16]; first | rfl | (simp [errW_none, errW_some] <;> rfl)) | (simp [*, errW_none, errW_some] <;> rfl), by (with_reducible repeat (first | apply Kd.R_alloc | apply Kd.R_drewN | apply Kd.R_drew)); exact HO_0.out, by repeat (first | (with_reducible first | exact HB.out | apply below_alloc | apply pw_below_drewN | apply below_drew1) | exact HB.out), by repeat (first | (with_reducible first | exact HK.out | apply Kept.alloc | apply Kept.drewN | apply Kept.drew) | exact HK.out)⟩
                      · rw [if_neg c22] at H
                        have c22b0 : decide (0 ≤ t211) = false := decide_eq_false c22
                        clear c22
                        obtain ⟨y214, hy214⟩ : ∃ y_ : List (S34), y_ = (x0_1.set (x1_1 : Int).toNat (⟨(rd_T34 x0_1 (ji16)).f0, (rd_T34 x0_1 (ji16)).f1, (rd_T34 x0_1 (ji16)).f2⟩ : S34)) := ⟨_, rfl⟩
                        replace H : (impl_down.l0 kj3 (y214.set ((ji16) : Int).toNat (⟨(rd_T34 x0_1 x1_1).f0, (rd_T34 x0_1 x1_1).f1, (rd_T34 x0_1 x1_1).f2⟩ : S34)) ji16 (wrap64 (x5_1 + 1))) = some (r1, r2) := by first | (rw [hy214]; with_reducible exact H) | (have H2_ := (Option.bind_some _ _).symm.trans H; rw [hy214]; with_reducible exact H2_) | (have H2_ := (Option.bind_some _ _).symm.trans H; with_reducible exact H2_) | with_reducible exact H | (rw [hy214]; exact H) | exact H
                        have Ny214 := Aside0.mk hy214
                        clear hy214
                        obtain ⟨y215, hy215⟩ : ∃ y_ : List (S34), y_ = (y214.set ((ji16) : Int).toNat (⟨(rd_T34 x0_1 x1_1).f0, (rd_T34 x0_1 x1_1).f1, (rd_T34 x0_1 x1_1).f2⟩ : S34)) := ⟨_, rfl⟩
                        replace H : (impl_down.l0 kj3 y215 ji16 (wrap64 (x5_1 + 1))) = some (r1, r2) := by first | (rw [hy215]; with_reducible exact H) | (have H2_ := (Option.bind_some _ _).symm.trans H; rw [hy215]; with_reducible exact H2_) | (have H2_ := (Option.bind_some _ _).symm.trans H; with_reducible exact H2_) | with_reducible exact H | (rw [hy215]; exact H) | exact H
                        have Ny215 := Aside0.mk hy215
                        clear hy215
                        have H' := Aside0.mk H
                        clear H
                        try go_wp2
                        have n0_ := Aside0.mk (Kd.R_drew HO_0.out)
                        have n1_ := Aside0.mk (Kept.drew HK.out)
                        have n2_ := Aside0.mk (below_drew1 HB.out)
                        clear HO_0
                        clear HK
                        clear HB
                        have HO_0 := n0_
                        have HK := n1_
                        have HB := n2_
                        clear n0_ n1_ n2_
                        have p209 : 0 ≤ ((ji16) : Int) := of_decide_eq_true (by first | (with_reducible assumption) | assumption)
                        have q209 : (ji16) < (x0_1.length : Int) := of_decide_eq_true (by first | (with_reducible assumption) | assumption)
                        obtain ⟨ad209, e209, hx209_0, hx209_1, hx209_2⟩ := at_T34 (Kd.R_reads' HO_0.out).2.2 (ji16) p209 q209
                        cases e209
                        replace p209 := eq_true p209
                        replace q209 := eq_true q209
                        have p210 : 0 ≤ (x1_1 : Int) := of_decide_eq_true (by first | (with_reducible assumption) | assumption)
                        have q210 : x1_1 < (x0_1.length : Int) := of_decide_eq_true (by first | (with_reducible assumption) | assumption)
                        obtain ⟨ad210, e210, hx210_0, hx210_1, hx210_2⟩ := at_T34 (Kd.R_reads' HO_0.out).2.2 x1_1 p210 q210
                        obtain rfl : ad209 = ad210 := (by injection e210)
                        replace p210 := eq_true p210
                        replace q210 := eq_true q210
                        refine start_ (n := 10) (S := fun w' => w'.cell? (ad209.add (((ji16)).toNat * 3)) = some (.int .i64 ((rd_T34 x0_1 (ji16)).f0)) ∧ w'.cell? ⟨(ad209.add (((ji16)).toNat * 3)).block, (ad209.add (((ji16)).toNat * 3)).off + 1, none⟩ = some (.int .i64 ((rd_T34 x0_1 (ji16)).f1)) ∧ w'.cell? ⟨(ad209.add (((ji16)).toNat * 3)).block, (ad209.add (((ji16)).toNat * 3)).off + 2, none⟩ = some (.int .i64 ((rd_T34 x0_1 (ji16)).f2)) ∧ w'.cell? (ad209.add ((x1_1).toNat * 3)) = some (.int .i64 ((rd_T34 x0_1 x1_1).f0)) ∧ w'.cell? ⟨(ad209.add ((x1_1).toNat * 3)).block, (ad209.add ((x1_1).toNat * 3)).off + 1, none⟩ = some (.int .i64 ((rd_T34 x0_1 x1_1).f1)) ∧ w'.cell? ⟨(ad209.add ((x1_1).toNat * 3)).block, (ad209.add ((x1_1).toNat * 3)).off + 2, none⟩ = some (.int .i64 ((rd_T34 x0_1 x1_1).f2))) (ds := []) #[false, false, false, false, false, false, false, false, false, false] (by kernel_rfl) rfl rfl ⟨hx209_0, hx209_1, hx209_2, hx210_0, hx210_1, hx210_2⟩ (fun hHeld => ?_); refine with_tabW impl_down.tab6 impl_down.bits6 (fun HT_ HW_ => ?_)
                        generalize wc.drew = w27 at HO_0 HK HB hx209_0 hx209_1 hx209_2 hx210_0 hx210_1 hx210_2 hHeld ⊢
                        refine pure_ (i := 0) (N := some 36) (v := ?_) (a' := ?_) #[true, false, false, false, false, false, false, false, false, false] rfl rfl (any_of HT_.out (by kernel_rfl)) (fun _ _ _ h => h) (Or.inl ⟨by rfl, ?_⟩) ?_ ?_
                        rotate_left
                        · intro w'
                          go_simp
                          with_reducible rfl
                        rotate_left
                        · simp only [Act.put, List.setIfInBounds_toArray, List.set_cons_zero, List.set_cons_succ, i64_w, i32_w]
                          rfl
                        refine pure_ (i := 1) (N := some 37) (v := ?_) (a' := ?_) #[true, true, false, false, false, false, false, false, false, false] rfl rfl (any_of HT_.out (by kernel_rfl)) (fun _ _ _ h => h) (Or.inl ⟨by rfl, ?_⟩) ?_ ?_
                        rotate_left
                        · intro w'
                          go_simp
                          with_reducible rfl
                        rotate_left
                        · simp only [Act.put, List.setIfInBounds_toArray, List.set_cons_zero, List.set_cons_succ, i64_w, i32_w]
                          rfl
                        refine pure_ (i := 2) (N := some 38) (v := ?_) (a' := ?_) #[true, true, true, false, false, false, false, false, false, false] rfl rfl (any_of HT_.out (by kernel_rfl)) (fun _ _ _ h => h) (Or.inl ⟨by rfl, ?_⟩) ?_ ?_
                        rotate_left
                        · intro w'
                          go_simp
                          with_reducible rfl
                        rotate_left
                        · simp only [Act.put, List.setIfInBounds_toArray, List.set_cons_zero, List.set_cons_succ, i64_w, i32_w]
                          rfl
                        refine pure_ (i := 4) (N := some 40) (v := ?_) (a' := ?_) #[true, true, true, false, true, false, false, false, false, false] rfl rfl (any_of HT_.out (by kernel_rfl)) (fun _ _ _ h => h) (Or.inl ⟨by rfl, ?_⟩) ?_ ?_
                        rotate_left
                        · intro w'
                          go_simp
                          with_reducible rfl
                        rotate_left
                        · simp only [Act.put, List.setIfInBounds_toArray, List.set_cons_zero, List.set_cons_succ, i64_w, i32_w]
                          rfl
                        refine pure_ (i := 5) (N := some 41) (v := ?_) (a' := ?_) #[true, true, true, false, true, true, false, false, false, false] rfl rfl (any_of HT_.out (by kernel_rfl)) (fun _ _ _ h => h) (Or.inl ⟨by rfl, ?_⟩) ?_ ?_
                        rotate_left
                        · intro w'
                          go_simp
                          with_reducible rfl
                        rotate_left
                        · simp only [Act.put, List.setIfInBounds_toArray, List.set_cons_zero, List.set_cons_succ, i64_w, i32_w]
                          rfl
                        refine pure_ (i := 6) (N := some 42) (v := ?_) (a' := ?_) #[true, true, true, false, true, true, true, false, false, false] rfl rfl (any_of HT_.out (by kernel_rfl)) (fun _ _ _ h => h) (Or.inl ⟨by rfl, ?_⟩) ?_ ?_
                        rotate_left
                        · intro w'
                          go_simp
                          with_reducible rfl
                        rotate_left
                        · simp only [Act.put, List.setIfInBounds_toArray, List.set_cons_zero, List.set_cons_succ, i64_w, i32_w]
                          rfl
                        refine take_ (i := 3) (N := some 39) (v := ?_) (a' := ?_) #[true, true, true, true, true, true, true, false, false, false] rfl rfl (take_ofW HT_.out HW_.out (by kernel_rfl)) (fun _ _ _ h => h) (Or.inl ⟨by rfl, ?_⟩) hHeld ?_ ?_
                        rotate_left
                        · rintro w' ⟨s0, s1, s2, s3, s4, s5⟩
                          go_simp
                          with_reducible rfl
                        rotate_left
                        · simp only [Act.put, List.setIfInBounds_toArray, List.set_cons_zero, List.set_cons_succ, i64_w, i32_w]
                          rfl
                        refine take_ (i := 7) (N := some 43) (v := ?_) (a' := ?_) #[true, true, true, true, true, true, true, true, false, false] rfl rfl (take_ofW HT_.out HW_.out (by kernel_rfl)) (fun _ _ _ h => h) (Or.inl ⟨by rfl, ?_⟩) hHeld ?_ ?_
                        rotate_left
                        · rintro w' ⟨s0, s1, s2, s3, s4, s5⟩
                          go_simp
                          with_reducible rfl
                        rotate_left
                        · simp only [Act.put, List.setIfInBounds_toArray, List.set_cons_zero, List.set_cons_succ, i64_w, i32_w]
                          rfl
                        refine one_ (i := 8) (N := some 44) #[true, true, true, true, true, true, true, true, true, false] rfl rfl (one_of HT_.out (by kernel_rfl)) (by decide) (fun K hK => ?_)
                        refine goes_ Try.func44 (by kernel_rfl) rfl #[.agg #[.int .i64 ((rd_T34 x0_1 (ji16)).f0), .int .i64 ((rd_T34 x0_1 (ji16)).f1), .int .i64 ((rd_T34 x0_1 (ji16)).f2)], .agg #[.int .i64 ((rd_T34 x0_1 x1_1).f0), .int .i64 ((rd_T34 x0_1 x1_1).f1), .int .i64 ((rd_T34 x0_1 x1_1).f2)]] (by rfl) rfl rfl (by (try simp only [List.map_toArray, List.map_cons, List.map_nil]); first | done | (simp only [hji16]; rfl) | rfl | (simp only [List.length_drop, List.length_take]; rfl)) ?_
                        with_reducible refine (impl_compareWork.calls kj3 ((rd_T34 x0_1 (ji16)).f0) ((rd_T34 x0_1 (ji16)).f1) ((rd_T34 x0_1 (ji16)).f2) ((rd_T34 x0_1 x1_1).f0) ((rd_T34 x0_1 x1_1).f1) ((rd_T34 x0_1 x1_1).f2) t211 _ A21.out).mono ?_
                        rintro e w28 ⟨rfl, hb⟩
                        have HS0_ := (hb.cell (World.block_lt_of_cell? _ _ (hHeld.1))).trans (hHeld.1)
                        have HS1_ := (hb.cell (World.block_lt_of_cell? _ _ (hHeld.2.1))).trans (hHeld.2.1)
                        have HS2_ := (hb.cell (World.block_lt_of_cell? _ _ (hHeld.2.2.1))).trans (hHeld.2.2.1)
                        have HS3_ := (hb.cell (World.block_lt_of_cell? _ _ (hHeld.2.2.2.1))).trans (hHeld.2.2.2.1)
                        have HS4_ := (hb.cell (World.block_lt_of_cell? _ _ (hHeld.2.2.2.2.1))).trans (hHeld.2.2.2.2.1)
                        have HS5_ := (hb.cell (World.block_lt_of_cell? _ _ (hHeld.2.2.2.2.2))).trans (hHeld.2.2.2.2.2)
                        refine ⟨_, rfl, ?_⟩
                        have n0_ := Aside0.mk (Kd.R_below (by (with_reducible repeat (first | apply Kd.R_alloc | apply Kd.R_drewN | apply Kd.R_drew)); exact HO_0.out) hb)
                        have n1_ := Aside0.mk (Kept.below (S := (fun k_ => P0_ k_)) (by repeat (first | (with_reducible first | exact HK.out | apply Kept.alloc | apply Kept.drewN | apply Kept.drew) | exact HK.out)) hb)
                        have n2_ := Aside0.mk (below_step (by repeat (first | (with_reducible first | exact HB.out | apply below_alloc | apply pw_below_drewN | apply below_drew1) | exact HB.out)) hb)
                        clear HO_0
                        clear HK
                        clear HB
                        have HO_0 := n0_
                        have HK := n1_
                        have HB := n2_
                        clear n0_ n1_ n2_
                        (try clear hb)
                        (try clear hb2)
                        (try clear hk)
                        (try clear hi)
                        refine hK.out _ _ ⟨HS0_, HS1_, HS2_, HS3_, HS4_, HS5_⟩ (fun hHeld => ?_)
                        clear hK K
                        refine norm_ (a' := ?_) ?_ ?_
                        rotate_left
                        · show Act.put _ (some 44) _ = _
                          simp only [Act.put, List.setIfInBounds_toArray, List.set_cons_zero, List.set_cons_succ, i64_w, i32_w]
                          rfl
                        refine pure_ (i := 9) (N := some 45) (v := ?_) (a' := ?_) #[true, true, true, true, true, true, true, true, true, true] rfl rfl (any_of HT_.out (by kernel_rfl)) (fun _ _ _ h => h) (Or.inl ⟨by rfl, ?_⟩) ?_ ?_
                        rotate_left
                        · intro w'
                          go_simp
                          with_reducible rfl
                        rotate_left
                        · simp only [Act.put, List.setIfInBounds_toArray, List.set_cons_zero, List.set_cons_succ, i64_w, i32_w]
                          rfl
                        refine done_ (done_of HT_.out (by kernel_rfl)) ?_
                        try go_wp2
                        have n0_ := Aside0.mk (Kd.R_drew HO_0.out)
                        have n1_ := Aside0.mk (Kept.drew HK.out)
                        have n2_ := Aside0.mk (below_drew1 HB.out)
                        clear HO_0
                        clear HK
                        clear HB
                        have HO_0 := n0_
                        have HK := n1_
                        have HB := n2_
                        clear n0_ n1_ n2_
                        have p212 : 0 ≤ ((ji16) : Int) := of_decide_eq_true (by first | (with_reducible assumption) | assumption)
                        have q212 : (ji16) < (x0_1.length : Int) := of_decide_eq_true (by first | (with_reducible assumption) | assumption)
                        obtain ⟨ad212, e212, hx212_0, hx212_1, hx212_2⟩ := at_T34 (Kd.R_reads' HO_0.out).2.2 (ji16) p212 q212
                        obtain rfl : ad209 = ad212 := (by injection e212)
                        replace p212 := eq_true p212
                        replace q212 := eq_true q212
                        have p213 : 0 ≤ (x1_1 : Int) := of_decide_eq_true (by first | (with_reducible assumption) | assumption)
                        have q213 : x1_1 < (x0_1.length : Int) := of_decide_eq_true (by first | (with_reducible assumption) | assumption)
                        obtain ⟨ad213, e213, hx213_0, hx213_1, hx213_2⟩ := at_T34 (Kd.R_reads' HO_0.out).2.2 x1_1 p213 q213
                        obtain rfl : ad209 = ad213 := (by injection e213)
                        replace p213 := eq_true p213
                        replace q213 := eq_true q213
                        have p25 : 0 ≤ (x1_1 : Int) := of_decide_eq_true (by first | (with_reducible assumption) | assumption)
                        have q25 : (x1_1 : Int) < ((x0_1.length : Int) : Int) := of_decide_eq_true (by first | (with_reducible assumption) | assumption)
                        obtain ⟨go25, co25, eo25, gb25, gl25, cl25, HG25⟩ := Kd.R_form HO_0.out (by omega)
                        (first | cases eo25 | (injection eo25 with ea_ en_ ec_; (first | subst ea_ | (injection ea_ with ea_; subst ea_)); subst ec_; clear en_))
                        have GB25 := Aside0.mk gb25
                        have GG25 := Aside0.mk HG25
                        clear gb25 gl25 HG25
                        have HMgo25 := Aside0.mk (show (P0_ go25 ∨ w.heap.size ≤ go25) from (HO_0.out.1 _ rfl))
                        (first | simp only [add_plain] at hx209_0 | skip)
                        (first | simp only [add_plain] at hx209_1 | skip)
                        (first | simp only [add_plain] at hx209_2 | skip)
                        (first | simp only [add_plain] at hx210_0 | skip)
                        (first | simp only [add_plain] at hx210_1 | skip)
                        (first | simp only [add_plain] at hx210_2 | skip)
                        (first | simp only [add_plain] at hx212_0 | skip)
                        (first | simp only [add_plain] at hx212_1 | skip)
                        (first | simp only [add_plain] at hx212_2 | skip)
                        (first | simp only [add_plain] at hx213_0 | skip)
                        (first | simp only [add_plain] at hx213_1 | skip)
                        (first | simp only [add_plain] at hx213_2 | skip)
                        obtain ⟨ce25, hcl25, hM25, hcc25, hfr25⟩ := Kd.R_elem HO_0.out z34 (x1_1 : Int) p25 q25
                        obtain rfl := k34_openM hM25
                        have hx25_0 : World.cell? _ ⟨go25, (x1_1 : Int).toNat * 3, none⟩ = some (.int .i64 ((rd_T34 x0_1 x1_1).f0)) := hcc25 0 _ rfl
                        have hx25_1 : World.cell? _ ⟨go25, (x1_1 : Int).toNat * 3 + 1, none⟩ = some (.int .i64 ((rd_T34 x0_1 x1_1).f1)) := hcc25 1 _ rfl
                        have hx25_2 : World.cell? _ ⟨go25, (x1_1 : Int).toNat * 3 + 2, none⟩ = some (.int .i64 ((rd_T34 x0_1 x1_1).f2)) := hcc25 2 _ rfl
                        have hf25_0 : World.frozen? _ ⟨go25, (x1_1 : Int).toNat * 3, none⟩ = false := hfr25 0
                        have hf25_1 : World.frozen? _ ⟨go25, (x1_1 : Int).toNat * 3 + 1, none⟩ = false := hfr25 1
                        have hf25_2 : World.frozen? _ ⟨go25, (x1_1 : Int).toNat * 3 + 2, none⟩ = false := hfr25 2
                        clear hcl25 hcc25 hfr25 hM25
                        replace p25 := eq_true p25
                        replace q25 := eq_true q25
                        obtain ⟨ce30, hcl30, hM30, hcc30, hfr30⟩ := Kd.R_elem HO_0.out z34 (x1_1 : Int) (of_decide_eq_true (by first | (with_reducible assumption) | assumption)) (by have h_ : (x1_1 : Int) < ((x0_1.length : Int) : Int) := of_decide_eq_true (by first | (with_reducible assumption) | assumption); first | exact h_ | (have e_ := (Kd.R_reads' HO_0.out).1; omega) | simpa using h_)
                        obtain rfl := k34_openM hM30
                        have HP30 := (Kd.R_seg HO_0.out (x1_1 : Int) (of_decide_eq_true (by first | (with_reducible assumption) | assumption)) (by have h_ : (x1_1 : Int) < ((x0_1.length : Int) : Int) := of_decide_eq_true (by first | (with_reducible assumption) | assumption); first | exact h_ | (have e_ := (Kd.R_reads' HO_0.out).1; omega) | simpa using h_) (seg := [.int .i64 ((rd_T34 x0_1 (ji16)).f0), .int .i64 ((rd_T34 x0_1 (ji16)).f1), .int .i64 ((rd_T34 x0_1 (ji16)).f2)]) (j := 0) hcl30 hcc30 (show 3 ≤ 3 from by decide) (x' := (⟨(rd_T34 x0_1 (ji16)).f0, (rd_T34 x0_1 (ji16)).f1, (rd_T34 x0_1 (ji16)).f2⟩ : S34)) (k34_mkM _ _ _ (⟨(rd_T34 x0_1 (ji16)).f0, (rd_T34 x0_1 (ji16)).f1, (rd_T34 x0_1 (ji16)).f2⟩ : S34) ) (fun _ hk => hk)).1
                        rw [← Ny214.out] at HP30
                        have HQ30 := Aside0.mk HP30
                        clear hcl30 hcc30 hfr30 hM30 HP30
                        have p26 : 0 ≤ ((ji16) : Int) := of_decide_eq_true (by first | (with_reducible assumption) | assumption)
                        have q26 : ((ji16) : Int) < ((x0_1.length : Int) : Int) := of_decide_eq_true (by first | (with_reducible assumption) | assumption)
                        obtain ⟨ce26, hcl26, hM26, hcc26, hfr26⟩ := Kd.R_elem HQ30.out z34 ((ji16) : Int) p26 q26
                        obtain rfl := k34_openM hM26
                        have hx26_0 : World.cell? _ ⟨go25, ((ji16) : Int).toNat * 3, none⟩ = some (.int .i64 ((rd_T34 y214 (ji16)).f0)) := hcc26 0 _ rfl
                        have hx26_1 : World.cell? _ ⟨go25, ((ji16) : Int).toNat * 3 + 1, none⟩ = some (.int .i64 ((rd_T34 y214 (ji16)).f1)) := hcc26 1 _ rfl
                        have hx26_2 : World.cell? _ ⟨go25, ((ji16) : Int).toNat * 3 + 2, none⟩ = some (.int .i64 ((rd_T34 y214 (ji16)).f2)) := hcc26 2 _ rfl
                        have hf26_0 : World.frozen? _ ⟨go25, ((ji16) : Int).toNat * 3, none⟩ = false := hfr26 0
                        have hf26_1 : World.frozen? _ ⟨go25, ((ji16) : Int).toNat * 3 + 1, none⟩ = false := hfr26 1
                        have hf26_2 : World.frozen? _ ⟨go25, ((ji16) : Int).toNat * 3 + 2, none⟩ = false := hfr26 2
                        clear hcl26 hcc26 hfr26 hM26
                        replace p26 := eq_true p26
                        replace q26 := eq_true q26
                        obtain ⟨ce31, hcl31, hM31, hcc31, hfr31⟩ := Kd.R_elem HQ30.out z34 ((ji16) : Int) (of_decide_eq_true (by first | (with_reducible assumption) | assumption)) (by have h_ : ((ji16) : Int) < ((x0_1.length : Int) : Int) := of_decide_eq_true (by first | (with_reducible assumption) | assumption); first | exact h_ | (have e_ := (Kd.R_reads' HO_0.out).1; omega) | simpa using h_)
                        obtain rfl := k34_openM hM31
                        have HP31 := (Kd.R_seg HQ30.out ((ji16) : Int) (of_decide_eq_true (by first | (with_reducible assumption) | assumption)) (by have h_ : ((ji16) : Int) < ((x0_1.length : Int) : Int) := of_decide_eq_true (by first | (with_reducible assumption) | assumption); first | exact h_ | (have e_ := (Kd.R_reads' HO_0.out).1; omega) | simpa using h_) (seg := [.int .i64 ((rd_T34 x0_1 x1_1).f0), .int .i64 ((rd_T34 x0_1 x1_1).f1), .int .i64 ((rd_T34 x0_1 x1_1).f2)]) (j := 0) hcl31 hcc31 (show 3 ≤ 3 from by decide) (x' := (⟨(rd_T34 x0_1 x1_1).f0, (rd_T34 x0_1 x1_1).f1, (rd_T34 x0_1 x1_1).f2⟩ : S34)) (k34_mkM _ _ _ (⟨(rd_T34 x0_1 x1_1).f0, (rd_T34 x0_1 x1_1).f1, (rd_T34 x0_1 x1_1).f2⟩ : S34) ) (fun _ hk => hk)).1
                        rw [← Ny215.out] at HP31
                        have HQ31 := Aside0.mk HP31
                        clear hcl31 hcc31 hfr31 hM31 HP31
                        refine start_ (n := 16) (S := fun w' => w'.cell? ⟨go25, (((ji16)).toNat * 3), none⟩ = some (.int .i64 ((rd_T34 x0_1 (ji16)).f0)) ∧ w'.cell? ⟨go25, (((ji16)).toNat * 3) + 1, none⟩ = some (.int .i64 ((rd_T34 x0_1 (ji16)).f1)) ∧ w'.cell? ⟨go25, (((ji16)).toNat * 3) + 2, none⟩ = some (.int .i64 ((rd_T34 x0_1 (ji16)).f2)) ∧ w'.cell? ⟨go25, ((x1_1).toNat * 3), none⟩ = some (.int .i64 ((rd_T34 x0_1 x1_1).f0)) ∧ w'.cell? ⟨go25, ((x1_1).toNat * 3) + 1, none⟩ = some (.int .i64 ((rd_T34 x0_1 x1_1).f1)) ∧ w'.cell? ⟨go25, ((x1_1).toNat * 3) + 2, none⟩ = some (.int .i64 ((rd_T34 x0_1 x1_1).f2))) (ds := [13, 15]) #[false, false, false, false, false, false, false, false, false, false, false, false, false, false, false, false] (by kernel_rfl) rfl rfl ⟨hx212_0, hx212_1, hx212_2, hx213_0, hx213_1, hx213_2⟩ (fun hHeld => ?_); refine with_tabW impl_down.tab7 impl_down.bits7 (fun HT_ HW_ => ?_)
                        generalize w28.drew = w29 at HO_0 HK HB GG25 HQ30 HQ31 hf25_0 hf25_1 hf25_2 hf26_0 hf26_1 hf26_2 hx209_0 hx209_1 hx209_2 hx210_0 hx210_1 hx210_2 hx212_0 hx212_1 hx212_2 hx213_0 hx213_1 hx213_2 hx25_0 hx25_1 hx25_2 hx26_0 hx26_1 hx26_2 hHeld ⊢
                        refine pure_ (i := 0) (N := some 46) (v := ?_) (a' := ?_) #[true, false, false, false, false, false, false, false, false, false, false, false, false, false, false, false] rfl rfl (any_of HT_.out (by kernel_rfl)) (fun _ _ _ h => h) (Or.inl ⟨by rfl, ?_⟩) ?_ ?_
                        rotate_left
                        · intro w'
                          go_simp
                          with_reducible rfl
                        rotate_left
                        · simp only [Act.put, List.setIfInBounds_toArray, List.set_cons_zero, List.set_cons_succ, i64_w, i32_w]
                          rfl
                        refine pure_ (i := 1) (N := some 47) (v := ?_) (a' := ?_) #[true, true, false, false, false, false, false, false, false, false, false, false, false, false, false, false] rfl rfl (any_of HT_.out (by kernel_rfl)) (fun _ _ _ h => h) (Or.inl ⟨by rfl, ?_⟩) ?_ ?_
                        rotate_left
                        · intro w'
                          go_simp
                          with_reducible rfl
                        rotate_left
                        · simp only [Act.put, List.setIfInBounds_toArray, List.set_cons_zero, List.set_cons_succ, i64_w, i32_w]
                          rfl
                        refine pure_ (i := 2) (N := some 48) (v := ?_) (a' := ?_) #[true, true, true, false, false, false, false, false, false, false, false, false, false, false, false, false] rfl rfl (any_of HT_.out (by kernel_rfl)) (fun _ _ _ h => h) (Or.inl ⟨by rfl, ?_⟩) ?_ ?_
                        rotate_left
                        · intro w'
                          go_simp
                          with_reducible rfl
                        rotate_left
                        · simp only [Act.put, List.setIfInBounds_toArray, List.set_cons_zero, List.set_cons_succ, i64_w, i32_w]
                          rfl
                        refine pure_ (i := 3) (N := some 49) (v := ?_) (a' := ?_) #[true, true, true, true, false, false, false, false, false, false, false, false, false, false, false, false] rfl rfl (any_of HT_.out (by kernel_rfl)) (fun _ _ _ h => h) (Or.inl ⟨by rfl, ?_⟩) ?_ ?_
                        rotate_left
                        · intro w'
                          go_simp
                          with_reducible rfl
                        rotate_left
                        · simp only [Act.put, List.setIfInBounds_toArray, List.set_cons_zero, List.set_cons_succ, i64_w, i32_w]
                          rfl
                        refine pure_ (i := 4) (N := some 50) (v := ?_) (a' := ?_) #[true, true, true, true, true, false, false, false, false, false, false, false, false, false, false, false] rfl rfl (any_of HT_.out (by kernel_rfl)) (fun _ _ _ h => h) (Or.inl ⟨by rfl, ?_⟩) ?_ ?_
                        rotate_left
                        · intro w'
                          go_simp
                          with_reducible rfl
                        rotate_left
                        · simp only [Act.put, List.setIfInBounds_toArray, List.set_cons_zero, List.set_cons_succ, i64_w, i32_w]
                          rfl
                        refine pure_ (i := 5) (N := some 51) (v := ?_) (a' := ?_) #[true, true, true, true, true, true, false, false, false, false, false, false, false, false, false, false] rfl rfl (any_of HT_.out (by kernel_rfl)) (fun _ _ _ h => h) (Or.inl ⟨by rfl, ?_⟩) ?_ ?_
                        rotate_left
                        · intro w'
                          go_simp
                          with_reducible rfl
                        rotate_left
                        · simp only [Act.put, List.setIfInBounds_toArray, List.set_cons_zero, List.set_cons_succ, i64_w, i32_w]
                          rfl
                        refine pure_ (i := 6) (N := some 52) (v := ?_) (a' := ?_) #[true, true, true, true, true, true, true, false, false, false, false, false, false, false, false, false] rfl rfl (any_of HT_.out (by kernel_rfl)) (fun _ _ _ h => h) (Or.inl ⟨by rfl, ?_⟩) ?_ ?_
                        rotate_left
                        · intro w'
                          go_simp
                          with_reducible rfl
                        rotate_left
                        · simp only [Act.put, List.setIfInBounds_toArray, List.set_cons_zero, List.set_cons_succ, i64_w, i32_w]
                          rfl
                        refine pure_ (i := 8) (N := some 54) (v := ?_) (a' := ?_) #[true, true, true, true, true, true, true, false, true, false, false, false, false, false, false, false] rfl rfl (any_of HT_.out (by kernel_rfl)) (fun _ _ _ h => h) (Or.inl ⟨by rfl, ?_⟩) ?_ ?_
                        rotate_left
                        · intro w'
                          go_simp
                          with_reducible rfl
                        rotate_left
                        · simp only [Act.put, List.setIfInBounds_toArray, List.set_cons_zero, List.set_cons_succ, i64_w, i32_w]
                          rfl
                        refine pure_ (i := 9) (N := some 55) (v := ?_) (a' := ?_) #[true, true, true, true, true, true, true, false, true, true, false, false, false, false, false, false] rfl rfl (any_of HT_.out (by kernel_rfl)) (fun _ _ _ h => h) (Or.inl ⟨by rfl, ?_⟩) ?_ ?_
                        rotate_left
                        · intro w'
                          go_simp
                          with_reducible rfl
                        rotate_left
                        · simp only [Act.put, List.setIfInBounds_toArray, List.set_cons_zero, List.set_cons_succ, i64_w, i32_w]
                          rfl
                        refine pure_ (i := 10) (N := some 56) (v := ?_) (a' := ?_) #[true, true, true, true, true, true, true, false, true, true, true, false, false, false, false, false] rfl rfl (any_of HT_.out (by kernel_rfl)) (fun _ _ _ h => h) (Or.inl ⟨by rfl, ?_⟩) ?_ ?_
                        rotate_left
                        · intro w'
                          go_simp
                          with_reducible rfl
                        rotate_left
                        · simp only [Act.put, List.setIfInBounds_toArray, List.set_cons_zero, List.set_cons_succ, i64_w, i32_w]
                          rfl
                        refine take_ (i := 7) (N := some 53) (v := ?_) (a' := ?_) #[true, true, true, true, true, true, true, true, true, true, true, false, false, false, false, false] rfl rfl (take_ofW HT_.out HW_.out (by kernel_rfl)) (fun _ _ _ h => h) (Or.inl ⟨by rfl, ?_⟩) hHeld ?_ ?_
                        rotate_left
                        · rintro w' ⟨s0, s1, s2, s3, s4, s5⟩
                          go_simp
                          with_reducible rfl
                        rotate_left
                        · simp only [Act.put, List.setIfInBounds_toArray, List.set_cons_zero, List.set_cons_succ, i64_w, i32_w]
                          rfl
                        refine take_ (i := 11) (N := some 57) (v := ?_) (a' := ?_) #[true, true, true, true, true, true, true, true, true, true, true, true, false, false, false, false] rfl rfl (take_ofW HT_.out HW_.out (by kernel_rfl)) (fun _ _ _ h => h) (Or.inl ⟨by rfl, ?_⟩) hHeld ?_ ?_
                        rotate_left
                        · rintro w' ⟨s0, s1, s2, s3, s4, s5⟩
                          go_simp
                          with_reducible rfl
                        rotate_left
                        · simp only [Act.put, List.setIfInBounds_toArray, List.set_cons_zero, List.set_cons_succ, i64_w, i32_w]
                          rfl
                        refine pure_ (i := 12) (N := some 58) (v := ?_) (a' := ?_) #[true, true, true, true, true, true, true, true, true, true, true, true, true, false, false, false] rfl rfl (any_of HT_.out (by kernel_rfl)) (fun _ _ _ h => h) (Or.inl ⟨by rfl, ?_⟩) ?_ ?_
                        rotate_left
                        · intro w'
                          go_simp
                          with_reducible rfl
                        rotate_left
                        · simp only [Act.put, List.setIfInBounds_toArray, List.set_cons_zero, List.set_cons_succ, i64_w, i32_w]
                          rfl
                        refine last_ (i := 13) (N := none) #[true, true, true, true, true, true, true, true, true, true, true, true, true, true, false, false] rfl rfl (one_of HT_.out (by kernel_rfl)) (by decide) (fun K hK => ?_)
                        refine skip_ (w1 := ?_) (by rfl) rfl ?_ ?_
                        rotate_left
                        · first
                          | (go_simp; rfl)
                          | ((try simp [World.setCells, show k34.sz = 3 from rfl, go_sem] at hx25_0); (try simp [World.setCells, show k34.sz = 3 from rfl, go_sem] at hx25_1); (try simp [World.setCells, show k34.sz = 3 from rfl, go_sem] at hx25_2); (try simp [World.setCells, show k34.sz = 3 from rfl, go_sem] at hf25_0); (try simp [World.setCells, show k34.sz = 3 from rfl, go_sem] at hf25_1); (try simp [World.setCells, show k34.sz = 3 from rfl, go_sem] at hf25_2); (try simp [World.setCells, show k34.sz = 3 from rfl, go_sem] at hx26_0); (try simp [World.setCells, show k34.sz = 3 from rfl, go_sem] at hx26_1); (try simp [World.setCells, show k34.sz = 3 from rfl, go_sem] at hx26_2); (try simp [World.setCells, show k34.sz = 3 from rfl, go_sem] at hf26_0); (try simp [World.setCells, show k34.sz = 3 from rfl, go_sem] at hf26_1); (try simp [World.setCells, show k34.sz = 3 from rfl, go_sem] at hf26_2); go_simp; rfl)
                        refine hK.out _ _ ?_
                        clear hK K
                        refine pure_ (i := 14) (N := some 59) (v := ?_) (a' := ?_) #[true, true, true, true, true, true, true, true, true, true, true, true, true, true, true, false] rfl rfl (any_of HT_.out (by kernel_rfl)) (fun _ _ _ h => h) (Or.inl ⟨by rfl, ?_⟩) ?_ ?_
                        rotate_left
                        · intro w'
                          go_simp
                          with_reducible rfl
                        rotate_left
                        · simp only [Act.put, List.setIfInBounds_toArray, List.set_cons_zero, List.set_cons_succ, i64_w, i32_w]
                          rfl
                        refine last_ (i := 15) (N := none) #[true, true, true, true, true, true, true, true, true, true, true, true, true, true, true, true] rfl rfl (one_of HT_.out (by kernel_rfl)) (by decide) (fun K hK => ?_)
                        refine skip_ (w1 := ?_) (by rfl) rfl ?_ ?_
                        rotate_left
                        · first
                          | (go_simp; rfl)
                          | ((try simp [World.setCells, show k34.sz = 3 from rfl, go_sem] at hx25_0); (try simp [World.setCells, show k34.sz = 3 from rfl, go_sem] at hx25_1); (try simp [World.setCells, show k34.sz = 3 from rfl, go_sem] at hx25_2); (try simp [World.setCells, show k34.sz = 3 from rfl, go_sem] at hf25_0); (try simp [World.setCells, show k34.sz = 3 from rfl, go_sem] at hf25_1); (try simp [World.setCells, show k34.sz = 3 from rfl, go_sem] at hf25_2); (try simp [World.setCells, show k34.sz = 3 from rfl, go_sem] at hx26_0); (try simp [World.setCells, show k34.sz = 3 from rfl, go_sem] at hx26_1); (try simp [World.setCells, show k34.sz = 3 from rfl, go_sem] at hx26_2); (try simp [World.setCells, show k34.sz = 3 from rfl, go_sem] at hf26_0); (try simp [World.setCells, show k34.sz = 3 from rfl, go_sem] at hf26_1); (try simp [World.setCells, show k34.sz = 3 from rfl, go_sem] at hf26_2); go_simp; rfl)
                        refine hK.out _ _ ?_
                        clear hK K
                        refine done_ (done_of HT_.out (by kernel_rfl)) ?_
                        try go_wp2
                        go_roundg kj3
                        case measure => have := HK1.out; have := HJ3.out; omega
                        case rel => exact ⟨(y215), (ji16), (wrap64 (x5_1 + 1)), (by first | rfl | (simp; done) | (simp only [← hji16] <;> (first | rfl | simp)) | (simp [*]; done)), (by first | rfl | (simp; done) | (simp [*]; done)), H', ⟨by have := HK1.out; have := HJ3.out; omega⟩, ⟨by (with_reducible repeat (first | apply Kd.R_alloc | apply Kd.R_drewN | apply Kd.R_drew)); exact HQ31.out⟩, ⟨by repeat (first | (with_reducible first | exact HK.out | apply Kept.alloc | apply Kept.drewN | apply Kept.drew | refine Kept.setCell ?_ HMgo25.out _ | refine Kept.setCell ?_ HMgo25.out _ | refine Kept.setCell ?_ HMgo25.out _ | refine Kept.setCell ?_ HMgo25.out _ | refine Kept.setCell ?_ HMgo25.out _ | refine Kept.setCell ?_ HMgo25.out _) | exact HK.out)⟩, ⟨by repeat (first | (with_reducible first | exact HB.out | apply below_alloc | apply pw_below_drewN | apply below_drew1 | refine below_set ?_ GB25.out | refine below_set ?_ GB25.out | refine below_set ?_ GB25.out | refine below_set ?_ GB25.out | refine below_set ?_ GB25.out | refine below_set ?_ GB25.out) | exact HB.out)⟩⟩
                    · rw [if_neg c20] at H
                      exact absurd H (by simp)
                  · rw [if_neg c19] at H
                    exact absurd H (by simp)
                · rw [if_neg c18] at H
                  exact absurd H (by simp)
              · rw [if_neg c17] at H
                exact absurd H (by simp)
            · replace c15 := Bool.eq_false_iff.mpr c15
              subst c15
              have H1 : (if 0 ≤ (wrap64 ((wrap64 (2 * x1_1)) + 1)) then (if (wrap64 ((wrap64 (2 * x1_1)) + 1)) < (x0_1.length : Int) then (if 0 ≤ x1_1 then (if x1_1 < (x0_1.length : Int) then ((impl_compareWork.f kj3 ((rd_T34 x0_1 (wrap64 ((wrap64 (2 * x1_1)) + 1))).f0) ((rd_T34 x0_1 (wrap64 ((wrap64 (2 * x1_1)) + 1))).f1) ((rd_T34 x0_1 (wrap64 ((wrap64 (2 * x1_1)) + 1))).f2) ((rd_T34 x0_1 x1_1).f0) ((rd_T34 x0_1 x1_1).f1) ((rd_T34 x0_1 x1_1).f2)).bind fun t218 => (if t218 ≥ 0 then (some (x5_1, x0_1)) else (impl_down.l0 kj3 ((x0_1.set (x1_1 : Int).toNat (⟨(rd_T34 x0_1 (wrap64 ((wrap64 (2 * x1_1)) + 1))).f0, (rd_T34 x0_1 (wrap64 ((wrap64 (2 * x1_1)) + 1))).f1, (rd_T34 x0_1 (wrap64 ((wrap64 (2 * x1_1)) + 1))).f2⟩ : S34)).set ((wrap64 ((wrap64 (2 * x1_1)) + 1)) : Int).toNat (⟨(rd_T34 x0_1 x1_1).f0, (rd_T34 x0_1 x1_1).f1, (rd_T34 x0_1 x1_1).f2⟩ : S34)) (wrap64 ((wrap64 (2 * x1_1)) + 1)) (wrap64 (x5_1 + 1))))) else (none)) else (none)) else (none)) else (none)) = some (r1, r2) := by rw [if_neg (show ¬ (false = true) by decide)] at H; exact H
              clear H
              have H := H1
              clear H1
              obtain ⟨ji32, hji32⟩ : ∃ j_ : Int, (wrap64 ((wrap64 (2 * x1_1)) + 1)) = j_ := ⟨_, rfl⟩
              replace H : (if 0 ≤ (ji32) then (if (ji32) < (x0_1.length : Int) then (if 0 ≤ x1_1 then (if x1_1 < (x0_1.length : Int) then ((impl_compareWork.f kj3 ((rd_T34 x0_1 (ji32)).f0) ((rd_T34 x0_1 (ji32)).f1) ((rd_T34 x0_1 (ji32)).f2) ((rd_T34 x0_1 x1_1).f0) ((rd_T34 x0_1 x1_1).f1) ((rd_T34 x0_1 x1_1).f2)).bind fun t218 => (if t218 ≥ 0 then (some (x5_1, x0_1)) else (impl_down.l0 kj3 ((x0_1.set (x1_1 : Int).toNat (⟨(rd_T34 x0_1 (ji32)).f0, (rd_T34 x0_1 (ji32)).f1, (rd_T34 x0_1 (ji32)).f2⟩ : S34)).set ((ji32) : Int).toNat (⟨(rd_T34 x0_1 x1_1).f0, (rd_T34 x0_1 x1_1).f1, (rd_T34 x0_1 x1_1).f2⟩ : S34)) (ji32) (wrap64 (x5_1 + 1))))) else (none)) else (none)) else (none)) else (none)) = some (r1, r2) := by first | (rw [hji32] at H; exact H) | (simp only [hji32] at H ⊢; exact H)
              (try rw [hji32] at c3b0)
              have hji32w : (IntKind.i64.wrap ((wrap64 (2 * x1_1)) + 1)) = ji32 := (i64_w _).trans hji32
              (try (have hji7_32 := hji7; rw [hji32] at hji7_32))
              (try (have hji9_32 := hji9; rw [hji32] at hji9_32))
              (try (have hji16_32 := hji16; rw [hji32] at hji16_32))
              by_cases c33 : 0 ≤ (ji32)
              · rw [if_pos c33] at H
                have c33b0 : decide (0 ≤ (ji32)) = true := decide_eq_true c33
                clear c33
                by_cases c34 : (ji32) < (x0_1.length : Int)
                · rw [if_pos c34] at H
                  have c34b0 : decide ((ji32) < (x0_1.length : Int)) = true := decide_eq_true c34
                  clear c34
                  by_cases c35 : 0 ≤ x1_1
                  · rw [if_pos c35] at H
                    have c35b0 : decide (0 ≤ x1_1) = true := decide_eq_true c35
                    clear c35
                    by_cases c36 : x1_1 < (x0_1.length : Int)
                    · rw [if_pos c36] at H
                      have c36b0 : decide (x1_1 < (x0_1.length : Int)) = true := decide_eq_true c36
                      clear c36
                      replace H := Option.bind_eq_some_iff.mp H
                      obtain ⟨t218, A370, H⟩ := H
                      replace H : (if t218 ≥ 0 then (some (x5_1, x0_1)) else (impl_down.l0 kj3 ((x0_1.set (x1_1 : Int).toNat (⟨(rd_T34 x0_1 (ji32)).f0, (rd_T34 x0_1 (ji32)).f1, (rd_T34 x0_1 (ji32)).f2⟩ : S34)).set ((ji32) : Int).toNat (⟨(rd_T34 x0_1 x1_1).f0, (rd_T34 x0_1 x1_1).f1, (rd_T34 x0_1 x1_1).f2⟩ : S34)) (ji32) (wrap64 (x5_1 + 1)))) = some (r1, r2) := H
                      have A37 := Aside0.mk A370
                      clear A370
                      by_cases c38 : t218 ≥ 0
                      · rw [if_pos c38] at H
                        have c38b0 : decide (0 ≤ t218) = true := decide_eq_true c38
                        clear c38
                        simp only [Option.some.injEq, Prod.mk.injEq] at H
                        obtain ⟨rfl, rfl⟩ := H
                        try go_wp2
                        have n0_ := Aside0.mk (Kd.R_drew HO_0.out)
                        have n1_ := Aside0.mk (Kept.drew HK.out)
                        have n2_ := Aside0.mk (below_drew1 HB.out)
                        clear HO_0
                        clear HK
                        clear HB
                        have HO_0 := n0_
                        have HK := n1_
                        have HB := n2_
                        clear n0_ n1_ n2_
                        have p216 : 0 ≤ ((ji32) : Int) := of_decide_eq_true (by first | (with_reducible assumption) | assumption)
                        have q216 : (ji32) < (x0_1.length : Int) := of_decide_eq_true (by first | (with_reducible assumption) | assumption)
                        obtain ⟨ad216, e216, hx216_0, hx216_1, hx216_2⟩ := at_T34 (Kd.R_reads' HO_0.out).2.2 (ji32) p216 q216
                        cases e216
                        replace p216 := eq_true p216
                        replace q216 := eq_true q216
                        have p217 : 0 ≤ (x1_1 : Int) := of_decide_eq_true (by first | (with_reducible assumption) | assumption)
                        have q217 : x1_1 < (x0_1.length : Int) := of_decide_eq_true (by first | (with_reducible assumption) | assumption)
                        obtain ⟨ad217, e217, hx217_0, hx217_1, hx217_2⟩ := at_T34 (Kd.R_reads' HO_0.out).2.2 x1_1 p217 q217
                        obtain rfl : ad216 = ad217 := (by injection e217)
                        replace p217 := eq_true p217
                        replace q217 := eq_true q217
                        refine start_ (n := 10) (S := fun w' => w'.cell? (ad216.add (((ji32)).toNat * 3)) = some (.int .i64 ((rd_T34 x0_1 (ji32)).f0)) ∧ w'.cell? ⟨(ad216.add (((ji32)).toNat * 3)).block, (ad216.add (((ji32)).toNat * 3)).off + 1, none⟩ = some (.int .i64 ((rd_T34 x0_1 (ji32)).f1)) ∧ w'.cell? ⟨(ad216.add (((ji32)).toNat * 3)).block, (ad216.add (((ji32)).toNat * 3)).off + 2, none⟩ = some (.int .i64 ((rd_T34 x0_1 (ji32)).f2)) ∧ w'.cell? (ad216.add ((x1_1).toNat * 3)) = some (.int .i64 ((rd_T34 x0_1 x1_1).f0)) ∧ w'.cell? ⟨(ad216.add ((x1_1).toNat * 3)).block, (ad216.add ((x1_1).toNat * 3)).off + 1, none⟩ = some (.int .i64 ((rd_T34 x0_1 x1_1).f1)) ∧ w'.cell? ⟨(ad216.add ((x1_1).toNat * 3)).block, (ad216.add ((x1_1).toNat * 3)).off + 2, none⟩ = some (.int .i64 ((rd_T34 x0_1 x1_1).f2))) (ds := []) #[false, false, false, false, false, false, false, false, false, false] (by kernel_rfl) rfl rfl ⟨hx216_0, hx216_1, hx216_2, hx217_0, hx217_1, hx217_2⟩ (fun hHeld => ?_); refine with_tabW impl_down.tab6 impl_down.bits6 (fun HT_ HW_ => ?_)
                        generalize wc.drew = w39 at HO_0 HK HB hx216_0 hx216_1 hx216_2 hx217_0 hx217_1 hx217_2 hHeld ⊢
                        refine pure_ (i := 0) (N := some 36) (v := ?_) (a' := ?_) #[true, false, false, false, false, false, false, false, false, false] rfl rfl (any_of HT_.out (by kernel_rfl)) (fun _ _ _ h => h) (Or.inl ⟨by rfl, ?_⟩) ?_ ?_
                        rotate_left
                        · intro w'
                          go_simp
                          with_reducible rfl
                        rotate_left
                        · simp only [Act.put, List.setIfInBounds_toArray, List.set_cons_zero, List.set_cons_succ, i64_w, i32_w]
                          rfl
                        refine pure_ (i := 1) (N := some 37) (v := ?_) (a' := ?_) #[true, true, false, false, false, false, false, false, false, false] rfl rfl (any_of HT_.out (by kernel_rfl)) (fun _ _ _ h => h) (Or.inl ⟨by rfl, ?_⟩) ?_ ?_
                        rotate_left
                        · intro w'
                          go_simp
                          with_reducible rfl
                        rotate_left
                        · simp only [Act.put, List.setIfInBounds_toArray, List.set_cons_zero, List.set_cons_succ, i64_w, i32_w]
                          rfl
                        refine pure_ (i := 2) (N := some 38) (v := ?_) (a' := ?_) #[true, true, true, false, false, false, false, false, false, false] rfl rfl (any_of HT_.out (by kernel_rfl)) (fun _ _ _ h => h) (Or.inl ⟨by rfl, ?_⟩) ?_ ?_
                        rotate_left
                        · intro w'
                          go_simp
                          with_reducible rfl
                        rotate_left
                        · simp only [Act.put, List.setIfInBounds_toArray, List.set_cons_zero, List.set_cons_succ, i64_w, i32_w]
                          rfl
                        refine pure_ (i := 4) (N := some 40) (v := ?_) (a' := ?_) #[true, true, true, false, true, false, false, false, false, false] rfl rfl (any_of HT_.out (by kernel_rfl)) (fun _ _ _ h => h) (Or.inl ⟨by rfl, ?_⟩) ?_ ?_
                        rotate_left
                        · intro w'
                          go_simp
                          with_reducible rfl
                        rotate_left
                        · simp only [Act.put, List.setIfInBounds_toArray, List.set_cons_zero, List.set_cons_succ, i64_w, i32_w]
                          rfl
                        refine pure_ (i := 5) (N := some 41) (v := ?_) (a' := ?_) #[true, true, true, false, true, true, false, false, false, false] rfl rfl (any_of HT_.out (by kernel_rfl)) (fun _ _ _ h => h) (Or.inl ⟨by rfl, ?_⟩) ?_ ?_
                        rotate_left
                        · intro w'
                          go_simp
                          with_reducible rfl
                        rotate_left
                        · simp only [Act.put, List.setIfInBounds_toArray, List.set_cons_zero, List.set_cons_succ, i64_w, i32_w]
                          rfl
                        refine pure_ (i := 6) (N := some 42) (v := ?_) (a' := ?_) #[true, true, true, false, true, true, true, false, false, false] rfl rfl (any_of HT_.out (by kernel_rfl)) (fun _ _ _ h => h) (Or.inl ⟨by rfl, ?_⟩) ?_ ?_
                        rotate_left
                        · intro w'
                          go_simp
                          with_reducible rfl
                        rotate_left
                        · simp only [Act.put, List.setIfInBounds_toArray, List.set_cons_zero, List.set_cons_succ, i64_w, i32_w]
                          rfl
                        refine take_ (i := 3) (N := some 39) (v := ?_) (a' := ?_) #[true, true, true, true, true, true, true, false, false, false] rfl rfl (take_ofW HT_.out HW_.out (by kernel_rfl)) (fun _ _ _ h => h) (Or.inl ⟨by rfl, ?_⟩) hHeld ?_ ?_
                        rotate_left
                        · rintro w' ⟨s0, s1, s2, s3, s4, s5⟩
                          go_simp
                          with_reducible rfl
                        rotate_left
                        · simp only [Act.put, List.setIfInBounds_toArray, List.set_cons_zero, List.set_cons_succ, i64_w, i32_w]
                          rfl
                        refine take_ (i := 7) (N := some 43) (v := ?_) (a' := ?_) #[true, true, true, true, true, true, true, true, false, false] rfl rfl (take_ofW HT_.out HW_.out (by kernel_rfl)) (fun _ _ _ h => h) (Or.inl ⟨by rfl, ?_⟩) hHeld ?_ ?_
                        rotate_left
                        · rintro w' ⟨s0, s1, s2, s3, s4, s5⟩
                          go_simp
                          with_reducible rfl
                        rotate_left
                        · simp only [Act.put, List.setIfInBounds_toArray, List.set_cons_zero, List.set_cons_succ, i64_w, i32_w]
                          rfl
                        refine one_ (i := 8) (N := some 44) #[true, true, true, true, true, true, true, true, true, false] rfl rfl (one_of HT_.out (by kernel_rfl)) (by decide) (fun K hK => ?_)
                        refine goes_ Try.func44 (by kernel_rfl) rfl #[.agg #[.int .i64 ((rd_T34 x0_1 (ji32)).f0), .int .i64 ((rd_T34 x0_1 (ji32)).f1), .int .i64 ((rd_T34 x0_1 (ji32)).f2)], .agg #[.int .i64 ((rd_T34 x0_1 x1_1).f0), .int .i64 ((rd_T34 x0_1 x1_1).f1), .int .i64 ((rd_T34 x0_1 x1_1).f2)]] (by rfl) rfl rfl (by (try simp only [List.map_toArray, List.map_cons, List.map_nil]); first | done | (simp only [hji32]; rfl) | rfl | (simp only [List.length_drop, List.length_take]; rfl)) ?_
                        with_reducible refine (impl_compareWork.calls kj3 ((rd_T34 x0_1 (ji32)).f0) ((rd_T34 x0_1 (ji32)).f1) ((rd_T34 x0_1 (ji32)).f2) ((rd_T34 x0_1 x1_1).f0) ((rd_T34 x0_1 x1_1).f1) ((rd_T34 x0_1 x1_1).f2) t218 _ A37.out).mono ?_
                        rintro e w40 ⟨rfl, hb⟩
                        have HS0_ := (hb.cell (World.block_lt_of_cell? _ _ (hHeld.1))).trans (hHeld.1)
                        have HS1_ := (hb.cell (World.block_lt_of_cell? _ _ (hHeld.2.1))).trans (hHeld.2.1)
                        have HS2_ := (hb.cell (World.block_lt_of_cell? _ _ (hHeld.2.2.1))).trans (hHeld.2.2.1)
                        have HS3_ := (hb.cell (World.block_lt_of_cell? _ _ (hHeld.2.2.2.1))).trans (hHeld.2.2.2.1)
                        have HS4_ := (hb.cell (World.block_lt_of_cell? _ _ (hHeld.2.2.2.2.1))).trans (hHeld.2.2.2.2.1)
                        have HS5_ := (hb.cell (World.block_lt_of_cell? _ _ (hHeld.2.2.2.2.2))).trans (hHeld.2.2.2.2.2)
                        refine ⟨_, rfl, ?_⟩
                        have n0_ := Aside0.mk (Kd.R_below (by (with_reducible repeat (first | apply Kd.R_alloc | apply Kd.R_drewN | apply Kd.R_drew)); exact HO_0.out) hb)
                        have n1_ := Aside0.mk (Kept.below (S := (fun k_ => P0_ k_)) (by repeat (first | (with_reducible first | exact HK.out | apply Kept.alloc | apply Kept.drewN | apply Kept.drew) | exact HK.out)) hb)
                        have n2_ := Aside0.mk (below_step (by repeat (first | (with_reducible first | exact HB.out | apply below_alloc | apply pw_below_drewN | apply below_drew1) | exact HB.out)) hb)
                        clear HO_0
                        clear HK
                        clear HB
                        have HO_0 := n0_
                        have HK := n1_
                        have HB := n2_
                        clear n0_ n1_ n2_
                        (try clear hb)
                        (try clear hb2)
                        (try clear hk)
                        (try clear hi)
                        refine hK.out _ _ ⟨HS0_, HS1_, HS2_, HS3_, HS4_, HS5_⟩ (fun hHeld => ?_)
                        clear hK K
                        refine norm_ (a' := ?_) ?_ ?_
                        rotate_left
                        · show Act.put _ (some 44) _ = _
                          simp only [Act.put, List.setIfInBounds_toArray, List.set_cons_zero, List.set_cons_succ, i64_w, i32_w]
                          rfl
                        refine pure_ (i := 9) (N := some 45) (v := ?_) (a' := ?_) #[true, true, true, true, true, true, true, true, true, true] rfl rfl (any_of HT_.out (by kernel_rfl)) (fun _ _ _ h => h) (Or.inl ⟨by rfl, ?_⟩) ?_ ?_
                        rotate_left
                        · intro w'
                          go_simp
                          with_reducible rfl
                        rotate_left
                        · simp only [Act.put, List.setIfInBounds_toArray, List.set_cons_zero, List.set_cons_succ, i64_w, i32_w]
                          rfl
                        refine done_ (done_of HT_.out (by kernel_rfl)) ?_
                        try go_wp2
                        go_ret
                        exact ⟨by first | rfl | (simp [errW_none, errW_some] <;> rfl) | (simp only [← hji32]; first | rfl | (simp [errW_none, errW_some] <;> rfl)) | (simp [*, errW_none, errW_some] <;> rfl), by (with_reducible repeat (first | apply Kd.R_alloc | apply Kd.R_drewN | apply Kd.R_drew)); exact HO_0.out, by repeat (first | (with_reducible first | exact HB.out | apply below_alloc | apply pw_below_drewN | apply below_drew1) | exact HB.out), by repeat (first | (with_reducible first | exact HK.out | apply Kept.alloc | apply Kept.drewN | apply Kept.drew) | exact HK.out)⟩
                      · rw [if_neg c38] at H
                        have c38b0 : decide (0 ≤ t218) = false := decide_eq_false c38
                        clear c38
                        obtain ⟨y221, hy221⟩ : ∃ y_ : List (S34), y_ = (x0_1.set (x1_1 : Int).toNat (⟨(rd_T34 x0_1 (ji32)).f0, (rd_T34 x0_1 (ji32)).f1, (rd_T34 x0_1 (ji32)).f2⟩ : S34)) := ⟨_, rfl⟩
                        replace H : (impl_down.l0 kj3 (y221.set ((ji32) : Int).toNat (⟨(rd_T34 x0_1 x1_1).f0, (rd_T34 x0_1 x1_1).f1, (rd_T34 x0_1 x1_1).f2⟩ : S34)) (ji32) (wrap64 (x5_1 + 1))) = some (r1, r2) := by first | (rw [hy221]; with_reducible exact H) | (have H2_ := (Option.bind_some _ _).symm.trans H; rw [hy221]; with_reducible exact H2_) | (have H2_ := (Option.bind_some _ _).symm.trans H; with_reducible exact H2_) | with_reducible exact H | (rw [hy221]; exact H) | exact H
                        have Ny221 := Aside0.mk hy221
                        clear hy221
                        obtain ⟨y222, hy222⟩ : ∃ y_ : List (S34), y_ = (y221.set ((ji32) : Int).toNat (⟨(rd_T34 x0_1 x1_1).f0, (rd_T34 x0_1 x1_1).f1, (rd_T34 x0_1 x1_1).f2⟩ : S34)) := ⟨_, rfl⟩
                        replace H : (impl_down.l0 kj3 y222 (ji32) (wrap64 (x5_1 + 1))) = some (r1, r2) := by first | (rw [hy222]; with_reducible exact H) | (have H2_ := (Option.bind_some _ _).symm.trans H; rw [hy222]; with_reducible exact H2_) | (have H2_ := (Option.bind_some _ _).symm.trans H; with_reducible exact H2_) | with_reducible exact H | (rw [hy222]; exact H) | exact H
                        have Ny222 := Aside0.mk hy222
                        clear hy222
                        have H' := Aside0.mk H
                        clear H
                        try go_wp2
                        have n0_ := Aside0.mk (Kd.R_drew HO_0.out)
                        have n1_ := Aside0.mk (Kept.drew HK.out)
                        have n2_ := Aside0.mk (below_drew1 HB.out)
                        clear HO_0
                        clear HK
                        clear HB
                        have HO_0 := n0_
                        have HK := n1_
                        have HB := n2_
                        clear n0_ n1_ n2_
                        have p216 : 0 ≤ ((ji32) : Int) := of_decide_eq_true (by first | (with_reducible assumption) | assumption)
                        have q216 : (ji32) < (x0_1.length : Int) := of_decide_eq_true (by first | (with_reducible assumption) | assumption)
                        obtain ⟨ad216, e216, hx216_0, hx216_1, hx216_2⟩ := at_T34 (Kd.R_reads' HO_0.out).2.2 (ji32) p216 q216
                        cases e216
                        replace p216 := eq_true p216
                        replace q216 := eq_true q216
                        have p217 : 0 ≤ (x1_1 : Int) := of_decide_eq_true (by first | (with_reducible assumption) | assumption)
                        have q217 : x1_1 < (x0_1.length : Int) := of_decide_eq_true (by first | (with_reducible assumption) | assumption)
                        obtain ⟨ad217, e217, hx217_0, hx217_1, hx217_2⟩ := at_T34 (Kd.R_reads' HO_0.out).2.2 x1_1 p217 q217
                        obtain rfl : ad216 = ad217 := (by injection e217)
                        replace p217 := eq_true p217
                        replace q217 := eq_true q217
                        refine start_ (n := 10) (S := fun w' => w'.cell? (ad216.add (((ji32)).toNat * 3)) = some (.int .i64 ((rd_T34 x0_1 (ji32)).f0)) ∧ w'.cell? ⟨(ad216.add (((ji32)).toNat * 3)).block, (ad216.add (((ji32)).toNat * 3)).off + 1, none⟩ = some (.int .i64 ((rd_T34 x0_1 (ji32)).f1)) ∧ w'.cell? ⟨(ad216.add (((ji32)).toNat * 3)).block, (ad216.add (((ji32)).toNat * 3)).off + 2, none⟩ = some (.int .i64 ((rd_T34 x0_1 (ji32)).f2)) ∧ w'.cell? (ad216.add ((x1_1).toNat * 3)) = some (.int .i64 ((rd_T34 x0_1 x1_1).f0)) ∧ w'.cell? ⟨(ad216.add ((x1_1).toNat * 3)).block, (ad216.add ((x1_1).toNat * 3)).off + 1, none⟩ = some (.int .i64 ((rd_T34 x0_1 x1_1).f1)) ∧ w'.cell? ⟨(ad216.add ((x1_1).toNat * 3)).block, (ad216.add ((x1_1).toNat * 3)).off + 2, none⟩ = some (.int .i64 ((rd_T34 x0_1 x1_1).f2))) (ds := []) #[false, false, false, false, false, false, false, false, false, false] (by kernel_rfl) rfl rfl ⟨hx216_0, hx216_1, hx216_2, hx217_0, hx217_1, hx217_2⟩ (fun hHeld => ?_); refine with_tabW impl_down.tab6 impl_down.bits6 (fun HT_ HW_ => ?_)
                        generalize wc.drew = w43 at HO_0 HK HB hx216_0 hx216_1 hx216_2 hx217_0 hx217_1 hx217_2 hHeld ⊢
                        refine pure_ (i := 0) (N := some 36) (v := ?_) (a' := ?_) #[true, false, false, false, false, false, false, false, false, false] rfl rfl (any_of HT_.out (by kernel_rfl)) (fun _ _ _ h => h) (Or.inl ⟨by rfl, ?_⟩) ?_ ?_
                        rotate_left
                        · intro w'
                          go_simp
                          with_reducible rfl
                        rotate_left
                        · simp only [Act.put, List.setIfInBounds_toArray, List.set_cons_zero, List.set_cons_succ, i64_w, i32_w]
                          rfl
                        refine pure_ (i := 1) (N := some 37) (v := ?_) (a' := ?_) #[true, true, false, false, false, false, false, false, false, false] rfl rfl (any_of HT_.out (by kernel_rfl)) (fun _ _ _ h => h) (Or.inl ⟨by rfl, ?_⟩) ?_ ?_
                        rotate_left
                        · intro w'
                          go_simp
                          with_reducible rfl
                        rotate_left
                        · simp only [Act.put, List.setIfInBounds_toArray, List.set_cons_zero, List.set_cons_succ, i64_w, i32_w]
                          rfl
                        refine pure_ (i := 2) (N := some 38) (v := ?_) (a' := ?_) #[true, true, true, false, false, false, false, false, false, false] rfl rfl (any_of HT_.out (by kernel_rfl)) (fun _ _ _ h => h) (Or.inl ⟨by rfl, ?_⟩) ?_ ?_
                        rotate_left
                        · intro w'
                          go_simp
                          with_reducible rfl
                        rotate_left
                        · simp only [Act.put, List.setIfInBounds_toArray, List.set_cons_zero, List.set_cons_succ, i64_w, i32_w]
                          rfl
                        refine pure_ (i := 4) (N := some 40) (v := ?_) (a' := ?_) #[true, true, true, false, true, false, false, false, false, false] rfl rfl (any_of HT_.out (by kernel_rfl)) (fun _ _ _ h => h) (Or.inl ⟨by rfl, ?_⟩) ?_ ?_
                        rotate_left
                        · intro w'
                          go_simp
                          with_reducible rfl
                        rotate_left
                        · simp only [Act.put, List.setIfInBounds_toArray, List.set_cons_zero, List.set_cons_succ, i64_w, i32_w]
                          rfl
                        refine pure_ (i := 5) (N := some 41) (v := ?_) (a' := ?_) #[true, true, true, false, true, true, false, false, false, false] rfl rfl (any_of HT_.out (by kernel_rfl)) (fun _ _ _ h => h) (Or.inl ⟨by rfl, ?_⟩) ?_ ?_
                        rotate_left
                        · intro w'
                          go_simp
                          with_reducible rfl
                        rotate_left
                        · simp only [Act.put, List.setIfInBounds_toArray, List.set_cons_zero, List.set_cons_succ, i64_w, i32_w]
                          rfl
                        refine pure_ (i := 6) (N := some 42) (v := ?_) (a' := ?_) #[true, true, true, false, true, true, true, false, false, false] rfl rfl (any_of HT_.out (by kernel_rfl)) (fun _ _ _ h => h) (Or.inl ⟨by rfl, ?_⟩) ?_ ?_
                        rotate_left
                        · intro w'
                          go_simp
                          with_reducible rfl
                        rotate_left
                        · simp only [Act.put, List.setIfInBounds_toArray, List.set_cons_zero, List.set_cons_succ, i64_w, i32_w]
                          rfl
                        refine take_ (i := 3) (N := some 39) (v := ?_) (a' := ?_) #[true, true, true, true, true, true, true, false, false, false] rfl rfl (take_ofW HT_.out HW_.out (by kernel_rfl)) (fun _ _ _ h => h) (Or.inl ⟨by rfl, ?_⟩) hHeld ?_ ?_
                        rotate_left
                        · rintro w' ⟨s0, s1, s2, s3, s4, s5⟩
                          go_simp
                          with_reducible rfl
                        rotate_left
                        · simp only [Act.put, List.setIfInBounds_toArray, List.set_cons_zero, List.set_cons_succ, i64_w, i32_w]
                          rfl
                        refine take_ (i := 7) (N := some 43) (v := ?_) (a' := ?_) #[true, true, true, true, true, true, true, true, false, false] rfl rfl (take_ofW HT_.out HW_.out (by kernel_rfl)) (fun _ _ _ h => h) (Or.inl ⟨by rfl, ?_⟩) hHeld ?_ ?_
                        rotate_left
                        · rintro w' ⟨s0, s1, s2, s3, s4, s5⟩
                          go_simp
                          with_reducible rfl
                        rotate_left
                        · simp only [Act.put, List.setIfInBounds_toArray, List.set_cons_zero, List.set_cons_succ, i64_w, i32_w]
                          rfl
                        refine one_ (i := 8) (N := some 44) #[true, true, true, true, true, true, true, true, true, false] rfl rfl (one_of HT_.out (by kernel_rfl)) (by decide) (fun K hK => ?_)
                        refine goes_ Try.func44 (by kernel_rfl) rfl #[.agg #[.int .i64 ((rd_T34 x0_1 (ji32)).f0), .int .i64 ((rd_T34 x0_1 (ji32)).f1), .int .i64 ((rd_T34 x0_1 (ji32)).f2)], .agg #[.int .i64 ((rd_T34 x0_1 x1_1).f0), .int .i64 ((rd_T34 x0_1 x1_1).f1), .int .i64 ((rd_T34 x0_1 x1_1).f2)]] (by rfl) rfl rfl (by (try simp only [List.map_toArray, List.map_cons, List.map_nil]); first | done | (simp only [hji32]; rfl) | rfl | (simp only [List.length_drop, List.length_take]; rfl)) ?_
                        with_reducible refine (impl_compareWork.calls kj3 ((rd_T34 x0_1 (ji32)).f0) ((rd_T34 x0_1 (ji32)).f1) ((rd_T34 x0_1 (ji32)).f2) ((rd_T34 x0_1 x1_1).f0) ((rd_T34 x0_1 x1_1).f1) ((rd_T34 x0_1 x1_1).f2) t218 _ A37.out).mono ?_
                        rintro e w44 ⟨rfl, hb⟩
                        have HS0_ := (hb.cell (World.block_lt_of_cell? _ _ (hHeld.1))).trans (hHeld.1)
                        have HS1_ := (hb.cell (World.block_lt_of_cell? _ _ (hHeld.2.1))).trans (hHeld.2.1)
                        have HS2_ := (hb.cell (World.block_lt_of_cell? _ _ (hHeld.2.2.1))).trans (hHeld.2.2.1)
                        have HS3_ := (hb.cell (World.block_lt_of_cell? _ _ (hHeld.2.2.2.1))).trans (hHeld.2.2.2.1)
                        have HS4_ := (hb.cell (World.block_lt_of_cell? _ _ (hHeld.2.2.2.2.1))).trans (hHeld.2.2.2.2.1)
                        have HS5_ := (hb.cell (World.block_lt_of_cell? _ _ (hHeld.2.2.2.2.2))).trans (hHeld.2.2.2.2.2)
                        refine ⟨_, rfl, ?_⟩
                        have n0_ := Aside0.mk (Kd.R_below (by (with_reducible repeat (first | apply Kd.R_alloc | apply Kd.R_drewN | apply Kd.R_drew)); exact HO_0.out) hb)
                        have n1_ := Aside0.mk (Kept.below (S := (fun k_ => P0_ k_)) (by repeat (first | (with_reducible first | exact HK.out | apply Kept.alloc | apply Kept.drewN | apply Kept.drew) | exact HK.out)) hb)
                        have n2_ := Aside0.mk (below_step (by repeat (first | (with_reducible first | exact HB.out | apply below_alloc | apply pw_below_drewN | apply below_drew1) | exact HB.out)) hb)
                        clear HO_0
                        clear HK
                        clear HB
                        have HO_0 := n0_
                        have HK := n1_
                        have HB := n2_
                        clear n0_ n1_ n2_
                        (try clear hb)
                        (try clear hb2)
                        (try clear hk)
                        (try clear hi)
                        refine hK.out _ _ ⟨HS0_, HS1_, HS2_, HS3_, HS4_, HS5_⟩ (fun hHeld => ?_)
                        clear hK K
                        refine norm_ (a' := ?_) ?_ ?_
                        rotate_left
                        · show Act.put _ (some 44) _ = _
                          simp only [Act.put, List.setIfInBounds_toArray, List.set_cons_zero, List.set_cons_succ, i64_w, i32_w]
                          rfl
                        refine pure_ (i := 9) (N := some 45) (v := ?_) (a' := ?_) #[true, true, true, true, true, true, true, true, true, true] rfl rfl (any_of HT_.out (by kernel_rfl)) (fun _ _ _ h => h) (Or.inl ⟨by rfl, ?_⟩) ?_ ?_
                        rotate_left
                        · intro w'
                          go_simp
                          with_reducible rfl
                        rotate_left
                        · simp only [Act.put, List.setIfInBounds_toArray, List.set_cons_zero, List.set_cons_succ, i64_w, i32_w]
                          rfl
                        refine done_ (done_of HT_.out (by kernel_rfl)) ?_
                        try go_wp2
                        have n0_ := Aside0.mk (Kd.R_drew HO_0.out)
                        have n1_ := Aside0.mk (Kept.drew HK.out)
                        have n2_ := Aside0.mk (below_drew1 HB.out)
                        clear HO_0
                        clear HK
                        clear HB
                        have HO_0 := n0_
                        have HK := n1_
                        have HB := n2_
                        clear n0_ n1_ n2_
                        have p219 : 0 ≤ ((ji32) : Int) := of_decide_eq_true (by first | (with_reducible assumption) | assumption)
                        have q219 : (ji32) < (x0_1.length : Int) := of_decide_eq_true (by first | (with_reducible assumption) | assumption)
                        obtain ⟨ad219, e219, hx219_0, hx219_1, hx219_2⟩ := at_T34 (Kd.R_reads' HO_0.out).2.2 (ji32) p219 q219
                        obtain rfl : ad216 = ad219 := (by injection e219)
                        replace p219 := eq_true p219
                        replace q219 := eq_true q219
                        have p220 : 0 ≤ (x1_1 : Int) := of_decide_eq_true (by first | (with_reducible assumption) | assumption)
                        have q220 : x1_1 < (x0_1.length : Int) := of_decide_eq_true (by first | (with_reducible assumption) | assumption)
                        obtain ⟨ad220, e220, hx220_0, hx220_1, hx220_2⟩ := at_T34 (Kd.R_reads' HO_0.out).2.2 x1_1 p220 q220
                        obtain rfl : ad216 = ad220 := (by injection e220)
                        replace p220 := eq_true p220
                        replace q220 := eq_true q220
                        have p41 : 0 ≤ (x1_1 : Int) := of_decide_eq_true (by first | (with_reducible assumption) | assumption)
                        have q41 : (x1_1 : Int) < ((x0_1.length : Int) : Int) := of_decide_eq_true (by first | (with_reducible assumption) | assumption)
                        obtain ⟨go41, co41, eo41, gb41, gl41, cl41, HG41⟩ := Kd.R_form HO_0.out (by omega)
                        (first | cases eo41 | (injection eo41 with ea_ en_ ec_; (first | subst ea_ | (injection ea_ with ea_; subst ea_)); subst ec_; clear en_))
                        have GB41 := Aside0.mk gb41
                        have GG41 := Aside0.mk HG41
                        clear gb41 gl41 HG41
                        have HMgo41 := Aside0.mk (show (P0_ go41 ∨ w.heap.size ≤ go41) from (HO_0.out.1 _ rfl))
                        (first | simp only [add_plain] at hx216_0 | skip)
                        (first | simp only [add_plain] at hx216_1 | skip)
                        (first | simp only [add_plain] at hx216_2 | skip)
                        (first | simp only [add_plain] at hx217_0 | skip)
                        (first | simp only [add_plain] at hx217_1 | skip)
                        (first | simp only [add_plain] at hx217_2 | skip)
                        (first | simp only [add_plain] at hx219_0 | skip)
                        (first | simp only [add_plain] at hx219_1 | skip)
                        (first | simp only [add_plain] at hx219_2 | skip)
                        (first | simp only [add_plain] at hx220_0 | skip)
                        (first | simp only [add_plain] at hx220_1 | skip)
                        (first | simp only [add_plain] at hx220_2 | skip)
                        obtain ⟨ce41, hcl41, hM41, hcc41, hfr41⟩ := Kd.R_elem HO_0.out z34 (x1_1 : Int) p41 q41
                        obtain rfl := k34_openM hM41
                        have hx41_0 : World.cell? _ ⟨go41, (x1_1 : Int).toNat * 3, none⟩ = some (.int .i64 ((rd_T34 x0_1 x1_1).f0)) := hcc41 0 _ rfl
                        have hx41_1 : World.cell? _ ⟨go41, (x1_1 : Int).toNat * 3 + 1, none⟩ = some (.int .i64 ((rd_T34 x0_1 x1_1).f1)) := hcc41 1 _ rfl
                        have hx41_2 : World.cell? _ ⟨go41, (x1_1 : Int).toNat * 3 + 2, none⟩ = some (.int .i64 ((rd_T34 x0_1 x1_1).f2)) := hcc41 2 _ rfl
                        have hf41_0 : World.frozen? _ ⟨go41, (x1_1 : Int).toNat * 3, none⟩ = false := hfr41 0
                        have hf41_1 : World.frozen? _ ⟨go41, (x1_1 : Int).toNat * 3 + 1, none⟩ = false := hfr41 1
                        have hf41_2 : World.frozen? _ ⟨go41, (x1_1 : Int).toNat * 3 + 2, none⟩ = false := hfr41 2
                        clear hcl41 hcc41 hfr41 hM41
                        replace p41 := eq_true p41
                        replace q41 := eq_true q41
                        obtain ⟨ce46, hcl46, hM46, hcc46, hfr46⟩ := Kd.R_elem HO_0.out z34 (x1_1 : Int) (of_decide_eq_true (by first | (with_reducible assumption) | assumption)) (by have h_ : (x1_1 : Int) < ((x0_1.length : Int) : Int) := of_decide_eq_true (by first | (with_reducible assumption) | assumption); first | exact h_ | (have e_ := (Kd.R_reads' HO_0.out).1; omega) | simpa using h_)
                        obtain rfl := k34_openM hM46
                        have HP46 := (Kd.R_seg HO_0.out (x1_1 : Int) (of_decide_eq_true (by first | (with_reducible assumption) | assumption)) (by have h_ : (x1_1 : Int) < ((x0_1.length : Int) : Int) := of_decide_eq_true (by first | (with_reducible assumption) | assumption); first | exact h_ | (have e_ := (Kd.R_reads' HO_0.out).1; omega) | simpa using h_) (seg := [.int .i64 ((rd_T34 x0_1 (ji32)).f0), .int .i64 ((rd_T34 x0_1 (ji32)).f1), .int .i64 ((rd_T34 x0_1 (ji32)).f2)]) (j := 0) hcl46 hcc46 (show 3 ≤ 3 from by decide) (x' := (⟨(rd_T34 x0_1 (ji32)).f0, (rd_T34 x0_1 (ji32)).f1, (rd_T34 x0_1 (ji32)).f2⟩ : S34)) (k34_mkM _ _ _ (⟨(rd_T34 x0_1 (ji32)).f0, (rd_T34 x0_1 (ji32)).f1, (rd_T34 x0_1 (ji32)).f2⟩ : S34) ) (fun _ hk => hk)).1
                        rw [← Ny221.out] at HP46
                        have HQ46 := Aside0.mk HP46
                        clear hcl46 hcc46 hfr46 hM46 HP46
                        have p42 : 0 ≤ ((ji32) : Int) := of_decide_eq_true (by first | (with_reducible assumption) | assumption)
                        have q42 : ((ji32) : Int) < ((x0_1.length : Int) : Int) := of_decide_eq_true (by first | (with_reducible assumption) | assumption)
                        obtain ⟨ce42, hcl42, hM42, hcc42, hfr42⟩ := Kd.R_elem HQ46.out z34 ((ji32) : Int) p42 q42
                        obtain rfl := k34_openM hM42
                        have hx42_0 : World.cell? _ ⟨go41, ((ji32) : Int).toNat * 3, none⟩ = some (.int .i64 ((rd_T34 y221 (ji32)).f0)) := hcc42 0 _ rfl
                        have hx42_1 : World.cell? _ ⟨go41, ((ji32) : Int).toNat * 3 + 1, none⟩ = some (.int .i64 ((rd_T34 y221 (ji32)).f1)) := hcc42 1 _ rfl
                        have hx42_2 : World.cell? _ ⟨go41, ((ji32) : Int).toNat * 3 + 2, none⟩ = some (.int .i64 ((rd_T34 y221 (ji32)).f2)) := hcc42 2 _ rfl
                        have hf42_0 : World.frozen? _ ⟨go41, ((ji32) : Int).toNat * 3, none⟩ = false := hfr42 0
                        have hf42_1 : World.frozen? _ ⟨go41, ((ji32) : Int).toNat * 3 + 1, none⟩ = false := hfr42 1
                        have hf42_2 : World.frozen? _ ⟨go41, ((ji32) : Int).toNat * 3 + 2, none⟩ = false := hfr42 2
                        clear hcl42 hcc42 hfr42 hM42
                        replace p42 := eq_true p42
                        replace q42 := eq_true q42
                        obtain ⟨ce47, hcl47, hM47, hcc47, hfr47⟩ := Kd.R_elem HQ46.out z34 ((ji32) : Int) (of_decide_eq_true (by first | (with_reducible assumption) | assumption)) (by have h_ : ((ji32) : Int) < ((x0_1.length : Int) : Int) := of_decide_eq_true (by first | (with_reducible assumption) | assumption); first | exact h_ | (have e_ := (Kd.R_reads' HO_0.out).1; omega) | simpa using h_)
                        obtain rfl := k34_openM hM47
                        have HP47 := (Kd.R_seg HQ46.out ((ji32) : Int) (of_decide_eq_true (by first | (with_reducible assumption) | assumption)) (by have h_ : ((ji32) : Int) < ((x0_1.length : Int) : Int) := of_decide_eq_true (by first | (with_reducible assumption) | assumption); first | exact h_ | (have e_ := (Kd.R_reads' HO_0.out).1; omega) | simpa using h_) (seg := [.int .i64 ((rd_T34 x0_1 x1_1).f0), .int .i64 ((rd_T34 x0_1 x1_1).f1), .int .i64 ((rd_T34 x0_1 x1_1).f2)]) (j := 0) hcl47 hcc47 (show 3 ≤ 3 from by decide) (x' := (⟨(rd_T34 x0_1 x1_1).f0, (rd_T34 x0_1 x1_1).f1, (rd_T34 x0_1 x1_1).f2⟩ : S34)) (k34_mkM _ _ _ (⟨(rd_T34 x0_1 x1_1).f0, (rd_T34 x0_1 x1_1).f1, (rd_T34 x0_1 x1_1).f2⟩ : S34) ) (fun _ hk => hk)).1
                        rw [← Ny222.out] at HP47
                        have HQ47 := Aside0.mk HP47
                        clear hcl47 hcc47 hfr47 hM47 HP47
                        refine start_ (n := 16) (S := fun w' => w'.cell? ⟨go41, (((ji32)).toNat * 3), none⟩ = some (.int .i64 ((rd_T34 x0_1 (ji32)).f0)) ∧ w'.cell? ⟨go41, (((ji32)).toNat * 3) + 1, none⟩ = some (.int .i64 ((rd_T34 x0_1 (ji32)).f1)) ∧ w'.cell? ⟨go41, (((ji32)).toNat * 3) + 2, none⟩ = some (.int .i64 ((rd_T34 x0_1 (ji32)).f2)) ∧ w'.cell? ⟨go41, ((x1_1).toNat * 3), none⟩ = some (.int .i64 ((rd_T34 x0_1 x1_1).f0)) ∧ w'.cell? ⟨go41, ((x1_1).toNat * 3) + 1, none⟩ = some (.int .i64 ((rd_T34 x0_1 x1_1).f1)) ∧ w'.cell? ⟨go41, ((x1_1).toNat * 3) + 2, none⟩ = some (.int .i64 ((rd_T34 x0_1 x1_1).f2))) (ds := [13, 15]) #[false, false, false, false, false, false, false, false, false, false, false, false, false, false, false, false] (by kernel_rfl) rfl rfl ⟨hx219_0, hx219_1, hx219_2, hx220_0, hx220_1, hx220_2⟩ (fun hHeld => ?_); refine with_tabW impl_down.tab7 impl_down.bits7 (fun HT_ HW_ => ?_)
                        generalize w44.drew = w45 at HO_0 HK HB GG41 HQ46 HQ47 hf41_0 hf41_1 hf41_2 hf42_0 hf42_1 hf42_2 hx216_0 hx216_1 hx216_2 hx217_0 hx217_1 hx217_2 hx219_0 hx219_1 hx219_2 hx220_0 hx220_1 hx220_2 hx41_0 hx41_1 hx41_2 hx42_0 hx42_1 hx42_2 hHeld ⊢
                        refine pure_ (i := 0) (N := some 46) (v := ?_) (a' := ?_) #[true, false, false, false, false, false, false, false, false, false, false, false, false, false, false, false] rfl rfl (any_of HT_.out (by kernel_rfl)) (fun _ _ _ h => h) (Or.inl ⟨by rfl, ?_⟩) ?_ ?_
                        rotate_left
                        · intro w'
                          go_simp
                          with_reducible rfl
                        rotate_left
                        · simp only [Act.put, List.setIfInBounds_toArray, List.set_cons_zero, List.set_cons_succ, i64_w, i32_w]
                          rfl
                        refine pure_ (i := 1) (N := some 47) (v := ?_) (a' := ?_) #[true, true, false, false, false, false, false, false, false, false, false, false, false, false, false, false] rfl rfl (any_of HT_.out (by kernel_rfl)) (fun _ _ _ h => h) (Or.inl ⟨by rfl, ?_⟩) ?_ ?_
                        rotate_left
                        · intro w'
                          go_simp
                          with_reducible rfl
                        rotate_left
                        · simp only [Act.put, List.setIfInBounds_toArray, List.set_cons_zero, List.set_cons_succ, i64_w, i32_w]
                          rfl
                        refine pure_ (i := 2) (N := some 48) (v := ?_) (a' := ?_) #[true, true, true, false, false, false, false, false, false, false, false, false, false, false, false, false] rfl rfl (any_of HT_.out (by kernel_rfl)) (fun _ _ _ h => h) (Or.inl ⟨by rfl, ?_⟩) ?_ ?_
                        rotate_left
                        · intro w'
                          go_simp
                          with_reducible rfl
                        rotate_left
                        · simp only [Act.put, List.setIfInBounds_toArray, List.set_cons_zero, List.set_cons_succ, i64_w, i32_w]
                          rfl
                        refine pure_ (i := 3) (N := some 49) (v := ?_) (a' := ?_) #[true, true, true, true, false, false, false, false, false, false, false, false, false, false, false, false] rfl rfl (any_of HT_.out (by kernel_rfl)) (fun _ _ _ h => h) (Or.inl ⟨by rfl, ?_⟩) ?_ ?_
                        rotate_left
                        · intro w'
                          go_simp
                          with_reducible rfl
                        rotate_left
                        · simp only [Act.put, List.setIfInBounds_toArray, List.set_cons_zero, List.set_cons_succ, i64_w, i32_w]
                          rfl
                        refine pure_ (i := 4) (N := some 50) (v := ?_) (a' := ?_) #[true, true, true, true, true, false, false, false, false, false, false, false, false, false, false, false] rfl rfl (any_of HT_.out (by kernel_rfl)) (fun _ _ _ h => h) (Or.inl ⟨by rfl, ?_⟩) ?_ ?_
                        rotate_left
                        · intro w'
                          go_simp
                          with_reducible rfl
                        rotate_left
                        · simp only [Act.put, List.setIfInBounds_toArray, List.set_cons_zero, List.set_cons_succ, i64_w, i32_w]
                          rfl
                        refine pure_ (i := 5) (N := some 51) (v := ?_) (a' := ?_) #[true, true, true, true, true, true, false, false, false, false, false, false, false, false, false, false] rfl rfl (any_of HT_.out (by kernel_rfl)) (fun _ _ _ h => h) (Or.inl ⟨by rfl, ?_⟩) ?_ ?_
                        rotate_left
                        · intro w'
                          go_simp
                          with_reducible rfl
                        rotate_left
                        · simp only [Act.put, List.setIfInBounds_toArray, List.set_cons_zero, List.set_cons_succ, i64_w, i32_w]
                          rfl
                        refine pure_ (i := 6) (N := some 52) (v := ?_) (a' := ?_) #[true, true, true, true, true, true, true, false, false, false, false, false, false, false, false, false] rfl rfl (any_of HT_.out (by kernel_rfl)) (fun _ _ _ h => h) (Or.inl ⟨by rfl, ?_⟩) ?_ ?_
                        rotate_left
                        · intro w'
                          go_simp
                          with_reducible rfl
                        rotate_left
                        · simp only [Act.put, List.setIfInBounds_toArray, List.set_cons_zero, List.set_cons_succ, i64_w, i32_w]
                          rfl
                        refine pure_ (i := 8) (N := some 54) (v := ?_) (a' := ?_) #[true, true, true, true, true, true, true, false, true, false, false, false, false, false, false, false] rfl rfl (any_of HT_.out (by kernel_rfl)) (fun _ _ _ h => h) (Or.inl ⟨by rfl, ?_⟩) ?_ ?_
                        rotate_left
                        · intro w'
                          go_simp
                          with_reducible rfl
                        rotate_left
                        · simp only [Act.put, List.setIfInBounds_toArray, List.set_cons_zero, List.set_cons_succ, i64_w, i32_w]
                          rfl
                        refine pure_ (i := 9) (N := some 55) (v := ?_) (a' := ?_) #[true, true, true, true, true, true, true, false, true, true, false, false, false, false, false, false] rfl rfl (any_of HT_.out (by kernel_rfl)) (fun _ _ _ h => h) (Or.inl ⟨by rfl, ?_⟩) ?_ ?_
                        rotate_left
                        · intro w'
                          go_simp
                          with_reducible rfl
                        rotate_left
                        · simp only [Act.put, List.setIfInBounds_toArray, List.set_cons_zero, List.set_cons_succ, i64_w, i32_w]
                          rfl
                        refine pure_ (i := 10) (N := some 56) (v := ?_) (a' := ?_) #[true, true, true, true, true, true, true, false, true, true, true, false, false, false, false, false] rfl rfl (any_of HT_.out (by kernel_rfl)) (fun _ _ _ h => h) (Or.inl ⟨by rfl, ?_⟩) ?_ ?_
                        rotate_left
                        · intro w'
                          go_simp
                          with_reducible rfl
                        rotate_left
                        · simp only [Act.put, List.setIfInBounds_toArray, List.set_cons_zero, List.set_cons_succ, i64_w, i32_w]
                          rfl
                        refine take_ (i := 7) (N := some 53) (v := ?_) (a' := ?_) #[true, true, true, true, true, true, true, true, true, true, true, false, false, false, false, false] rfl rfl (take_ofW HT_.out HW_.out (by kernel_rfl)) (fun _ _ _ h => h) (Or.inl ⟨by rfl, ?_⟩) hHeld ?_ ?_
                        rotate_left
                        · rintro w' ⟨s0, s1, s2, s3, s4, s5⟩
                          go_simp
                          with_reducible rfl
                        rotate_left
                        · simp only [Act.put, List.setIfInBounds_toArray, List.set_cons_zero, List.set_cons_succ, i64_w, i32_w]
                          rfl
                        refine take_ (i := 11) (N := some 57) (v := ?_) (a' := ?_) #[true, true, true, true, true, true, true, true, true, true, true, true, false, false, false, false] rfl rfl (take_ofW HT_.out HW_.out (by kernel_rfl)) (fun _ _ _ h => h) (Or.inl ⟨by rfl, ?_⟩) hHeld ?_ ?_
                        rotate_left
                        · rintro w' ⟨s0, s1, s2, s3, s4, s5⟩
                          go_simp
                          with_reducible rfl
                        rotate_left
                        · simp only [Act.put, List.setIfInBounds_toArray, List.set_cons_zero, List.set_cons_succ, i64_w, i32_w]
                          rfl
                        refine pure_ (i := 12) (N := some 58) (v := ?_) (a' := ?_) #[true, true, true, true, true, true, true, true, true, true, true, true, true, false, false, false] rfl rfl (any_of HT_.out (by kernel_rfl)) (fun _ _ _ h => h) (Or.inl ⟨by rfl, ?_⟩) ?_ ?_
                        rotate_left
                        · intro w'
                          go_simp
                          with_reducible rfl
                        rotate_left
                        · simp only [Act.put, List.setIfInBounds_toArray, List.set_cons_zero, List.set_cons_succ, i64_w, i32_w]
                          rfl
                        refine last_ (i := 13) (N := none) #[true, true, true, true, true, true, true, true, true, true, true, true, true, true, false, false] rfl rfl (one_of HT_.out (by kernel_rfl)) (by decide) (fun K hK => ?_)
                        refine skip_ (w1 := ?_) (by rfl) rfl ?_ ?_
                        rotate_left
                        · first
                          | (go_simp; rfl)
                          | ((try simp [World.setCells, show k34.sz = 3 from rfl, go_sem] at hx25_0); (try simp [World.setCells, show k34.sz = 3 from rfl, go_sem] at hx25_1); (try simp [World.setCells, show k34.sz = 3 from rfl, go_sem] at hx25_2); (try simp [World.setCells, show k34.sz = 3 from rfl, go_sem] at hf25_0); (try simp [World.setCells, show k34.sz = 3 from rfl, go_sem] at hf25_1); (try simp [World.setCells, show k34.sz = 3 from rfl, go_sem] at hf25_2); (try simp [World.setCells, show k34.sz = 3 from rfl, go_sem] at hx26_0); (try simp [World.setCells, show k34.sz = 3 from rfl, go_sem] at hx26_1); (try simp [World.setCells, show k34.sz = 3 from rfl, go_sem] at hx26_2); (try simp [World.setCells, show k34.sz = 3 from rfl, go_sem] at hf26_0); (try simp [World.setCells, show k34.sz = 3 from rfl, go_sem] at hf26_1); (try simp [World.setCells, show k34.sz = 3 from rfl, go_sem] at hf26_2); (try simp [World.setCells, show k34.sz = 3 from rfl, go_sem] at hx41_0); (try simp [World.setCells, show k34.sz = 3 from rfl, go_sem] at hx41_1); (try simp [World.setCells, show k34.sz = 3 from rfl, go_sem] at hx41_2); (try simp [World.setCells, show k34.sz = 3 from rfl, go_sem] at hf41_0); (try simp [World.setCells, show k34.sz = 3 from rfl, go_sem] at hf41_1); (try simp [World.setCells, show k34.sz = 3 from rfl, go_sem] at hf41_2); (try simp [World.setCells, show k34.sz = 3 from rfl, go_sem] at hx42_0); (try simp [World.setCells, show k34.sz = 3 from rfl, go_sem] at hx42_1); (try simp [World.setCells, show k34.sz = 3 from rfl, go_sem] at hx42_2); (try simp [World.setCells, show k34.sz = 3 from rfl, go_sem] at hf42_0); (try simp [World.setCells, show k34.sz = 3 from rfl, go_sem] at hf42_1); (try simp [World.setCells, show k34.sz = 3 from rfl, go_sem] at hf42_2); go_simp; rfl)
                        refine hK.out _ _ ?_
                        clear hK K
                        refine pure_ (i := 14) (N := some 59) (v := ?_) (a' := ?_) #[true, true, true, true, true, true, true, true, true, true, true, true, true, true, true, false] rfl rfl (any_of HT_.out (by kernel_rfl)) (fun _ _ _ h => h) (Or.inl ⟨by rfl, ?_⟩) ?_ ?_
                        rotate_left
                        · intro w'
                          go_simp
                          with_reducible rfl
                        rotate_left
                        · simp only [Act.put, List.setIfInBounds_toArray, List.set_cons_zero, List.set_cons_succ, i64_w, i32_w]
                          rfl
                        refine last_ (i := 15) (N := none) #[true, true, true, true, true, true, true, true, true, true, true, true, true, true, true, true] rfl rfl (one_of HT_.out (by kernel_rfl)) (by decide) (fun K hK => ?_)
                        refine skip_ (w1 := ?_) (by rfl) rfl ?_ ?_
                        rotate_left
                        · first
                          | (go_simp; rfl)
                          | ((try simp [World.setCells, show k34.sz = 3 from rfl, go_sem] at hx25_0); (try simp [World.setCells, show k34.sz = 3 from rfl, go_sem] at hx25_1); (try simp [World.setCells, show k34.sz = 3 from rfl, go_sem] at hx25_2); (try simp [World.setCells, show k34.sz = 3 from rfl, go_sem] at hf25_0); (try simp [World.setCells, show k34.sz = 3 from rfl, go_sem] at hf25_1); (try simp [World.setCells, show k34.sz = 3 from rfl, go_sem] at hf25_2); (try simp [World.setCells, show k34.sz = 3 from rfl, go_sem] at hx26_0); (try simp [World.setCells, show k34.sz = 3 from rfl, go_sem] at hx26_1); (try simp [World.setCells, show k34.sz = 3 from rfl, go_sem] at hx26_2); (try simp [World.setCells, show k34.sz = 3 from rfl, go_sem] at hf26_0); (try simp [World.setCells, show k34.sz = 3 from rfl, go_sem] at hf26_1); (try simp [World.setCells, show k34.sz = 3 from rfl, go_sem] at hf26_2); (try simp [World.setCells, show k34.sz = 3 from rfl, go_sem] at hx41_0); (try simp [World.setCells, show k34.sz = 3 from rfl, go_sem] at hx41_1); (try simp [World.setCells, show k34.sz = 3 from rfl, go_sem] at hx41_2); (try simp [World.setCells, show k34.sz = 3 from rfl, go_sem] at hf41_0); (try simp [World.setCells, show k34.sz = 3 from rfl, go_sem] at hf41_1); (try simp [World.setCells, show k34.sz = 3 from rfl, go_sem] at hf41_2); (try simp [World.setCells, show k34.sz = 3 from rfl, go_sem] at hx42_0); (try simp [World.setCells, show k34.sz = 3 from rfl, go_sem] at hx42_1); (try simp [World.setCells, show k34.sz = 3 from rfl, go_sem] at hx42_2); (try simp [World.setCells, show k34.sz = 3 from rfl, go_sem] at hf42_0); (try simp [World.setCells, show k34.sz = 3 from rfl, go_sem] at hf42_1); (try simp [World.setCells, show k34.sz = 3 from rfl, go_sem] at hf42_2); go_simp; rfl)
                        refine hK.out _ _ ?_
                        clear hK K
                        refine done_ (done_of HT_.out (by kernel_rfl)) ?_
                        try go_wp2
                        go_roundg kj3
                        case measure => have := HK1.out; have := HJ3.out; omega
                        case rel => exact ⟨(y222), ((ji32)), (wrap64 (x5_1 + 1)), (by first | rfl | (simp; done) | (simp only [← hji32] <;> (first | rfl | simp)) | (simp [*]; done)), (by first | rfl | (simp; done) | (simp [*]; done)), H', ⟨by have := HK1.out; have := HJ3.out; omega⟩, ⟨by (with_reducible repeat (first | apply Kd.R_alloc | apply Kd.R_drewN | apply Kd.R_drew)); exact HQ47.out⟩, ⟨by repeat (first | (with_reducible first | exact HK.out | apply Kept.alloc | apply Kept.drewN | apply Kept.drew | refine Kept.setCell ?_ HMgo41.out _ | refine Kept.setCell ?_ HMgo41.out _ | refine Kept.setCell ?_ HMgo41.out _ | refine Kept.setCell ?_ HMgo41.out _ | refine Kept.setCell ?_ HMgo41.out _ | refine Kept.setCell ?_ HMgo41.out _) | exact HK.out)⟩, ⟨by repeat (first | (with_reducible first | exact HB.out | apply below_alloc | apply pw_below_drewN | apply below_drew1 | refine below_set ?_ GB41.out | refine below_set ?_ GB41.out | refine below_set ?_ GB41.out | refine below_set ?_ GB41.out | refine below_set ?_ GB41.out | refine below_set ?_ GB41.out) | exact HB.out)⟩⟩
                    · rw [if_neg c36] at H
                      exact absurd H (by simp)
                  · rw [if_neg c35] at H
                    exact absurd H (by simp)
                · rw [if_neg c34] at H
                  exact absurd H (by simp)
              · rw [if_neg c33] at H
                exact absurd H (by simp)
      · rw [if_neg c3] at H
        have c3b0 : decide ((wrap64 ((wrap64 (2 * x1_1)) + 1)) < (x0_1.length : Int)) = false := decide_eq_false c3
        clear c3
        simp only [Option.some.injEq, Prod.mk.injEq] at H
        obtain ⟨rfl, rfl⟩ := H
        obtain ⟨Ao48, co48, eo48⟩ := Kd.R_slice HO_0.out
        subst eo48
        go_wp2
        go_ret
        exact ⟨by first | rfl | (simp [errW_none, errW_some] <;> rfl) | (simp [*, errW_none, errW_some] <;> rfl), by (with_reducible repeat (first | apply Kd.R_alloc | apply Kd.R_drewN | apply Kd.R_drew)); exact HO_0.out, by repeat (first | (with_reducible first | exact HB.out | apply below_alloc | apply pw_below_drewN | apply below_drew1) | exact HB.out), by repeat (first | (with_reducible first | exact HK.out | apply Kept.alloc | apply Kept.drewN | apply Kept.drew) | exact HK.out)⟩

end Go.Proofs.Ytmffllogaboklag.B
