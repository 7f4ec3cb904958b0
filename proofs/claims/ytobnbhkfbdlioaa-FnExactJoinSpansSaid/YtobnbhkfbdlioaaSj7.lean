/- Functions of the translation as plain Lean functions, and contracts: each call answers what its function says; no conditions beyond those typed. Written by this session's program. -/
import Derived.Test.YtobnbhkfbdlioaaSj0
namespace Go.Proofs.Ytobnbhkfbdlioaa.Sj
open Go.RowKit Go.Proofs.YtobnbhkfbdlioaaW.PrintWords Go.Proofs.YtobnbhkfbdlioaaW.PrintLast Go.Proofs.YtobnbhkfbdlioaaW.PrintMore
attribute [local go_sem] max2_int min2_int max_two min_two max_three min_three max_four min_four   -- for this text's walks alone
set_option linter.unusedVariables false
set_option linter.unusedSimpArgs false

/-! ### impl_Span_30: function 30 -/
def impl_Span_30.f (l0 : List (S30)) : Option ((List (S30))) := (some (([] : List (S30)) : List (S30))).bind fun y172 => (if y172.length + l0.length < 8796093022208 then (some (y172 ++ l0)) else (none))
set_option maxHeartbeats 8000000 in
set_option maxRecDepth 100000 in
theorem impl_Span_30.calls (A0 : Option Addr) (c0 : Nat) (l0 : List (S30)) (r : List (S30)) (w : World) (hr0 : Kd.C k30 w A0 l0.length l0) (hc0 : l0.length ≤ c0) (h : impl_Span_30.f l0 = some r) :
    Calls Try.prog 30 #[.slice A0 l0.length c0] w fun e w' => ∃ v0_ : Value, e = .returned (v0_) ∧ Kd.R k30 30 w' w.heap.size (fun _ => True) v0_ r ∧ Below w.heap.size w w' := by
  have HR0 := Aside0.mk hr0
  have HC0 := Aside0.mk hc0
  clear hr0 hc0
  have HB := Aside0.mk (Below.refl w.heap.size w)
  have H : ((some (([] : List (S30)) : List (S30))).bind fun y172 => (if y172.length + l0.length < 8796093022208 then (some (y172 ++ l0)) else (none))) = some r := h
  clear h
  obtain ⟨y172, hy172⟩ : ∃ y_ : List (S30), y_ = (([] : List (S30))) := ⟨_, rfl⟩
  replace H : (if y172.length + l0.length < 8796093022208 then (some (y172 ++ l0)) else (none)) = some r := by first | (rw [hy172]; with_reducible exact H) | (have H2_ := (Option.bind_some _ _).symm.trans H; rw [hy172]; with_reducible exact H2_) | (have H2_ := (Option.bind_some _ _).symm.trans H; with_reducible exact H2_) | with_reducible exact H | (rw [hy172]; exact H) | exact H
  have Ny172 := Aside0.mk hy172
  clear hy172
  by_cases c2 : y172.length + l0.length < 8796093022208
  · rw [if_pos c2] at H
    have LMc2 := Aside0.mk c2
    clear c2
    obtain ⟨y175, hy175⟩ : ∃ y_ : List (S30), y_ = (y172 ++ l0) := ⟨_, rfl⟩
    replace H : (some y175) = some r := by first | (rw [hy175]; with_reducible exact H) | (have H2_ := (Option.bind_some _ _).symm.trans H; rw [hy175]; with_reducible exact H2_) | (have H2_ := (Option.bind_some _ _).symm.trans H; with_reducible exact H2_) | with_reducible exact H | (rw [hy175]; exact H) | exact H
    have Ny175 := Aside0.mk hy175
    clear hy175
    obtain rfl := Option.some.inj H
    have q_ : ∀ (w : World) (a : Option Addr) (n c n' c' : Nat), (binOp .eql 26 (.slice a n c) (.slice none n' c')).run Try.prog w = .ok (.bool a.isNone) w := fun w a n c n' c' => Lib.run_eql_slice_nil w _ _ a n c n' c' Try.underlying26
    rcases A0 with _ | X0_nilclone
    · have hl0_ : l0 = [] := by rcases l0 with _ | ⟨y_, ys_⟩; exact rfl; exact absurd ((show ReadsRow _ _ _ _ _ _ from HR0.out).2.2 (Nat.succ_pos _)).choose_spec.1 (by simp)
      subst hl0_
      go_enter Try.func30, Try.ntmps30
      go_wp2
      go_ret
      exact ⟨_, rfl, by rw [Ny175.out, Ny172.out]; exact Kd.R_nil _ _ _ _ _, HB.out⟩
    go_enter Try.func30, Try.ntmps30
    go_wp2_with (first | ((with_reducible refine gate_dst (N := 5) rfl ?_); refine Kd.R_lit k30 _ 30 ?hg (N := 5) ?hd (xs := ([] : List (S30))) (inner := []) (ok := fun _ => True) (okp := fun _ => True) ?hr ?hp (fun _ hk => hk) trivial (Below.refl _ _) (Nat.le_refl _) (by simp) ?_; (case hd => rfl); (case hg => rfl); (case hr => first | (go_simp; done) | (go_simp; rfl)); (case hp => exact (Reps.none _ _)); intro v173 w3 ho4 hb hg_ hnew_; clear hg_ hnew_; (first | rw [← Ny172.out] at ho4 | (simp only [Int.reduceToNat] at ho4; rw [← Ny172.out] at ho4)); have n0_ := Aside0.mk (Kd.R_lower ho4 (below_size (by repeat (first | (with_reducible first | exact HB.out | apply below_alloc | apply pw_below_drewN | apply below_drew1) | exact HB.out)))); have n1_ := Aside0.mk (below_step (by repeat (first | (with_reducible first | exact HB.out | apply below_alloc | apply pw_below_drewN | apply below_drew1) | exact HB.out)) hb); clear HB; have HO174 := n0_; have HB := n1_; clear n0_ n1_; clear hb ho4) | ((with_reducible refine gate_builtin (b := .append) (xs := #[.tmp 5, .tmp 6]) rfl ?_); at_builtin; refine Kd.R_append_rows k30 (w0 := w) w.heap.size rfl (.tmp 5) (.tmp 6) 26 30 (.agg #[(.int .i64 0), (.int .i64 0)]) 16 rfl Try.underlying26 info30 rfl (by decide) (by omega) v173 y172 l0 _ _ _ (fun _ => True) (fun _ => False) rfl rfl ?aO ?aR (fun _ _ h => h) (fun _ h => h.elim) ?aF ?aB ?aS ?aL ?_; (case aR => repeat (first | exact (Kd.C_below HR0.out HB.out) | (with_reducible refine Kd.C_alloc ?_ _) | (with_reducible refine Kd.C_drewN ?_ _) | (with_reducible refine Kd.C_drew ?_))); (case aB => exact (by repeat (first | (with_reducible first | exact HB.out | apply below_alloc | apply pw_below_drewN | apply below_drew1) | exact HB.out))); (case aF => exact (fun _ _ => trivial)); (case aO => exact (by (with_reducible repeat (first | apply Kd.R_alloc | apply Kd.R_drewN | apply Kd.R_drew)); exact HO174.out)); (case aS => exact (below_size (by repeat (first | (with_reducible first | exact HB.out | apply below_alloc | apply pw_below_drewN | apply below_drew1) | exact HB.out)))); (case aL => have := LMc2.out; omega); intro v176 w5 ho hb hg hat; rw [← Ny175.out] at ho; have n0_ := Aside0.mk (hb); have n1_ := Aside0.mk (ho); clear HB; clear HO174; have HB := n0_; have HO177 := n1_; clear n0_ n1_; clear ho hb hg hat))
    go_ret
    exact ⟨_, by first | rfl | (simp [errW_none, errW_some] <;> rfl) | (simp [*, errW_none, errW_some] <;> rfl), by (with_reducible repeat (first | apply Kd.R_alloc | apply Kd.R_drewN | apply Kd.R_drew)); exact HO177.out, by repeat (first | (with_reducible first | exact HB.out | apply below_alloc | apply pw_below_drewN | apply below_drew1) | exact HB.out)⟩
  · rw [if_neg c2] at H
    exact absurd H (by simp)

/-! ### impl_joined_1: function 43 -/
def impl_joined_1.f (a0_0 : Int) (a0_1 : Int) (a1_0 : Int) (a1_1 : Int) : Option (Int) := some (wrap64 (a0_0 - a1_0))
set_option maxHeartbeats 8000000 in
set_option maxRecDepth 100000 in
theorem impl_joined_1.calls (a0_0 : Int) (a0_1 : Int) (a1_0 : Int) (a1_1 : Int) (r : Int) (w : World) (h : impl_joined_1.f a0_0 a0_1 a1_0 a1_1 = some r) :
    Calls Try.prog 43 #[.agg #[.int .i64 a0_0, .int .i64 a0_1], .agg #[.int .i64 a1_0, .int .i64 a1_1]] w fun e w' => e = .returned (.int .i64 r) ∧ Below w.heap.size w w' := by
  have hu30 := Try.underlying30
  have HB := Aside0.mk (Below.refl w.heap.size w)
  have H : (some (wrap64 (a0_0 - a1_0))) = some r := h
  clear h
  obtain rfl := Option.some.inj H
  go_enter Try.func43, Try.ntmps43
  go_wp2_with (first | ((with_reducible refine gate_dst (N := 2) rfl ?_); refine box_event ?hg (N := 2) ?hd (cs := #[.int .i64 a0_0, .int .i64 a0_1]) (t := 30) ?hr ?_; (case hd => rfl); (case hg => rfl); (case hr => first | (go_simp; done) | (go_simp; rfl)); intro gb178 hg w3 hbox hb; have n0_ := Aside0.mk (below_step (by repeat (first | (with_reducible first | exact HB.out | apply below_alloc | apply pw_below_drewN | apply below_drew1) | exact HB.out)) hb); have n1_ := Aside0.mk (hbox); have n2_ := Aside0.mk ((by rw [hg]; exact (below_size (by repeat (first | (with_reducible first | exact HB.out | apply below_alloc | apply pw_below_drewN | apply below_drew1) | exact HB.out))) : w.heap.size ≤ gb178)); have n3_ := Aside0.mk ((by rw [hg]; exact (below_size (by repeat (first | (with_reducible first | exact HB.out | apply below_alloc | apply pw_below_drewN | apply below_drew1) | exact HB.out))) : w.heap.size ≤ gb178)); clear HB; have HB := n0_; have BK178 := n1_; have GW178 := n2_; have GE178 := n3_; clear n0_ n1_ n2_ n3_; clear hb hbox hg) | ((with_reducible refine gate_dst (N := 3) rfl ?_); refine box_event ?hg (N := 3) ?hd (cs := #[.int .i64 a1_0, .int .i64 a1_1]) (t := 30) ?hr ?_; (case hd => rfl); (case hg => rfl); (case hr => first | (go_simp; done) | (go_simp; rfl)); intro gb179 hg w4 hbox hb; have n0_ := Aside0.mk (blk_below (g := gb178) (o := .cells #[.int .i64 a0_0, .int .i64 a0_1] 30 (0, 0)) (by (with_reducible repeat (first | refine blk_drewN ?_ _ | refine blk_drew ?_ | refine blk_alloc ?_ _)); exact BK178.out) hb); have n1_ := Aside0.mk (below_step (by repeat (first | (with_reducible first | exact HB.out | apply below_alloc | apply pw_below_drewN | apply below_drew1 | refine below_set ?_ GE178.out) | exact HB.out)) hb); have n2_ := Aside0.mk (hbox); have n3_ := Aside0.mk ((by rw [hg]; exact (below_size (by repeat (first | (with_reducible first | exact HB.out | apply below_alloc | apply pw_below_drewN | apply below_drew1 | refine below_set ?_ GE178.out) | exact HB.out))) : w.heap.size ≤ gb179)); have n4_ := Aside0.mk ((by rw [hg]; exact (below_size (by repeat (first | (with_reducible first | exact HB.out | apply below_alloc | apply pw_below_drewN | apply below_drew1 | refine below_set ?_ GE178.out) | exact HB.out))) : w.heap.size ≤ gb179)); have n5_ := Aside0.mk ((by rw [hg]; exact Nat.ne_of_lt (blk_lt (g := gb178) (o := .cells #[.int .i64 a0_0, .int .i64 a0_1] 30 (0, 0)) (by (with_reducible repeat (first | refine blk_drewN ?_ _ | refine blk_drew ?_ | refine blk_alloc ?_ _)); exact BK178.out)) : gb178 ≠ gb179)); have n6_ := Aside0.mk ((by rw [hg]; exact Nat.ne_of_gt (blk_lt (g := gb178) (o := .cells #[.int .i64 a0_0, .int .i64 a0_1] 30 (0, 0)) (by (with_reducible repeat (first | refine blk_drewN ?_ _ | refine blk_drew ?_ | refine blk_alloc ?_ _)); exact BK178.out)) : gb179 ≠ gb178)); clear BK178; clear HB; have BK178 := n0_; have HB := n1_; have BK179 := n2_; have GW179 := n3_; have GE179 := n4_; have NB178_179 := n5_; have NB179_178 := n6_; clear n0_ n1_ n2_ n3_ n4_ n5_ n6_; clear hb hbox hg; have hnb5 := NB178_179.out; have hnc5 := NB179_178.out; have hcz6_0 : w4.cell? ⟨gb178, 0, none⟩ = some (.int .i64 a0_0) := (blk_cell BK178.out 0).trans rfl; have hcz6_1 : w4.cell? ⟨gb178, 1, none⟩ = some (.int .i64 a0_1) := (blk_cell BK178.out 1).trans rfl; have hfz6_0 := blk_frozen BK178.out 0; have hfz6_1 := blk_frozen BK178.out 1; have hcz7_0 : w4.cell? ⟨gb179, 0, none⟩ = some (.int .i64 a1_0) := (blk_cell BK179.out 0).trans rfl; have hcz7_1 : w4.cell? ⟨gb179, 1, none⟩ = some (.int .i64 a1_1) := (blk_cell BK179.out 1).trans rfl; have hfz7_0 := blk_frozen BK179.out 0; have hfz7_1 := blk_frozen BK179.out 1))
  go_ret
  exact ⟨by first | rfl | (simp [errW_none, errW_some] <;> rfl) | (simp [*, errW_none, errW_some] <;> rfl), by repeat (first | (with_reducible first | exact HB.out | apply below_alloc | apply pw_below_drewN | apply below_drew1 | refine below_set ?_ GE178.out | refine below_set ?_ GE179.out) | exact HB.out)⟩

/-! ### impl_Span_42: function 42: the library's sort at the spans, by the kit's contract of it -/
instance : Inhabited { x : S30 // 0 ≤ x.f0 ∧ x.f0 ≤ 1000000 } := ⟨⟨z30, by decide⟩⟩
def impl_Span_42.cf (x y : { x : S30 // 0 ≤ x.f0 ∧ x.f0 ≤ 1000000 }) : Int := x.1.f0 - y.1.f0
def impl_Span_42.enc (x : { x : S30 // 0 ≤ x.f0 ∧ x.f0 ≤ 1000000 }) : List Value := [.int .i64 x.1.f0, .int .i64 x.1.f1]
def impl_Span_42.arr (l : List (S30)) (h : ∀ x ∈ l, 0 ≤ x.f0 ∧ x.f0 ≤ 1000000) : Array { x : S30 // 0 ≤ x.f0 ∧ x.f0 ≤ 1000000 } := (l.attachWith (fun x => 0 ≤ x.f0 ∧ x.f0 ≤ 1000000) h).toArray
def impl_Span_42.done (d : Array { x : S30 // 0 ≤ x.f0 ∧ x.f0 ≤ 1000000 }) : Array { x : S30 // 0 ≤ x.f0 ∧ x.f0 ≤ 1000000 } := Go.Sort.pdq (Go.Proofs.ltOf impl_Span_42.cf) d 0 d.size (Go.Lib.bitLen d.size) true true
def impl_Span_42.f (l0 : List (S30)) : Option (List (S30)) := if l0.length ≤ 1000000 then (if h : ∀ x ∈ l0, 0 ≤ x.f0 ∧ x.f0 ≤ 1000000 then some ((impl_Span_42.done (impl_Span_42.arr l0 h)).toList.map (·.1)) else none) else none
theorem impl_Span_42.swo : Go.Sort.SWO (Go.Proofs.ltOf impl_Span_42.cf) where
  irrefl x := by unfold Go.Proofs.ltOf impl_Span_42.cf; simp
  trans x y z h1 h2 := by
    unfold Go.Proofs.ltOf impl_Span_42.cf at *
    simp only [decide_eq_true_eq] at *
    omega
  ntrans x y z h1 h2 := by
    unfold Go.Proofs.ltOf impl_Span_42.cf at *
    simp only [decide_eq_false_iff_not] at *
    omega
theorem impl_Span_42.size (l : List (S30)) (h : ∀ x ∈ l, 0 ≤ x.f0 ∧ x.f0 ≤ 1000000) : (impl_Span_42.arr l h).size = l.length := by unfold impl_Span_42.arr; simp
theorem impl_Span_42.at_ (l : List (S30)) (h : ∀ x ∈ l, 0 ≤ x.f0 ∧ x.f0 ≤ 1000000) (j : Nat) (hj : j < l.length) : (impl_Span_42.arr l h)[j]!.1 = l[j] := by
  rw [getElem!_pos _ j (by rw [impl_Span_42.size]; exact hj)]
  unfold impl_Span_42.arr
  simp
theorem impl_Span_42.sorts (l : List (S30)) (h : ∀ x ∈ l, 0 ≤ x.f0 ∧ x.f0 ≤ 1000000) : Go.Sort.PermIn 0 (impl_Span_42.arr l h).size (impl_Span_42.arr l h) (impl_Span_42.done (impl_Span_42.arr l h)) ∧ Go.Sort.SortedIn (Go.Proofs.ltOf impl_Span_42.cf) 0 (impl_Span_42.arr l h).size (impl_Span_42.done (impl_Span_42.arr l h)) :=
  Go.Sort.pdq_sorts (Go.Proofs.ltOf impl_Span_42.cf) impl_Span_42.swo (impl_Span_42.arr l h) 0 (impl_Span_42.arr l h).size (Go.Lib.bitLen (impl_Span_42.arr l h).size) true true (Nat.zero_le _) (Nat.le_refl _) (Or.inl rfl)
/-- What comes out: the same spans, by their beginnings. -/
theorem impl_Span_42.out (l r : List (S30)) (h : impl_Span_42.f l = some r) : r.Perm l ∧ r.Pairwise fun a b => a.f0 ≤ b.f0 := by
  unfold impl_Span_42.f at h
  split at h
  case isFalse => cases h
  split at h
  · rename_i hb
    obtain rfl := Option.some.inj h
    obtain ⟨⟨hs, _, hp⟩, ho⟩ := impl_Span_42.sorts l hb
    refine ⟨?_, ?_⟩
    · have e1 : (impl_Span_42.done (impl_Span_42.arr l hb)).extract 0 (impl_Span_42.arr l hb).size = impl_Span_42.done (impl_Span_42.arr l hb) := by rw [← hs, Array.extract_size]
      rw [e1, Array.extract_size] at hp
      have h2 := hp.map (fun x : { x : S30 // 0 ≤ x.f0 ∧ x.f0 ≤ 1000000 } => x.1)
      have e2 : (impl_Span_42.arr l hb).toList.map (fun x : { x : S30 // 0 ≤ x.f0 ∧ x.f0 ≤ 1000000 } => x.1) = l := by
        unfold impl_Span_42.arr
        simp
      rwa [e2] at h2
    · rw [List.pairwise_map, List.pairwise_iff_getElem]
      intro i j hi hj hij
      have hi' : i < (impl_Span_42.done (impl_Span_42.arr l hb)).size := by simpa using hi
      have hj' : j < (impl_Span_42.done (impl_Span_42.arr l hb)).size := by simpa using hj
      have h3 := ho i j (Nat.zero_le _) hij (by rw [← hs]; exact hj')
      rw [getElem!_pos _ i hi', getElem!_pos _ j hj'] at h3
      unfold Go.Proofs.ltOf impl_Span_42.cf at h3
      simp only [decide_eq_false_iff_not] at h3
      simp only [Array.getElem_toList]
      omega
  · cases h
theorem impl_Span_42.seg (D : Array { x : S30 // 0 ≤ x.f0 ∧ x.f0 ≤ 1000000 }) (j : Nat) (hj : j < D.size) : ((Go.Sort.flatK impl_Span_42.enc 2 D).toList.drop (j * 2)).take 2 = impl_Span_42.enc D[j] := by
  have hs : (Go.Sort.flatK impl_Span_42.enc 2 D).size = D.size * 2 := Go.Sort.size_flatK _ _ _
  have g0 := Go.Sort.get_flatK impl_Span_42.enc 2 D (j * 2) (by omega)
  have g1 := Go.Sort.get_flatK impl_Span_42.enc 2 D (j * 2 + 1) (by omega)
  rw [getElem!_pos _ _ (by rw [hs]; omega), show j * 2 / 2 = j by omega, show j * 2 % 2 = 0 by omega, getElem!_pos D j hj] at g0
  rw [getElem!_pos _ _ (by rw [hs]; omega), show (j * 2 + 1) / 2 = j by omega, show (j * 2 + 1) % 2 = 1 by omega, getElem!_pos D j hj] at g1
  rw [List.drop_eq_getElem_cons (by rw [Array.length_toList, hs]; omega), List.drop_eq_getElem_cons (by rw [Array.length_toList, hs]; omega), Array.getElem_toList, Array.getElem_toList, g0, g1]
  rfl
theorem impl_Span_42.heap (w : World) (g n : Nat) (D : Array { x : S30 // 0 ≤ x.f0 ∧ x.f0 ≤ 1000000 }) (os : Array Obj) (k : Nat) (hk : k < w.heap.size) : (Go.Proofs.sortWorldK impl_Span_42.enc 2 w g 0 n D os).heap[k]? = if g = k then (w.heap[k]?).map (Go.Sort.onCells (Go.Sort.putCells id 0 (Go.Sort.flatK impl_Span_42.enc 2 D))) else w.heap[k]? := by
  show ((w.heap.modify g (Go.Sort.onCells (Go.Sort.putCells id 0 (Go.Sort.flatK impl_Span_42.enc 2 D)))) ++ os)[k]? = _
  rw [Array.getElem?_append_left (by simpa using hk), Array.getElem?_modify]
theorem impl_Span_42.grown (w : World) (g n : Nat) (D : Array { x : S30 // 0 ≤ x.f0 ∧ x.f0 ≤ 1000000 }) (os : Array Obj) : w.grownBy (Go.Proofs.sortWorldK impl_Span_42.enc 2 w g 0 n D os) (some g) := by
  refine ⟨rfl, rfl, rfl, ?_, fun k hk hne => ?_⟩
  · show w.heap.size ≤ ((w.heap.modify g (Go.Sort.onCells (Go.Sort.putCells id 0 (Go.Sort.flatK impl_Span_42.enc 2 D)))) ++ os).size
    simp
  · rw [impl_Span_42.heap w g n D os k hk, if_neg (fun e => hne (by rw [e]))]
theorem impl_Span_42.row {w0 w : World} {P0_ : Nat → Prop} {g cap n : Nat} {l0 : List (S30)} (D : Array { x : S30 // 0 ≤ x.f0 ∧ x.f0 ≤ 1000000 }) (os : Array Obj) (hD : D.size = l0.length) (ho : Kd.R k30 30 w w0.heap.size P0_ (.slice (some ⟨g, 0, none⟩) l0.length cap) l0) :
    Kd.R k30 30 (Go.Proofs.sortWorldK impl_Span_42.enc 2 w g 0 n D os) w0.heap.size (fun k_ => (P0_ k_ ∨ w.heap.size ≤ k_)) (.slice (some ⟨g, 0, none⟩) l0.length cap) (D.toList.map (·.1)) := by
  have hgl := Kd.R_lt ho g rfl
  obtain ⟨hok, inner, ⟨hlen, hown⟩, hreps⟩ := ho
  rcases hown with ⟨hv, _⟩ | ⟨g', cap', cur, hv, hbase, hheap, hnc, hcm, hcs, htk⟩
  · cases hv
  · injection hv with hv1 _ hv3
    injection hv1 with hv1
    injection hv1 with hv1
    subst hv1 hv3
    have hs : (Go.Sort.flatK impl_Span_42.enc 2 D).size = l0.length * 2 := by rw [Go.Sort.size_flatK, hD]
    have hcs2 : cur.size = cap * 2 := hcs
    have hDl : (D.toList.map (fun x : { x : S30 // 0 ≤ x.f0 ∧ x.f0 ≤ 1000000 } => x.1)).length = l0.length := by rw [List.length_map]; exact hD
    have hFl : (Go.Sort.flatK impl_Span_42.enc 2 D).toList.length = l0.length * 2 := hs
    have hPs : (Go.Sort.putCells id 0 (Go.Sort.flatK impl_Span_42.enc 2 D) cur).size = cap * 2 := by
      unfold Go.Sort.putCells
      rw [Array.size_mapIdx]
      exact hcs2
    refine ⟨fun k hk => .inl (hok k hk), (Go.Sort.flatK impl_Span_42.enc 2 D).toList, ⟨?_, .inr ⟨g, cap, Go.Sort.putCells id 0 (Go.Sort.flatK impl_Span_42.enc 2 D) cur, ?_, hbase, ?_, ?_, hcm, ?_, ?_⟩⟩, ?_, fun j p hj => ?_⟩
    · rw [hFl, hDl]
      rfl
    · rw [hDl]
    · rw [impl_Span_42.heap w g n D os g hgl, if_pos rfl, hheap]
      rfl
    · rw [hDl]
      exact hnc
    · exact hPs
    · rw [hDl]
      refine List.ext_getElem ?_ (fun t h1 h2 => ?_)
      · rw [List.length_take, hFl]
        show min (l0.length * 2) (Go.Sort.putCells id 0 (Go.Sort.flatK impl_Span_42.enc 2 D) cur).size = _
        omega
      · have ht : t < l0.length * 2 := by rw [hFl] at h2; exact h2
        rw [List.getElem_take, Array.getElem_toList, Array.getElem_toList]
        unfold Go.Sort.putCells
        rw [Array.getElem_mapIdx, if_pos ⟨Nat.zero_le _, by rw [hs]; omega⟩, Nat.sub_zero, getElem!_pos _ t (by rw [hs]; exact ht)]
        rfl
    · rw [hFl, hDl]
      rfl
    · rw [List.getElem?_map, Option.map_eq_some_iff] at hj
      obtain ⟨x, hx, rfl⟩ := hj
      obtain ⟨hjl, hje⟩ := List.getElem?_eq_some_iff.1 hx
      have hjD : j < D.size := by simpa using hjl
      show k30.M _ _ _ _ (((Go.Sort.flatK impl_Span_42.enc 2 D).toList.drop (j * 2)).take 2)
      rw [impl_Span_42.seg D j hjD, show D[j] = x from hje]
      exact k30_mkM _ _ _ x.1
theorem impl_Span_42.holds {w0 w : World} {P0_ : Nat → Prop} {g cap : Nat} {l0 : List (S30)} (h : ∀ x ∈ l0, 0 ≤ x.f0 ∧ x.f0 ≤ 1000000) (ho : Kd.R k30 30 w w0.heap.size P0_ (.slice (some ⟨g, 0, none⟩) l0.length cap) l0) : Go.Sort.HoldsK impl_Span_42.enc 2 w g 0 (impl_Span_42.arr l0 h) := by
  intro t ht
  have ht2 : t < l0.length * 2 := by rw [Go.Sort.size_flatK, impl_Span_42.size] at ht; exact ht
  have hq : t / 2 < l0.length := by omega
  obtain ⟨c, hcl, hM, hc, hf⟩ := Kd.R_elem ho z30 ((t / 2 : Nat) : Int) (by omega) (by omega)
  rw [Int.toNat_natCast] at hM hc hf
  have hf2 : w.frozen? ⟨g, t, none⟩ = false := by
    have := hf (t % 2)
    rwa [show t / 2 * k30.sz + t % 2 = t from (show t / 2 * 2 + t % 2 = t by omega)] at this
  have hce := k30_openM hM
  have hget : l0.getD (t / 2) z30 = l0[t / 2] := by
    rw [List.getD_eq_getElem?_getD, List.getElem?_eq_getElem hq]
    rfl
  rw [hget] at hce
  rw [Nat.zero_add, Go.Sort.get_flatK _ _ _ t (by rw [impl_Span_42.size]; exact ht2)]
  refine ⟨?_, hf2⟩
  unfold impl_Span_42.enc
  rw [impl_Span_42.at_ l0 h (t / 2) hq]
  rcases show t % 2 = 0 ∨ t % 2 = 1 by omega with h2 | h2
  · rw [h2]
    have := hc 0 (.int .i64 (l0[t / 2]).f0) (by rw [hce]; rfl)
    rw [show t / 2 * k30.sz + 0 = t from (show t / 2 * 2 + 0 = t by omega)] at this
    exact this
  · rw [h2]
    have := hc 1 (.int .i64 (l0[t / 2]).f1) (by rw [hce]; rfl)
    rw [show t / 2 * k30.sz + 1 = t from (show t / 2 * 2 + 1 = t by omega)] at this
    exact this
def impl_Span_42.ren : Go.Shelf.Ren := ⟨fun | 6 => 42 | 14 => 45 | 15 => 46 | 20 => 47 | 21 => 48 | 22 => 49 | 23 => 50 | 24 => 51 | 25 => 52 | 26 => 53 | 27 => 54 | 28 => 55 | 29 => 56 | 46 => 57 | 47 => 58 | 48 => 59 | 49 => 60 | 50 => 61 | 57 => 62 | n => n, fun | 22 => 26 | 24 => 30 | 25 => 51 | 39 => 55 | 45 => 57 | 46 => 58 | 50 => 62 | 53 => 65 | 55 => 67 | 66 => 68 | 70 => 72 | 76 => 74 | 77 => 75 | n => n, fun | n => n⟩
theorem impl_Span_42.lay : Go.Proofs.SlLaysF0.n6 Try.prog impl_Span_42.ren := {
  mixed := by kernel_rfl
  f6 := ⟨Try.f42.name, by decide, Try.func42.trans (congrArg some (by kernel_rfl))⟩
  f14 := ⟨Try.f45.name, by decide, Try.func45.trans (congrArg some (by kernel_rfl))⟩
  f15 := Try.func46.trans (congrArg some (by kernel_rfl))
  f20 := ⟨Try.f47.name, by decide, Try.func47.trans (congrArg some (by kernel_rfl))⟩
  f21 := ⟨Try.f48.name, by decide, Try.func48.trans (congrArg some (by kernel_rfl))⟩
  f22 := ⟨Try.f49.name, by decide, Try.func49.trans (congrArg some (by kernel_rfl))⟩
  f23 := ⟨Try.f50.name, by decide, Try.func50.trans (congrArg some (by kernel_rfl))⟩
  f24 := ⟨Try.f51.name, by decide, Try.func51.trans (congrArg some (by kernel_rfl))⟩
  f25 := ⟨Try.f52.name, by decide, Try.func52.trans (congrArg some (by kernel_rfl))⟩
  f26 := ⟨Try.f53.name, by decide, Try.func53.trans (congrArg some (by kernel_rfl))⟩
  f27 := ⟨Try.f54.name, by decide, Try.func54.trans (congrArg some (by kernel_rfl))⟩
  f28 := Try.func55.trans (congrArg some (by kernel_rfl))
  f29 := Try.func56.trans (congrArg some (by kernel_rfl))
  f46 := ⟨Try.f57.name, by decide, Try.func57.trans (congrArg some (by kernel_rfl))⟩
  f47 := Try.func58.trans (congrArg some (by kernel_rfl))
  f48 := Try.func59.trans (congrArg some (by kernel_rfl))
  f49 := ⟨Try.f60.name, by decide, Try.func60.trans (congrArg some (by kernel_rfl))⟩
  f50 := ⟨Try.f61.name, by decide, Try.func61.trans (congrArg some (by kernel_rfl))⟩
  f57 := ⟨Try.f62.name, by decide, Try.func62.trans (congrArg some (by kernel_rfl))⟩
  t0 := Try.underlying0
  a0 := Try.isAgg0
  z0 := Try.sizeOf0
  v0 := Try.zeroValue0
  t3 := Try.underlying3
  a3 := Try.isAgg3
  z3 := Try.sizeOf3
  v3 := Try.zeroValue3
  t4 := Try.underlying4
  a4 := Try.isAgg4
  z4 := Try.sizeOf4
  v4 := Try.zeroValue4
  t5 := Try.underlying5
  a5 := Try.isAgg5
  z5 := Try.sizeOf5
  v5 := Try.zeroValue5
  t9 := Try.underlying9
  a9 := Try.isAgg9
  z9 := Try.sizeOf9
  v9 := Try.zeroValue9
  t22 := Try.underlying26
  a22 := Try.isAgg26
  z22 := Try.sizeOf26
  v22 := Try.zeroValue26
  t25 := Try.underlying51
  a25 := Try.isAgg51
  z25 := Try.sizeOf51
  v25 := Try.zeroValue51
  t39 := Try.underlying55
  a39 := Try.isAgg55
  z39 := Try.sizeOf55
  v39 := Try.zeroValue55
  t45 := Try.underlying57
  a45 := Try.isAgg57
  z45 := Try.sizeOf57
  v45 := Try.zeroValue57
  t46 := Try.underlying58
  a46 := Try.isAgg58
  z46 := Try.sizeOf58
  v46 := Try.zeroValue58
  t50 := Try.underlying62
  a50 := Try.isAgg62
  z50 := Try.sizeOf62
  v50 := Try.zeroValue62
  t53 := Try.underlying65
  a53 := Try.isAgg65
  z53 := Try.sizeOf65
  v53 := Try.zeroValue65
  t55 := Try.underlying67
  a55 := Try.isAgg67
  z55 := Try.sizeOf67
  v55 := Try.zeroValue67
  t66 := Try.underlying68
  a66 := Try.isAgg68
  z66 := Try.sizeOf68
  v66 := Try.zeroValue68
  t70 := Try.underlying72
  a70 := Try.isAgg72
  z70 := Try.sizeOf72
  v70 := Try.zeroValue72
  t76 := Try.underlying74
  a76 := Try.isAgg74
  z76 := Try.sizeOf74
  v76 := Try.zeroValue74
  t77 := Try.underlying75
  a77 := Try.isAgg75
  z77 := Try.sizeOf75
  v77 := Try.zeroValue75 }
theorem impl_Span_42.w0 {x : Int} (h0 : -1000000 ≤ x) (h1 : x ≤ 1000000) : wrap64 x = x := by unfold wrap64; omega
set_option maxHeartbeats 8000000 in
set_option maxRecDepth 100000 in
theorem impl_Span_42.clo (x y : { x : S30 // 0 ≤ x.f0 ∧ x.f0 ≤ 1000000 }) (W : World) : Calls Try.prog 43 #[.agg (impl_Span_42.enc x).toArray, .agg (impl_Span_42.enc y).toArray] W fun e w' => e = .returned (.int .i64 (impl_Span_42.cf x y)) ∧ ∃ q os', w' = Go.Sort.grow (W.drewN q) os' := by
  have hu30 := Try.underlying30
  have e0 : wrap64 (x.1.f0 - y.1.f0) = impl_Span_42.cf x y := impl_Span_42.w0 (by have := x.2; have := y.2; omega) (by have := x.2; have := y.2; omega)
  rw [← e0]
  clear e0
  unfold impl_Span_42.enc
  generalize x.1.f0 = x0
  generalize x.1.f1 = x1
  generalize y.1.f0 = y0
  generalize y.1.f1 = y1
  clear x y
  go_enter Try.func43, Try.ntmps43
  go_wp2
  go_ret
  exact ⟨by first | rfl | (simp; done), 0, _, by rw [Go.Sort.alloc_eq_grow, Go.Sort.alloc_eq_grow, Go.Sort.grow_grow]; rfl⟩
theorem impl_Span_42.calls (P0_ : Nat → Prop) (u9000_ : Value) (l0 : List (S30)) (r : List (S30)) (w0 w : World) (hB : Below w0.heap.size w0 w) (ho0 : Kd.R k30 30 w w0.heap.size P0_ u9000_ l0) (h : impl_Span_42.f l0 = some r) :
    Calls Try.prog 42 #[u9000_, .func (.func 43) #[] #[]] w fun e w' => e = .returned (.tuple #[]) ∧ Kd.R k30 30 w' w0.heap.size (fun k_ => (P0_ k_ ∨ w.heap.size ≤ k_)) u9000_ r ∧ Below w0.heap.size w0 w' ∧ Kept w w' (fun k_ => P0_ k_) := by
  unfold impl_Span_42.f at h
  split at h
  case isFalse => cases h
  rename_i hsz
  split at h
  · rename_i hb
    obtain rfl := Option.some.inj h
    by_cases hl : 0 < l0.length
    · obtain ⟨g, cap, rfl, hg, hgl, -⟩ := Kd.R_form ho0 hl
      have hok : P0_ g := ho0.1 g rfl
      have eg : ∀ args w, (callFunc 43 args).run Try.prog w = .ok (.enter 43 args) w := enters_of Try.func43 (by kernel_rfl) rfl
      have hcon := Go.Proofs.AnyQ.slices_SortFunc_eq impl_Span_42.lay 2 Try.isAgg30 Try.sizeOf30 impl_Span_42.enc (fun _ => rfl) (fun x v hv => by unfold impl_Span_42.enc at hv; simp at hv; rcases hv with rfl | rfl <;> rfl) impl_Span_42.cf impl_Span_42.swo 43 #[] g 0 cap (impl_Span_42.arr l0 hb) w eg (fun _ _ _ _ x y => impl_Span_42.clo x y _) (impl_Span_42.holds hb ho0) hgl (by rw [impl_Span_42.size]; omega)
      have e1 := impl_Span_42.size l0 hb
      rw [show (Value.slice (some ⟨g, 0, none⟩) (impl_Span_42.arr l0 hb).size cap) = Value.slice (some ⟨g, 0, none⟩) l0.length cap by rw [e1]] at hcon
      change Calls Try.prog 42 _ _ _ at hcon
      refine hcon.mono ?_
      rintro e w' ⟨rfl, n, os, rfl⟩
      have hD : (impl_Span_42.done (impl_Span_42.arr l0 hb)).size = l0.length := by rw [← e1]; exact (impl_Span_42.sorts l0 hb).1.1
      have hgr := impl_Span_42.grown w g n (impl_Span_42.done (impl_Span_42.arr l0 hb)) os
      exact ⟨rfl, impl_Span_42.row (impl_Span_42.done (impl_Span_42.arr l0 hb)) os hD ho0, pw_below_grown hB (some g) hB.size hgr (fun k hk => by cases hk; exact hg), Kept.of_grown hgr (Kept.refl w _) (fun k hk => by cases hk; exact .inl hok)⟩
    · obtain rfl : l0 = [] := List.eq_nil_of_length_eq_zero (by omega)
      obtain ⟨p, cap, rfl⟩ := Kd.R_slice ho0
      have hcon := Go.Proofs.AnyF.slices_SortFunc_none impl_Span_42.lay p cap (.func (.func 43) #[] #[]) w
      change Calls Try.prog 42 _ _ _ at hcon
      refine hcon.mono ?_
      rintro e w' ⟨rfl, rfl⟩
      have e0 : ((impl_Span_42.done (impl_Span_42.arr [] hb)).toList.map (fun x : { x : S30 // 0 ≤ x.f0 ∧ x.f0 ≤ 1000000 } => x.1)) = [] := by
        have := (impl_Span_42.sorts [] hb).1.1
        rw [impl_Span_42.size] at this
        exact List.eq_nil_of_length_eq_zero (by rw [List.length_map, Array.length_toList]; exact this)
      exact ⟨rfl, by rw [e0]; exact Kd.R_mono ho0 (fun k hk => .inl hk), hB, Kept.refl w' _⟩
  · cases h

end Go.Proofs.Ytobnbhkfbdlioaa.Sj
