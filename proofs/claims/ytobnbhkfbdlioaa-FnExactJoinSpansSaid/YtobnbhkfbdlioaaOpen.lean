/- Arguments that are slices of structs of whole numbers, as a law's row reads them. Conditions: each field is one cell of the kind int. -/
import Derived.Deep.Slices
import Derived.Deep.Fields
import Derived.ChangeSame
import Derived.ChangeArms
import Derived.Lib.SmallJoins
import Derived.Test.YtobnbhkfbdlioaaWWords
namespace Go.Proofs.YtobnbhkfbdlioaaOpen
open Go.ChangeShapes Go.WideShapes Go.Deep Go.RowKit Go.Proofs.YtobnbhkfbdlioaaW.PrintWords
section
variable {H : Type} {enc : TypeId × Value → H} {P : Program} {w : World} {base : Nat} {spare : Nat → Bool} {held : Bool}
theorem open_slice_fields {t e : TypeId} {fs : Array Field} {fuel : Nat} {cs : List Value} {x : DataW H × List MemPlace} (ht : P.underlying t = some (.slice e)) (he : P.underlying e = some (.struct fs))
    (hone : oneCellFields P fs = true) (hC : P.cellsOf e = fs.size) (h : DataW.trod enc P w base spare held fuel t cs = some x) :
    (cs = [.slice none 0 0] ∧ x = (.nil, [])) ∨
    ∃ (a : Addr) (len cap m : Nat) (D : Nat → DataW H) (Pl : Nat → List MemPlace), cs = [.slice (some a) len cap] ∧ base ≤ a.block ∧ len ≤ cap ∧ cap ≤ maxLen ∧ m = (if spare a.block then cap else len) ∧
      x = (.slice ((List.range len).map D) ((List.range (m - len)).map fun j => D (len + j)), MemPlace.row a (m * fs.size) ++ (List.range m).flatMap Pl) ∧
      ∀ i, i < m → ∃ (ys : List (DataW H × List MemPlace)) (n : Nat), D i = .agg (ys.map (·.1)) ∧ Pl i = ys.flatMap (·.2) ∧ ys.length = fs.size ∧
        ∀ (j : Nat) (f : Field), fs[j]? = some f → ∃ (v : Value) (y : DataW H × List MemPlace), w.cell? (a.add (i * fs.size + j)) = some v ∧ ys[j]? = some y ∧ DataW.trod enc P w base spare held n f.type [v] = some y := by
  rcases open_slice ht h with h0 | ⟨a, len, cap, m, n, D, Pl, hcs, hb, hl, hm, hmm, hx, hi⟩
  · exact .inl h0
  · refine .inr ⟨a, len, cap, m, D, Pl, hcs, hb, hl, hm, hmm, by rw [hC] at hx; exact hx, fun i him => ?_⟩
    obtain ⟨cs', hc, ht'⟩ := hi i him
    rw [hC] at hc
    obtain ⟨ys, n', hn', hy, hlen, hyl, hf⟩ := DataW.trod_struct he ht'
    obtain ⟨_, hcl, hat⟩ := World.cells?_some hc
    simp only [Prod.mk.injEq] at hy
    refine ⟨ys, n', hy.1, hy.2, hyl, fun j f hj => ?_⟩
    obtain ⟨ho, hk⟩ := hone_of hone j f hj
    have hjl : j < fs.size := (Array.getElem?_eq_some_iff.1 hj).1
    have hcell := hat j hjl
    have hv : cs'[j]? = some (cs'[j]'(by omega)) := List.getElem?_eq_getElem (by omega)
    have h1 := hf j f hj
    rw [ho, hk] at h1
    have hone' : (cs'.drop j).take 1 = [cs'[j]'(by omega)] := by
      rw [List.drop_eq_getElem_cons (by omega)]
      rfl
    rw [hone'] at h1
    have hys : ys[j]? = some (ys[j]'(by omega)) := List.getElem?_eq_getElem (by omega)
    refine ⟨_, _, ?_, hys, h1.trans hys⟩
    rw [← Go.Deep.add_add, hcell, hv]
theorem rows2 {α : Type} {d : Kd α} (mk : Int → Int → α) (hsz : d.sz = 2) (hmk : ∀ (w : World) (x0 x1 : Int), d.K w (mk x0 x1) [.int .i64 x0, .int .i64 x1]) {t e : TypeId} {f0 f1 : Field}
    (ht : P.underlying t = some (.slice e)) (he : P.underlying e = some (.struct #[f0, f1])) (hone : oneCellFields P #[f0, f1] = true) (hC : P.cellsOf e = 2)
    (u0 : P.underlying f0.type = some (.int .i64)) (u1 : P.underlying f1.type = some (.int .i64))
    {a : Option Addr} {len cap : Nat} {D : DataW H} {ps : List MemPlace} (h : DataW.Trod enc P w base spare held t (.slice a len cap) D ps) :
    ∃ l : List α, len = l.length ∧ l.length ≤ cap ∧ l.length ≤ maxLen ∧ d.C w a l.length l ∧ ∀ x ∈ l, ∃ p0 p1 : Int, x = mk p0 p1 ∧ (Lit.int .i64 p0).wf = true ∧ (Lit.int .i64 p1).wf = true := by
  obtain ⟨fuel, hf⟩ := h
  rcases open_slice_fields ht he hone hC hf with ⟨hcs, _⟩ | ⟨a', len', cap', m, D', Pl, hcs, _, hl, hm, hmm, _, hi⟩
  · simp [Value.cells] at hcs
    obtain ⟨rfl, rfl, rfl⟩ := hcs
    exact ⟨[], rfl, Nat.zero_le _, Nat.zero_le _, ⟨rfl, Nat.zero_le _, fun h => absurd h (Nat.lt_irrefl 0)⟩, fun x hx => by cases hx⟩
  · simp [Value.cells] at hcs
    obtain ⟨rfl, rfl, rfl⟩ := hcs
    have hlm : len ≤ m := by
      rw [hmm]
      split
      · exact hl
      · exact Nat.le_refl _
    have key : ∀ i, i < len → ∃ p : Fin 2 → Int, ∀ j : Fin 2, (Lit.int .i64 (p j)).wf = true ∧ w.cell? (a'.add (i * 2 + j.val)) = some (.int .i64 (p j)) := by
      intro i hi'
      obtain ⟨ys, n, _, _, hyl, hg⟩ := hi i (by omega)
      obtain ⟨v0, y0, hc0, _, ht0⟩ := hg 0 f0 rfl
      obtain ⟨p0, e0, _, w0⟩ := DataW.trod_int u0 ht0
      obtain rfl : v0 = .int .i64 p0 := by simpa using e0
      obtain ⟨v1, y1, hc1, _, ht1⟩ := hg 1 f1 rfl
      obtain ⟨p1, e1, _, w1⟩ := DataW.trod_int u1 ht1
      obtain rfl : v1 = .int .i64 p1 := by simpa using e1
      exact ⟨fun j => match j with | ⟨0, _⟩ => p0 | ⟨1, _⟩ => p1, fun j => match j with | ⟨0, _⟩ => ⟨w0, hc0⟩ | ⟨1, _⟩ => ⟨w1, hc1⟩⟩
    obtain ⟨f, hff⟩ := choose_lt key
    refine ⟨(List.range len).map fun i => mk (f i 0) (f i 1), by simp, by simpa using hl, by simpa using Nat.le_trans hl hm, ⟨rfl, by simpa using Nat.le_trans hl (Nat.le_trans hm (by unfold maxLen; omega)), fun _ => ⟨a', rfl, fun j p hj => ?_⟩⟩, fun x hx => ?_⟩
    · simp only [List.getElem?_map, Option.map_eq_some_iff] at hj
      obtain ⟨i, hi2, rfl⟩ := hj
      obtain ⟨hjl, hje⟩ := List.getElem?_eq_some_iff.1 hi2
      simp at hjl hje
      subst hje
      refine ⟨_, ?_, hmk w _ _, fun i u hu => ?_⟩
      · rw [hsz]; rfl
      · rw [hsz]
        match i, hu with
        | 0, hu => cases hu; exact (hff j hjl 0).2
        | 1, hu => cases hu; exact (hff j hjl 1).2
        | i + 2, hu => simp at hu
    · simp only [List.mem_map, List.mem_range] at hx
      obtain ⟨i, hil, rfl⟩ := hx
      exact ⟨_, _, rfl, (hff i hil 0).1, (hff i hil 1).1⟩
theorem rows3 {α : Type} {d : Kd α} (mk : Int → Int → Int → α) (hsz : d.sz = 3) (hmk : ∀ (w : World) (x0 x1 x2 : Int), d.K w (mk x0 x1 x2) [.int .i64 x0, .int .i64 x1, .int .i64 x2]) {t e : TypeId} {f0 f1 f2 : Field}
    (ht : P.underlying t = some (.slice e)) (he : P.underlying e = some (.struct #[f0, f1, f2])) (hone : oneCellFields P #[f0, f1, f2] = true) (hC : P.cellsOf e = 3)
    (u0 : P.underlying f0.type = some (.int .i64)) (u1 : P.underlying f1.type = some (.int .i64)) (u2 : P.underlying f2.type = some (.int .i64))
    {a : Option Addr} {len cap : Nat} {D : DataW H} {ps : List MemPlace} (h : DataW.Trod enc P w base spare held t (.slice a len cap) D ps) :
    ∃ l : List α, len = l.length ∧ l.length ≤ cap ∧ l.length ≤ maxLen ∧ d.C w a l.length l ∧ ∀ x ∈ l, ∃ p0 p1 p2 : Int, x = mk p0 p1 p2 ∧ (Lit.int .i64 p0).wf = true ∧ (Lit.int .i64 p1).wf = true ∧ (Lit.int .i64 p2).wf = true := by
  obtain ⟨fuel, hf⟩ := h
  rcases open_slice_fields ht he hone hC hf with ⟨hcs, _⟩ | ⟨a', len', cap', m, D', Pl, hcs, _, hl, hm, hmm, _, hi⟩
  · simp [Value.cells] at hcs
    obtain ⟨rfl, rfl, rfl⟩ := hcs
    exact ⟨[], rfl, Nat.zero_le _, Nat.zero_le _, ⟨rfl, Nat.zero_le _, fun h => absurd h (Nat.lt_irrefl 0)⟩, fun x hx => by cases hx⟩
  · simp [Value.cells] at hcs
    obtain ⟨rfl, rfl, rfl⟩ := hcs
    have hlm : len ≤ m := by
      rw [hmm]
      split
      · exact hl
      · exact Nat.le_refl _
    have key : ∀ i, i < len → ∃ p : Fin 3 → Int, ∀ j : Fin 3, (Lit.int .i64 (p j)).wf = true ∧ w.cell? (a'.add (i * 3 + j.val)) = some (.int .i64 (p j)) := by
      intro i hi'
      obtain ⟨ys, n, _, _, hyl, hg⟩ := hi i (by omega)
      obtain ⟨v0, y0, hc0, _, ht0⟩ := hg 0 f0 rfl
      obtain ⟨p0, e0, _, w0⟩ := DataW.trod_int u0 ht0
      obtain rfl : v0 = .int .i64 p0 := by simpa using e0
      obtain ⟨v1, y1, hc1, _, ht1⟩ := hg 1 f1 rfl
      obtain ⟨p1, e1, _, w1⟩ := DataW.trod_int u1 ht1
      obtain rfl : v1 = .int .i64 p1 := by simpa using e1
      obtain ⟨v2, y2, hc2, _, ht2⟩ := hg 2 f2 rfl
      obtain ⟨p2, e2, _, w2⟩ := DataW.trod_int u2 ht2
      obtain rfl : v2 = .int .i64 p2 := by simpa using e2
      exact ⟨fun j => match j with | ⟨0, _⟩ => p0 | ⟨1, _⟩ => p1 | ⟨2, _⟩ => p2, fun j => match j with | ⟨0, _⟩ => ⟨w0, hc0⟩ | ⟨1, _⟩ => ⟨w1, hc1⟩ | ⟨2, _⟩ => ⟨w2, hc2⟩⟩
    obtain ⟨f, hff⟩ := choose_lt key
    refine ⟨(List.range len).map fun i => mk (f i 0) (f i 1) (f i 2), by simp, by simpa using hl, by simpa using Nat.le_trans hl hm, ⟨rfl, by simpa using Nat.le_trans hl (Nat.le_trans hm (by unfold maxLen; omega)), fun _ => ⟨a', rfl, fun j p hj => ?_⟩⟩, fun x hx => ?_⟩
    · simp only [List.getElem?_map, Option.map_eq_some_iff] at hj
      obtain ⟨i, hi2, rfl⟩ := hj
      obtain ⟨hjl, hje⟩ := List.getElem?_eq_some_iff.1 hi2
      simp at hjl hje
      subst hje
      refine ⟨_, ?_, hmk w _ _ _, fun i u hu => ?_⟩
      · rw [hsz]; rfl
      · rw [hsz]
        match i, hu with
        | 0, hu => cases hu; exact (hff j hjl 0).2
        | 1, hu => cases hu; exact (hff j hjl 1).2
        | 2, hu => cases hu; exact (hff j hjl 2).2
        | i + 3, hu => simp at hu
    · simp only [List.mem_map, List.mem_range] at hx
      obtain ⟨i, hil, rfl⟩ := hx
      exact ⟨_, _, _, rfl, (hff i hil 0).1, (hff i hil 1).1, (hff i hil 2).1⟩
end
end Go.Proofs.YtobnbhkfbdlioaaOpen
