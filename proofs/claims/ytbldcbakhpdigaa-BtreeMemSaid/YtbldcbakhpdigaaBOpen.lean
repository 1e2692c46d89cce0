/- A slice of operations that came in as an argument. -/
import Derived.Test.YtbldcbakhpdigaaBMem
import Derived.Deep.SlicePairs
import Derived.Lib.SmallJoins
namespace Go.Proofs.Ytbldcbakhpdigaa
open Go.RowKit Go.ChangeShapes Go.WideShapes Go.ChangeAt Go.Deep

theorem add_none (a : Addr) : a.add 0 = a := by unfold Addr.add; simp

theorem open_op {H : Type} {enc : TypeId × Value → H} {w : World} {base : Nat} {spare : Nat → Bool} {held : Bool} {n : Nat} {cs : List Value} {a : Addr} {D : DataW H} {pl : List MemPlace} (h1 : w.cells? base a 4 = some cs) (h2 : DataW.trod enc Try.prog w base spare held n 29 cs = some (D, pl)) :
    ∃ o : OpV, a.spot = none ∧ (0 ≤ o.1 ∧ o.1 ≤ 255 ∧ (Lit.int .i64 o.2.2.2).wf = true) ∧ o.2.1.size ≤ maxLen ∧ w.cell? a = some (.int .u8 o.1) ∧ w.cell? (a.add 1) = some (.string o.2.1) ∧ w.cell? (a.add 2) = some (.string o.2.2.1) ∧ w.cell? (a.add 3) = some (.int .i64 o.2.2.2) := by
  obtain ⟨_, hlen, hcell⟩ := World.cells?_some h1
  match cs, hlen with
  | [v0, v1, v2, v3], _ =>
    obtain ⟨y0, y1, y2, y3, m, hx, _, g0, g1, g2, g3⟩ := Go.Joins.trod_struct4 Try.underlying29 h2
    have c8 : Try.prog.cellsOf 5 = 1 := by kernel_rfl
    have c9 : Try.prog.cellsOf 9 = 1 := by kernel_rfl
    have c3 : Try.prog.cellsOf 3 = 1 := by kernel_rfl
    simp [c8, c9, c3] at g0 g1 g2 g3
    obtain ⟨k, e0, _, wk⟩ := DataW.trod_int Try.underlying5 g0
    obtain ⟨s1, e1, _, ws⟩ := DataW.trod_string Try.underlying9 g1
    obtain ⟨s2, e2, _⟩ := DataW.trod_string Try.underlying9 g2
    obtain ⟨z, e3, _, wz⟩ := DataW.trod_int Try.underlying3 g3
    simp at e0 e1 e2 e3
    subst e0 e1 e2 e3
    have d0 := hcell 0 (by omega)
    have d1 := hcell 1 (by omega)
    have d2 := hcell 2 (by omega)
    have d3 := hcell 3 (by omega)
    refine ⟨(k, s1, s2, z), ?_, ⟨?_, ?_, wz⟩, ws, by rw [add_none] at d0; simpa using d0, by simpa using d1, by simpa using d2, by simpa using d3⟩
    · have := World.cell?_spot (show w.cell? (a.add 0) = some _ from d0)
      rwa [add_none] at this
    · simp only [Lit.wf, Bool.and_eq_true, decide_eq_true_eq] at wk
      exact Int.le_trans (by decide) wk.1
    · simp only [Lit.wf, Bool.and_eq_true, decide_eq_true_eq] at wk
      exact Int.le_trans wk.2 (by decide)

theorem open_ops {H : Type} {enc : TypeId × Value → H} {W : World} {fuel : Nat} {cs : List Value} {x : DataW H × List MemPlace} (h : DataW.trod enc Try.prog W 0 (fun _ => true) true fuel 22 cs = some x) :
    ∃ v os, cs = [v] ∧ IsOps W v os ∧ (∀ o ∈ os, 0 ≤ o.1 ∧ o.1 ≤ 255 ∧ (Lit.int .i64 o.2.2.2).wf = true) ∧ ∀ o ∈ os, o.2.1.size ≤ maxLen := by
  rcases open_slice Try.underlying22 h with ⟨rfl, _⟩ | ⟨a, len, cap, m, n, D, Pl, rfl, hb, hl, hm, hmm, rfl, hx⟩
  · exact ⟨_, [], rfl, ⟨none, 0, rfl, Nat.le_refl _, Nat.zero_le _, fun i hi => by simp at hi⟩, by simp, by simp⟩
  · have hc4 : Try.prog.cellsOf 29 = 4 := by kernel_rfl
    have hlm : len ≤ m := by rw [hmm]; simp; exact hl
    have each : ∀ i, i < len → ∃ o : OpV, (a.add (i * 4)).spot = none ∧ (0 ≤ o.1 ∧ o.1 ≤ 255 ∧ (Lit.int .i64 o.2.2.2).wf = true) ∧ o.2.1.size ≤ maxLen ∧ W.cell? (a.add (i * 4)) = some (.int .u8 o.1) ∧ W.cell? ((a.add (i * 4)).add 1) = some (.string o.2.1) ∧ W.cell? ((a.add (i * 4)).add 2) = some (.string o.2.2.1) ∧ W.cell? ((a.add (i * 4)).add 3) = some (.int .i64 o.2.2.2) := by
      intro i hi
      obtain ⟨cs', h1, h2⟩ := hx i (by omega)
      rw [hc4] at h1
      exact open_op h1 h2
    obtain ⟨f, hf⟩ := choose_lt each
    refine ⟨_, (List.range len).map f, rfl, ⟨some a, cap, by simp, by simpa using hl, hm, fun i hi => ?_⟩, ?_, ?_⟩
    · simp at hi
      obtain ⟨g0, _, _, g1, g2, g3, g4⟩ := hf i hi
      obtain ⟨b, o, sp⟩ := a
      have hs : sp = none := by
        have := (hf 0 (by omega)).1
        rw [Nat.zero_mul, add_none] at this
        exact this
      subst hs
      rw [Addr.add_lit] at g1 g2 g3 g4
      rw [Addr.add_lit] at g2 g3 g4
      refine ⟨b, o, rfl, ?_, ?_, ?_, ?_⟩ <;> simpa using by assumption
    · intro o ho
      obtain ⟨i, hi, rfl⟩ := List.mem_map.1 ho
      exact (hf i (List.mem_range.1 hi)).2.1
    · intro o ho
      obtain ⟨i, hi, rfl⟩ := List.mem_map.1 ho
      exact (hf i (List.mem_range.1 hi)).2.2.1
end Go.Proofs.Ytbldcbakhpdigaa
