/- Scan's closure. -/
import Derived.Test.YtbldcbakhpdigaaGet
namespace Go.Proofs.Ytbldcbakhpdigaa
open Go.RowKit

/-- what Scan has gathered: a variable with a slice of pairs, and the most that are wanted -/
structure Acc (w : World) (S : Nat → Prop) (B ob mb : Nat) (v : Value) (O : List Pr) (most : Int) : Prop where
  out : w.heap[ob]? = some (.cells #[v] 40 (0, 0))
  own : OwnSl w S B 49 2 v O.length (prCells O)
  mst : w.heap[mb]? = some (.cells #[.int .i64 most] 3 (0, 0))
  nob : ¬ S ob
  nmb : ¬ S mb

/-- of the blocks that were there only the variable's and the slice's have changed -/
def YStep (ob : Nat) (v v' : Value) (w w' : World) : Prop := Keep (fun g => g = ob ∨ v.ownBlock = some g) w w' ∧ ∀ g, v'.ownBlock = some g → v.ownBlock = some g ∨ w.heap.size ≤ g
theorem YStep.refl (ob : Nat) (v : Value) (w : World) : YStep ob v v w w := ⟨Keep.refl _ _, fun _ h => .inl h⟩
theorem YStep.trans {ob : Nat} {v v' v'' : Value} {a b c : World} (h : YStep ob v v' a b) (k : YStep ob v' v'' b c) : YStep ob v v'' a c :=
  ⟨h.1.trans k.1 (fun i hi x => x.elim .inl (fun y => (h.2 i y).elim .inr (fun z => absurd hi (Nat.not_lt.2 z)))),
   fun g hg => (k.2 g hg).elim (fun x => h.2 g x) (fun x => .inr (Nat.le_trans h.1.size x))⟩
theorem YStep.below {ob : Nat} {v : Value} {w w' : World} (h : Below w.heap.size w w') : YStep ob v v w w' := ⟨Keep.of_below h _, fun _ h => .inl h⟩
theorem Acc.below {w w' : World} {S : Nat → Prop} {B ob mb : Nat} {v : Value} {O : List Pr} {most : Int} (h : Acc w S B ob mb v O most) (hb : Below w.heap.size w w') : Acc w' S B ob mb v O most :=
  ⟨(hb.block _ (Array.getElem?_eq_some_iff.1 h.out).1).trans h.out, h.own.below hb, (hb.block _ (Array.getElem?_eq_some_iff.1 h.mst).1).trans h.mst, h.nob, h.nmb⟩

set_option maxRecDepth 100000 in
set_option maxHeartbeats 2000000 in
theorem yield_any (B ob mb : Nat) (v : Value) (O : List Pr) (most : Int) (p : Pr) (S : Nat → Prop) (w : World) (hsub : ∀ g, S g → g < w.heap.size) (h : Acc w S B ob mb v O most) (hB : B ≤ w.heap.size) (hl : O.length ≤ 999999) :
    Calls Try.prog 43 #[.agg #[.string p.1, .string p.2], .pointer (some ⟨ob, 0, none⟩), .pointer (some ⟨mb, 0, none⟩)] w fun e w' => e = .returned (.bool (decide (((O.length + 1 : Nat) : Int) < most))) ∧ ∃ v', Acc w' S B ob mb v' (O ++ [p]) most ∧ YStep ob v v' w w' := by
  have hbw := below_two w (.cells #[.string p.1, .string p.2] 49) (.cells #[.string p.1, .string p.2] 49)
  obtain ⟨o1, o2, o3, o4, o5⟩ := h
  have hol := (Array.getElem?_eq_some_iff.1 o1).1
  have hml := (Array.getElem?_eq_some_iff.1 o3).1
  have c0 : w.cell? ⟨ob, 0, none⟩ = some v := by simp [World.cell?, o1]
  have c1 : w.cell? ⟨mb, 0, none⟩ = some (.int .i64 most) := by simp [World.cell?, o3]
  have f0 : w.frozen? ⟨ob, 0, none⟩ = false := by simp [World.frozen?, o1]
  obtain ⟨ao0, cp0, rfl, n0, m0, _, _⟩ := o2.isSl.form
  go_enter Try.func43, Try.ntmps43
  have hsrc := src_new (P := Try.prog) (w := w.alloc (.cells #[.string p.1, .string p.2] 49)) [.string p.1, .string p.2] 49 2 1 1 (tx := 40) (World.size_alloc _ _) Try.underlying40 rfl (by intro u hu; simp at hu; rcases hu with rfl | rfl <;> rfl)
  have hsub2 : ∀ g, S g → g < ((w.alloc (.cells #[.string p.1, .string p.2] 49)).alloc (.cells #[.string p.1, .string p.2] 49)).heap.size := fun g hg => Nat.lt_of_lt_of_le (hsub g hg) hbw.size
  have hOl : O.length ≤ 999999 := hl
  go_wp2_with (first
    | (at_builtin; go_must ((refine wpList_app rfl (.tmp 5) (.tmp 7) 40 40 rfl S B 49 2 32 _ Try.underlying40 info_pair rfl (.slice ao0 O.length cp0) O.length (prCells O) rfl (o2.below hbw) (.slice (some ⟨w.heap.size + 1, 0, none⟩) 1 1) 1 [.string p.1, .string p.2] rfl hsrc hsub2 (Nat.le_trans hB hbw.size) ?_ ?_ ?_); (focus (simp only [maxLen]; omega)); (focus omega); intro ao1 cp1 w3 hown3 hk3 hb3 hd3; refine Stop.of ?_)))
  have hno : (Value.slice ao0 O.length cp0).ownBlock ≠ some ob := o2.ne o1 (by decide)
  have hnm : (Value.slice ao0 O.length cp0).ownBlock ≠ some mb := o2.ne o3 (by decide)
  have o1' := (hk3.block ob (Nat.lt_of_lt_of_le hol hbw.size) hno).trans ((hbw.block ob hol).trans o1)
  have o3' := (hk3.block mb (Nat.lt_of_lt_of_le hml hbw.size) hnm).trans ((hbw.block mb hml).trans o3)
  have hobm : ob ≠ mb := fun e => by rw [e] at o1; rw [o1] at o3; cases o3
  have d0 : w3.cell? ⟨ob, 0, none⟩ = some (.slice ao0 O.length cp0) := by simp [World.cell?, o1']
  have d1 : w3.cell? ⟨mb, 0, none⟩ = some (.int .i64 most) := by simp [World.cell?, o3']
  have d2 : w3.frozen? ⟨ob, 0, none⟩ = false := by simp [World.frozen?, o1']
  have hol3 := (Array.getElem?_eq_some_iff.1 o1').1
  have hml3 := (Array.getElem?_eq_some_iff.1 o3').1
  have hk4 : Keep (· = ob) w3 (w3.setCell ⟨ob, 0, none⟩ (.slice ao1 (O.length + 1) cp1)) := Keep.setCell (M := (· = ob)) (p := ⟨ob, 0, none⟩) (Keep.refl _ _) (.inr rfl) _
  have o14 : (w3.setCell ⟨ob, 0, none⟩ (.slice ao1 (O.length + 1) cp1)).heap[ob]? = some (.cells #[.slice ao1 (O.length + 1) cp1] 40 (0, 0)) := by simp [World.setCell, Array.getElem?_modify, o1']
  have o34 := (hk4.block mb hml3 (fun e => hobm e.symm)).trans o3'
  have e0 : (w3.setCell ⟨ob, 0, none⟩ (.slice ao1 (O.length + 1) cp1)).cell? ⟨ob, 0, none⟩ = some (.slice ao1 (O.length + 1) cp1) := by simp [World.cell?, o14]
  have e1 : (w3.setCell ⟨ob, 0, none⟩ (.slice ao1 (O.length + 1) cp1)).cell? ⟨mb, 0, none⟩ = some (.int .i64 most) := by simp [World.cell?, o34]
  have hown4 := hown3.keep (w' := w3.setCell ⟨ob, 0, none⟩ (.slice ao1 (O.length + 1) cp1)) (S' := S) (fun g hg hl hs => ⟨hk4.block g hl (fun e => hown3.ne o1' (by decide) (by rw [hg, e])), hs⟩)
  refine Stop.on ?_
  go_wp2_with fail
  go_ret
  refine ⟨by simp, .slice ao1 (O.length + 1) cp1, ⟨o14, ?_, o34, o4, o5⟩, ⟨?_, fun g hg => ?_⟩⟩
  · rw [List.length_append, prCells_append]; exact hown4
  · exact ((Keep.of_below hbw _).trans (hk3.mono (fun _ _ h => .inr h)) (fun _ _ h => h)).trans hk4 (fun _ _ h => .inl h)
  · by_cases hgl : g < w.heap.size
    · by_cases hv : (Value.slice ao0 O.length cp0).ownBlock = some g
      · exact .inl hv
      · exact absurd hg (hd3 g (Nat.lt_of_lt_of_le hgl hbw.size) hv)
    · exact .inr (Nat.not_lt.1 hgl)
end Go.Proofs.Ytbldcbakhpdigaa
