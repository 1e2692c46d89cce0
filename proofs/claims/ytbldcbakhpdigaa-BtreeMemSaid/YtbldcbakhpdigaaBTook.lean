/- BtreeMem: what Take's round leaves. -/
import Derived.Test.YtbldcbakhpdigaaWBad
namespace Go.Proofs.Ytbldcbakhpdigaa
open Go.RowKit

def Z512 : ByteArray := ⟨(List.replicate 512 0).toArray⟩
theorem Z512_list : Z512.data.toList = List.replicate 512 0 := by unfold Z512; rw [List.toList_toArray]

theorem MR.took {n : Nat} {w0 : World} {σ : MSt} {S S' : Nat → Prop} {mp gg f j : Nat} {v7 v8 v7' v8' : Value} {tk : List Bool} {da : List ByteArray} {wr w9 : World} (h : MR n w0 σ S mp v7 v8 tk da wr) (hth : thereB tk f = false) (hf1 : 1 ≤ f) (hfn : f ≤ n) (hj : f < tk.length + j) (hjn : tk.length + j ≤ f + 1 ∨ j = 0)
    (hI : Inv (σ.put f gg (List.replicate 512 0)) S' mp w9) (hbel : Below w0.heap.size w0 w9) (hS' : ∀ g, S' g → w0.heap.size ≤ g)
    (t7 : OwnSl w9 S' w0.heap.size 4 1 v7' (tk.length + j) (((tk ++ List.replicate j false).set f true).map .bool))
    (t8 : OwnSl w9 S' w0.heap.size 9 1 v8' (da.length + j) (((da ++ List.replicate j (⟨#[]⟩ : ByteArray)).set f Z512).map .string)) :
    MR n w0 (σ.put f gg (List.replicate 512 0)) S' mp v7' v8' ((tk ++ List.replicate j false).set f true) ((da ++ List.replicate j (⟨#[]⟩ : ByteArray)).set f Z512) w9 := by
  have hlen := h.len
  have hhas := h.has f
  rw [hth] at hhas
  have hT := h.inv.own.tidy keyed_int
  have htk : ∀ x, thereB ((tk ++ List.replicate j false).set f true) x = if x = (f : Int) then true else thereB tk x := by
    intro x
    have := thereB_set (tk := tk ++ List.replicate j false) (f : Int) true (by omega) (by simp; omega) x
    rw [thereB_append] at this
    exact this
  have hct := count_set (tk ++ List.replicate j false) f (by simp; omega) true
  have hfalse : (tk ++ List.replicate j false)[f]'(by simp; omega) = false := by
    by_cases hl : f < tk.length
    · rw [List.getElem_append_left hl]
      obtain ⟨hb, e⟩ := thereB_in (tk := tk) (b := (f : Int)) (by omega) (by omega)
      rw [hth] at e
      simpa using e.symm
    · rw [List.getElem_append_right (by omega)]; simp
  rw [hfalse] at hct
  have hc0 : (tk ++ List.replicate j false).count true = tk.count true := by
    rw [List.count_append, List.count_replicate]; simp
  refine ⟨hI, hbel, hS', by simpa using t7, by simpa using t8, by simp [hlen], ?_, h.n4, ?_, ?_, h.most, h.held, fun x => ?_, fun x hx => ?_⟩
  · have := h.le; simp; omega
  · show Maps.size (σ.D.put (kI f) _) = _
    rw [Maps.size_put hT, hhas]
    rw [hc0] at hct
    have := h.cnt
    simp only [Bool.false_eq_true, if_false, if_true, Nat.add_zero] at hct ⊢
    omega
  · have hz := h.zero
    obtain ⟨i, hi⟩ := Nat.exists_eq_succ_of_ne_zero (show f ≠ 0 by omega)
    subst hi
    cases tk with
    | nil =>
      cases j with
      | zero => simp
      | succ j => simp [List.replicate_succ]
    | cons a t => simpa using hz
  · rw [htk]
    show Maps.has (σ.D.put (kI f) _) (kI x) = _
    by_cases hx : x = f
    · subst hx; rw [if_pos rfl]; exact Maps.has_put_same hT.isMap (isKey_int _) _
    · rw [if_neg hx, Maps.has_put_other (fun e => hx (by injection e))]; exact h.has x
  · rw [htk] at hx
    by_cases hxf : x = f
    · subst hxf
      simp only [MSt.put, if_true]
      rw [List.getD_eq_getElem?_getD, Int.toNat_natCast, List.getElem?_set_self (by simp; omega), Option.getD_some, Z512_list]
    · rw [if_neg hxf] at hx
      have hb := thereB_lt hx
      simp only [MSt.put, if_neg hxf]
      rw [h.mem x hx, List.getD_eq_getElem?_getD, List.getD_eq_getElem?_getD, List.getElem?_set_ne (by omega), List.getElem?_append_left (by omega)]

/-- the state while the two slices grow -/
structure GR (w0 : World) (σ : MSt) (S : Nat → Prop) (mp : Nat) (v7 v8 : Value) (tk : List Bool) (da : List ByteArray) (j : Nat) (w : World) : Prop where
  inv : Inv σ S mp w
  bel : Below w0.heap.size w0 w
  t7 : OwnSl w S w0.heap.size 4 1 v7 (tk.length + j) ((tk ++ List.replicate j false).map .bool)
  t8 : OwnSl w S w0.heap.size 9 1 v8 (da.length + j) ((da ++ List.replicate j (⟨#[]⟩ : ByteArray)).map .string)

theorem GR.next {w0 : World} {σ : MSt} {S : Nat → Prop} {mp : Nat} {v7 v8 v7' v8' : Value} {tk : List Bool} {da : List ByteArray} {j : Nat} {w wa w1 wb w2 : World} (h : GR w0 σ S mp v7 v8 tk da j w)
    (ha : Below w.heap.size w wa) (h7 : OwnSl w1 S w0.heap.size 4 1 v7' (tk.length + j + 1) ((tk ++ List.replicate j false).map .bool ++ [.bool false])) (k7 : Keep (fun g => v7.ownBlock = some g) wa w1) (b7 : Below w0.heap.size wa w1)
    (hb : Below w1.heap.size w1 wb) (h8 : OwnSl w2 S w0.heap.size 9 1 v8' (da.length + j + 1) ((da ++ List.replicate j (⟨#[]⟩ : ByteArray)).map .string ++ [.string ⟨#[]⟩])) (k8 : Keep (fun g => v8.ownBlock = some g) wb w2) (b8 : Below w0.heap.size wb w2) :
    GR w0 σ S mp v7' v8' tk da (j + 1) w2 := by
  have s1 := h.bel.size
  have s2 := b7.size
  have s3 := ha.size
  have i1 := (h.inv.below ha).keepM k7 (fun g hg e => h.t7.2 g e hg)
  have hv8 : ∀ g, v8.ownBlock = some g → ¬ S g := h.t8.2
  have i2 := (i1.below hb).keepM k8 (fun g hg e => hv8 g e hg)
  have e7 : (tk ++ List.replicate (j + 1) false).map Value.bool = (tk ++ List.replicate j false).map .bool ++ [.bool false] := by
    rw [List.replicate_succ', ← List.append_assoc, List.map_append]; rfl
  have e8 : (da ++ List.replicate (j + 1) (⟨#[]⟩ : ByteArray)).map Value.string = (da ++ List.replicate j (⟨#[]⟩ : ByteArray)).map .string ++ [.string ⟨#[]⟩] := by
    rw [List.replicate_succ', ← List.append_assoc, List.map_append]; rfl
  have t8a : OwnSl wb S w0.heap.size 9 1 v8 (da.length + j) ((da ++ List.replicate j (⟨#[]⟩ : ByteArray)).map .string) :=
    ((h.t8.below ha).keep (w' := w1) (S' := S) (fun g hg hl hs => ⟨k7.block g hl (fun e => OwnSl.ne2 h.t8 h.t7 (by decide) _ hg e), hs⟩)).below hb
  refine ⟨i2, ?_, ?_, ?_⟩
  · exact h.bel.trans ((ha.mono s1).trans (b7.trans ((hb.mono (by omega)).trans b8)))
  · rw [e7]
    exact (h7.below hb).keep (fun g hg hl hs => ⟨k8.block g hl (fun e => OwnSl.ne2 (h7.below hb) t8a (by decide) _ hg e), hs⟩)
  · rw [e8]; exact h8

theorem GR.done {n : Nat} {w0 : World} {σ : MSt} {S S' : Nat → Prop} {mp gg f j g7 g8 c7 c8 : Nat} {v70 v80 : Value} {tk : List Bool} {da : List ByteArray} {wr w3 : World} (h : MR n w0 σ S mp v70 v80 tk da wr) (hth : thereB tk f = false) (hf1 : 1 ≤ f) (hfn : f ≤ n) (hj : f < tk.length + j) (hjn : tk.length + j ≤ f + 1 ∨ j = 0) (hS' : ∀ g, S' g → w0.heap.size ≤ g)
    (hG : GR w0 (σ.put f gg (List.replicate 512 0)) S' mp (.slice (some ⟨g7, 0, none⟩) (tk.length + j) c7) (.slice (some ⟨g8, 0, none⟩) (da.length + j) c8) tk da j w3) (o : Obj) :
    MR n w0 (σ.put f gg (List.replicate 512 0)) S' mp (.slice (some ⟨g7, 0, none⟩) (tk.length + j) c7) (.slice (some ⟨g8, 0, none⟩) (da.length + j) c8) ((tk ++ List.replicate j false).set f true) ((da ++ List.replicate j (⟨#[]⟩ : ByteArray)).set f Z512) (((w3.setCell ⟨g7, f, none⟩ (.bool true)).alloc o).setCell ⟨g8, f, none⟩ (.string Z512)) ∧
    (w3.frozen? ⟨g7, f, none⟩ = false ∧ (∃ u, w3.cell? ⟨g7, f, none⟩ = some u) ∧ g7 < w3.heap.size) ∧
    (((w3.setCell ⟨g7, f, none⟩ (.bool true)).alloc o).frozen? ⟨g8, f, none⟩ = false ∧ (∃ u, ((w3.setCell ⟨g7, f, none⟩ (.bool true)).alloc o).cell? ⟨g8, f, none⟩ = some u) ∧ g8 < ((w3.setCell ⟨g7, f, none⟩ (.bool true)).alloc o).heap.size) := by
  have hlen := h.len
  obtain ⟨q1, q2, q3, q4, q5, q6⟩ := hG.t7.set1 f (by omega) (.bool true)
  have hb := below_one (w3.setCell ⟨g7, f, none⟩ (.bool true)) o
  have t8a := (hG.t8.keep (w' := w3.setCell ⟨g7, f, none⟩ (.bool true)) (S' := S') (fun x hx hl hs => ⟨q2.block x hl (fun e => OwnSl.ne2 hG.t8 hG.t7 (by decide) _ hx (by rw [e]; rfl)), hs⟩)).below hb
  obtain ⟨r1, r2, r3, r4, r5, r6⟩ := t8a.set1 f (by omega) (.string Z512)
  have t7a := (q1.below hb).keep (w' := ((w3.setCell ⟨g7, f, none⟩ (.bool true)).alloc o).setCell ⟨g8, f, none⟩ (.string Z512)) (S' := S') (fun x hx hl hs => ⟨r2.block x hl (fun e => OwnSl.ne2 (q1.below hb) t8a (by decide) _ hx (by rw [e]; rfl)), hs⟩)
  have l7 := hG.t7.lo g7 rfl
  have l8 := hG.t8.lo g8 rfl
  have hi := ((hG.inv.keepM q2 (fun x hx e => q6 (by rw [← e]; exact hx))).below hb).keepM r2 (fun x hx e => r6 (by rw [← e]; exact hx))
  have hbel : Below w0.heap.size w0 (((w3.setCell ⟨g7, f, none⟩ (.bool true)).alloc o).setCell ⟨g8, f, none⟩ (.string Z512)) :=
    ((hG.bel.setCell (by simpa using l7) _).alloc (Nat.le_trans hG.bel.size q2.size) _).setCell (by simpa using l8) _
  refine ⟨h.took hth hf1 hfn hj hjn hi hbel hS' ?_ ?_, ⟨q3, q4, q5⟩, ⟨r3, r4, r5⟩⟩
  · rw [List.map_set]; exact t7a
  · rw [List.map_set]; exact r1

theorem info_bool : (Try.prog.info? 4).map (fun i => (i.zero, i.size, i.bytes)) = some (some (.bool false), 1, 1) := by kernel_rfl
/-- a new block's bytes, as they stand -/
def Row512 : Array Value := (bCells (List.replicate 512 0)).toArray
theorem make512' (w : World) : (Instr.makeSlice 34 (.int .i64 512) (.int .i64 512)).run Try.prog w = .ok (.slice (some ⟨w.heap.size, 0, none⟩) 512 512) (w.alloc (.cells Row512 5)) := make512 w
theorem str512 (W : World) (g : Nat) (h : W.heap[g]? = some (.cells Row512 5 (0, 0))) : (convert 34 9 (.slice (some ⟨g, 0, none⟩) 512 512)).run Try.prog W = .ok (.string Z512) W := str_zeros W g 512 h
def slLen (v : Value) : Nat := match v with | .slice _ n _ => n | _ => 0
end Go.Proofs.Ytbldcbakhpdigaa
