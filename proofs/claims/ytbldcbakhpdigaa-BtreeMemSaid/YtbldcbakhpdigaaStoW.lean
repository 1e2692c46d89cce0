/- The store in memory: Write, Take. -/
import Derived.Test.YtbldcbakhpdigaaSto
import Derived.Laws.MakeOwn
namespace Go.Proofs.Ytbldcbakhpdigaa
open Go.RowKit

theorem madeU8 (n : Nat) : madeCells (Value.cells (.int .u8 0)) n = (bCells (List.replicate n 0)).toArray := by
  apply Array.ext
  · simp [madeCells, bCells]
  · intro j h1 h2
    simp [madeCells, bCells, Value.cells, Nat.mod_one]
theorem make512 (w : World) : (Instr.makeSlice 34 (.int .i64 512) (.int .i64 512)).run Try.prog w = .ok (.slice (some ⟨w.heap.size, 0, none⟩) 512 512) (w.alloc (.cells (bCells (List.replicate 512 0)).toArray 5)) := by
  obtain ⟨i, hi, hz, hsize, hby⟩ := info_parts info_u8
  have := run_make (P := Try.prog) (w := w) 34 5 i _ Try.underlying34 hi hz .i64 .i64 512 512 (by omega) (by omega) (by rw [hby]; omega) (by omega)
  rw [this, hsize]
  rw [show Int.toNat 512 * 1 = 512 from rfl, madeU8]
  rfl

theorem splice_head' (n : Nat) (l : List UInt8) : splice (bCells (List.replicate n 0)) 0 (bCells l) = bCells (l ++ List.replicate (n - l.length) 0) := by
  simp [splice, bCells]
theorem splice_head (l : List UInt8) : splice (bCells (List.replicate 512 0)) 0 (bCells l) = bCells (l ++ List.replicate (512 - l.length) 0) := splice_head' 512 l
theorem pad_length (l : List UInt8) (hl : l.length ≤ 512) : (l ++ List.replicate (512 - l.length) 0).length = 512 := by
  rw [List.length_append, List.length_replicate]; omega

set_option maxRecDepth 100000 in
theorem write_has (mp : Nat) (σ : MSt) (S : Nat → Prop) (w : World) (b : Int) (v : Value) (l : List UInt8) (h : Inv σ S mp w) (hb : (Lit.int .i64 b).wf = true) (hh : Maps.has σ.D (kI b) = true) (hheld : σ.H.atKey (kI b) (.lit (.int .i64 0)) = .lit (.int .i64 0)) (hv : IsBytes w NoS v l) (hl : l.length ≤ 512) :
    Calls Try.prog 14 #[.pointer (some ⟨mp, 0, none⟩), .int .i64 b, v] w fun e w' => e = .returned (.int .i64 0) ∧ ∃ g S', Inv (σ.put b g (l ++ List.replicate (512 - l.length) 0)) S' mp w' ∧ Step S S' w w' := by
  have hm := h.blk
  have hD := h.own
  have hH := h.oh
  have c0 : w.cell? ⟨mp, 1, none⟩ = some (.map (some σ.bb)) := by simp [World.cell?, hm]
  have c2 : w.cell? ⟨mp, 2, none⟩ = some (.map (some σ.hb)) := by simp [World.cell?, hm]
  have hlt : mp < w.heap.size := h.sub _ h.smp
  have hz : (zeroValue 3).run Try.prog w = .ok (.int .i64 0) w := by kernel_rfl
  obtain ⟨c, hrun, hat, _⟩ := hH.lookup_int keyed_int Try.underlying71 Try.underlying3 hz (key_int b hb)
  rw [hheld] at hat
  cases hat
  obtain ⟨ao, cp, rfl, n0, m0, _, _⟩ := IsSl.form hv
  have hl2 : ¬ ((512 : Int) < (l.length : Int)) := by omega
  have hmk := make512 w
  have hr0 : Row (w.alloc (.cells (bCells (List.replicate 512 0)).toArray 5)) w.heap.size 5 (bCells (List.replicate 512 0)) := heap_alloc_new w _
  have hlen := Lib.hid (show (bCells l).length = l.length from bCells_length l)
  have hz5 := Lib.hid (show (bCells (List.replicate 512 (0:UInt8))).length = 512 by simp [bCells])
  have hfst := (IsSl.below hv (below_one w (.cells (bCells (List.replicate 512 0)).toArray 5))).first (P := Try.prog) l.length (Nat.le_refl _)
  rw [Nat.mul_one, List.take_of_length_le (Nat.le_of_eq hlen.out)] at hfst
  have hfst := Lib.hid hfst
  go_enter Try.func14, Try.ntmps14
  go_wp2_with (first
    | (go_at_call 30; go_must ((refine (check_any mp σ S w b h hb).mono ?_); rintro e w1 ⟨rfl, hw⟩; subst w1; rw [hh]))
    | ((refine in_list rfl ?_); intro K hK; (refine wp_copyRow (.tmp 28) (.tmp 29) 34 34 rfl 5 1 1 (.int .u8 0) Try.underlying34 info_u8 w.heap.size 0 5 l.length 512 512 (some ⟨w.heap.size, 0, none⟩) (bCells (List.replicate 512 0)) rfl hr0 (.slice ao l.length cp) rfl l.length (bCells l) rfl ?_ ?_ hfst.out (fun _ => rfl) ?_ (one_bytes _) ?_); go_must ((focus (exact (Nat.min_eq_left hl).symm)); (focus (rw [hlen.out, Nat.mul_one])); (focus (rw [hlen.out, hz5.out]; omega)); intro w2 hr2 hk2; refine hK _ _ (Stop.of ?_)))
)
  have hk2' : Keep NoS w w2 := ((Keep.refl NoS w).alloc _).trans hk2 (fun i hi e => absurd hi (by rw [e]; exact Nat.lt_irrefl _))
  have c0' : w2.cell? ⟨mp, 1, none⟩ = some (.map (some σ.bb)) := (hk2'.cell hlt id).trans c0
  have hlt' : mp < w2.heap.size := Nat.lt_of_lt_of_le hlt hk2'.size
  have hD2 : w2.ownsMap Try.prog 3 rB σ.bb 5000 σ.D := by
    obtain ⟨es, cl, hbm, r⟩ := hD
    exact ⟨es, cl, (hk2'.block _ (h.sub _ h.sbb) id).trans hbm, r⟩
  rw [splice_head l] at hr2
  refine Stop.on ?_
  go_wp2_with (first
    | (at_mapUpdate; go_must (refine wpList_mapUpdate_own _ rfl _ _ _ 70 rfl 3 34 keyed_int Try.underlying70 rB σ.bb 5000 σ.D rfl hD2 (by simp [maxLen]) _ _ (kI b) rfl rfl (key_int b hb) (.lit (.int .i64 w.heap.size)) [] (rB_mk _) ?_; intro w3 hown3 hgr3)))
  go_ret
  have q := h.put b w.heap.size _ hk2' hr2 (pad_length l hl) (Nat.le_refl _) (.inl hh) hown3 hgr3
  exact ⟨rfl, _, _, q.1, q.2⟩
end Go.Proofs.Ytbldcbakhpdigaa
