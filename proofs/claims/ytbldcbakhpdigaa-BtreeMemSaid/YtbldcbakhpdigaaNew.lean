/- NewMem, Used, Open, Root; Put of a bad key. -/
import Derived.Test.YtbldcbakhpdigaaVia
namespace Go.Proofs.Ytbldcbakhpdigaa
open Go.RowKit

def MSt.new (n : Int) (b : Nat) : MSt := ⟨(min (max n 0) 4096).toNat, b, b + 1, .map [], .map [], fun _ => []⟩

theorem inv_new (n m : Int) (w : World) (hm : m = min (max n 0) 4096) :
    Inv (MSt.new n w.heap.size) (fun g => w.heap.size ≤ g ∧ g < w.heap.size + 3) (w.heap.size + 2) (((w.alloc (.map #[] 0)).alloc (.map #[] 0)).alloc (.cells #[.int .i64 m, .map (some w.heap.size), .map (some (w.heap.size + 1))] 73)) := by
  have h1 : (w.alloc (.map #[] 0)).ownsMap Try.prog 3 rB w.heap.size 0 (.map [] : DataW Unit) := World.ownsMap_made w _ _ _
  have h2 : ((w.alloc (.map #[] 0)).alloc (.map #[] 0)).ownsMap Try.prog 3 (plainElem Try.prog 3) (w.heap.size + 1) 0 (.map [] : DataW Unit) := by
    have := World.ownsMap_made (H := Unit) (w.alloc (.map #[] 0)) Try.prog 3 (plainElem Try.prog 3)
    rwa [World.size_alloc] at this
  refine ⟨fun g hg => by simp; omega, by omega, by simp [MSt.new], by simp [MSt.new], by simp [MSt.new], ?_, ((h1.alloc _).alloc _).mono (by omega), (h2.alloc _).mono (by omega), by simp [MSt.new, Maps.size_eq], by simp [MSt.new]; omega, fun b _ => by simp [MSt.new, DataW.atKey], fun b z hb => by simp [MSt.new, Maps.has_eq] at hb⟩
  have := heap_alloc_new ((w.alloc (.map #[] 0)).alloc (.map #[] 0)) (.cells #[.int .i64 m, .map (some w.heap.size), .map (some (w.heap.size + 1))] 73)
  rw [World.size_alloc, World.size_alloc] at this
  rw [this]
  have e : ((MSt.new n w.heap.size).most : Int) = m := by simp [MSt.new]; omega
  rw [e]
  rfl

set_option maxRecDepth 100000 in
theorem newmem_any (n : Int) (w : World) :
    Calls Try.prog 10 #[.int .i64 n] w fun e w' => e = .returned (.pointer (some ⟨w.heap.size + 2, 0, none⟩)) ∧ Inv (MSt.new n w.heap.size) (fun g => w.heap.size ≤ g ∧ g < w.heap.size + 3) (w.heap.size + 2) w' ∧ w'.heap.size = w.heap.size + 3 ∧ Below w.heap.size w w' := by
  have hmk : ∀ w : World, (Instr.makeMap 70 none).run Try.prog w = .ok (.map (some w.heap.size)) (w.alloc (.map #[] 0)) := fun w => run_makeMap _ w
  have hmk2 : ∀ w : World, (Instr.makeMap 71 none).run Try.prog w = .ok (.map (some w.heap.size)) (w.alloc (.map #[] 0)) := fun w => run_makeMap _ w
  go_enter Try.func10, Try.ntmps10
  go_wp2_with fail
  all_goals
    go_ret
    exact ⟨rfl, inv_new n _ w (by omega), by simp, below_three w _ _ _⟩

theorem used_any (mp : Nat) (σ : MSt) (S : Nat → Prop) (w : World) (h : Inv σ S mp w) :
    Calls Try.prog 12 #[.pointer (some ⟨mp, 0, none⟩)] w fun e w' => e = .returned (.int .i64 (Maps.size σ.D)) ∧ w' = w := by
  have hlen := h.own.len (t := 70) Try.underlying70
  have c1 : w.cell? ⟨mp, 1, none⟩ = some (.map (some σ.bb)) := by simp [World.cell?, h.blk]
  have hlt : mp < w.heap.size := h.sub _ h.smp
  go_enter Try.func12, Try.ntmps12
  go_wp2_with fail
  go_ret
  exact ⟨rfl, rfl⟩

theorem open_any (mp : Nat) (root : Int) (w : World) (hr : 0 ≤ root) :
    Calls Try.prog 16 #[.iface 24 (.pointer (some ⟨mp, 0, none⟩)), .int .i64 root] w fun e w' => e = .returned (.pointer (some ⟨w.heap.size, 0, none⟩)) ∧ TreeAt w' w.heap.size mp root 0 ∧ w'.heap.size = w.heap.size + 1 ∧ Below w.heap.size w w' := by
  have hr2 : ¬ root < 0 := by omega
  have heq : ∀ w : World, (binOp BinOp.eql 77 (.iface 24 (.pointer (some ⟨mp, 0, none⟩))) .nilIface).run Try.prog w = .ok (.bool false) w := fun _ => by kernel_rfl
  go_enter Try.func16, Try.ntmps16
  go_wp2_with fail
  go_ret
  exact ⟨rfl, heap_alloc_new _ _, by simp, below_one _ _⟩

theorem root_any (t mp : Nat) (root err : Int) (w : World) (h : TreeAt w t mp root err) :
    Calls Try.prog 24 #[.pointer (some ⟨t, 0, none⟩)] w fun e w' => e = .returned (.int .i64 root) ∧ w' = w := by
  obtain ⟨_, c1, _, _, _, _, hlt⟩ := cells3 h
  go_enter Try.func24, Try.ntmps24
  go_wp2
  go_ret
  exact ⟨rfl, rfl⟩
end Go.Proofs.Ytbldcbakhpdigaa
