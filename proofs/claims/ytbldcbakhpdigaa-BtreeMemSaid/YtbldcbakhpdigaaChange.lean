/- change: what may give up; here nothing gives up. -/
import Derived.Test.YtbldcbakhpdigaaGrowS
import Derived.Defers
import Derived.Recover
namespace Go.Proofs.Ytbldcbakhpdigaa
open Go.RowKit

set_option maxRecDepth 100000 in
set_option maxHeartbeats 400000 in
theorem change1_idle (tb rb : Nat) (w : World) :
    CallsD Try.prog 51 #[.pointer (some ⟨tb, 0, none⟩), .pointer (some ⟨rb, 0, none⟩)] .returning w fun e u' w' => e = .returned (.tuple #[]) ∧ u' = .returning ∧ Below w.heap.size w w' := by
  refine callsD_of_wpS Try.func51 rfl fun c₀ cs hu => ?_
  apply wpS_seq
  apply wpS_region
  have hta : ∀ w : World, (Instr.typeAssert Value.nilIface 20 101 true).run Try.prog w = .ok (.tuple #[.agg #[.int .i64 0], .bool false]) w := fun _ => by kernel_rfl
  simp [wpOpsS, go_sem, recoverD, hu, Try.ntmps51, Exit.thenS, hta, Array.replicate, List.replicate]
  apply wpS_seq
  apply wpS_region
  simp [wpOpsS, go_sem, Exit.thenS]
  refine wpS_cond (t := false) (by simp [Act.eval]) ?_
  simp only [Bool.false_eq_true, if_false]
  refine wpS_of_wp (wp_skip ?_)
  cases c₀
  simp_all [bodyPostS, results, Try.results51]
  exact below_one _ _

set_option maxRecDepth 100000 in
set_option maxHeartbeats 400000 in
theorem change_any (t : Nat) (g : Nat) (cb : Array Value) (w : World) (R : World → Prop) (hent : ∀ args w, (callFunc g args).run Try.prog w = .ok (.enter g args) w)
    (hf : Calls Try.prog g cb ((w.alloc (.cells #[.pointer (some ⟨t, 0, none⟩)] 41)).alloc (.cells #[.int .i64 0] 30)) fun e w' => e = .returned (.tuple #[]) ∧ R w' ∧ w'.heap[w.heap.size + 1]? = some (.cells #[.int .i64 0] 30 (0, 0))) :
    Calls Try.prog 35 #[.pointer (some ⟨t, 0, none⟩), .func (.func g) #[] cb] w fun e w' => e = .returned (.int .i64 0) ∧ ∃ w1, R w1 ∧ Keep (· = w.heap.size + 1) w1 w' := by
  have hmf : ∀ (fn : Fn) (first cap : Array Value) (w : World), (Instr.makeFunc fn first cap).run Try.prog w = .ok (.func fn first cap) w := fun _ _ _ _ => rfl
  have Hf := Lib.hid hf; clear hf
  go_enter_defers Try.func35, Try.ntmps35
  go_wp2_with (refine Hf.out.mono ?_; rintro e w1 ⟨rfl, hR, hr⟩; refine Stop.of ?_)
  have r0 : w1.cell? ⟨w.heap.size + 1, 0, none⟩ = some (.int .i64 0) := by simp [World.cell?, hr]
  have r1 : w1.frozen? ⟨w.heap.size + 1, 0, none⟩ = false := by simp [World.frozen?, hr]
  have r2 := (Array.getElem?_eq_some_iff.1 hr).1
  refine Stop.on ?_
  go_wp2_with fail
  have hk : Keep (· = w.heap.size + 1) w1 (w1.setCell ⟨w.heap.size + 1, 0, none⟩ (.int .i64 0)) := Keep.setCell (M := (· = w.heap.size + 1)) (p := ⟨w.heap.size + 1, 0, none⟩) (Keep.refl _ _) (.inr rfl) _
  have hr' : (w1.setCell ⟨w.heap.size + 1, 0, none⟩ (.int .i64 0)).cell? ⟨w.heap.size + 1, 0, none⟩ = some (.int .i64 0) := by simp [World.setCell, World.cell?, Array.getElem?_modify, hr]
  have hlt' : w.heap.size + 1 < (w1.setCell ⟨w.heap.size + 1, 0, none⟩ (.int .i64 0)).heap.size := Nat.lt_of_lt_of_le r2 hk.size
  generalize w1.setCell ⟨w.heap.size + 1, 0, none⟩ (.int .i64 0) = w2 at *
  refine leaves_cons (f := 51) (args := #[.pointer (some ⟨w.heap.size, 0, none⟩), .pointer (some ⟨w.heap.size + 1, 0, none⟩)]) (by simp) (by simp [go_sem]) ?_
  refine (change1_idle w.heap.size (w.heap.size + 1) w2).mono ?_
  rintro e u' w'' ⟨rfl, rfl, hb⟩
  have hc : w''.cell? ⟨w.heap.size + 1, 0, none⟩ = some (.int .i64 0) := (hb.cell (p := ⟨w.heap.size + 1, 0, none⟩) hlt').trans hr'
  have hfin : Keep (· = w.heap.size + 1) w1 w'' := hk.trans (Keep.of_below hb (fun _ => False)) (fun _ _ h => h.elim)
  refine ⟨_, ?_, rfl, w1, hR, hfin⟩
  simp [results, Try.results35, go_sem, hc]
end Go.Proofs.Ytbldcbakhpdigaa
