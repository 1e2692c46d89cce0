/- The outer closures of Put and Delete. (Printed by gen/put.py.) -/
import Derived.Test.YtbldcbakhpdigaaChange
namespace Go.Proofs.Ytbldcbakhpdigaa
open Go.RowKit

/-- what the outer closures' own code reads: the tree, its variable, the key's variable -/
structure SB (t mp : Nat) (root err : Int) (tb kb : Nat) (key : ByteArray) (W : World) : Prop where
  tr : TreeAt W t mp root err
  bx : W.heap[tb]? = some (.cells #[.pointer (some ⟨t, 0, none⟩)] 41 (0, 0))
  ky : BoxS W kb key

theorem SB.cells {t mp : Nat} {root err : Int} {tb kb : Nat} {key : ByteArray} {W : World} (h : SB t mp root err tb kb key W) :
    W.cell? ⟨tb, 0, none⟩ = some (.pointer (some ⟨t, 0, none⟩)) ∧ tb < W.heap.size ∧ W.cell? ⟨t, 1, none⟩ = some (.int .i64 root) ∧ t < W.heap.size ∧ W.cell? ⟨kb, 0, none⟩ = some (.string key) ∧ kb < W.heap.size ∧ W.frozen? ⟨t, 1, none⟩ = false := by
  obtain ⟨_, c1, _, _, f1, _, hlt⟩ := cells3 h.tr
  exact ⟨by simp [World.cell?, h.bx], (Array.getElem?_eq_some_iff.1 h.bx).1, c1, hlt, (cells1 h.ky).1, (cells1 h.ky).2, f1⟩

set_option maxRecDepth 100000 in
set_option maxHeartbeats 2000000 in
theorem put1_of (t mp tb kb vb : Nat) (root err : Int) (key : ByteArray) (w : World) (R : Int → World → Prop) (hS : SB t mp root err tb kb key w)
    (hE : Calls Try.prog 38 #[.pointer (some ⟨t, 0, none⟩), .int .i64 root, .int .i64 0, .string key, .string ⟨#[]⟩, .func (.func 39) #[] #[.pointer (some ⟨kb, 0, none⟩), .pointer (some ⟨vb, 0, none⟩)]] w.drew fun e w1 => ∃ v, e = .returned v ∧ SB t mp root err tb kb key w1 ∧
      Calls Try.prog 37 #[.pointer (some ⟨t, 0, none⟩), v] w1 fun e2 w2 => ∃ b, e2 = .returned (.int .i64 b) ∧ SB t mp root err tb kb key w2 ∧ R b w2) :
    Calls Try.prog 36 #[.pointer (some ⟨tb, 0, none⟩), .pointer (some ⟨kb, 0, none⟩), .pointer (some ⟨vb, 0, none⟩)] w fun e w' => e = .returned (.tuple #[]) ∧ ∃ b w2, R b w2 ∧ SB t mp root err tb kb key w2 ∧ w' = w2.setCell ⟨t, 1, none⟩ (.int .i64 b) := by
  have HE := Lib.hid hE; clear hE
  go_enter Try.func36, Try.ntmps36
  go_wp2_with fail
  have hmf : ∀ (fn : Fn) (first cap : Array Value) (w : World), (Instr.makeFunc fn first cap).run Try.prog w = .ok (.func fn first cap) w := fun _ _ _ _ => rfl
  refine wp_region_ord (fun W => SB t mp root err tb kb key W) (fun i => !([9, 10, 13].contains i)) [0, 1, 2, 3, 4, 5, 6, 7, 8, 9, 10, 11, 12, 13] rfl (by kernel_rfl) ⟨hS.tr, hS.bx, hS.ky⟩ ?_
  repeat ((refine ord_q (v := ?_) rfl rfl (fun _ _ _ h => h) rfl (fun W hW => ?_) ?_); rotate_left; (focus ((try dsimp only at hW); obtain ⟨q0, q1, q2, q3, q4, q5, q6⟩ := hW.cells; first | (go_simp; first | done | with_reducible rfl))); (try simp only [Act.put, List.setIfInBounds_toArray, List.set_cons_zero, List.set_cons_succ]))
  refine ord_e rfl rfl rfl ?_; intro K hK; go_simp
  refine HE.out.mono ?_; rintro e w1 ⟨v, rfl, hS1, hG⟩
  refine hK.out _ _ hS1 ?_
  refine ord_e rfl rfl rfl ?_; intro K hK; go_simp
  refine hG.mono ?_; rintro e w2 ⟨b, rfl, hS2, hR⟩
  refine hK.out _ _ hS2 ?_
  repeat ((refine ord_q (v := ?_) rfl rfl (fun _ _ _ h => h) rfl (fun W hW => ?_) ?_); rotate_left; (focus ((try dsimp only at hW); obtain ⟨q0, q1, q2, q3, q4, q5, q6⟩ := hW.cells; first | (go_simp; first | done | with_reducible rfl))); (try simp only [Act.put, List.setIfInBounds_toArray, List.set_cons_zero, List.set_cons_succ]))
  obtain ⟨_, _, x2, x3, _, _, x6⟩ := hS2.cells
  refine ord_l rfl rfl rfl (by kernel_rfl) ?_; intro K hK; go_simp
  refine hK.out _ _ ?_
  refine ord_nil ?_
  go_wp2_with fail
  go_end0
  exact ⟨rfl, b, w2, hR, hS2, rfl⟩

set_option maxRecDepth 100000 in
set_option maxHeartbeats 2000000 in
theorem delete1_of (t mp tb kb : Nat) (root err : Int) (key : ByteArray) (w : World) (R : Int → World → Prop) (hS : SB t mp root err tb kb key w)
    (hE : Calls Try.prog 38 #[.pointer (some ⟨t, 0, none⟩), .int .i64 root, .int .i64 0, .string key, .string ⟨#[]⟩, .func (.func 45) #[] #[.pointer (some ⟨kb, 0, none⟩)]] w.drew fun e w1 => ∃ v, e = .returned v ∧ SB t mp root err tb kb key w1 ∧
      Calls Try.prog 37 #[.pointer (some ⟨t, 0, none⟩), v] w1 fun e2 w2 => ∃ b, e2 = .returned (.int .i64 b) ∧ SB t mp root err tb kb key w2 ∧ R b w2) :
    Calls Try.prog 44 #[.pointer (some ⟨tb, 0, none⟩), .pointer (some ⟨kb, 0, none⟩)] w fun e w' => e = .returned (.tuple #[]) ∧ ∃ b w2, R b w2 ∧ SB t mp root err tb kb key w2 ∧ w' = w2.setCell ⟨t, 1, none⟩ (.int .i64 b) := by
  have HE := Lib.hid hE; clear hE
  go_enter Try.func44, Try.ntmps44
  go_wp2_with fail
  have hmf : ∀ (fn : Fn) (first cap : Array Value) (w : World), (Instr.makeFunc fn first cap).run Try.prog w = .ok (.func fn first cap) w := fun _ _ _ _ => rfl
  refine wp_region_ord (fun W => SB t mp root err tb kb key W) (fun i => !([9, 10, 13].contains i)) [0, 1, 2, 3, 4, 5, 6, 7, 8, 9, 10, 11, 12, 13] rfl (by kernel_rfl) ⟨hS.tr, hS.bx, hS.ky⟩ ?_
  repeat ((refine ord_q (v := ?_) rfl rfl (fun _ _ _ h => h) rfl (fun W hW => ?_) ?_); rotate_left; (focus ((try dsimp only at hW); obtain ⟨q0, q1, q2, q3, q4, q5, q6⟩ := hW.cells; first | (go_simp; first | done | with_reducible rfl))); (try simp only [Act.put, List.setIfInBounds_toArray, List.set_cons_zero, List.set_cons_succ]))
  refine ord_e rfl rfl rfl ?_; intro K hK; go_simp
  refine HE.out.mono ?_; rintro e w1 ⟨v, rfl, hS1, hG⟩
  refine hK.out _ _ hS1 ?_
  refine ord_e rfl rfl rfl ?_; intro K hK; go_simp
  refine hG.mono ?_; rintro e w2 ⟨b, rfl, hS2, hR⟩
  refine hK.out _ _ hS2 ?_
  repeat ((refine ord_q (v := ?_) rfl rfl (fun _ _ _ h => h) rfl (fun W hW => ?_) ?_); rotate_left; (focus ((try dsimp only at hW); obtain ⟨q0, q1, q2, q3, q4, q5, q6⟩ := hW.cells; first | (go_simp; first | done | with_reducible rfl))); (try simp only [Act.put, List.setIfInBounds_toArray, List.set_cons_zero, List.set_cons_succ]))
  obtain ⟨_, _, x2, x3, _, _, x6⟩ := hS2.cells
  refine ord_l rfl rfl rfl (by kernel_rfl) ?_; intro K hK; go_simp
  refine hK.out _ _ ?_
  refine ord_nil ?_
  go_wp2_with fail
  go_end0
  exact ⟨rfl, b, w2, hR, hS2, rfl⟩
end Go.Proofs.Ytbldcbakhpdigaa
