/- What nil trees and nil stores answer. (Printed by gen/none.py.) -/
import Derived.Test.YtbldcbakhpdigaaFixed
namespace Go.Proofs.Ytbldcbakhpdigaa
open Go.RowKit

theorem usable_nil (w : World) : Calls Try.prog 33 #[.pointer none] w fun e w' => e = .returned (.int .i64 2) ∧ w' = w := by
  go_enter Try.func33, Try.ntmps33
  go_wp2
  go_ret
  exact ⟨rfl, rfl⟩
theorem check_nil (b : Int) (w : World) : Calls Try.prog 30 #[.pointer none, .int .i64 b] w fun e w' => e = .returned (.int .i64 2) ∧ w' = w := by
  go_enter Try.func30, Try.ntmps30
  go_wp2
  go_ret
  exact ⟨rfl, rfl⟩

set_option maxRecDepth 100000 in
theorem get_nil (key : ByteArray) (w : World) : Calls Try.prog 28 #[.pointer none, .string key] w fun e w' => e = .returned (.tuple #[.string ⟨#[]⟩, .bool false, .int .i64 2]) ∧ w' = w := by
  go_enter Try.func28, Try.ntmps28
  go_wp2_with (go_at_call 33; go_must ((refine (usable_nil _).mono ?_); rintro e w1 ⟨rfl, hw⟩; subst w1))
  go_ret3
  exact ⟨rfl, rfl⟩

set_option maxRecDepth 100000 in
theorem put_nil (key value : ByteArray) (w : World) : Calls Try.prog 20 #[.pointer none, .string key, .string value] w fun e w' => e = .returned (.int .i64 2) ∧ Below w.heap.size w w' := by
  go_enter Try.func20, Try.ntmps20
  go_wp2_with (go_at_call 33; go_must ((refine (usable_nil _).mono ?_); rintro e w1 ⟨rfl, hw⟩; subst w1))
  go_ret
  exact ⟨rfl, below_three w _ _ _⟩

set_option maxRecDepth 100000 in
theorem delete_nil (key : ByteArray) (w : World) : Calls Try.prog 23 #[.pointer none, .string key] w fun e w' => e = .returned (.tuple #[.bool false, .int .i64 2]) ∧ Below w.heap.size w w' := by
  go_enter Try.func23, Try.ntmps23
  go_wp2_with (go_at_call 28; go_must ((refine (get_nil _ _).mono ?_); rintro e w1 ⟨rfl, hw⟩; subst w1))
  go_ret2
  exact ⟨rfl, below_two w _ _⟩

set_option maxRecDepth 100000 in
theorem scan_nil (key : ByteArray) (most : Int) (w : World) : Calls Try.prog 21 #[.pointer none, .string key, .int .i64 most] w fun e w' => e = .returned (.tuple #[.slice none 0 0, .int .i64 2]) ∧ Below w.heap.size w w' := by
  go_enter Try.func21, Try.ntmps21
  go_wp2_with (go_at_call 33; go_must ((refine (usable_nil _).mono ?_); rintro e w1 ⟨rfl, hw⟩; subst w1))
  go_ret2
  exact ⟨rfl, below_one w _⟩

set_option maxRecDepth 100000 in
theorem blocks_nil (w : World) : Calls Try.prog 29 #[.pointer none] w fun e w' => e = .returned (.tuple #[.slice none 0 0, .int .i64 2]) ∧ w' = w := by
  go_enter Try.func29, Try.ntmps29
  go_wp2_with (go_at_call 33; go_must ((refine (usable_nil _).mono ?_); rintro e w1 ⟨rfl, hw⟩; subst w1))
  go_ret2
  exact ⟨rfl, rfl⟩

set_option maxRecDepth 100000 in
theorem root_nil (w : World) : Calls Try.prog 24 #[.pointer none] w fun e w' => e = .returned (.int .i64 0) ∧ w' = w := by
  go_enter Try.func24, Try.ntmps24
  go_wp2
  go_ret
  exact ⟨rfl, rfl⟩

set_option maxRecDepth 100000 in
theorem hold_nil (w : World) : Calls Try.prog 26 #[.pointer none] w fun e w' => e = .returned (.tuple #[]) ∧ w' = w := by
  go_enter Try.func26, Try.ntmps26
  go_wp2
  go_end0
  exact ⟨rfl, rfl⟩

set_option maxRecDepth 100000 in
theorem read_nil (b : Int) (w : World) : Calls Try.prog 15 #[.pointer none, .int .i64 b] w fun e w' => e = .returned (.tuple #[.slice none 0 0, .int .i64 2]) ∧ w' = w := by
  go_enter Try.func15, Try.ntmps15
  go_wp2_with (go_at_call 30; go_must ((refine (check_nil _ _).mono ?_); rintro e w1 ⟨rfl, hw⟩; subst w1))
  go_ret2
  exact ⟨rfl, rfl⟩

set_option maxRecDepth 100000 in
theorem take_nil (w : World) : Calls Try.prog 11 #[.pointer none] w fun e w' => e = .returned (.tuple #[.int .i64 0, .int .i64 2]) ∧ w' = w := by
  go_enter Try.func11, Try.ntmps11
  go_wp2
  go_ret2
  exact ⟨rfl, rfl⟩

set_option maxRecDepth 100000 in
theorem write_nil (b : Int) (v : Value) (w : World) : Calls Try.prog 14 #[.pointer none, .int .i64 b, v] w fun e w' => e = .returned (.int .i64 2) ∧ w' = w := by
  go_enter Try.func14, Try.ntmps14
  go_wp2_with (go_at_call 30; go_must ((refine (check_nil _ _).mono ?_); rintro e w1 ⟨rfl, hw⟩; subst w1))
  go_ret
  exact ⟨rfl, rfl⟩

set_option maxRecDepth 100000 in
theorem free_nil (b : Int) (w : World) : Calls Try.prog 13 #[.pointer none, .int .i64 b] w fun e w' => e = .returned (.int .i64 2) ∧ w' = w := by
  go_enter Try.func13, Try.ntmps13
  go_wp2_with (go_at_call 30; go_must ((refine (check_nil _ _).mono ?_); rintro e w1 ⟨rfl, hw⟩; subst w1))
  go_ret
  exact ⟨rfl, rfl⟩

set_option maxRecDepth 100000 in
theorem used_nil (w : World) : Calls Try.prog 12 #[.pointer none] w fun e w' => e = .returned (.int .i64 0) ∧ w' = w := by
  go_enter Try.func12, Try.ntmps12
  go_wp2
  go_ret
  exact ⟨rfl, rfl⟩

set_option maxRecDepth 100000 in
theorem open_nil (root : Int) (w : World) : Calls Try.prog 16 #[.nilIface, .int .i64 root] w fun e w' => e = .returned (.pointer none) ∧ w' = w := by
  have heq : ∀ w : World, (binOp BinOp.eql 77 .nilIface .nilIface).run Try.prog w = .ok (.bool true) w := fun _ => by kernel_rfl
  go_enter Try.func16, Try.ntmps16
  go_wp2
  go_ret
  exact ⟨rfl, rfl⟩
set_option maxRecDepth 100000 in
theorem open_neg (mp : Nat) (root : Int) (hr : root < 0) (w : World) : Calls Try.prog 16 #[.iface 24 (.pointer (some ⟨mp, 0, none⟩)), .int .i64 root] w fun e w' => e = .returned (.pointer none) ∧ w' = w := by
  have heq : ∀ w : World, (binOp BinOp.eql 77 (.iface 24 (.pointer (some ⟨mp, 0, none⟩))) .nilIface).run Try.prog w = .ok (.bool false) w := fun _ => by kernel_rfl
  go_enter Try.func16, Try.ntmps16
  go_wp2
  go_ret
  exact ⟨rfl, rfl⟩
end Go.Proofs.Ytbldcbakhpdigaa
