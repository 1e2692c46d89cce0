/- BtreeNone: whatever the input, the call returns true; the input reads as it did. No condition. -/
import Derived.Test.YtbldcbakhpdigaaNil
import Derived.Test.YtbldcbakhpdigaaRows
import Derived.ProofKit
import Derived.Lib.SmallJoins
namespace Go.Proofs.Ytbldcbakhpdigaa
open Go.RowKit Go.ChangeShapes Go.WideShapes Go.ChangeAt

set_option maxRecDepth 100000 in
set_option maxHeartbeats 4000000 in
theorem none_walk (kind most : Int) (key value : ByteArray) (w : World) :
    Calls Try.prog 8 #[.agg #[.int .u8 kind, .string key, .string value, .int .i64 most]] w fun e w' => e = .returned (.bool true) ∧ Below w.heap.size w w' := by
  go_enter Try.func8, Try.ntmps8
  have hb0 := below_one w (.cells #[.int .u8 kind, .string key, .string value, .int .i64 most] 29)
  have hc := heap_alloc_new w (.cells #[.int .u8 kind, .string key, .string value, .int .i64 most] 29)
  have hsz : (w.alloc (.cells #[.int .u8 kind, .string key, .string value, .int .i64 most] 29)).heap.size = w.heap.size + 1 := by simp
  have HC := Lib.hid hc
  have HS := Lib.hid hsz
  have HB := Lib.hid hb0
  clear hc hsz hb0
  go_wp2_with (go_at_call 9; go_must ((refine (fixed_any _).mono ?_); rintro e w1 ⟨rfl, hb1⟩; refine Stop.of ?_))
  have hw1 : Below w.heap.size w w1 := HB.out.trans (hb1.mono HB.out.size)
  have hcell : w1.heap[w.heap.size]? = some (.cells #[.int .u8 kind, .string key, .string value, .int .i64 most] 29 (0, 0)) := (hb1.block _ (by rw [HS.out]; omega)).trans HC.out
  have c1 : w1.cell? ⟨w.heap.size, 1, none⟩ = some (.string key) := by simp [World.cell?, hcell]
  have c2 : w1.cell? ⟨w.heap.size, 2, none⟩ = some (.string value) := by simp [World.cell?, hcell]
  have c3 : w1.cell? ⟨w.heap.size, 3, none⟩ = some (.int .i64 most) := by simp [World.cell?, hcell]
  have hl1 := (Array.getElem?_eq_some_iff.1 hcell).1
  clear hb1 hcell
  refine Stop.on ?_
  go_wp2_with (first
    | (go_at_call 26; go_must ((refine (hold_nil _).mono ?_); rintro e w2 ⟨rfl, hw⟩; subst w2))
    | (go_at_call 28; go_must ((refine (get_nil _ _).mono ?_); rintro e w2 ⟨rfl, hw⟩; subst w2))
    | (go_at_call 23; go_must ((refine (delete_nil _ _).mono ?_); rintro e w3 ⟨rfl, hb3⟩; have d1 := (hb3.cell (p := ⟨w.heap.size, 1, none⟩) hl1).trans c1; have d2 := (hb3.cell (p := ⟨w.heap.size, 2, none⟩) hl1).trans c2; have d3 := (hb3.cell (p := ⟨w.heap.size, 3, none⟩) hl1).trans c3; have hl3 := Nat.lt_of_lt_of_le hl1 hb3.size; have hw3 := hw1.trans (hb3.mono hw1.size); clear c1 c2 c3 hl1 hb3 hw1))
    | (go_at_call 21; go_must ((refine (scan_nil _ _ _).mono ?_); rintro e w4 ⟨rfl, hb4⟩; have e1 := (hb4.cell (p := ⟨w.heap.size, 1, none⟩) hl3).trans d1; have e2 := (hb4.cell (p := ⟨w.heap.size, 2, none⟩) hl3).trans d2; have e3 := (hb4.cell (p := ⟨w.heap.size, 3, none⟩) hl3).trans d3; have hl4 := Nat.lt_of_lt_of_le hl3 hb4.size; have hw4 := hw3.trans (hb4.mono hw3.size); clear d1 d2 d3 hl3 hb4 hw3))
    | (go_at_call 29; go_must ((refine (blocks_nil _).mono ?_); rintro e w2 ⟨rfl, hw⟩; subst w2))
    | (go_at_call 15; go_must ((refine (read_nil _ _).mono ?_); rintro e w2 ⟨rfl, hw⟩; subst w2))
    | (go_at_call 11; go_must ((refine (take_nil _).mono ?_); rintro e w2 ⟨rfl, hw⟩; subst w2))
    | (go_at_call 20; go_must ((refine (put_nil _ _ _).mono ?_); rintro e w5 ⟨rfl, hb5⟩; have hw5 := hw4.trans (hb5.mono hw4.size); clear e1 e2 e3 hl4 hb5 hw4))
    | (go_at_call 24; go_must ((refine (root_nil _).mono ?_); rintro e w2 ⟨rfl, hw⟩; subst w2))
    | (go_at_call 14; go_must ((refine (write_nil _ _ _).mono ?_); rintro e w2 ⟨rfl, hw⟩; subst w2))
    | (go_at_call 13; go_must ((refine (free_nil _ _).mono ?_); rintro e w2 ⟨rfl, hw⟩; subst w2))
    | (go_at_call 12; go_must ((refine (used_nil _).mono ?_); rintro e w2 ⟨rfl, hw⟩; subst w2))
    | (go_at_call 16; go_must (refine (open_nil 0 _).mono ?_; rintro e w2 ⟨rfl, hw⟩; subst w2))
    | (go_at_call 10; go_must ((refine (newmem_any 1 _).mono ?_); rintro e w6 ⟨rfl, _, _, hb6⟩; have hw6 := hw5.trans (hb6.mono hw5.size); clear hb6 hw5; refine Stop.of ?_)))
  refine Stop.on ?_
  go_wp2_with (go_at_call 16; go_must (refine (open_neg _ (-1) (by decide) _).mono ?_; rintro e w2 ⟨rfl, hw⟩; subst w2))
  go_ret
  exact ⟨rfl, hw6⟩

end Go.Proofs.Ytbldcbakhpdigaa
