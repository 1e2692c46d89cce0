/- slices.Clone at bytes, ints, strings, pairs. (Printed by gen/clone.py.) -/
import Derived.Test.YtbldcbakhpdigaaSlDel
import Derived.Test.YtbldcbakhpdigaaEncode
namespace Go.Proofs.Ytbldcbakhpdigaa
open Go.RowKit

set_option maxRecDepth 100000 in
set_option maxHeartbeats 400000 in
theorem cloneBytes_any (v : Value) (n : Nat) (xs : List Value) (w : World) (S : Nat → Prop) (hS : ∀ g, S g → g < w.heap.size) (h : IsSl w S 1 v n xs) (h1 : ∀ u ∈ xs, u.oneCell' = true) (hn : n ≤ 1000000) :
    Calls Try.prog 31 #[v] w fun e w' => ∃ v', e = .returned v' ∧ OwnSl w' S w.heap.size 5 1 v' n xs ∧ Below w.heap.size w w' := by
  have hsrc := h.src (P := Try.prog) Try.underlying34 h1
  obtain ⟨ao, c, rfl, g1, g2, g3, g4⟩ := h.form
  cases ao with
  | none =>
    obtain rfl : c = 0 := g4 rfl
    obtain rfl : n = 0 := by omega
    have hx : xs = [] := List.eq_nil_of_length_eq_zero (by obtain ⟨_, _, _, _, _, e, _⟩ := h; simpa using e)
    subst hx
    have hq := fun w => Lib.run_eql_slice_nil (P := Try.prog) w 34 5 none 0 0 0 0 Try.underlying34
    clear hsrc h g3 g4
    go_enter Try.func31, Try.ntmps31
    go_wp2
    go_ret
    exact ⟨_, rfl, OwnSl.nil _ _ _ _ _, Below.refl _ _⟩
  | some ad =>
    have hq := fun w => Lib.run_eql_slice_nil (P := Try.prog) w 34 5 (some ad) n c 0 0 Try.underlying34
    have hn0 := own_new (w := w) (S := S) (B := w.heap.size) (e := 5) (k := 1) [] 0 0 rfl rfl (Nat.le_refl _) (Nat.zero_le _) (Nat.le_refl _) hS
    have hsrc' : Src Try.prog 1 34 (.slice (some ad) n c) n xs (w.alloc (.cells #[] 5)) := (h.below (below_one w _)).src Try.underlying34 h1
    clear hsrc h g3 g4
    go_enter Try.func31, Try.ntmps31
    go_wp2_with (at_builtin; (refine wpList_app rfl (.tmp 5) (.tmp 6) 34 34 rfl S w.heap.size 5 1 1 _ Try.underlying34 info_u8 rfl (.slice (some ⟨w.heap.size, 0, none⟩) 0 0) 0 [] rfl hn0 (.slice (some ad) n c) _ _ rfl hsrc' (sub_alloc hS _) ?_ ?_ ?_ ?_); (focus (simp only [World.size_alloc]; omega)); (focus (unfold maxLen; omega)); (focus omega); intro ao1 c1 w1 hown1 hk1 hb1 hd1; simp only [Nat.zero_add])
    go_ret
    simp only [Nat.zero_add, List.nil_append] at hown1
    exact ⟨_, rfl, hown1, (below_one w _).trans hb1⟩

set_option maxRecDepth 100000 in
set_option maxHeartbeats 400000 in
theorem cloneInt_any (v : Value) (n : Nat) (xs : List Value) (w : World) (S : Nat → Prop) (hS : ∀ g, S g → g < w.heap.size) (h : IsSl w S 1 v n xs) (h1 : ∀ u ∈ xs, u.oneCell' = true) (hn : n ≤ 1000000) :
    Calls Try.prog 73 #[v] w fun e w' => ∃ v', e = .returned v' ∧ OwnSl w' S w.heap.size 3 1 v' n xs ∧ Below w.heap.size w w' := by
  have hsrc := h.src (P := Try.prog) Try.underlying66 h1
  obtain ⟨ao, c, rfl, g1, g2, g3, g4⟩ := h.form
  cases ao with
  | none =>
    obtain rfl : c = 0 := g4 rfl
    obtain rfl : n = 0 := by omega
    have hx : xs = [] := List.eq_nil_of_length_eq_zero (by obtain ⟨_, _, _, _, _, e, _⟩ := h; simpa using e)
    subst hx
    have hq := fun w => Lib.run_eql_slice_nil (P := Try.prog) w 66 3 none 0 0 0 0 Try.underlying66
    clear hsrc h g3 g4
    go_enter Try.func73, Try.ntmps73
    go_wp2
    go_ret
    exact ⟨_, rfl, OwnSl.nil _ _ _ _ _, Below.refl _ _⟩
  | some ad =>
    have hq := fun w => Lib.run_eql_slice_nil (P := Try.prog) w 66 3 (some ad) n c 0 0 Try.underlying66
    have hn0 := own_new (w := w) (S := S) (B := w.heap.size) (e := 3) (k := 1) [] 0 0 rfl rfl (Nat.le_refl _) (Nat.zero_le _) (Nat.le_refl _) hS
    have hsrc' : Src Try.prog 1 66 (.slice (some ad) n c) n xs (w.alloc (.cells #[] 3)) := (h.below (below_one w _)).src Try.underlying66 h1
    clear hsrc h g3 g4
    go_enter Try.func73, Try.ntmps73
    go_wp2_with (at_builtin; (refine wpList_app rfl (.tmp 5) (.tmp 6) 66 66 rfl S w.heap.size 3 1 8 _ Try.underlying66 info_int rfl (.slice (some ⟨w.heap.size, 0, none⟩) 0 0) 0 [] rfl hn0 (.slice (some ad) n c) _ _ rfl hsrc' (sub_alloc hS _) ?_ ?_ ?_ ?_); (focus (simp only [World.size_alloc]; omega)); (focus (unfold maxLen; omega)); (focus omega); intro ao1 c1 w1 hown1 hk1 hb1 hd1; simp only [Nat.zero_add])
    go_ret
    simp only [Nat.zero_add, List.nil_append] at hown1
    exact ⟨_, rfl, hown1, (below_one w _).trans hb1⟩

set_option maxRecDepth 100000 in
set_option maxHeartbeats 400000 in
theorem cloneStr_any (v : Value) (n : Nat) (xs : List Value) (w : World) (S : Nat → Prop) (hS : ∀ g, S g → g < w.heap.size) (h : IsSl w S 1 v n xs) (h1 : ∀ u ∈ xs, u.oneCell' = true) (hn : n ≤ 1000000) :
    Calls Try.prog 75 #[v] w fun e w' => ∃ v', e = .returned v' ∧ OwnSl w' S w.heap.size 9 1 v' n xs ∧ Below w.heap.size w w' := by
  have hsrc := h.src (P := Try.prog) Try.underlying27 h1
  obtain ⟨ao, c, rfl, g1, g2, g3, g4⟩ := h.form
  cases ao with
  | none =>
    obtain rfl : c = 0 := g4 rfl
    obtain rfl : n = 0 := by omega
    have hx : xs = [] := List.eq_nil_of_length_eq_zero (by obtain ⟨_, _, _, _, _, e, _⟩ := h; simpa using e)
    subst hx
    have hq := fun w => Lib.run_eql_slice_nil (P := Try.prog) w 27 9 none 0 0 0 0 Try.underlying27
    clear hsrc h g3 g4
    go_enter Try.func75, Try.ntmps75
    go_wp2
    go_ret
    exact ⟨_, rfl, OwnSl.nil _ _ _ _ _, Below.refl _ _⟩
  | some ad =>
    have hq := fun w => Lib.run_eql_slice_nil (P := Try.prog) w 27 9 (some ad) n c 0 0 Try.underlying27
    have hn0 := own_new (w := w) (S := S) (B := w.heap.size) (e := 9) (k := 1) [] 0 0 rfl rfl (Nat.le_refl _) (Nat.zero_le _) (Nat.le_refl _) hS
    have hsrc' : Src Try.prog 1 27 (.slice (some ad) n c) n xs (w.alloc (.cells #[] 9)) := (h.below (below_one w _)).src Try.underlying27 h1
    clear hsrc h g3 g4
    go_enter Try.func75, Try.ntmps75
    go_wp2_with (at_builtin; (refine wpList_app rfl (.tmp 5) (.tmp 6) 27 27 rfl S w.heap.size 9 1 16 _ Try.underlying27 info_str rfl (.slice (some ⟨w.heap.size, 0, none⟩) 0 0) 0 [] rfl hn0 (.slice (some ad) n c) _ _ rfl hsrc' (sub_alloc hS _) ?_ ?_ ?_ ?_); (focus (simp only [World.size_alloc]; omega)); (focus (unfold maxLen; omega)); (focus omega); intro ao1 c1 w1 hown1 hk1 hb1 hd1; simp only [Nat.zero_add])
    go_ret
    simp only [Nat.zero_add, List.nil_append] at hown1
    exact ⟨_, rfl, hown1, (below_one w _).trans hb1⟩

set_option maxRecDepth 100000 in
set_option maxHeartbeats 400000 in
theorem clonePair_any (v : Value) (n : Nat) (xs : List Value) (w : World) (S : Nat → Prop) (hS : ∀ g, S g → g < w.heap.size) (h : IsSl w S 2 v n xs) (h1 : ∀ u ∈ xs, u.oneCell' = true) (hn : n ≤ 1000000) :
    Calls Try.prog 74 #[v] w fun e w' => ∃ v', e = .returned v' ∧ OwnSl w' S w.heap.size 49 2 v' n xs ∧ Below w.heap.size w w' := by
  have hsrc := h.src (P := Try.prog) Try.underlying40 h1
  obtain ⟨ao, c, rfl, g1, g2, g3, g4⟩ := h.form
  cases ao with
  | none =>
    obtain rfl : c = 0 := g4 rfl
    obtain rfl : n = 0 := by omega
    have hx : xs = [] := List.eq_nil_of_length_eq_zero (by obtain ⟨_, _, _, _, _, e, _⟩ := h; simpa using e)
    subst hx
    have hq := fun w => Lib.run_eql_slice_nil (P := Try.prog) w 40 49 none 0 0 0 0 Try.underlying40
    clear hsrc h g3 g4
    go_enter Try.func74, Try.ntmps74
    go_wp2
    go_ret
    exact ⟨_, rfl, OwnSl.nil _ _ _ _ _, Below.refl _ _⟩
  | some ad =>
    have hq := fun w => Lib.run_eql_slice_nil (P := Try.prog) w 40 49 (some ad) n c 0 0 Try.underlying40
    have hn0 := own_new (w := w) (S := S) (B := w.heap.size) (e := 49) (k := 2) [] 0 0 rfl rfl (Nat.le_refl _) (Nat.zero_le _) (Nat.le_refl _) hS
    have hsrc' : Src Try.prog 2 40 (.slice (some ad) n c) n xs (w.alloc (.cells #[] 49)) := (h.below (below_one w _)).src Try.underlying40 h1
    clear hsrc h g3 g4
    go_enter Try.func74, Try.ntmps74
    go_wp2_with (at_builtin; (refine wpList_app rfl (.tmp 5) (.tmp 6) 40 40 rfl S w.heap.size 49 2 32 _ Try.underlying40 info_pair rfl (.slice (some ⟨w.heap.size, 0, none⟩) 0 0) 0 [] rfl hn0 (.slice (some ad) n c) _ _ rfl hsrc' (sub_alloc hS _) ?_ ?_ ?_ ?_); (focus (simp only [World.size_alloc]; omega)); (focus (unfold maxLen; omega)); (focus omega); intro ao1 c1 w1 hown1 hk1 hb1 hd1; simp only [Nat.zero_add])
    go_ret
    simp only [Nat.zero_add, List.nil_append] at hown1
    exact ⟨_, rfl, hown1, (below_one w _).trans hb1⟩

end Go.Proofs.Ytbldcbakhpdigaa
