/- slices.Delete(s, i, i+1) at pairs, ints, strings. (Printed by gen/del.py.) -/
import Derived.Test.YtbldcbakhpdigaaNode
import Derived.Test.YtbldcbakhpdigaaRow
import Derived.Deep.RegionHeld3
namespace Go.Proofs.Ytbldcbakhpdigaa
open Go.RowKit

theorem info_pair : (Try.prog.info? 49).map (fun i => (i.zero, i.size, i.bytes)) = some (some (.agg #[.string ⟨#[]⟩, .string ⟨#[]⟩]), 2, 32) := by kernel_rfl
theorem info_int : (Try.prog.info? 3).map (fun i => (i.zero, i.size, i.bytes)) = some (some (.int .i64 0), 1, 8) := by kernel_rfl
theorem info_str : (Try.prog.info? 9).map (fun i => (i.zero, i.size, i.bytes)) = some (some (.string ⟨#[]⟩), 1, 16) := by kernel_rfl

theorem del_list {α : Type} (cur xs zs : List α) (i n cap k : Nat) (hi : i < n) (hn : n ≤ cap) (hl : cur.length = cap * k) (hx : cur.take (n * k) = xs) (hxl : xs.length = n * k) (hz : zs.length = k) :
    (splice cur (i * k) (xs.drop ((i + 1) * k))).length = cap * k ∧ (splice (splice cur (i * k) (xs.drop ((i + 1) * k))) ((n - 1) * k) zs).length = cap * k ∧
    (splice (splice cur (i * k) (xs.drop ((i + 1) * k))) ((n - 1) * k) zs).take ((n - 1) * k) = xs.take (i * k) ++ xs.drop ((i + 1) * k) := by
  obtain ⟨d, rfl⟩ : ∃ d, n = i + 1 + d := ⟨n - (i + 1), by omega⟩
  obtain ⟨c, rfl⟩ : ∃ c, cap = i + 1 + d + c := ⟨cap - (i + 1 + d), by omega⟩
  have e0 : i + 1 + d - 1 = i + d := by omega
  rw [e0]
  simp only [Nat.add_mul, Nat.one_mul] at *
  have e1 : (cur.take (i * k)).length = i * k := by rw [List.length_take]; omega
  have e2 : (xs.drop (i * k + k)).length = d * k := by rw [List.length_drop]; omega
  have hl1 : (splice cur (i * k) (xs.drop (i * k + k))).length = i * k + k + d * k + c * k := by rw [length_splice _ _ _ (by rw [e2]; omega)]; exact hl
  refine ⟨hl1, by rw [length_splice _ _ _ (by rw [hl1]; omega)]; exact hl1, ?_⟩
  unfold splice
  rw [List.take_append_of_le_length (by rw [List.length_take]; simp only [List.length_append, List.length_take, List.length_drop]; omega), List.take_take, Nat.min_self, ← List.append_assoc,
    List.take_append_of_le_length (by rw [List.length_append, e1, e2]; omega), List.take_of_length_le (by rw [List.length_append, e1, e2]; omega), ← hx, List.take_take, Nat.min_eq_left (by omega)]

set_option maxRecDepth 100000 in
set_option maxHeartbeats 1000000 in
theorem delPair_any (g cap n i : Nat) (xs : List Value) (w : World) (S : Nat → Prop) (B : Nat) (h : OwnSl w S B 49 2 (.slice (some ⟨g, 0, none⟩) n cap) n xs) (hone : ∀ u ∈ xs, u.oneCell' = true) (hi : i < n) (hn : n ≤ 1000000) :
    Calls Try.prog 46 #[.slice (some ⟨g, 0, none⟩) n cap, .int .i64 i, .int .i64 ((i : Int) + 1)] w fun e w' => ∃ c, e = .returned (.slice (some ⟨g, 0, none⟩) (n - 1) c) ∧ OwnSl w' S B 49 2 (.slice (some ⟨g, 0, none⟩) (n - 1) c) (n - 1) (xs.take (i * 2) ++ xs.drop ((i + 1) * 2)) ∧ Keep (· = g) w w' := by
  obtain ⟨cur, hr, hl, hx, hB, hSg, hc, hc2⟩ := h.row
  have hxl := h.1.1
  have hc3 : cap ≤ 9223372036854775807 := by simpa [maxLen] using hc2
  clear h
  have k1 : (0 : Int) ≤ (i : Int) := by omega
  have k2 : (i : Int) ≤ (cap : Int) := by omega
  have k3 : (0 : Int) ≤ (i : Int) + 1 := by omega
  have k4 : (i : Int) + 1 ≤ (n : Int) := by omega
  have k5 : ((i : Int) + 1).toNat = i + 1 := by omega
  have hsrc : Src Try.prog 2 40 (.slice (if cap = i + 1 then some ⟨g, 0, none⟩ else some ⟨g, (i + 1) * 2, none⟩) (n - (i + 1)) (cap - (i + 1))) (n - (i + 1)) (xs.drop ((i + 1) * 2)) w.drew := by
    split
    · obtain rfl : n = i + 1 := by omega
      rw [show cap - (i + 1) = 0 by omega, show i + 1 - (i + 1) = 0 by omega, List.drop_of_length_le (by omega)]
      exact Src.ofSlice _ Try.underlying40 _ 0 0 [] rfl (by simp) (by simp)
    · have := (Row.isSl (w := w.drew) (S := NoS) (k := 2) (off := (i + 1) * 2) hr (n - (i + 1)) (cap - (i + 1)) (by omega) id (by omega) (by unfold maxLen at *; omega)).src Try.underlying40
      rw [show (cur.drop ((i + 1) * 2)).take ((n - (i + 1)) * 2) = xs.drop ((i + 1) * 2) by rw [← hx, List.drop_take, show (i + 1) * 2 = (i + 1) * 2 by omega]; congr 1; omega] at this
      exact this fun u hu => hone u (List.mem_of_mem_drop hu)
  have hm : i + (n - (i + 1)) = n - 1 := by omega
  generalize hao : (if cap = i + 1 then some (⟨g, 0, none⟩ : Addr) else some ⟨g, (i + 1) * 2, none⟩) = ao at hsrc
  have Hao := Lib.hid hao
  clear hao
  have k6 : ¬ cap = n - 1 := by omega
  have k7 : n - (n - 1) = 1 := by omega
  have hl1 : (splice cur (i * 2) (xs.drop ((i + 1) * 2))).length = cap * 2 := by rw [length_splice _ _ _ (by rw [List.length_drop]; omega)]; exact hl
  have Hl := Lib.hid hl; clear hl
  have Hx := Lib.hid hx; clear hx
  have Hxl := Lib.hid hxl; clear hxl
  have Hl1 := Lib.hid hl1; clear hl1
  go_enter Try.func46, Try.ntmps46
  go_wp2
  go_region_held3 (fun _ => True) (trivial) (first | (rw [Hao.out]; (refine in_step rfl (wp_room (.tmp 22) (.tmp 25) 40 40 rfl 49 2 32 _ Try.underlying40 info_pair g i cap _ cur rfl hr (.slice ao (n - (i + 1)) (cap - (i + 1))) (n - (i + 1)) _ rfl hsrc ?_ ?_ ?_)); (focus omega); (focus (have := Hxl.out; have := Hl.out; rw [List.length_drop]; omega)); intro w1 hr1 hk1))
  go_wp2_with (first | (refine in_list rfl ?_; intro K hK; (refine wp_clearRow (.tmp 31) 40 rfl 49 2 32 _ Try.underlying40 info_pair rfl g ((n - 1) * 2) 49 1 _ (some ⟨g, (n - 1) * 2, none⟩) _ rfl hr1 (fun _ => rfl) ?_ ?_ ?_); (focus (rw [Hl1.out]; omega)); (focus (exact zeroCells_one _ _ (by simp [Value.cells, Value.oneCell']) (by simp [Value.cells]))); intro w2 zs hz hr2 hk2; refine hK _ _ ?_))
  go_ret
  obtain ⟨_, q2, q3⟩ := del_list cur xs zs i n cap 2 hi hc Hl.out Hx.out Hxl.out (by rw [hz])
  refine ⟨cap, rfl, ?_, ((Keep.refl (· = g) w).drew.trans hk1 (fun _ _ h => h)).trans hk2 (fun _ _ h => h)⟩
  rw [← q3]
  exact Row.own (cur := splice _ ((n - 1) * 2) zs) (hr2) (n - 1) q2 hB hSg (by omega) hc2

set_option maxRecDepth 100000 in
set_option maxHeartbeats 1000000 in
theorem delInt_any (g cap n i : Nat) (xs : List Value) (w : World) (S : Nat → Prop) (B : Nat) (h : OwnSl w S B 3 1 (.slice (some ⟨g, 0, none⟩) n cap) n xs) (hone : ∀ u ∈ xs, u.oneCell' = true) (hi : i < n) (hn : n ≤ 1000000) :
    Calls Try.prog 76 #[.slice (some ⟨g, 0, none⟩) n cap, .int .i64 i, .int .i64 ((i : Int) + 1)] w fun e w' => ∃ c, e = .returned (.slice (some ⟨g, 0, none⟩) (n - 1) c) ∧ OwnSl w' S B 3 1 (.slice (some ⟨g, 0, none⟩) (n - 1) c) (n - 1) (xs.take (i * 1) ++ xs.drop ((i + 1) * 1)) ∧ Keep (· = g) w w' := by
  obtain ⟨cur, hr, hl, hx, hB, hSg, hc, hc2⟩ := h.row
  have hxl := h.1.1
  have hc3 : cap ≤ 9223372036854775807 := by simpa [maxLen] using hc2
  clear h
  have k1 : (0 : Int) ≤ (i : Int) := by omega
  have k2 : (i : Int) ≤ (cap : Int) := by omega
  have k3 : (0 : Int) ≤ (i : Int) + 1 := by omega
  have k4 : (i : Int) + 1 ≤ (n : Int) := by omega
  have k5 : ((i : Int) + 1).toNat = i + 1 := by omega
  have hsrc : Src Try.prog 1 66 (.slice (if cap = i + 1 then some ⟨g, 0, none⟩ else some ⟨g, i + 1, none⟩) (n - (i + 1)) (cap - (i + 1))) (n - (i + 1)) (xs.drop ((i + 1) * 1)) w.drew := by
    split
    · obtain rfl : n = i + 1 := by omega
      rw [show cap - (i + 1) = 0 by omega, show i + 1 - (i + 1) = 0 by omega, List.drop_of_length_le (by omega)]
      exact Src.ofSlice _ Try.underlying66 _ 0 0 [] rfl (by simp) (by simp)
    · have := (Row.isSl (w := w.drew) (S := NoS) (k := 1) (off := i + 1) hr (n - (i + 1)) (cap - (i + 1)) (by omega) id (by omega) (by unfold maxLen at *; omega)).src Try.underlying66
      rw [show (cur.drop (i + 1)).take ((n - (i + 1)) * 1) = xs.drop ((i + 1) * 1) by rw [← hx, List.drop_take, show (i + 1) * 1 = i + 1 by omega]; congr 1; omega] at this
      exact this fun u hu => hone u (List.mem_of_mem_drop hu)
  have hm : i + (n - (i + 1)) = n - 1 := by omega
  generalize hao : (if cap = i + 1 then some (⟨g, 0, none⟩ : Addr) else some ⟨g, i + 1, none⟩) = ao at hsrc
  have Hao := Lib.hid hao
  clear hao
  have k6 : ¬ cap = n - 1 := by omega
  have k7 : n - (n - 1) = 1 := by omega
  have hl1 : (splice cur (i * 1) (xs.drop ((i + 1) * 1))).length = cap * 1 := by rw [length_splice _ _ _ (by rw [List.length_drop]; omega)]; exact hl
  have Hl := Lib.hid hl; clear hl
  have Hx := Lib.hid hx; clear hx
  have Hxl := Lib.hid hxl; clear hxl
  have Hl1 := Lib.hid hl1; clear hl1
  go_enter Try.func76, Try.ntmps76
  go_wp2
  go_region_held3 (fun _ => True) (trivial) (first | (rw [Hao.out]; (refine in_step rfl (wp_room (.tmp 22) (.tmp 25) 66 66 rfl 3 1 8 _ Try.underlying66 info_int g i cap _ cur rfl hr (.slice ao (n - (i + 1)) (cap - (i + 1))) (n - (i + 1)) _ rfl hsrc ?_ ?_ ?_)); (focus omega); (focus (have := Hxl.out; have := Hl.out; rw [List.length_drop]; omega)); intro w1 hr1 hk1))
  go_wp2_with (first | (refine in_list rfl ?_; intro K hK; (refine wp_clearRow (.tmp 31) 66 rfl 3 1 8 _ Try.underlying66 info_int rfl g (n - 1) 3 1 _ (some ⟨g, n - 1, none⟩) _ rfl hr1 (fun _ => rfl) ?_ ?_ ?_); (focus (rw [Hl1.out]; omega)); (focus (exact zeroCells_one _ _ (by simp [Value.cells, Value.oneCell']) (by simp [Value.cells]))); intro w2 zs hz hr2 hk2; refine hK _ _ ?_))
  go_ret
  obtain ⟨_, q2, q3⟩ := del_list cur xs zs i n cap 1 hi hc Hl.out Hx.out Hxl.out (by rw [hz])
  refine ⟨cap, rfl, ?_, ((Keep.refl (· = g) w).drew.trans hk1 (fun _ _ h => h)).trans hk2 (fun _ _ h => h)⟩
  rw [← q3]
  exact Row.own (cur := splice _ ((n - 1) * 1) zs) (by simpa only [Nat.mul_one] using hr2) (n - 1) q2 hB hSg (by omega) hc2

set_option maxRecDepth 100000 in
set_option maxHeartbeats 1000000 in
theorem delStr_any (g cap n i : Nat) (xs : List Value) (w : World) (S : Nat → Prop) (B : Nat) (h : OwnSl w S B 9 1 (.slice (some ⟨g, 0, none⟩) n cap) n xs) (hone : ∀ u ∈ xs, u.oneCell' = true) (hi : i < n) (hn : n ≤ 1000000) :
    Calls Try.prog 77 #[.slice (some ⟨g, 0, none⟩) n cap, .int .i64 i, .int .i64 ((i : Int) + 1)] w fun e w' => ∃ c, e = .returned (.slice (some ⟨g, 0, none⟩) (n - 1) c) ∧ OwnSl w' S B 9 1 (.slice (some ⟨g, 0, none⟩) (n - 1) c) (n - 1) (xs.take (i * 1) ++ xs.drop ((i + 1) * 1)) ∧ Keep (· = g) w w' := by
  obtain ⟨cur, hr, hl, hx, hB, hSg, hc, hc2⟩ := h.row
  have hxl := h.1.1
  have hc3 : cap ≤ 9223372036854775807 := by simpa [maxLen] using hc2
  clear h
  have k1 : (0 : Int) ≤ (i : Int) := by omega
  have k2 : (i : Int) ≤ (cap : Int) := by omega
  have k3 : (0 : Int) ≤ (i : Int) + 1 := by omega
  have k4 : (i : Int) + 1 ≤ (n : Int) := by omega
  have k5 : ((i : Int) + 1).toNat = i + 1 := by omega
  have hsrc : Src Try.prog 1 27 (.slice (if cap = i + 1 then some ⟨g, 0, none⟩ else some ⟨g, i + 1, none⟩) (n - (i + 1)) (cap - (i + 1))) (n - (i + 1)) (xs.drop ((i + 1) * 1)) w.drew := by
    split
    · obtain rfl : n = i + 1 := by omega
      rw [show cap - (i + 1) = 0 by omega, show i + 1 - (i + 1) = 0 by omega, List.drop_of_length_le (by omega)]
      exact Src.ofSlice _ Try.underlying27 _ 0 0 [] rfl (by simp) (by simp)
    · have := (Row.isSl (w := w.drew) (S := NoS) (k := 1) (off := i + 1) hr (n - (i + 1)) (cap - (i + 1)) (by omega) id (by omega) (by unfold maxLen at *; omega)).src Try.underlying27
      rw [show (cur.drop (i + 1)).take ((n - (i + 1)) * 1) = xs.drop ((i + 1) * 1) by rw [← hx, List.drop_take, show (i + 1) * 1 = i + 1 by omega]; congr 1; omega] at this
      exact this fun u hu => hone u (List.mem_of_mem_drop hu)
  have hm : i + (n - (i + 1)) = n - 1 := by omega
  generalize hao : (if cap = i + 1 then some (⟨g, 0, none⟩ : Addr) else some ⟨g, i + 1, none⟩) = ao at hsrc
  have Hao := Lib.hid hao
  clear hao
  have k6 : ¬ cap = n - 1 := by omega
  have k7 : n - (n - 1) = 1 := by omega
  have hl1 : (splice cur (i * 1) (xs.drop ((i + 1) * 1))).length = cap * 1 := by rw [length_splice _ _ _ (by rw [List.length_drop]; omega)]; exact hl
  have Hl := Lib.hid hl; clear hl
  have Hx := Lib.hid hx; clear hx
  have Hxl := Lib.hid hxl; clear hxl
  have Hl1 := Lib.hid hl1; clear hl1
  go_enter Try.func77, Try.ntmps77
  go_wp2
  go_region_held3 (fun _ => True) (trivial) (first | (rw [Hao.out]; (refine in_step rfl (wp_room (.tmp 22) (.tmp 25) 27 27 rfl 9 1 16 _ Try.underlying27 info_str g i cap _ cur rfl hr (.slice ao (n - (i + 1)) (cap - (i + 1))) (n - (i + 1)) _ rfl hsrc ?_ ?_ ?_)); (focus omega); (focus (have := Hxl.out; have := Hl.out; rw [List.length_drop]; omega)); intro w1 hr1 hk1))
  go_wp2_with (first | (refine in_list rfl ?_; intro K hK; (refine wp_clearRow (.tmp 31) 27 rfl 9 1 16 _ Try.underlying27 info_str rfl g (n - 1) 9 1 _ (some ⟨g, n - 1, none⟩) _ rfl hr1 (fun _ => rfl) ?_ ?_ ?_); (focus (rw [Hl1.out]; omega)); (focus (exact zeroCells_one _ _ (by simp [Value.cells, Value.oneCell']) (by simp [Value.cells]))); intro w2 zs hz hr2 hk2; refine hK _ _ ?_))
  go_ret
  obtain ⟨_, q2, q3⟩ := del_list cur xs zs i n cap 1 hi hc Hl.out Hx.out Hxl.out (by rw [hz])
  refine ⟨cap, rfl, ?_, ((Keep.refl (· = g) w).drew.trans hk1 (fun _ _ h => h)).trans hk2 (fun _ _ h => h)⟩
  rw [← q3]
  exact Row.own (cur := splice _ ((n - 1) * 1) zs) (by simpa only [Nat.mul_one] using hr2) (n - 1) q2 hB hSg (by omega) hc2

end Go.Proofs.Ytbldcbakhpdigaa
