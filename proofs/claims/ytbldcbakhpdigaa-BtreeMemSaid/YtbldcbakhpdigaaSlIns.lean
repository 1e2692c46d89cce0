/- slices.Insert(s, i, p) at pairs, one element. -/
import Derived.Test.YtbldcbakhpdigaaSlDel
import Derived.Lib.Overlaps
namespace Go.Proofs.Ytbldcbakhpdigaa
open Go.RowKit

theorem ins_list {α : Type} (cur xs news : List α) (i n cap k : Nat) (hi : i < n) (hc : n + 1 ≤ cap) (hl : cur.length = cap * k) (hx : cur.take (n * k) = xs) (hnl : news.length = k) :
    (splice cur ((i + 1) * k) (xs.drop (i * k))).length = cap * k ∧ (splice (splice cur ((i + 1) * k) (xs.drop (i * k))) (i * k) news).length = cap * k ∧
    (splice (splice cur ((i + 1) * k) (xs.drop (i * k))) (i * k) news).take ((n + 1) * k) = xs.take (i * k) ++ news ++ xs.drop (i * k) := by
  have hik : i * k ≤ n * k := Nat.mul_le_mul_right _ (Nat.le_of_lt hi)
  have hik1 : (i + 1) * k ≤ n * k := Nat.mul_le_mul_right _ hi
  have hnk1 : (n + 1) * k ≤ cap * k := Nat.mul_le_mul_right _ hc
  rw [Nat.add_mul, Nat.one_mul] at hik1 hnk1
  have hxl : xs.length = n * k := by rw [← hx, List.length_take]; omega
  have e2 : (xs.drop (i * k)).length = n * k - i * k := by rw [List.length_drop, hxl]
  have hl1 : (splice cur ((i + 1) * k) (xs.drop (i * k))).length = cap * k := by rw [length_splice _ _ _ (by rw [e2, Nat.add_mul, Nat.one_mul]; omega)]; exact hl
  have hl2 : (splice (splice cur ((i + 1) * k) (xs.drop (i * k))) (i * k) news).length = cap * k := by rw [length_splice _ _ _ (by rw [hl1]; omega)]; exact hl1
  refine ⟨hl1, hl2, ?_⟩
  have e1 : (cur.take (i * k)).length = i * k := by rw [List.length_take]; omega
  have e3 : xs.take (i * k) = cur.take (i * k) := by rw [← hx, List.take_take, Nat.min_eq_left (by omega)]
  have e4 : splice cur ((i + 1) * k) (xs.drop (i * k)) = cur.take (i * k) ++ ((cur.drop (i * k)).take k ++ (xs.drop (i * k) ++ cur.drop ((i + 1) * k + (xs.drop (i * k)).length))) := by
    unfold splice
    rw [Nat.add_mul, Nat.one_mul, List.take_add, List.append_assoc]
  rw [e4, splice_at _ _ _ _ _ e1 (by rw [List.length_take, List.length_drop, hnl]; omega), e3, ← List.append_assoc, ← List.append_assoc,
    List.take_append_of_le_length (by simp only [List.length_append, e1, e2, hnl, Nat.add_mul, Nat.one_mul]; omega), List.take_of_length_le (by simp only [List.length_append, e1, e2, hnl, Nat.add_mul, Nat.one_mul]; omega)]

theorem ins_list2 {α : Type} (cur rest xs news : List α) (i n c k : Nat) (hi : i < n) (hc : n + 1 ≤ c) (hx : cur.take (n * k) = xs) (hcl : n * k ≤ cur.length) (hl : (cur.take (i * k) ++ rest).length = c * k) (hnl : news.length = k) :
    (splice (cur.take (i * k) ++ rest) (i * k) news).length = c * k ∧ (splice (splice (cur.take (i * k) ++ rest) (i * k) news) ((i + 1) * k) (xs.drop (i * k))).length = c * k ∧
    (splice (splice (cur.take (i * k) ++ rest) (i * k) news) ((i + 1) * k) (xs.drop (i * k))).take ((n + 1) * k) = xs.take (i * k) ++ news ++ xs.drop (i * k) := by
  have hik : i * k ≤ n * k := Nat.mul_le_mul_right _ (Nat.le_of_lt hi)
  have hik1 : (i + 1) * k ≤ n * k := Nat.mul_le_mul_right _ hi
  have hnk1 : (n + 1) * k ≤ c * k := Nat.mul_le_mul_right _ hc
  rw [Nat.add_mul, Nat.one_mul] at hik1 hnk1
  have hxl : xs.length = n * k := by rw [← hx, List.length_take]; omega
  have e2 : (xs.drop (i * k)).length = n * k - i * k := by rw [List.length_drop, hxl]
  have e1 : (cur.take (i * k)).length = i * k := by rw [List.length_take]; omega
  have e3 : xs.take (i * k) = cur.take (i * k) := by rw [← hx, List.take_take, Nat.min_eq_left (by omega)]
  have hrl : rest.length = c * k - i * k := by rw [List.length_append, e1] at hl; omega
  have hl1 : (splice (cur.take (i * k) ++ rest) (i * k) news).length = c * k := by rw [length_splice _ _ _ (by rw [hl]; omega)]; exact hl
  have hl2 : (splice (splice (cur.take (i * k) ++ rest) (i * k) news) ((i + 1) * k) (xs.drop (i * k))).length = c * k := by rw [length_splice _ _ _ (by rw [hl1, e2, Nat.add_mul, Nat.one_mul]; omega)]; exact hl1
  refine ⟨hl1, hl2, ?_⟩
  have e4 : splice (cur.take (i * k) ++ rest) (i * k) news = (cur.take (i * k) ++ news) ++ ((rest.drop k).take (n * k - i * k) ++ (rest.drop k).drop (n * k - i * k)) := by
    rw [List.take_append_drop]
    have := splice_at (cur.take (i * k)) (rest.take k) (rest.drop k) news (i * k) e1 (by rw [List.length_take, hnl]; omega)
    rw [List.take_append_drop] at this
    rw [this, List.append_assoc]
  rw [e4, splice_at _ _ _ _ _ (by simp only [List.length_append, e1, hnl, Nat.add_mul, Nat.one_mul]) (by rw [e2, List.length_take, List.length_drop]; omega), e3, ← List.append_assoc,
    List.take_append_of_le_length (by simp only [List.length_append, e1, e2, hnl, Nat.add_mul, Nat.one_mul]; omega), List.take_of_length_le (by simp only [List.length_append, e1, e2, hnl, Nat.add_mul, Nat.one_mul]; omega)]

set_option maxRecDepth 100000 in
set_option maxHeartbeats 1000000 in
/-- where the place is the end -/
theorem insEnd_any (v : Value) (n : Nat) (xs : List Value) (vb : Nat) (news : List Value) (w : World) (S : Nat → Prop) (B : Nat) (hS : ∀ g, S g → g < w.heap.size) (hB : B ≤ w.heap.size) (h : OwnSl w S B 49 2 v n xs) (hv : Row w vb 49 news) (hnl : news.length = 2) (hone : ∀ u ∈ news, u.oneCell' = true) (hn : n ≤ 1000000) :
    Calls Try.prog 41 #[v, .int .i64 n, .slice (some ⟨vb, 0, none⟩) 1 1] w fun e w' => ∃ v', e = .returned v' ∧ OwnSl w' S B 49 2 v' (n + 1) (xs ++ news) ∧ Keep (fun g => v.ownBlock = some g) w w' ∧ Below B w w' := by
  have hsrc : Src Try.prog 2 40 (.slice (some ⟨vb, 0, none⟩) 1 1) 1 news w := by
    have := (hv.isSl (S := NoS) (k := 2) (off := 0) 1 1 (by omega) id (Nat.le_refl _) (by simp [maxLen])).src Try.underlying40
    rw [List.drop_zero, List.take_of_length_le (by omega)] at this
    exact this hone
  have hh := h
  obtain ⟨ao, c, rfl, h1, h2, h3, h4⟩ := h.isSl.form
  have k1 : n - n = 0 := by omega
  have Hone := Lib.hid hone; clear hone
  have Hnl := Lib.hid hnl; clear hnl
  go_enter Try.func41, Try.ntmps41
  go_wp2_with (at_builtin; (refine wpList_app rfl (.tmp 23) (.tmp 24) 40 40 rfl S B 49 2 32 _ Try.underlying40 info_pair rfl (.slice ao n c) _ _ rfl hh (.slice (some ⟨vb, 0, none⟩) 1 1) _ _ rfl hsrc hS hB ?_ ?_ ?_); (focus (unfold maxLen; omega)); (focus omega); intro ao1 c1 w1 hown1 hk1 hb1 hd1)
  all_goals
    go_ret
    exact ⟨_, rfl, hown1, hk1.mono (fun _ _ h => by cases ao <;> exact h), hb1⟩

set_option maxRecDepth 100000 in
set_option maxHeartbeats 2000000 in
/-- where the place is within, and there is room -/
theorem insMid_any (g cap n i : Nat) (xs : List Value) (vb : Nat) (news : List Value) (w : World) (S : Nat → Prop) (B : Nat) (h : OwnSl w S B 49 2 (.slice (some ⟨g, 0, none⟩) n cap) n xs) (hx1 : ∀ u ∈ xs, u.oneCell' = true) (hv : Row w vb 49 news) (hvg : vb ≠ g) (hnl : news.length = 2) (hone : ∀ u ∈ news, u.oneCell' = true) (hn : n ≤ 1000000) (hi : i < n) (hroom : n + 1 ≤ cap) :
    Calls Try.prog 41 #[.slice (some ⟨g, 0, none⟩) n cap, .int .i64 i, .slice (some ⟨vb, 0, none⟩) 1 1] w fun e w' => ∃ v', e = .returned v' ∧ OwnSl w' S B 49 2 v' (n + 1) (xs.take (i * 2) ++ news ++ xs.drop (i * 2)) ∧ Keep (fun k => k = g) w w' := by
  obtain ⟨cur, hr, hl, hx, hBg, hSg, hc, hc2⟩ := h.row
  have hc3 : cap ≤ 9223372036854775807 := by simpa [maxLen] using hc2
  have hxl := h.1.1
  clear h
  have hov : (callFunc 60 #[.slice (some ⟨vb, 0, none⟩) 1 1, .slice (some ⟨g, (i + 1) * 2, none⟩) (n - i) (cap - (i + 1))]).run Try.prog w = .ok (.value (.bool false)) w := by
    rw [run_callFunc_extern Try.func60 (by kernel_rfl) (by kernel_rfl) (by kernel_rfl) (e := Extern.SlicesOverlaps.overlaps #[40, 40] #[4]) (by kernel_rfl)]
    rw [Lib.run_overlaps_apart w 40 4 49 Try.underlying40 2 (fun w => by kernel_rfl) ⟨vb, 0, none⟩ ⟨g, (i + 1) * 2, none⟩ 1 1 (n - i) (cap - (i + 1)) hvg 49 49 2 (cap * 2)
      (by unfold Row at hv; simp [World.shape?, hv, hnl]) (by unfold Row at hr; simp [World.shape?, hr, hl]) (by omega) (hv.frozen 0) (hv.frozen 2)]
    rfl
  have k1 : (0 : Int) ≤ (i : Int) := by omega
  have k2 : (i : Int) ≤ (cap : Int) := by omega
  have k3 : (0 : Int) ≤ (i : Int) + 1 := by omega
  have k4 : (i : Int) + 1 ≤ (n : Int) + 1 := by omega
  have k5 : ((i : Int) + 1).toNat = i + 1 := by omega
  have k6 : ((n : Int) + 1).toNat = n + 1 := by omega
  have k7 : (n : Int) + 1 ≤ (cap : Int) := by omega
  have k8 : ((i : Int) == (n : Int)) = false := by rw [beq_eq_false_iff_ne]; omega
  have k9 : IntKind.i64.wrap ((i : Int) + 1) = (i : Int) + 1 := IntWalk.i64_in _ (by omega)
  have k10 : ¬ cap = i := by omega
  have k11 : (i : Int) ≤ (n : Int) + 1 := by omega
  have k12 : ¬ cap = i + 1 := by omega
  have hsrc1 : IsSl w.drew NoS 2 (.slice (some ⟨g, i * 2, none⟩) (n + 1 - i) (cap - i)) (n + 1 - i) ((cur.drop (i * 2)).take ((n + 1 - i) * 2)) := Row.isSl (w := w.drew) hr _ _ (by omega) id (by omega) (by unfold maxLen; omega)
  have hcs1 : ((cur.drop (i * 2)).take ((n + 1 - i) * 2)).take ((n - i) * 2) = xs.drop (i * 2) := by
    rw [List.take_take, Nat.min_eq_left (by omega), ← hx, List.drop_take]; congr 1; omega
  have hsrc2 : IsSl w NoS 2 (.slice (some ⟨vb, 0, none⟩) 1 1) 1 news := by
    have := hv.isSl (S := NoS) (k := 2) (off := 0) 1 1 (by omega) id (Nat.le_refl _) (by simp [maxLen])
    rwa [List.drop_zero, List.take_of_length_le (by omega)] at this
  have Hl := Lib.hid hl; clear hl
  have Hx := Lib.hid hx; clear hx
  have Hxl := Lib.hid hxl; clear hxl
  have Hnl := Lib.hid hnl; clear hnl
  have Hcs1 := Lib.hid hcs1; clear hcs1
  go_enter Try.func41, Try.ntmps41
  go_wp2
  go_region_held3 (fun _ => True) (trivial) (first | ((refine in_step rfl (wp_copyRow (.tmp 73) (.tmp 76) 40 40 rfl 49 2 32 _ Try.underlying40 info_pair g ((i + 1) * 2) 49 (n - i) (n - i) (cap - (i + 1)) (some ⟨g, (i + 1) * 2, none⟩) cur ?_ hr (.slice (some ⟨g, i * 2, none⟩) (n + 1 - i) (cap - i)) ?_ (n + 1 - i) (xs.drop (i * 2)) rfl ?_ ?_ ?_ (fun _ => rfl) ?_ ?_ ?_)); (focus (first | rfl | (show Value.slice _ _ _ = _; congr 1; omega))); (focus (first | rfl | (show Value.slice _ _ _ = _; congr 1 <;> omega))); (focus (exact (Nat.min_eq_right (by omega)).symm)); (focus (rw [List.length_drop, Hxl.out]; omega)); (focus (rw [← Hcs1.out]; exact hsrc1.first (n - i) (by omega))); (focus (rw [List.length_drop, Hxl.out, Hl.out]; omega)); (focus (exact fun u hu => hx1 u (List.mem_of_mem_drop hu))); intro w1 hr1 hk1))
  have hnews : (Builtin.firstCells 2 1 (.slice (some ⟨vb, 0, none⟩) 1 1)).run Try.prog w1 = .ok news.toArray w1 := by
    have h1 : IsSl w1 NoS 2 (.slice (some ⟨vb, 0, none⟩) 1 1) 1 news := hsrc2.keep fun g' hg' hl _ => by cases hg'; exact ⟨hk1.block vb hl hvg, id⟩
    have := h1.first (P := Try.prog) 1 (Nat.le_refl _)
    rwa [List.take_of_length_le (by have := Hnl.out; omega)] at this
  obtain ⟨m1, m2, m3⟩ := ins_list cur xs news i n cap 2 hi hroom Hl.out Hx.out Hnl.out
  have M1 := Lib.hid m1; clear m1
  have M2 := Lib.hid m2; clear m2
  have M3 := Lib.hid m3; clear m3
  go_wp2_with (first | ((refine in_list rfl ?_); intro K hK; (refine wp_copyRow (.tmp 80) (.tmp 81) 40 40 rfl 49 2 32 _ Try.underlying40 info_pair g (i * 2) 49 1 (n + 1 - i) (cap - i) (some ⟨g, i * 2, none⟩) _ rfl hr1 (.slice (some ⟨vb, 0, none⟩) 1 1) rfl 1 news rfl ?_ ?_ hnews (fun _ => rfl) ?_ hone ?_); (focus (exact (Nat.min_eq_left (by omega)).symm)); (focus (rw [Hnl.out])); (focus (rw [M1.out, Hnl.out]; omega)); intro w2 hr2 hk2; refine hK _ _ ?_))
  go_ret
  refine ⟨_, rfl, ?_, ((Keep.refl (· = g) w).drew.trans hk1 (fun _ _ h => h)).trans hk2 (fun _ _ h => h)⟩
  rw [← M3.out]
  exact Row.own hr2 (n + 1) M2.out hBg hSg hroom hc2
end Go.Proofs.Ytbldcbakhpdigaa
