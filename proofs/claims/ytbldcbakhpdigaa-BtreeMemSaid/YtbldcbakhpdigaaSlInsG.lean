/- slices.Insert(s, i, p) at pairs, one element, within, where there is no room; and all its ways in one. -/
import Derived.Test.YtbldcbakhpdigaaSlIns
namespace Go.Proofs.Ytbldcbakhpdigaa
open Go.RowKit

set_option maxRecDepth 100000 in
set_option maxHeartbeats 2000000 in
theorem insGrow_any (g cap n i : Nat) (xs : List Value) (vb : Nat) (news : List Value) (w : World) (S : Nat → Prop) (B : Nat) (hS : ∀ g, S g → g < w.heap.size) (hB : B ≤ w.heap.size) (h : OwnSl w S B 49 2 (.slice (some ⟨g, 0, none⟩) n cap) n xs) (hx1 : ∀ u ∈ xs, u.oneCell' = true) (hv : Row w vb 49 news) (hnl : news.length = 2) (hone : ∀ u ∈ news, u.oneCell' = true) (hn : n ≤ 1000000) (hi : i < n) (hroom : cap < n + 1) :
    Calls Try.prog 41 #[.slice (some ⟨g, 0, none⟩) n cap, .int .i64 i, .slice (some ⟨vb, 0, none⟩) 1 1] w fun e w' => ∃ v', e = .returned v' ∧ OwnSl w' S B 49 2 v' (n + 1) (xs.take (i * 2) ++ news ++ xs.drop (i * 2)) ∧ Keep NoS w w' := by
  obtain ⟨cur, hr, hl, hx, hBg, hSg, hc, hc2⟩ := h.row
  obtain rfl : n = cap := by omega
  have hc3 : n ≤ 9223372036854775807 := by omega
  have hxl := h.1.1
  clear h hroom
  have k1 : (0 : Int) ≤ (i : Int) := by omega
  have k2 : (i : Int) ≤ (n : Int) := by omega
  have k3 : (0 : Int) ≤ (i : Int) + 1 := by omega
  have k4 : (i : Int) + 1 ≤ (n : Int) + 1 := by omega
  have k5 : ((i : Int) + 1).toNat = i + 1 := by omega
  have k8 : ((i : Int) == (n : Int)) = false := by rw [beq_eq_false_iff_ne]; omega
  have k9 : IntKind.i64.wrap ((i : Int) + 1) = (i : Int) + 1 := IntWalk.i64_in _ (by omega)
  have k10 : ¬ n = i := by omega
  have k11 : (n : Int) + 1 - (i : Int) = ((n + 1 - i : Nat) : Int) := by omega
  have k13 : i + (n + 1 - i) = n + 1 := by omega
  have hvl : vb < w.heap.size := hv.lt
  have hgl : g < w.heap.size := hr.lt
  have Hl := Lib.hid hl; clear hl
  have Hx := Lib.hid hx; clear hx
  have Hxl := Lib.hid hxl; clear hxl
  have Hnl := Lib.hid hnl; clear hnl
  go_enter Try.func41, Try.ntmps41
  go_wp2_with (first | (at_builtin; (refine in_list rfl ?_); intro K hK; go_must ((refine wp_growZeros (.tmp 34) (.tmp 39) 40 3 rfl 49 2 32 _ Try.underlying40 Try.underlying3 info_pair rfl (by omega) g i n (n + 1 - i) cur rfl ?_ hr ?_ ?_ ?_ ?_ ?_ ?_); (focus (first | rfl | (show Value.int _ _ = _; congr 1))); (focus (rw [Hl.out]; omega)); (focus omega); (focus omega); (focus (unfold maxLen; omega)); (focus omega); intro c1 w1 rest hr1 hl1 hc1 hc1' hk1; refine hK _ _ (Stop.of ?_))))
  have hc2' : n + 1 ≤ c1 := by omega
  have k12 : ¬ c1 = i := by omega
  have k14 : ¬ c1 = i + 1 := by omega
  have k15 : (i : Int) ≤ (c1 : Int) := by omega
  have hc1'' : c1 ≤ 9223372036854775807 := by simpa [maxLen] using hc1'
  have hne : vb ≠ w.heap.size := by omega
  have hv1 : Row w1 vb 49 news := hv.keep hk1 id
  have hg1 : Row w1 g 49 cur := hr.keep hk1 id
  obtain ⟨m1, m2, m3⟩ := ins_list2 cur rest xs news i n c1 2 hi hc2' Hx.out (by rw [Hl.out]; omega) hl1 Hnl.out
  have Hl1 := Lib.hid hl1; clear hl1
  have M1 := Lib.hid m1; clear m1
  have M2 := Lib.hid m2; clear m2
  have M3 := Lib.hid m3; clear m3
  have hnews : (Builtin.firstCells 2 1 (.slice (some ⟨vb, 0, none⟩) 1 1)).run Try.prog w1 = .ok news.toArray w1 := by
    have h1 := (hv1.isSl (S := NoS) (k := 2) (off := 0) 1 1 (by have := Hnl.out; omega) id (Nat.le_refl _) (by simp [maxLen])).first (P := Try.prog) 1 (Nat.le_refl _)
    rwa [List.drop_zero, List.take_take, Nat.min_self, List.take_of_length_le (by have := Hnl.out; omega)] at h1
  have Hw := Lib.hid hnews; clear hnews
  refine Stop.on ?_
  go_wp2_with (first | ((refine in_list rfl ?_); intro K hK; (refine wp_copyRow (.tmp 43) (.tmp 44) 40 40 rfl 49 2 32 _ Try.underlying40 info_pair w.heap.size (i * 2) 49 1 (n + 1 - i) (c1 - i) (some ⟨w.heap.size, i * 2, none⟩) _ ?_ hr1 (.slice (some ⟨vb, 0, none⟩) 1 1) rfl 1 news rfl ?_ ?_ Hw.out (fun _ => rfl) ?_ hone ?_); go_must ((focus (first | rfl | (show Value.slice _ _ _ = _; congr 1; omega))); (focus (exact (Nat.min_eq_left (by omega)).symm)); (focus (rw [Hnl.out])); (focus (rw [Hl1.out, Hnl.out]; omega)); intro w2 hr2 hk2; refine hK _ _ (Stop.of ?_))))
  have hg2 : Row w2 g 49 cur := hg1.keep hk2 (by omega)
  have hcs : (Builtin.firstCells 2 (n - i) (.slice (some ⟨g, i * 2, none⟩) (n - i) (n - i))).run Try.prog w2.drew = .ok (xs.drop (i * 2)).toArray w2.drew := by
    have h1 := (Row.isSl (w := w2.drew) (S := NoS) (k := 2) (off := i * 2) hg2 (n - i) (n - i) (by rw [Hl.out]; omega) id (Nat.le_refl _) (by unfold maxLen; omega)).first (P := Try.prog) (n - i) (Nat.le_refl _)
    rw [List.take_take, Nat.min_self] at h1
    rw [← Hx.out, List.drop_take, show n * 2 - i * 2 = (n - i) * 2 by omega]; exact h1
  have Hcs := Lib.hid hcs; clear hcs
  refine Stop.on ?_
  go_wp2
  go_region_held3 (fun _ => True) (trivial) (first | ((refine in_step rfl (wp_copyRow (.tmp 50) (.tmp 53) 40 40 rfl 49 2 32 _ Try.underlying40 info_pair w.heap.size ((i + 1) * 2) 49 (n - i) (n - i) (c1 - (i + 1)) (some ⟨w.heap.size, (i + 1) * 2, none⟩) _ ?_ hr2 (.slice (some ⟨g, i * 2, none⟩) (n - i) (n - i)) ?_ (n - i) (xs.drop (i * 2)) rfl ?_ ?_ Hcs.out (fun _ => rfl) ?_ ?_ ?_)); (focus (first | rfl | (show Value.slice _ _ _ = _; congr 1; omega))); (focus (first | rfl | (show Value.slice _ _ _ = _; congr 1 <;> omega))); (focus (exact (Nat.min_self _).symm)); (focus (rw [List.length_drop, Hxl.out]; omega)); (focus (rw [List.length_drop, Hxl.out, M1.out]; omega)); (focus (exact fun u hu => hx1 u (List.mem_of_mem_drop hu))); intro w3 hr3 hk3))
  go_wp2
  go_ret
  have hk13 : Keep NoS w w3 := ((hk1.trans hk2 (fun _ hl e => absurd hl (by omega))).drew).trans hk3 (fun _ hl e => absurd hl (by omega))
  refine ⟨_, rfl, ?_, hk13⟩
  rw [← M3.out]
  exact Row.own hr3 (n + 1) M2.out hB (fun hs => absurd (hS _ hs) (Nat.lt_irrefl _)) hc2' hc1'

/-- slices.Insert(s, i, p): every way -/
theorem insPair_any (v : Value) (n i : Nat) (xs : List Value) (vb : Nat) (news : List Value) (w : World) (S : Nat → Prop) (B : Nat) (hS : ∀ g, S g → g < w.heap.size) (hB : B ≤ w.heap.size) (h : OwnSl w S B 49 2 v n xs) (hx1 : ∀ u ∈ xs, u.oneCell' = true) (hv : Row w vb 49 news) (hvg : v.ownBlock ≠ some vb) (hnl : news.length = 2) (hone : ∀ u ∈ news, u.oneCell' = true) (hn : n ≤ 1000000) (hi : i ≤ n) :
    Calls Try.prog 41 #[v, .int .i64 i, .slice (some ⟨vb, 0, none⟩) 1 1] w fun e w' => ∃ v', e = .returned v' ∧ OwnSl w' S B 49 2 v' (n + 1) (xs.take (i * 2) ++ news ++ xs.drop (i * 2)) ∧ Keep (fun g => v.ownBlock = some g) w w' := by
  have hxl := h.1.1
  by_cases hin : i = n
  · subst hin
    refine (insEnd_any v i xs vb news w S B hS hB h hv hnl hone hn).mono ?_
    rintro e w' ⟨v', rfl, h1, h2, _⟩
    refine ⟨v', rfl, ?_, h2⟩
    rw [List.take_of_length_le (by omega), List.drop_of_length_le (by omega), List.append_nil]
    exact h1
  · rcases h.1.2 with ⟨rfl, h0⟩ | ⟨g, cap, cur, rfl, _⟩
    · omega
    · by_cases hroom : n + 1 ≤ cap
      · refine (insMid_any g cap n i xs vb news w S B h hx1 hv (fun e => hvg (by rw [e]; rfl)) hnl hone hn (by omega) hroom).mono ?_
        rintro e w' ⟨v', rfl, h1, h2⟩
        exact ⟨v', rfl, h1, h2.mono (fun k _ hk => by rw [hk]; rfl)⟩
      · refine (insGrow_any g cap n i xs vb news w S B hS hB h hx1 hv hnl hone hn (by omega) (by omega)).mono ?_
        rintro e w' ⟨v', rfl, h1, h2⟩
        exact ⟨v', rfl, h1, h2.mono (fun _ _ hk => hk.elim)⟩
end Go.Proofs.Ytbldcbakhpdigaa
