/- slices.Replace(s, i, i+1, v...) at strings and ints: within, where there is no room; and every way in one. (Printed by gen/rep3.py.) -/
import Derived.Test.YtbldcbakhpdigaaRepM
namespace Go.Proofs.Ytbldcbakhpdigaa
open Go.RowKit

set_option maxRecDepth 100000 in
set_option maxHeartbeats 2000000 in
/-- within, where there is no room -/
theorem repStrGrow_any (g cap n i : Nat) (xs : List Value) (vb vc m : Nat) (news : List Value) (w : World) (S : Nat → Prop) (B : Nat) (hS : ∀ g, S g → g < w.heap.size) (hB : B ≤ w.heap.size) (h : OwnSl w S B 9 1 (.slice (some ⟨g, 0, none⟩) n cap) n xs) (hx1 : ∀ u ∈ xs, u.oneCell' = true) (hv : OwnSl w S B 9 1 (.slice (some ⟨vb, 0, none⟩) m vc) m news) (hone : ∀ u ∈ news, u.oneCell' = true) (hn : n ≤ 1000000) (hmm : m ≤ 1000000) (hi : i + 1 < n) (hroom : cap < n - 1 + m) (N : Nat) (L : List Value) (hN : N = n - 1 + m) (hL : L = xs.take i ++ news ++ xs.drop (i + 1)) :
    Calls Try.prog 71 #[.slice (some ⟨g, 0, none⟩) n cap, .int .i64 i, .int .i64 ((i : Int) + 1), .slice (some ⟨vb, 0, none⟩) m vc] w fun e w' => ∃ v', e = .returned v' ∧ OwnSl w' S B 9 1 v' N L ∧ Keep NoS w w' := by
  obtain ⟨cur, hr, hl, hx, hBg, hSg, hc, hc2⟩ := h.row
  have hc3 : cap ≤ 9223372036854775807 := by simpa [maxLen] using hc2
  have hnl : news.length = m := by have := hv.1.1; omega
  have hll : cur.length = cap := by omega
  have hx' : cur.take n = xs := by rw [← hx, Nat.mul_one]
  have hvs := hv.isSl
  obtain ⟨vo, vc', e0, v1, v2, _, _⟩ := hv.isSl.form
  cases e0
  clear h hv hl hx
  obtain ⟨d, rfl⟩ : ∃ d, n = i + 1 + (d + 1) := ⟨n - (i + 2), by omega⟩
  have HN := Lib.hid hN; clear hN
  have HL := Lib.hid hL; clear hL
  have k1 : (0 : Int) ≤ (i : Int) := by omega
  have k2 : (i : Int) ≤ (cap : Int) := by omega
  have k3 : (0 : Int) ≤ (i : Int) + 1 := by omega
  have k4 : (i : Int) + 1 ≤ (cap : Int) := by omega
  have k5 : ((i : Int) + 1).toNat = i + 1 := by omega
  have Hl := Lib.hid hll; clear hll
  have Hx := Lib.hid hx'; clear hx'
  have Hn := Lib.hid hnl; clear hnl
  have k6 : ¬ cap = i + 1 := by omega
  have k7 : (i : Int) + 1 ≤ (i : Int) + 1 + ((d : Int) + 1) := by omega
  have k8 : IntKind.i64.wrap ((i : Int) + (m : Int)) = (i : Int) + (m : Int) := IntWalk.i64_in _ (by omega)
  have k9 : i + 1 + (d + 1) - (i + 1) = d + 1 := by omega
  have k10 : IntKind.i64.wrap ((i : Int) + (m : Int) + ((d : Int) + 1)) = (i : Int) + (m : Int) + ((d : Int) + 1) := IntWalk.i64_in _ (by omega)
  have k11 : (cap : Int) < (i : Int) + (m : Int) + ((d : Int) + 1) := by omega
  have k17 : ¬ cap = i := by omega
  have k18 : (i : Int) + (m : Int) + ((d : Int) + 1) - (i : Int) = ((m + (d + 1) : Nat) : Int) := by omega
  have k19 : i + (m + (d + 1)) = i + m + (d + 1) := by omega
  have k20 : (0 : Int) ≤ (i : Int) + (m : Int) := by omega
  have k22 : ((i : Int) + (m : Int)).toNat = i + m := by omega
  have hD : (xs.drop (i + 1)).length = d + 1 := by rw [List.length_drop, ← Hx.out, List.length_take, Hl.out]; omega
  have hT : cur.take i = xs.take i := by rw [← Hx.out, List.take_take, Nat.min_eq_left (by omega)]
  have hgl : g < w.heap.size := hr.lt
  have HD := Lib.hid hD; clear hD
  have HT := Lib.hid hT; clear hT
  go_enter Try.func71, Try.ntmps71
  go_wp2_with fail
  refine wp_region_ord (fun _ => True) (fun _ => true) [0, 1, 2, 3, 4, 5, 6, 7, 8, 9, 10, 11, 12] rfl (by kernel_rfl) trivial ?_
  repeat ((refine ord_q (v := ?_) rfl rfl (fun _ _ _ h => h) rfl (fun W hW => ?_) ?_); rotate_left; (focus ((try dsimp only at hW); skip; first | (go_simp; first | done | with_reducible rfl))); (try simp only [Act.put, List.setIfInBounds_toArray, List.set_cons_zero, List.set_cons_succ]))
  refine ord_nil ?_
  go_wp2_with (first | (at_builtin; (refine in_list rfl ?_); intro K hK; go_must ((refine wp_growZeros (w := w.drew) (.tmp 63) (.tmp 66) 27 3 rfl 9 1 16 _ Try.underlying27 Try.underlying3 info_str rfl (by omega) g i cap (m + (d + 1)) cur rfl ?_ hr ?_ ?_ ?_ ?_ ?_ ?_); (focus (first | rfl | (show Value.int _ _ = _; congr 1; first | done | omega))); (focus (rw [Hl.out]; omega)); (focus omega); (focus omega); (focus (unfold maxLen; omega)); (focus omega); intro c1 w1 rest hr1 hl1 hc1 hc1' hk1; refine hK _ _ (Stop.of ?_))))
  have hr1 : Row w1 w.heap.size 9 (cur.take i ++ rest) := by rw [Nat.mul_one] at hr1; exact hr1
  have hl1 : (cur.take i ++ rest).length = c1 := by rw [Nat.mul_one, Nat.mul_one] at hl1; exact hl1
  have hk1 : Keep NoS w w1 := (Keep.refl NoS w).drew.trans hk1 (fun _ _ h => h)
  have k12 : ¬ c1 = i := by omega
  have k14 : ¬ c1 = i + m := by omega
  have k15 : (i : Int) ≤ (c1 : Int) := by omega
  have k16 : (i : Int) + (m : Int) ≤ (i : Int) + (m : Int) + ((d : Int) + 1) := by omega
  have hc1'' : c1 ≤ 9223372036854775807 := by simpa [maxLen] using hc1'
  have hci : (cur.take i).length = i := by rw [List.length_take, Hl.out]; omega
  obtain ⟨hF1, hF2⟩ := rep_fwd (cur.take i ++ rest) news (xs.drop (i + 1)) i (by rw [Hn.out, HD.out, hl1]; omega)
  rw [Hn.out, HD.out, List.take_left' hci] at hF2
  rw [Hn.out] at hF1
  have hcs1 : (Builtin.firstCells 1 m (.slice (some ⟨vb, 0, none⟩) m vc)).run Try.prog w1 = .ok news.toArray w1 := by
    have h1 := IsSl.first (P := Try.prog) (w := w1) (hvs.keep fun g' hg hl hs => ⟨hk1.block g' hl id, hs⟩) m (Nat.le_refl _)
    rwa [List.take_of_length_le (by rw [Hn.out]; omega)] at h1
  have Hl1 := Lib.hid hl1; clear hl1
  have HF1 := Lib.hid hF1; clear hF1
  have HF2 := Lib.hid hF2; clear hF2
  have Hc1 := Lib.hid hcs1; clear hcs1
  have Hci := Lib.hid hci; clear hci
  refine Stop.on ?_
  go_wp2_with (first | ((refine in_list rfl ?_); intro K hK; (refine wp_copyRow (.tmp 70) (.tmp 71) 27 27 rfl 9 1 16 _ Try.underlying27 info_str w.heap.size i 9 m (i + m + (d + 1) - i) (c1 - i) (some ⟨w.heap.size, i, none⟩) _ ?_ hr1 (.slice (some ⟨vb, 0, none⟩) m vc) rfl m news rfl ?_ ?_ Hc1.out (fun _ => rfl) ?_ hone ?_); go_must ((focus (first | rfl | (show Value.slice _ _ _ = _; congr 1; omega))); (focus (exact (Nat.min_eq_left (by omega)).symm)); (focus (rw [Hn.out, Nat.mul_one])); (focus (rw [Hl1.out, Hn.out]; omega)); intro w2 hr2 hk2; refine hK _ _ (Stop.of ?_))))
  have hkk : Keep NoS w w2 := hk1.trans hk2 (fun _ hl e => absurd hl (by omega))
  have hg2 : Row w2 g 9 cur := hr.keep hkk id
  have hcs : (Builtin.firstCells 1 (d + 1) (.slice (some ⟨g, i + 1, none⟩) (d + 1) (cap - (i + 1)))).run Try.prog w2.drew = .ok (xs.drop (i + 1)).toArray w2.drew := by
    have h1 := (Row.isSl (w := w2.drew) (S := NoS) (k := 1) (off := i + 1) hg2 (d + 1) (cap - (i + 1)) (by rw [Hl.out]; omega) id (by omega) (by unfold maxLen; omega)).first (P := Try.prog) (d + 1) (Nat.le_refl _)
    rw [List.take_take, Nat.min_self, Nat.mul_one] at h1
    rwa [show (cur.drop (i + 1)).take (d + 1) = xs.drop (i + 1) by rw [← Hx.out, List.drop_take]; congr 1; omega] at h1
  have Hcs := Lib.hid hcs; clear hcs
  have k23 : i + m + (d + 1) - (i + m) = d + 1 := by omega
  refine Stop.on ?_
  go_wp2_with fail
  refine wp_region_ord (fun _ => True) (fun i => !([9].contains i)) [0, 1, 2, 3, 4, 5, 6, 7, 8, 9] rfl (by kernel_rfl) trivial ?_
  repeat ((refine ord_q (v := ?_) rfl rfl (fun _ _ _ h => h) rfl (fun W hW => ?_) ?_); rotate_left; (focus ((try dsimp only at hW); skip; first | (go_simp; first | done | with_reducible rfl))); (try simp only [Act.put, List.setIfInBounds_toArray, List.set_cons_zero, List.set_cons_succ]))
  refine ord_l rfl rfl rfl (by kernel_rfl) ?_
  intro K hK
  refine wp_copyRow (.tmp 78) (.tmp 81) 27 27 rfl 9 1 16 _ Try.underlying27 info_str w.heap.size (i + m) 9 (d + 1) (d + 1) (c1 - (i + m)) (some ⟨w.heap.size, i + m, none⟩) _ rfl (w := w2.drew) hr2 (.slice (some ⟨g, i + 1, none⟩) (d + 1) (cap - (i + 1))) rfl (d + 1) (xs.drop (i + 1)) rfl (Nat.min_self _).symm (by rw [HD.out, Nat.mul_one]) Hcs.out (fun _ => rfl) ?_ (fun u hu => hx1 u (List.mem_of_mem_drop hu)) ?_
  · rw [length_splice _ _ _ (by rw [Hn.out, Hl1.out]; omega), HD.out, Hl1.out]; omega
  intro w3 hr3 hk3
  refine hK.out _ _ (ord_nil ?_)
  go_wp2
  go_ret
  have hown := Row.own (S := S) (B := B) (k := 1) hr3 (i + m + (d + 1)) (by rw [HF1.out, Hl1.out, Nat.mul_one]) hB (fun hs => absurd (hS _ hs) (Nat.lt_irrefl _)) (by omega) hc1'
  rw [Nat.mul_one, HF2.out] at hown
  refine ⟨_, rfl, ?_, hkk.drew.trans hk3 (fun _ hl e => absurd hl (by omega))⟩
  rw [HL.out, show N = i + m + (d + 1) by rw [HN.out]; omega, ← HT.out]
  exact hown

/-- slices.Replace(s, i, i+1, v...): every way -/
theorem repStr_any (v : Value) (n i : Nat) (xs : List Value) (vv : Value) (m : Nat) (news : List Value) (w : World) (S : Nat → Prop) (B : Nat) (hS : ∀ g, S g → g < w.heap.size) (hB : B ≤ w.heap.size) (h : OwnSl w S B 9 1 v n xs) (hx1 : ∀ u ∈ xs, u.oneCell' = true) (hv : OwnSl w S B 9 1 vv m news) (hvg : ∀ g, v.ownBlock = some g → vv.ownBlock ≠ some g) (hone : ∀ u ∈ news, u.oneCell' = true) (hn : n ≤ 1000000) (hmm : m ≤ 1000000) (hi : i < n) :
    Calls Try.prog 71 #[v, .int .i64 i, .int .i64 ((i : Int) + 1), vv] w fun e w' => ∃ v', e = .returned v' ∧ OwnSl w' S B 9 1 v' (n - 1 + m) (xs.take i ++ news ++ xs.drop (i + 1)) ∧ Keep (fun g => v.ownBlock = some g) w w' := by
  have hxl := h.1.1
  have hnl := hv.1.1
  rw [Nat.mul_one] at hxl hnl
  rcases h.1.2 with ⟨rfl, h0⟩ | ⟨g, cap, cur, rfl, _⟩
  · omega
  have hvg' := hvg g rfl
  by_cases hin : n = i + 1
  · have e1 : xs.drop (i + 1) = [] := List.drop_of_length_le (by omega)
    have e2 : n - 1 + m = i + m := by omega
    rw [e1, e2, List.append_nil]
    by_cases hm0 : m = 0
    · subst hm0
      obtain rfl : news = [] := List.eq_nil_of_length_eq_zero hnl
      refine (repStrCut_any g cap n i xs vv w S B h hv hn hin).mono ?_
      rintro e w' ⟨v', rfl, h1, h2⟩
      exact ⟨v', rfl, by rw [List.append_nil]; exact h1, h2.mono (fun k _ hk => by rw [hk]; rfl)⟩
    · refine (repStrEnd_any g cap n i xs vv m news w S B hS hB h hv hone hn hmm hin (by omega)).mono ?_
      rintro e w' ⟨v', rfl, h1, h2, _⟩
      exact ⟨v', rfl, h1, h2.mono (fun k _ hk => by rw [hk]; rfl)⟩
  · by_cases hm1 : m ≤ 1
    · refine (repStrLess_any g cap n i xs vv m news w S B h hx1 hv hvg' hone hn (by omega) hm1 _ _ rfl rfl).mono ?_
      rintro e w' ⟨v', rfl, h1, h2⟩
      exact ⟨v', rfl, h1, h2.mono (fun k _ hk => by rw [hk]; rfl)⟩
    · rcases hv.1.2 with ⟨rfl, h0⟩ | ⟨vb, vc, curv, rfl, _⟩
      · omega
      · by_cases hroom : n - 1 + m ≤ cap
        · refine (repStrRoom_any g cap n i xs vb vc m news w S B h hx1 hv (fun e => hvg' (by rw [e]; rfl)) hone hn hmm (by omega) (by omega) hroom _ _ rfl rfl).mono ?_
          rintro e w' ⟨v', rfl, h1, h2⟩
          exact ⟨v', rfl, h1, h2.mono (fun k _ hk => by rw [hk]; rfl)⟩
        · refine (repStrGrow_any g cap n i xs vb vc m news w S B hS hB h hx1 hv hone hn hmm (by omega) (by omega) _ _ rfl rfl).mono ?_
          rintro e w' ⟨v', rfl, h1, h2⟩
          exact ⟨v', rfl, h1, h2.mono (fun _ _ hk => hk.elim)⟩

set_option maxRecDepth 100000 in
set_option maxHeartbeats 2000000 in
/-- within, where there is no room -/
theorem repIntGrow_any (g cap n i : Nat) (xs : List Value) (vb vc m : Nat) (news : List Value) (w : World) (S : Nat → Prop) (B : Nat) (hS : ∀ g, S g → g < w.heap.size) (hB : B ≤ w.heap.size) (h : OwnSl w S B 3 1 (.slice (some ⟨g, 0, none⟩) n cap) n xs) (hx1 : ∀ u ∈ xs, u.oneCell' = true) (hv : OwnSl w S B 3 1 (.slice (some ⟨vb, 0, none⟩) m vc) m news) (hone : ∀ u ∈ news, u.oneCell' = true) (hn : n ≤ 1000000) (hmm : m ≤ 1000000) (hi : i + 1 < n) (hroom : cap < n - 1 + m) (N : Nat) (L : List Value) (hN : N = n - 1 + m) (hL : L = xs.take i ++ news ++ xs.drop (i + 1)) :
    Calls Try.prog 72 #[.slice (some ⟨g, 0, none⟩) n cap, .int .i64 i, .int .i64 ((i : Int) + 1), .slice (some ⟨vb, 0, none⟩) m vc] w fun e w' => ∃ v', e = .returned v' ∧ OwnSl w' S B 3 1 v' N L ∧ Keep NoS w w' := by
  obtain ⟨cur, hr, hl, hx, hBg, hSg, hc, hc2⟩ := h.row
  have hc3 : cap ≤ 9223372036854775807 := by simpa [maxLen] using hc2
  have hnl : news.length = m := by have := hv.1.1; omega
  have hll : cur.length = cap := by omega
  have hx' : cur.take n = xs := by rw [← hx, Nat.mul_one]
  have hvs := hv.isSl
  obtain ⟨vo, vc', e0, v1, v2, _, _⟩ := hv.isSl.form
  cases e0
  clear h hv hl hx
  obtain ⟨d, rfl⟩ : ∃ d, n = i + 1 + (d + 1) := ⟨n - (i + 2), by omega⟩
  have HN := Lib.hid hN; clear hN
  have HL := Lib.hid hL; clear hL
  have k1 : (0 : Int) ≤ (i : Int) := by omega
  have k2 : (i : Int) ≤ (cap : Int) := by omega
  have k3 : (0 : Int) ≤ (i : Int) + 1 := by omega
  have k4 : (i : Int) + 1 ≤ (cap : Int) := by omega
  have k5 : ((i : Int) + 1).toNat = i + 1 := by omega
  have Hl := Lib.hid hll; clear hll
  have Hx := Lib.hid hx'; clear hx'
  have Hn := Lib.hid hnl; clear hnl
  have k6 : ¬ cap = i + 1 := by omega
  have k7 : (i : Int) + 1 ≤ (i : Int) + 1 + ((d : Int) + 1) := by omega
  have k8 : IntKind.i64.wrap ((i : Int) + (m : Int)) = (i : Int) + (m : Int) := IntWalk.i64_in _ (by omega)
  have k9 : i + 1 + (d + 1) - (i + 1) = d + 1 := by omega
  have k10 : IntKind.i64.wrap ((i : Int) + (m : Int) + ((d : Int) + 1)) = (i : Int) + (m : Int) + ((d : Int) + 1) := IntWalk.i64_in _ (by omega)
  have k11 : (cap : Int) < (i : Int) + (m : Int) + ((d : Int) + 1) := by omega
  have k17 : ¬ cap = i := by omega
  have k18 : (i : Int) + (m : Int) + ((d : Int) + 1) - (i : Int) = ((m + (d + 1) : Nat) : Int) := by omega
  have k19 : i + (m + (d + 1)) = i + m + (d + 1) := by omega
  have k20 : (0 : Int) ≤ (i : Int) + (m : Int) := by omega
  have k22 : ((i : Int) + (m : Int)).toNat = i + m := by omega
  have hD : (xs.drop (i + 1)).length = d + 1 := by rw [List.length_drop, ← Hx.out, List.length_take, Hl.out]; omega
  have hT : cur.take i = xs.take i := by rw [← Hx.out, List.take_take, Nat.min_eq_left (by omega)]
  have hgl : g < w.heap.size := hr.lt
  have HD := Lib.hid hD; clear hD
  have HT := Lib.hid hT; clear hT
  go_enter Try.func72, Try.ntmps72
  go_wp2_with fail
  refine wp_region_ord (fun _ => True) (fun _ => true) [0, 1, 2, 3, 4, 5, 6, 7, 8, 9, 10, 11, 12] rfl (by kernel_rfl) trivial ?_
  repeat ((refine ord_q (v := ?_) rfl rfl (fun _ _ _ h => h) rfl (fun W hW => ?_) ?_); rotate_left; (focus ((try dsimp only at hW); skip; first | (go_simp; first | done | with_reducible rfl))); (try simp only [Act.put, List.setIfInBounds_toArray, List.set_cons_zero, List.set_cons_succ]))
  refine ord_nil ?_
  go_wp2_with (first | (at_builtin; (refine in_list rfl ?_); intro K hK; go_must ((refine wp_growZeros (w := w.drew) (.tmp 63) (.tmp 66) 66 3 rfl 3 1 8 _ Try.underlying66 Try.underlying3 info_int rfl (by omega) g i cap (m + (d + 1)) cur rfl ?_ hr ?_ ?_ ?_ ?_ ?_ ?_); (focus (first | rfl | (show Value.int _ _ = _; congr 1; first | done | omega))); (focus (rw [Hl.out]; omega)); (focus omega); (focus omega); (focus (unfold maxLen; omega)); (focus omega); intro c1 w1 rest hr1 hl1 hc1 hc1' hk1; refine hK _ _ (Stop.of ?_))))
  have hr1 : Row w1 w.heap.size 3 (cur.take i ++ rest) := by rw [Nat.mul_one] at hr1; exact hr1
  have hl1 : (cur.take i ++ rest).length = c1 := by rw [Nat.mul_one, Nat.mul_one] at hl1; exact hl1
  have hk1 : Keep NoS w w1 := (Keep.refl NoS w).drew.trans hk1 (fun _ _ h => h)
  have k12 : ¬ c1 = i := by omega
  have k14 : ¬ c1 = i + m := by omega
  have k15 : (i : Int) ≤ (c1 : Int) := by omega
  have k16 : (i : Int) + (m : Int) ≤ (i : Int) + (m : Int) + ((d : Int) + 1) := by omega
  have hc1'' : c1 ≤ 9223372036854775807 := by simpa [maxLen] using hc1'
  have hci : (cur.take i).length = i := by rw [List.length_take, Hl.out]; omega
  obtain ⟨hF1, hF2⟩ := rep_fwd (cur.take i ++ rest) news (xs.drop (i + 1)) i (by rw [Hn.out, HD.out, hl1]; omega)
  rw [Hn.out, HD.out, List.take_left' hci] at hF2
  rw [Hn.out] at hF1
  have hcs1 : (Builtin.firstCells 1 m (.slice (some ⟨vb, 0, none⟩) m vc)).run Try.prog w1 = .ok news.toArray w1 := by
    have h1 := IsSl.first (P := Try.prog) (w := w1) (hvs.keep fun g' hg hl hs => ⟨hk1.block g' hl id, hs⟩) m (Nat.le_refl _)
    rwa [List.take_of_length_le (by rw [Hn.out]; omega)] at h1
  have Hl1 := Lib.hid hl1; clear hl1
  have HF1 := Lib.hid hF1; clear hF1
  have HF2 := Lib.hid hF2; clear hF2
  have Hc1 := Lib.hid hcs1; clear hcs1
  have Hci := Lib.hid hci; clear hci
  refine Stop.on ?_
  go_wp2_with (first | ((refine in_list rfl ?_); intro K hK; (refine wp_copyRow (.tmp 70) (.tmp 71) 66 66 rfl 3 1 8 _ Try.underlying66 info_int w.heap.size i 3 m (i + m + (d + 1) - i) (c1 - i) (some ⟨w.heap.size, i, none⟩) _ ?_ hr1 (.slice (some ⟨vb, 0, none⟩) m vc) rfl m news rfl ?_ ?_ Hc1.out (fun _ => rfl) ?_ hone ?_); go_must ((focus (first | rfl | (show Value.slice _ _ _ = _; congr 1; omega))); (focus (exact (Nat.min_eq_left (by omega)).symm)); (focus (rw [Hn.out, Nat.mul_one])); (focus (rw [Hl1.out, Hn.out]; omega)); intro w2 hr2 hk2; refine hK _ _ (Stop.of ?_))))
  have hkk : Keep NoS w w2 := hk1.trans hk2 (fun _ hl e => absurd hl (by omega))
  have hg2 : Row w2 g 3 cur := hr.keep hkk id
  have hcs : (Builtin.firstCells 1 (d + 1) (.slice (some ⟨g, i + 1, none⟩) (d + 1) (cap - (i + 1)))).run Try.prog w2.drew = .ok (xs.drop (i + 1)).toArray w2.drew := by
    have h1 := (Row.isSl (w := w2.drew) (S := NoS) (k := 1) (off := i + 1) hg2 (d + 1) (cap - (i + 1)) (by rw [Hl.out]; omega) id (by omega) (by unfold maxLen; omega)).first (P := Try.prog) (d + 1) (Nat.le_refl _)
    rw [List.take_take, Nat.min_self, Nat.mul_one] at h1
    rwa [show (cur.drop (i + 1)).take (d + 1) = xs.drop (i + 1) by rw [← Hx.out, List.drop_take]; congr 1; omega] at h1
  have Hcs := Lib.hid hcs; clear hcs
  have k23 : i + m + (d + 1) - (i + m) = d + 1 := by omega
  refine Stop.on ?_
  go_wp2_with fail
  refine wp_region_ord (fun _ => True) (fun i => !([9].contains i)) [0, 1, 2, 3, 4, 5, 6, 7, 8, 9] rfl (by kernel_rfl) trivial ?_
  repeat ((refine ord_q (v := ?_) rfl rfl (fun _ _ _ h => h) rfl (fun W hW => ?_) ?_); rotate_left; (focus ((try dsimp only at hW); skip; first | (go_simp; first | done | with_reducible rfl))); (try simp only [Act.put, List.setIfInBounds_toArray, List.set_cons_zero, List.set_cons_succ]))
  refine ord_l rfl rfl rfl (by kernel_rfl) ?_
  intro K hK
  refine wp_copyRow (.tmp 78) (.tmp 81) 66 66 rfl 3 1 8 _ Try.underlying66 info_int w.heap.size (i + m) 3 (d + 1) (d + 1) (c1 - (i + m)) (some ⟨w.heap.size, i + m, none⟩) _ rfl (w := w2.drew) hr2 (.slice (some ⟨g, i + 1, none⟩) (d + 1) (cap - (i + 1))) rfl (d + 1) (xs.drop (i + 1)) rfl (Nat.min_self _).symm (by rw [HD.out, Nat.mul_one]) Hcs.out (fun _ => rfl) ?_ (fun u hu => hx1 u (List.mem_of_mem_drop hu)) ?_
  · rw [length_splice _ _ _ (by rw [Hn.out, Hl1.out]; omega), HD.out, Hl1.out]; omega
  intro w3 hr3 hk3
  refine hK.out _ _ (ord_nil ?_)
  go_wp2
  go_ret
  have hown := Row.own (S := S) (B := B) (k := 1) hr3 (i + m + (d + 1)) (by rw [HF1.out, Hl1.out, Nat.mul_one]) hB (fun hs => absurd (hS _ hs) (Nat.lt_irrefl _)) (by omega) hc1'
  rw [Nat.mul_one, HF2.out] at hown
  refine ⟨_, rfl, ?_, hkk.drew.trans hk3 (fun _ hl e => absurd hl (by omega))⟩
  rw [HL.out, show N = i + m + (d + 1) by rw [HN.out]; omega, ← HT.out]
  exact hown

/-- slices.Replace(s, i, i+1, v...): every way -/
theorem repInt_any (v : Value) (n i : Nat) (xs : List Value) (vv : Value) (m : Nat) (news : List Value) (w : World) (S : Nat → Prop) (B : Nat) (hS : ∀ g, S g → g < w.heap.size) (hB : B ≤ w.heap.size) (h : OwnSl w S B 3 1 v n xs) (hx1 : ∀ u ∈ xs, u.oneCell' = true) (hv : OwnSl w S B 3 1 vv m news) (hvg : ∀ g, v.ownBlock = some g → vv.ownBlock ≠ some g) (hone : ∀ u ∈ news, u.oneCell' = true) (hn : n ≤ 1000000) (hmm : m ≤ 1000000) (hi : i < n) :
    Calls Try.prog 72 #[v, .int .i64 i, .int .i64 ((i : Int) + 1), vv] w fun e w' => ∃ v', e = .returned v' ∧ OwnSl w' S B 3 1 v' (n - 1 + m) (xs.take i ++ news ++ xs.drop (i + 1)) ∧ Keep (fun g => v.ownBlock = some g) w w' := by
  have hxl := h.1.1
  have hnl := hv.1.1
  rw [Nat.mul_one] at hxl hnl
  rcases h.1.2 with ⟨rfl, h0⟩ | ⟨g, cap, cur, rfl, _⟩
  · omega
  have hvg' := hvg g rfl
  by_cases hin : n = i + 1
  · have e1 : xs.drop (i + 1) = [] := List.drop_of_length_le (by omega)
    have e2 : n - 1 + m = i + m := by omega
    rw [e1, e2, List.append_nil]
    by_cases hm0 : m = 0
    · subst hm0
      obtain rfl : news = [] := List.eq_nil_of_length_eq_zero hnl
      refine (repIntCut_any g cap n i xs vv w S B h hv hn hin).mono ?_
      rintro e w' ⟨v', rfl, h1, h2⟩
      exact ⟨v', rfl, by rw [List.append_nil]; exact h1, h2.mono (fun k _ hk => by rw [hk]; rfl)⟩
    · refine (repIntEnd_any g cap n i xs vv m news w S B hS hB h hv hone hn hmm hin (by omega)).mono ?_
      rintro e w' ⟨v', rfl, h1, h2, _⟩
      exact ⟨v', rfl, h1, h2.mono (fun k _ hk => by rw [hk]; rfl)⟩
  · by_cases hm1 : m ≤ 1
    · refine (repIntLess_any g cap n i xs vv m news w S B h hx1 hv hvg' hone hn (by omega) hm1 _ _ rfl rfl).mono ?_
      rintro e w' ⟨v', rfl, h1, h2⟩
      exact ⟨v', rfl, h1, h2.mono (fun k _ hk => by rw [hk]; rfl)⟩
    · rcases hv.1.2 with ⟨rfl, h0⟩ | ⟨vb, vc, curv, rfl, _⟩
      · omega
      · by_cases hroom : n - 1 + m ≤ cap
        · refine (repIntRoom_any g cap n i xs vb vc m news w S B h hx1 hv (fun e => hvg' (by rw [e]; rfl)) hone hn hmm (by omega) (by omega) hroom _ _ rfl rfl).mono ?_
          rintro e w' ⟨v', rfl, h1, h2⟩
          exact ⟨v', rfl, h1, h2.mono (fun k _ hk => by rw [hk]; rfl)⟩
        · refine (repIntGrow_any g cap n i xs vb vc m news w S B hS hB h hx1 hv hone hn hmm (by omega) (by omega) _ _ rfl rfl).mono ?_
          rintro e w' ⟨v', rfl, h1, h2⟩
          exact ⟨v', rfl, h1, h2.mono (fun _ _ hk => hk.elim)⟩
end Go.Proofs.Ytbldcbakhpdigaa
