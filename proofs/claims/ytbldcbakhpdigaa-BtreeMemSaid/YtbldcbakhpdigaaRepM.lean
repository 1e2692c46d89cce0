/- slices.Replace(s, i, i+1, v...) at strings and ints: within, two or more in its place, where there is room. (Printed by gen/rep2.py.) -/
import Derived.Test.YtbldcbakhpdigaaRep
namespace Go.Proofs.Ytbldcbakhpdigaa
open Go.RowKit

set_option maxRecDepth 100000 in
set_option maxHeartbeats 2000000 in
/-- within, two or more in its place, where there is room -/
theorem repStrRoom_any (g cap n i : Nat) (xs : List Value) (vb vc m : Nat) (news : List Value) (w : World) (S : Nat → Prop) (B : Nat) (h : OwnSl w S B 9 1 (.slice (some ⟨g, 0, none⟩) n cap) n xs) (hx1 : ∀ u ∈ xs, u.oneCell' = true) (hv : OwnSl w S B 9 1 (.slice (some ⟨vb, 0, none⟩) m vc) m news) (hvg : vb ≠ g) (hone : ∀ u ∈ news, u.oneCell' = true) (hn : n ≤ 1000000) (hmm : m ≤ 1000000) (hi : i + 1 < n) (hm : 2 ≤ m) (hroom : n - 1 + m ≤ cap) (N : Nat) (L : List Value) (hN : N = n - 1 + m) (hL : L = xs.take i ++ news ++ xs.drop (i + 1)) :
    Calls Try.prog 71 #[.slice (some ⟨g, 0, none⟩) n cap, .int .i64 i, .int .i64 ((i : Int) + 1), .slice (some ⟨vb, 0, none⟩) m vc] w fun e w' => ∃ v', e = .returned v' ∧ OwnSl w' S B 9 1 v' N L ∧ Keep (· = g) w w' := by
  obtain ⟨cur, hr, hl, hx, hBg, hSg, hc, hc2⟩ := h.row
  obtain ⟨curv, hrv, hlv, _, _, _, hcv, hcv2⟩ := hv.row
  have hc3 : cap ≤ 9223372036854775807 := by simpa [maxLen] using hc2
  have hcv3 : vc ≤ 9223372036854775807 := by simpa [maxLen] using hcv2
  have hnl : news.length = m := by have := hv.1.1; omega
  have hll : cur.length = cap := by omega
  have hllv : curv.length = vc := by omega
  have hx' : cur.take n = xs := by rw [← hx, Nat.mul_one]
  have hvs := hv.isSl
  clear h hv hl hx hlv
  obtain ⟨d, rfl⟩ : ∃ d, n = i + 1 + (d + 1) := ⟨n - (i + 2), by omega⟩
  have hov : (callFunc 94 #[.slice (some ⟨g, i + m, none⟩) (d + 1) (cap - (i + m)), .slice (some ⟨vb, 0, none⟩) m vc]).run Try.prog w.drew = .ok (.value (.bool false)) w.drew := by
    rw [run_callFunc_extern Try.func94 (by kernel_rfl) (by kernel_rfl) (by kernel_rfl) (e := Extern.SlicesOverlaps.overlaps #[27, 27] #[4]) (by kernel_rfl)]
    rw [Lib.run_overlaps_apart w.drew 27 4 9 Try.underlying27 1 (fun w => by kernel_rfl) ⟨g, i + m, none⟩ ⟨vb, 0, none⟩ (d + 1) (cap - (i + m)) m vc (Ne.symm hvg) 9 9 cap vc
      (by have hr' : w.drew.heap[g]? = _ := hr; simp [World.shape?, hr', hll]) (by have hr' : w.drew.heap[vb]? = _ := hrv; simp [World.shape?, hr', hllv]) (by omega) (hr.frozen _) (hr.frozen _)]
    rfl
  have HN := Lib.hid hN; clear hN
  have HL := Lib.hid hL; clear hL
  have k1 : (0 : Int) ≤ (i : Int) := by omega
  have k2 : (i : Int) ≤ (cap : Int) := by omega
  have k3 : (0 : Int) ≤ (i : Int) + 1 := by omega
  have k4 : (i : Int) + 1 ≤ (cap : Int) := by omega
  have k5 : ((i : Int) + 1).toNat = i + 1 := by omega
  have Hl := Lib.hid hll; clear hll
  have Hx := Lib.hid hx'; clear hx'
  have Hn := Lib.hid hnl; clear hnl
  have k6 : ¬ cap = i + 1 := by omega
  have k7 : (i : Int) + 1 ≤ (i : Int) + 1 + ((d : Int) + 1) := by omega
  have k8 : IntKind.i64.wrap ((i : Int) + (m : Int)) = (i : Int) + (m : Int) := IntWalk.i64_in _ (by omega)
  have k9 : i + 1 + (d + 1) - (i + 1) = d + 1 := by omega
  have k10 : IntKind.i64.wrap ((i : Int) + (m : Int) + ((d : Int) + 1)) = (i : Int) + (m : Int) + ((d : Int) + 1) := IntWalk.i64_in _ (by omega)
  have k11 : ¬ ((cap : Int) < (i : Int) + (m : Int) + ((d : Int) + 1)) := by omega
  have k12 : ((i : Int) + (m : Int) + ((d : Int) + 1)).toNat = i + m + (d + 1) := by omega
  have k13 : (0 : Int) ≤ (i : Int) + (m : Int) + ((d : Int) + 1) := by omega
  have k14 : (i : Int) + (m : Int) + ((d : Int) + 1) ≤ cap := by omega
  have k15 : ¬ ((i : Int) + (m : Int) ≤ (i : Int) + 1) := by omega
  have k16 : (i : Int) ≤ (i : Int) + (m : Int) + ((d : Int) + 1) := by omega
  have k17 : ¬ cap = i := by omega
  have hD : (xs.drop (i + 1)).length = d + 1 := by rw [List.length_drop, ← Hx.out, List.length_take, Hl.out]; omega
  have hT : cur.take i = xs.take i := by rw [← Hx.out, List.take_take, Nat.min_eq_left (by omega)]
  obtain ⟨hF1, hF2⟩ := rep_bwd cur news (xs.drop (i + 1)) i (by rw [Hn.out, hD, Hl.out]; omega)
  rw [Hn.out, hD, hT] at hF2
  rw [Hn.out] at hF1
  have hcs1 : ∀ W, Keep (· = g) w W → (Builtin.firstCells 1 m (.slice (some ⟨vb, 0, none⟩) m vc)).run Try.prog W = .ok news.toArray W := by
    intro W hW
    have h1 := IsSl.first (P := Try.prog) (w := W) (hvs.keep fun g' hg hl hs => ⟨hW.block g' hl (fun e => hvg (by cases hg; exact e)), hs⟩) m (Nat.le_refl _)
    rwa [List.take_of_length_le (by rw [Hn.out]; omega)] at h1
  have hcs2 : (Builtin.firstCells 1 (d + 1) (.slice (some ⟨g, i + 1, none⟩) (d + 1) (cap - (i + 1)))).run Try.prog w.drew.drew = .ok (xs.drop (i + 1)).toArray w.drew.drew := by
    have h1 := (Row.isSl (w := w.drew.drew) (S := NoS) (k := 1) (off := i + 1) hr (d + 1) (cap - (i + 1)) (by rw [Hl.out]; omega) id (by omega) (by unfold maxLen; omega)).first (P := Try.prog) (d + 1) (Nat.le_refl _)
    rw [List.take_take, Nat.min_self, Nat.mul_one] at h1
    rwa [show (cur.drop (i + 1)).take (d + 1) = xs.drop (i + 1) by rw [← Hx.out, List.drop_take]; congr 1; omega] at h1
  have HD := Lib.hid hD; clear hD
  have HT := Lib.hid hT; clear hT
  have HF1 := Lib.hid hF1; clear hF1
  have HF2 := Lib.hid hF2; clear hF2
  have Hc1 := Lib.hid hcs1; clear hcs1
  have Hc2 := Lib.hid hcs2; clear hcs2
  have k18 : ¬ cap = i + m := by omega
  have k19 : i + m + (d + 1) - (i + m) = d + 1 := by omega
  have k20 : (0 : Int) ≤ (i : Int) + (m : Int) := by omega
  have k21 : (i : Int) + (m : Int) ≤ (i : Int) + (m : Int) + ((d : Int) + 1) := by omega
  have k22 : ((i : Int) + (m : Int)).toNat = i + m := by omega
  go_enter Try.func71, Try.ntmps71
  go_wp2_with fail
  refine wp_region_ord (fun _ => True) (fun _ => true) [0, 1, 2, 3, 4, 5, 6, 7, 8, 9, 10, 11, 12] rfl (by kernel_rfl) trivial ?_
  repeat ((refine ord_q (v := ?_) rfl rfl (fun _ _ _ h => h) rfl (fun W hW => ?_) ?_); rotate_left; (focus ((try dsimp only at hW); skip; first | (go_simp; first | done | with_reducible rfl))); (try simp only [Act.put, List.setIfInBounds_toArray, List.set_cons_zero, List.set_cons_succ]))
  refine ord_nil ?_
  go_wp2_with fail
  refine wp_region_ord (fun _ => True) (fun i => !([9].contains i)) [0, 1, 2, 3, 4, 5, 6, 7, 8, 9] rfl (by kernel_rfl) trivial ?_
  repeat ((refine ord_q (v := ?_) rfl rfl (fun _ _ _ h => h) rfl (fun W hW => ?_) ?_); rotate_left; (focus ((try dsimp only at hW); skip; first | (go_simp; first | done | with_reducible rfl))); (try simp only [Act.put, List.setIfInBounds_toArray, List.set_cons_zero, List.set_cons_succ]))
  refine ord_l rfl rfl rfl (by kernel_rfl) ?_
  intro K hK
  refine wp_copyRow (.tmp 126) (.tmp 129) 27 27 rfl 9 1 16 _ Try.underlying27 info_str g (i + m) 9 (d + 1) (d + 1) (cap - (i + m)) (some ⟨g, i + m, none⟩) _ rfl (w := w.drew.drew) hr (.slice (some ⟨g, i + 1, none⟩) (d + 1) (cap - (i + 1))) rfl (d + 1) (xs.drop (i + 1)) rfl (Nat.min_self _).symm (by rw [HD.out, Nat.mul_one]) Hc2.out (fun _ => rfl) ?_ (fun u hu => hx1 u (List.mem_of_mem_drop hu)) ?_
  · rw [HD.out, Hl.out]; omega
  intro w2 hr2 hk2
  refine hK.out _ _ (ord_nil ?_)
  have hkk : Keep (· = g) w w2 := (Keep.refl (· = g) w).drew.drew.trans hk2 (fun _ _ h => h)
  go_wp2_with (first
    | ((refine in_list rfl ?_); intro K hK; (refine wp_copyRow (.tmp 133) (.tmp 134) 27 27 rfl 9 1 16 _ Try.underlying27 info_str g i 9 m (i + m + (d + 1) - i) (cap - i) (some ⟨g, i, none⟩) _ rfl hr2 (.slice (some ⟨vb, 0, none⟩) m vc) rfl m news rfl ?_ ?_ (Hc1.out _ hkk) (fun _ => rfl) ?_ hone ?_); (focus (exact (Nat.min_eq_left (by omega)).symm)); (focus (rw [Hn.out, Nat.mul_one])); (focus (rw [length_splice _ _ _ (by rw [HD.out, Hl.out]; omega), Hn.out, Hl.out]; omega)); intro w3 hr3 hk3; refine hK _ _ ?_))
  go_ret
  have hown := Row.own (k := 1) hr3 (i + m + (d + 1)) (by rw [HF1.out, Hl.out, Nat.mul_one]) hBg hSg (by omega) hc2
  rw [Nat.mul_one, HF2.out] at hown
  refine ⟨_, rfl, ?_, hkk.trans hk3 (fun _ _ h => h)⟩
  rw [HL.out, show N = i + m + (d + 1) by rw [HN.out]; omega]
  exact hown

set_option maxRecDepth 100000 in
set_option maxHeartbeats 2000000 in
/-- within, two or more in its place, where there is room -/
theorem repIntRoom_any (g cap n i : Nat) (xs : List Value) (vb vc m : Nat) (news : List Value) (w : World) (S : Nat → Prop) (B : Nat) (h : OwnSl w S B 3 1 (.slice (some ⟨g, 0, none⟩) n cap) n xs) (hx1 : ∀ u ∈ xs, u.oneCell' = true) (hv : OwnSl w S B 3 1 (.slice (some ⟨vb, 0, none⟩) m vc) m news) (hvg : vb ≠ g) (hone : ∀ u ∈ news, u.oneCell' = true) (hn : n ≤ 1000000) (hmm : m ≤ 1000000) (hi : i + 1 < n) (hm : 2 ≤ m) (hroom : n - 1 + m ≤ cap) (N : Nat) (L : List Value) (hN : N = n - 1 + m) (hL : L = xs.take i ++ news ++ xs.drop (i + 1)) :
    Calls Try.prog 72 #[.slice (some ⟨g, 0, none⟩) n cap, .int .i64 i, .int .i64 ((i : Int) + 1), .slice (some ⟨vb, 0, none⟩) m vc] w fun e w' => ∃ v', e = .returned v' ∧ OwnSl w' S B 3 1 v' N L ∧ Keep (· = g) w w' := by
  obtain ⟨cur, hr, hl, hx, hBg, hSg, hc, hc2⟩ := h.row
  obtain ⟨curv, hrv, hlv, _, _, _, hcv, hcv2⟩ := hv.row
  have hc3 : cap ≤ 9223372036854775807 := by simpa [maxLen] using hc2
  have hcv3 : vc ≤ 9223372036854775807 := by simpa [maxLen] using hcv2
  have hnl : news.length = m := by have := hv.1.1; omega
  have hll : cur.length = cap := by omega
  have hllv : curv.length = vc := by omega
  have hx' : cur.take n = xs := by rw [← hx, Nat.mul_one]
  have hvs := hv.isSl
  clear h hv hl hx hlv
  obtain ⟨d, rfl⟩ : ∃ d, n = i + 1 + (d + 1) := ⟨n - (i + 2), by omega⟩
  have hov : (callFunc 98 #[.slice (some ⟨g, i + m, none⟩) (d + 1) (cap - (i + m)), .slice (some ⟨vb, 0, none⟩) m vc]).run Try.prog w.drew = .ok (.value (.bool false)) w.drew := by
    rw [run_callFunc_extern Try.func98 (by kernel_rfl) (by kernel_rfl) (by kernel_rfl) (e := Extern.SlicesOverlaps.overlaps #[66, 66] #[4]) (by kernel_rfl)]
    rw [Lib.run_overlaps_apart w.drew 66 4 3 Try.underlying66 1 (fun w => by kernel_rfl) ⟨g, i + m, none⟩ ⟨vb, 0, none⟩ (d + 1) (cap - (i + m)) m vc (Ne.symm hvg) 3 3 cap vc
      (by have hr' : w.drew.heap[g]? = _ := hr; simp [World.shape?, hr', hll]) (by have hr' : w.drew.heap[vb]? = _ := hrv; simp [World.shape?, hr', hllv]) (by omega) (hr.frozen _) (hr.frozen _)]
    rfl
  have HN := Lib.hid hN; clear hN
  have HL := Lib.hid hL; clear hL
  have k1 : (0 : Int) ≤ (i : Int) := by omega
  have k2 : (i : Int) ≤ (cap : Int) := by omega
  have k3 : (0 : Int) ≤ (i : Int) + 1 := by omega
  have k4 : (i : Int) + 1 ≤ (cap : Int) := by omega
  have k5 : ((i : Int) + 1).toNat = i + 1 := by omega
  have Hl := Lib.hid hll; clear hll
  have Hx := Lib.hid hx'; clear hx'
  have Hn := Lib.hid hnl; clear hnl
  have k6 : ¬ cap = i + 1 := by omega
  have k7 : (i : Int) + 1 ≤ (i : Int) + 1 + ((d : Int) + 1) := by omega
  have k8 : IntKind.i64.wrap ((i : Int) + (m : Int)) = (i : Int) + (m : Int) := IntWalk.i64_in _ (by omega)
  have k9 : i + 1 + (d + 1) - (i + 1) = d + 1 := by omega
  have k10 : IntKind.i64.wrap ((i : Int) + (m : Int) + ((d : Int) + 1)) = (i : Int) + (m : Int) + ((d : Int) + 1) := IntWalk.i64_in _ (by omega)
  have k11 : ¬ ((cap : Int) < (i : Int) + (m : Int) + ((d : Int) + 1)) := by omega
  have k12 : ((i : Int) + (m : Int) + ((d : Int) + 1)).toNat = i + m + (d + 1) := by omega
  have k13 : (0 : Int) ≤ (i : Int) + (m : Int) + ((d : Int) + 1) := by omega
  have k14 : (i : Int) + (m : Int) + ((d : Int) + 1) ≤ cap := by omega
  have k15 : ¬ ((i : Int) + (m : Int) ≤ (i : Int) + 1) := by omega
  have k16 : (i : Int) ≤ (i : Int) + (m : Int) + ((d : Int) + 1) := by omega
  have k17 : ¬ cap = i := by omega
  have hD : (xs.drop (i + 1)).length = d + 1 := by rw [List.length_drop, ← Hx.out, List.length_take, Hl.out]; omega
  have hT : cur.take i = xs.take i := by rw [← Hx.out, List.take_take, Nat.min_eq_left (by omega)]
  obtain ⟨hF1, hF2⟩ := rep_bwd cur news (xs.drop (i + 1)) i (by rw [Hn.out, hD, Hl.out]; omega)
  rw [Hn.out, hD, hT] at hF2
  rw [Hn.out] at hF1
  have hcs1 : ∀ W, Keep (· = g) w W → (Builtin.firstCells 1 m (.slice (some ⟨vb, 0, none⟩) m vc)).run Try.prog W = .ok news.toArray W := by
    intro W hW
    have h1 := IsSl.first (P := Try.prog) (w := W) (hvs.keep fun g' hg hl hs => ⟨hW.block g' hl (fun e => hvg (by cases hg; exact e)), hs⟩) m (Nat.le_refl _)
    rwa [List.take_of_length_le (by rw [Hn.out]; omega)] at h1
  have hcs2 : (Builtin.firstCells 1 (d + 1) (.slice (some ⟨g, i + 1, none⟩) (d + 1) (cap - (i + 1)))).run Try.prog w.drew.drew = .ok (xs.drop (i + 1)).toArray w.drew.drew := by
    have h1 := (Row.isSl (w := w.drew.drew) (S := NoS) (k := 1) (off := i + 1) hr (d + 1) (cap - (i + 1)) (by rw [Hl.out]; omega) id (by omega) (by unfold maxLen; omega)).first (P := Try.prog) (d + 1) (Nat.le_refl _)
    rw [List.take_take, Nat.min_self, Nat.mul_one] at h1
    rwa [show (cur.drop (i + 1)).take (d + 1) = xs.drop (i + 1) by rw [← Hx.out, List.drop_take]; congr 1; omega] at h1
  have HD := Lib.hid hD; clear hD
  have HT := Lib.hid hT; clear hT
  have HF1 := Lib.hid hF1; clear hF1
  have HF2 := Lib.hid hF2; clear hF2
  have Hc1 := Lib.hid hcs1; clear hcs1
  have Hc2 := Lib.hid hcs2; clear hcs2
  have k18 : ¬ cap = i + m := by omega
  have k19 : i + m + (d + 1) - (i + m) = d + 1 := by omega
  have k20 : (0 : Int) ≤ (i : Int) + (m : Int) := by omega
  have k21 : (i : Int) + (m : Int) ≤ (i : Int) + (m : Int) + ((d : Int) + 1) := by omega
  have k22 : ((i : Int) + (m : Int)).toNat = i + m := by omega
  go_enter Try.func72, Try.ntmps72
  go_wp2_with fail
  refine wp_region_ord (fun _ => True) (fun _ => true) [0, 1, 2, 3, 4, 5, 6, 7, 8, 9, 10, 11, 12] rfl (by kernel_rfl) trivial ?_
  repeat ((refine ord_q (v := ?_) rfl rfl (fun _ _ _ h => h) rfl (fun W hW => ?_) ?_); rotate_left; (focus ((try dsimp only at hW); skip; first | (go_simp; first | done | with_reducible rfl))); (try simp only [Act.put, List.setIfInBounds_toArray, List.set_cons_zero, List.set_cons_succ]))
  refine ord_nil ?_
  go_wp2_with fail
  refine wp_region_ord (fun _ => True) (fun i => !([9].contains i)) [0, 1, 2, 3, 4, 5, 6, 7, 8, 9] rfl (by kernel_rfl) trivial ?_
  repeat ((refine ord_q (v := ?_) rfl rfl (fun _ _ _ h => h) rfl (fun W hW => ?_) ?_); rotate_left; (focus ((try dsimp only at hW); skip; first | (go_simp; first | done | with_reducible rfl))); (try simp only [Act.put, List.setIfInBounds_toArray, List.set_cons_zero, List.set_cons_succ]))
  refine ord_l rfl rfl rfl (by kernel_rfl) ?_
  intro K hK
  refine wp_copyRow (.tmp 126) (.tmp 129) 66 66 rfl 3 1 8 _ Try.underlying66 info_int g (i + m) 3 (d + 1) (d + 1) (cap - (i + m)) (some ⟨g, i + m, none⟩) _ rfl (w := w.drew.drew) hr (.slice (some ⟨g, i + 1, none⟩) (d + 1) (cap - (i + 1))) rfl (d + 1) (xs.drop (i + 1)) rfl (Nat.min_self _).symm (by rw [HD.out, Nat.mul_one]) Hc2.out (fun _ => rfl) ?_ (fun u hu => hx1 u (List.mem_of_mem_drop hu)) ?_
  · rw [HD.out, Hl.out]; omega
  intro w2 hr2 hk2
  refine hK.out _ _ (ord_nil ?_)
  have hkk : Keep (· = g) w w2 := (Keep.refl (· = g) w).drew.drew.trans hk2 (fun _ _ h => h)
  go_wp2_with (first
    | ((refine in_list rfl ?_); intro K hK; (refine wp_copyRow (.tmp 133) (.tmp 134) 66 66 rfl 3 1 8 _ Try.underlying66 info_int g i 3 m (i + m + (d + 1) - i) (cap - i) (some ⟨g, i, none⟩) _ rfl hr2 (.slice (some ⟨vb, 0, none⟩) m vc) rfl m news rfl ?_ ?_ (Hc1.out _ hkk) (fun _ => rfl) ?_ hone ?_); (focus (exact (Nat.min_eq_left (by omega)).symm)); (focus (rw [Hn.out, Nat.mul_one])); (focus (rw [length_splice _ _ _ (by rw [HD.out, Hl.out]; omega), Hn.out, Hl.out]; omega)); intro w3 hr3 hk3; refine hK _ _ ?_))
  go_ret
  have hown := Row.own (k := 1) hr3 (i + m + (d + 1)) (by rw [HF1.out, Hl.out, Nat.mul_one]) hBg hSg (by omega) hc2
  rw [Nat.mul_one, HF2.out] at hown
  refine ⟨_, rfl, ?_, hkk.trans hk3 (fun _ _ h => h)⟩
  rw [HL.out, show N = i + m + (d + 1) by rw [HN.out]; omega]
  exact hown
end Go.Proofs.Ytbldcbakhpdigaa
