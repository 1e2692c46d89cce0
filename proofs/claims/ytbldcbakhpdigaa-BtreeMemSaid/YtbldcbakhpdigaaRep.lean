/- slices.Replace(s, i, i+1, v...) at strings and ints; v lies apart. (Printed by gen/rep.py.) -/
import Derived.Test.YtbldcbakhpdigaaSlIns
import Derived.Test.YtbldcbakhpdigaaRegion
namespace Go.Proofs.Ytbldcbakhpdigaa
open Go.RowKit

theorem take_splice {α : Type} (X b : List α) (off : Nat) (h : off + b.length ≤ X.length) : (splice X off b).take (off + b.length) = X.take off ++ b := by
  unfold splice
  rw [← List.append_assoc, List.take_append_of_le_length (by simp only [List.length_append, List.length_take]; omega), List.take_of_length_le (by simp only [List.length_append, List.length_take]; omega)]
theorem take_splice_le {α : Type} (X b : List α) (off t : Nat) (ht : t ≤ off) (h : off ≤ X.length) : (splice X off b).take t = X.take t := by
  unfold splice
  rw [List.take_append_of_le_length (by rw [List.length_take]; omega), List.take_take, Nat.min_eq_left ht]
theorem drop_splice {α : Type} (X b : List α) (off : Nat) (h : off ≤ X.length) : (splice X off b).drop off = b ++ X.drop (off + b.length) := by
  unfold splice
  rw [List.drop_append_of_le_length (by rw [List.length_take]; omega), List.drop_of_length_le (by rw [List.length_take]; omega), List.nil_append]
theorem drop_splice_ge {α : Type} (X b : List α) (off t : Nat) (ht : off + b.length ≤ t) (h : off ≤ X.length) : (splice X off b).drop t = X.drop t := by
  obtain ⟨d, rfl⟩ : ∃ d, t = off + b.length + d := ⟨t - (off + b.length), by omega⟩
  have e : (splice X off b).drop (off + b.length) = X.drop (off + b.length) := by
    unfold splice
    rw [← List.append_assoc]
    exact List.drop_left' (by simp only [List.length_append, List.length_take]; omega)
  rw [← List.drop_drop, e, List.drop_drop]

/-- v first, then what is behind it -/
theorem rep_fwd {α : Type} (cur news b : List α) (i : Nat) (h : i + news.length + b.length ≤ cur.length) :
    (splice (splice cur i news) (i + news.length) b).length = cur.length ∧ (splice (splice cur i news) (i + news.length) b).take (i + news.length + b.length) = cur.take i ++ news ++ b := by
  have h1 : (splice cur i news).length = cur.length := length_splice _ _ _ (by omega)
  exact ⟨(length_splice _ _ _ (by omega)).trans h1, by rw [take_splice _ _ _ (by omega), take_splice _ _ _ (by omega)]⟩
/-- what is behind v first -/
theorem rep_bwd {α : Type} (cur news b : List α) (i : Nat) (h : i + news.length + b.length ≤ cur.length) :
    (splice (splice cur (i + news.length) b) i news).length = cur.length ∧ (splice (splice cur (i + news.length) b) i news).take (i + news.length + b.length) = cur.take i ++ news ++ b := by
  have h1 : (splice cur (i + news.length) b).length = cur.length := length_splice _ _ _ (by omega)
  refine ⟨(length_splice _ _ _ (by omega)).trans h1, ?_⟩
  rw [List.take_add, take_splice _ _ _ (by omega), take_splice_le _ _ _ _ (by omega) (by omega)]
  congr 1
  rw [drop_splice_ge _ _ _ _ (Nat.le_refl _) (by omega), drop_splice _ _ _ (by omega), List.take_append_of_le_length (Nat.le_refl _), List.take_length]


set_option maxRecDepth 100000 in
set_option maxHeartbeats 1000000 in
/-- the last one, something in its place -/
theorem repStrEnd_any (g cap n i : Nat) (xs : List Value) (vv : Value) (m : Nat) (news : List Value) (w : World) (S : Nat → Prop) (B : Nat) (hS : ∀ g, S g → g < w.heap.size) (hB : B ≤ w.heap.size) (h : OwnSl w S B 9 1 (.slice (some ⟨g, 0, none⟩) n cap) n xs) (hv : OwnSl w S B 9 1 vv m news) (hone : ∀ u ∈ news, u.oneCell' = true) (hn : n ≤ 1000000) (hm : m ≤ 1000000) (hi : n = i + 1) (hm0 : 0 < m) :
    Calls Try.prog 71 #[.slice (some ⟨g, 0, none⟩) n cap, .int .i64 i, .int .i64 ((i : Int) + 1), vv] w fun e w' => ∃ v', e = .returned v' ∧ OwnSl w' S B 9 1 v' (i + m) (xs.take i ++ news) ∧ Keep (· = g) w w' ∧ Below B w w' := by
  obtain ⟨cur, hr, hl, hx, hBg, hSg, hc, hc2⟩ := h.row
  have hc3 : cap ≤ 9223372036854775807 := by simpa [maxLen] using hc2
  have hh : OwnSl w S B 9 1 (.slice (some ⟨g, 0, none⟩) i cap) i (xs.take i) := by
    have := Row.own hr i hl hBg hSg (by omega) hc2
    rwa [show cur.take (i * 1) = xs.take i by rw [← hx, List.take_take, Nat.mul_one, Nat.mul_one, Nat.min_eq_left (by omega)]] at this
  have hsrc : Src Try.prog 1 27 vv m news w := hv.isSl.src Try.underlying27 hone
  obtain ⟨vo, vc, rfl, v1, v2, v3, v4⟩ := hv.isSl.form
  clear h hv hx hl hr
  subst hi
  have k1 : (0 : Int) ≤ (i : Int) := by omega
  have k2 : (i : Int) ≤ (cap : Int) := by omega
  have k3 : (0 : Int) ≤ (i : Int) + 1 := by omega
  have k4 : (i : Int) + 1 ≤ (cap : Int) := by omega
  have k5 : ((i : Int) + 1).toNat = i + 1 := by omega
  have k6 : ¬ (((i + m : Nat) : Int) < ((i + 1 : Nat) : Int)) := by omega
  have k7 : ¬ ((i : Int) + (m : Int) < (i : Int) + 1) := by omega
  have Hone := Lib.hid hone; clear hone
  go_enter Try.func71, Try.ntmps71
  go_wp2_with (at_builtin; (refine wpList_app rfl (.tmp 32) (.tmp 33) 27 27 rfl S B 9 1 16 _ Try.underlying27 info_str rfl (.slice (some ⟨g, 0, none⟩) i cap) _ _ rfl hh (.slice vo m vc) _ _ rfl hsrc hS hB ?_ ?_ ?_); (focus (unfold maxLen; omega)); (focus omega); intro ao1 c1 w1 hown1 hk1 hb1 hd1)
  all_goals
    go_ret
    exact ⟨_, rfl, hown1, hk1.mono (fun _ _ h => by cases h; rfl), hb1⟩

set_option maxRecDepth 100000 in
set_option maxHeartbeats 1000000 in
/-- the last one, nothing in its place -/
theorem repStrCut_any (g cap n i : Nat) (xs : List Value) (vv : Value) (w : World) (S : Nat → Prop) (B : Nat) (h : OwnSl w S B 9 1 (.slice (some ⟨g, 0, none⟩) n cap) n xs) (hv : OwnSl w S B 9 1 vv 0 []) (hn : n ≤ 1000000) (hi : n = i + 1) :
    Calls Try.prog 71 #[.slice (some ⟨g, 0, none⟩) n cap, .int .i64 i, .int .i64 ((i : Int) + 1), vv] w fun e w' => ∃ v', e = .returned v' ∧ OwnSl w' S B 9 1 v' i (xs.take i) ∧ Keep (· = g) w w' := by
  obtain ⟨cur, hr, hl, hx, hBg, hSg, hc, hc2⟩ := h.row
  have hc3 : cap ≤ 9223372036854775807 := by simpa [maxLen] using hc2
  have hsrc : Src Try.prog 1 27 vv 0 [] w := hv.isSl.src Try.underlying27 (by simp)
  obtain ⟨vo, vc, rfl, v1, v2, v3, v4⟩ := hv.isSl.form
  clear h hv
  subst hi
  have hx' : cur.take i = xs.take i := by rw [← hx, List.take_take, Nat.mul_one, Nat.min_eq_left (by omega)]
  have hll : cur.length = cap := by omega
  have e1 : splice cur i ([] : List Value) = cur := by simp [splice]
  have hr0 : Row w g 9 (splice cur (i * 1) []) → Row w g 9 cur := by rw [Nat.mul_one, e1]; exact id
  have k1 : (0 : Int) ≤ (i : Int) := by omega
  have k2 : (i : Int) ≤ (cap : Int) := by omega
  have k3 : (0 : Int) ≤ (i : Int) + 1 := by omega
  have k4 : (i : Int) + 1 ≤ (cap : Int) := by omega
  have k5 : ((i : Int) + 1).toNat = i + 1 := by omega
  have k6 : i + 1 - i = 1 := by omega
  have k7 : ¬ cap = i := by omega
  have Hl := Lib.hid hll; clear hll hl hx
  have E1 := Lib.hid e1; clear e1 hr0
  go_enter Try.func71, Try.ntmps71
  go_wp2_with (first
    | (refine in_list rfl ?_; intro K hK; (refine wp_room (.tmp 32) (.tmp 33) 27 27 rfl 9 1 16 _ Try.underlying27 info_str g i cap _ cur rfl hr (.slice vo 0 vc) 0 [] rfl hsrc ?_ ?_ ?_); (focus omega); (focus (have := Hl.out; simp only [List.length_nil]; omega)); intro w1 hr1 hk1; refine hK _ _ ?_)
    | (refine in_list rfl ?_; intro K hK; (refine wp_clearRow (.tmp 43) 27 rfl 9 1 16 _ Try.underlying27 info_str rfl g i 9 1 _ (some ⟨g, i, none⟩) _ rfl hr1 (fun _ => rfl) ?_ ?_ ?_); (focus (simp only [Nat.mul_one, E1.out, Hl.out]; omega)); (focus (exact zeroCells_one _ _ (by simp [Value.cells, Value.oneCell']) (by simp [Value.cells]))); intro w2 zs hz hr2 hk2; refine hK _ _ ?_))
  all_goals
    go_ret
    rw [Nat.mul_one, E1.out] at hr2
    have hlz : (splice cur i zs).length = cap := by rw [length_splice _ _ _ (by have := Hl.out; omega)]; exact Hl.out
    have := Row.own (k := 1) hr2 i (by omega) hBg hSg (by omega) hc2
    rw [Nat.mul_one, take_splice_le _ _ _ _ (Nat.le_refl _) (by have := Hl.out; omega), hx'] at this
    exact ⟨_, rfl, this, hk1.trans hk2 (fun _ _ h => h)⟩

set_option maxRecDepth 100000 in
set_option maxHeartbeats 2000000 in
/-- within, one or nothing in its place -/
theorem repStrLess_any (g cap n i : Nat) (xs : List Value) (vv : Value) (m : Nat) (news : List Value) (w : World) (S : Nat → Prop) (B : Nat) (h : OwnSl w S B 9 1 (.slice (some ⟨g, 0, none⟩) n cap) n xs) (hx1 : ∀ u ∈ xs, u.oneCell' = true) (hv : OwnSl w S B 9 1 vv m news) (hvg : vv.ownBlock ≠ some g) (hone : ∀ u ∈ news, u.oneCell' = true) (hn : n ≤ 1000000) (hi : i + 1 < n) (hm : m ≤ 1) (N : Nat) (L : List Value) (hN : N = n - 1 + m) (hL : L = xs.take i ++ news ++ xs.drop (i + 1)) :
    Calls Try.prog 71 #[.slice (some ⟨g, 0, none⟩) n cap, .int .i64 i, .int .i64 ((i : Int) + 1), vv] w fun e w' => ∃ v', e = .returned v' ∧ OwnSl w' S B 9 1 v' N L ∧ Keep (· = g) w w' := by
  obtain ⟨cur, hr, hl, hx, hBg, hSg, hc, hc2⟩ := h.row
  have hc3 : cap ≤ 9223372036854775807 := by simpa [maxLen] using hc2
  have hnl : news.length = m := by have := hv.1.1; omega
  have hll : cur.length = cap := by omega
  have hx' : cur.take n = xs := by rw [← hx, Nat.mul_one]
  obtain ⟨vo, vc, rfl, v1, v2, v3, v4⟩ := hv.isSl.form
  have hvs := hv.isSl
  clear h hv hl hx
  obtain ⟨d, rfl⟩ : ∃ d, n = i + 1 + (d + 1) := ⟨n - (i + 2), by omega⟩
  have HN := Lib.hid hN; clear hN
  have HL := Lib.hid hL; clear hL
  have k1 : (0 : Int) ≤ (i : Int) := by omega
  have k2 : (i : Int) ≤ (cap : Int) := by omega
  have k3 : (0 : Int) ≤ (i : Int) + 1 := by omega
  have k4 : (i : Int) + 1 ≤ (cap : Int) := by omega
  have k5 : ((i : Int) + 1).toNat = i + 1 := by omega
  have Hl := Lib.hid hll; clear hll
  have Hx := Lib.hid hx'; clear hx'
  have Hn := Lib.hid hnl; clear hnl
  go_enter Try.func71, Try.ntmps71
  have k6 : ¬ cap = i + 1 := by omega
  have k7 : (i : Int) + 1 ≤ (i : Int) + 1 + ((d : Int) + 1) := by omega
  have k8 : IntKind.i64.wrap ((i : Int) + (m : Int)) = (i : Int) + (m : Int) := IntWalk.i64_in _ (by omega)
  have k9 : i + 1 + (d + 1) - (i + 1) = d + 1 := by omega
  have k10 : IntKind.i64.wrap ((i : Int) + (m : Int) + ((d : Int) + 1)) = (i : Int) + (m : Int) + ((d : Int) + 1) := IntWalk.i64_in _ (by omega)
  have k11 : ¬ ((cap : Int) < (i : Int) + (m : Int) + ((d : Int) + 1)) := by omega
  have k12 : ((i : Int) + (m : Int) + ((d : Int) + 1)).toNat = i + m + (d + 1) := by omega
  have k13 : (0 : Int) ≤ (i : Int) + (m : Int) + ((d : Int) + 1) := by omega
  have k14 : (i : Int) + (m : Int) + ((d : Int) + 1) ≤ cap := by omega
  have k15 : (i : Int) + (m : Int) ≤ (i : Int) + 1 := by omega
  have k16 : (i : Int) ≤ (i : Int) + (m : Int) + ((d : Int) + 1) := by omega
  have k17 : ¬ cap = i := by omega
  go_wp2_with fail
  refine wp_region_ord (fun _ => True) (fun _ => true) [0, 1, 2, 3, 4, 5, 6, 7, 8, 9, 10, 11, 12] rfl (by kernel_rfl) trivial ?_
  repeat ((refine ord_q (v := ?_) rfl rfl (fun _ _ _ h => h) rfl (fun W hW => ?_) ?_); rotate_left; (focus ((try dsimp only at hW); skip; first | (go_simp; first | done | with_reducible rfl))); (try simp only [Act.put, List.setIfInBounds_toArray, List.set_cons_zero, List.set_cons_succ]))
  refine ord_nil ?_
  have hD : (xs.drop (i + 1)).length = d + 1 := by rw [List.length_drop, ← Hx.out, List.length_take, Hl.out]; omega
  have hT : cur.take i = xs.take i := by rw [← Hx.out, List.take_take, Nat.min_eq_left (by omega)]
  obtain ⟨hF1, hF2⟩ := rep_fwd cur news (xs.drop (i + 1)) i (by rw [Hn.out, hD, Hl.out]; omega)
  rw [Hn.out, hD, hT] at hF2
  rw [Hn.out] at hF1
  have hcs1 : (Builtin.firstCells 1 m (.slice vo m vc)).run Try.prog w.drew = .ok news.toArray w.drew := by
    have h1 := IsSl.first (P := Try.prog) (w := w.drew) (hvs.keep fun _ _ _ h => ⟨rfl, h⟩) m (Nat.le_refl _)
    rwa [List.take_of_length_le (by rw [Hn.out]; omega)] at h1
  have hcs2 : ∀ W, Row W g 9 (splice cur i news) → (Builtin.firstCells 1 (d + 1) (.slice (some ⟨g, i + 1, none⟩) (d + 1) (cap - (i + 1)))).run Try.prog W = .ok (xs.drop (i + 1)).toArray W := by
    intro W hW
    have h1 := (Row.isSl (S := NoS) (k := 1) (off := i + 1) hW (d + 1) (cap - (i + 1)) (by rw [length_splice _ _ _ (by rw [Hn.out, Hl.out]; omega), Hl.out]; omega) id (by omega) (by unfold maxLen; omega)).first (P := Try.prog) (d + 1) (Nat.le_refl _)
    rw [List.take_take, Nat.min_self, drop_splice_ge _ _ _ _ (by rw [Hn.out]; omega) (by rw [Hl.out]; omega), Nat.mul_one] at h1
    rwa [show (cur.drop (i + 1)).take (d + 1) = xs.drop (i + 1) by rw [← Hx.out, List.drop_take]; congr 1; omega] at h1
  have HD := Lib.hid hD; clear hD
  have HT := Lib.hid hT; clear hT
  have HF1 := Lib.hid hF1; clear hF1
  have HF2 := Lib.hid hF2; clear hF2
  have Hc1 := Lib.hid hcs1; clear hcs1
  have Hc2 := Lib.hid hcs2; clear hcs2
  have k18 : ¬ cap = i + m := by omega
  have k19 : i + m + (d + 1) - (i + m) = d + 1 := by omega
  have k20 : (0 : Int) ≤ (i : Int) + (m : Int) := by omega
  have k21 : (i : Int) + (m : Int) ≤ (i : Int) + (m : Int) + ((d : Int) + 1) := by omega
  have k22 : ((i : Int) + (m : Int)).toNat = i + m := by omega
  have k23 : (i : Int) + (m : Int) + ((d : Int) + 1) ≤ (i : Int) + 1 + ((d : Int) + 1) := by omega
  go_wp2_with (first
    | ((refine in_list rfl ?_); intro K hK; (refine wp_copyRow (.tmp 95) (.tmp 96) 27 27 rfl 9 1 16 _ Try.underlying27 info_str g i 9 m (i + m + (d + 1) - i) (cap - i) (some ⟨g, i, none⟩) cur rfl hr (.slice vo m vc) rfl m news rfl ?_ ?_ Hc1.out (fun _ => rfl) ?_ hone ?_); (focus (exact (Nat.min_eq_left (by omega)).symm)); (focus (rw [Hn.out, Nat.mul_one])); (focus (rw [Hn.out, Hl.out]; omega)); intro w1 hr1 hk1; refine hK _ _ (Stop.of ?_)))
  refine Stop.on ?_
  go_wp2_with fail
  refine wp_region_ord (fun _ => True) (fun i => !([9].contains i)) [0, 1, 2, 3, 4, 5, 6, 7, 8, 9] rfl (by kernel_rfl) trivial ?_
  repeat ((refine ord_q (v := ?_) rfl rfl (fun _ _ _ h => h) rfl (fun W hW => ?_) ?_); rotate_left; (focus ((try dsimp only at hW); skip; first | (go_simp; first | done | with_reducible rfl))); (try simp only [Act.put, List.setIfInBounds_toArray, List.set_cons_zero, List.set_cons_succ]))
  refine ord_l rfl rfl rfl (by kernel_rfl) ?_
  intro K hK
  refine wp_copyRow (.tmp 103) (.tmp 106) 27 27 rfl 9 1 16 _ Try.underlying27 info_str g (i + m) 9 (d + 1) (d + 1) (cap - (i + m)) (some ⟨g, i + m, none⟩) _ rfl (w := w1.drew) hr1 (.slice (some ⟨g, i + 1, none⟩) (d + 1) (cap - (i + 1))) rfl (d + 1) (xs.drop (i + 1)) rfl (Nat.min_self _).symm (by rw [HD.out, Nat.mul_one]) (Hc2.out _ hr1) (fun _ => rfl) ?_ (fun u hu => hx1 u (List.mem_of_mem_drop hu)) ?_
  · rw [length_splice _ _ _ (by rw [Hn.out, Hl.out]; omega), HD.out, Hl.out]; omega
  intro w2 hr2 hk2
  refine hK.out _ _ (ord_nil ?_)
  go_wp2_with (first
    | ((refine in_list rfl ?_); intro K hK; (refine wp_clearRow (.tmp 110) 27 rfl 9 1 16 _ Try.underlying27 info_str rfl g (i + m + (d + 1)) 9 _ _ _ _ rfl hr2 ?_ ?_ ?_ ?_); (focus (intro h0; first | rfl | (exfalso; omega) | (rw [if_neg (by omega)]))); (focus (rw [HF1.out, Hl.out]; omega)); (focus (exact zeroCells_one _ _ (by simp [Value.cells, Value.oneCell']) (by simp [Value.cells]))); intro w3 zs hz hr3 hk3; refine hK _ _ ?_))
  all_goals
    go_ret
    have hown := Row.own (k := 1) hr3 (i + m + (d + 1)) (by rw [length_splice _ _ _ (by rw [HF1.out, Hl.out, hz]; omega), HF1.out, Hl.out, Nat.mul_one]) hBg hSg (by omega) hc2
    rw [Nat.mul_one, take_splice_le _ _ _ _ (Nat.le_refl _) (by rw [HF1.out, Hl.out]; omega), HF2.out] at hown
    refine ⟨_, rfl, ?_, ((((Keep.refl (· = g) w).drew.trans hk1 (fun _ _ h => h)).drew).trans hk2 (fun _ _ h => h)).trans hk3 (fun _ _ h => h)⟩
    rw [HL.out, show N = i + m + (d + 1) by rw [HN.out]; omega]
    first | exact hown | (rw [‹cap = i + m + (d + 1)›] at hown; exact hown)

set_option maxRecDepth 100000 in
set_option maxHeartbeats 1000000 in
/-- the last one, something in its place -/
theorem repIntEnd_any (g cap n i : Nat) (xs : List Value) (vv : Value) (m : Nat) (news : List Value) (w : World) (S : Nat → Prop) (B : Nat) (hS : ∀ g, S g → g < w.heap.size) (hB : B ≤ w.heap.size) (h : OwnSl w S B 3 1 (.slice (some ⟨g, 0, none⟩) n cap) n xs) (hv : OwnSl w S B 3 1 vv m news) (hone : ∀ u ∈ news, u.oneCell' = true) (hn : n ≤ 1000000) (hm : m ≤ 1000000) (hi : n = i + 1) (hm0 : 0 < m) :
    Calls Try.prog 72 #[.slice (some ⟨g, 0, none⟩) n cap, .int .i64 i, .int .i64 ((i : Int) + 1), vv] w fun e w' => ∃ v', e = .returned v' ∧ OwnSl w' S B 3 1 v' (i + m) (xs.take i ++ news) ∧ Keep (· = g) w w' ∧ Below B w w' := by
  obtain ⟨cur, hr, hl, hx, hBg, hSg, hc, hc2⟩ := h.row
  have hc3 : cap ≤ 9223372036854775807 := by simpa [maxLen] using hc2
  have hh : OwnSl w S B 3 1 (.slice (some ⟨g, 0, none⟩) i cap) i (xs.take i) := by
    have := Row.own hr i hl hBg hSg (by omega) hc2
    rwa [show cur.take (i * 1) = xs.take i by rw [← hx, List.take_take, Nat.mul_one, Nat.mul_one, Nat.min_eq_left (by omega)]] at this
  have hsrc : Src Try.prog 1 66 vv m news w := hv.isSl.src Try.underlying66 hone
  obtain ⟨vo, vc, rfl, v1, v2, v3, v4⟩ := hv.isSl.form
  clear h hv hx hl hr
  subst hi
  have k1 : (0 : Int) ≤ (i : Int) := by omega
  have k2 : (i : Int) ≤ (cap : Int) := by omega
  have k3 : (0 : Int) ≤ (i : Int) + 1 := by omega
  have k4 : (i : Int) + 1 ≤ (cap : Int) := by omega
  have k5 : ((i : Int) + 1).toNat = i + 1 := by omega
  have k6 : ¬ (((i + m : Nat) : Int) < ((i + 1 : Nat) : Int)) := by omega
  have k7 : ¬ ((i : Int) + (m : Int) < (i : Int) + 1) := by omega
  have Hone := Lib.hid hone; clear hone
  go_enter Try.func72, Try.ntmps72
  go_wp2_with (at_builtin; (refine wpList_app rfl (.tmp 32) (.tmp 33) 66 66 rfl S B 3 1 8 _ Try.underlying66 info_int rfl (.slice (some ⟨g, 0, none⟩) i cap) _ _ rfl hh (.slice vo m vc) _ _ rfl hsrc hS hB ?_ ?_ ?_); (focus (unfold maxLen; omega)); (focus omega); intro ao1 c1 w1 hown1 hk1 hb1 hd1)
  all_goals
    go_ret
    exact ⟨_, rfl, hown1, hk1.mono (fun _ _ h => by cases h; rfl), hb1⟩

set_option maxRecDepth 100000 in
set_option maxHeartbeats 1000000 in
/-- the last one, nothing in its place -/
theorem repIntCut_any (g cap n i : Nat) (xs : List Value) (vv : Value) (w : World) (S : Nat → Prop) (B : Nat) (h : OwnSl w S B 3 1 (.slice (some ⟨g, 0, none⟩) n cap) n xs) (hv : OwnSl w S B 3 1 vv 0 []) (hn : n ≤ 1000000) (hi : n = i + 1) :
    Calls Try.prog 72 #[.slice (some ⟨g, 0, none⟩) n cap, .int .i64 i, .int .i64 ((i : Int) + 1), vv] w fun e w' => ∃ v', e = .returned v' ∧ OwnSl w' S B 3 1 v' i (xs.take i) ∧ Keep (· = g) w w' := by
  obtain ⟨cur, hr, hl, hx, hBg, hSg, hc, hc2⟩ := h.row
  have hc3 : cap ≤ 9223372036854775807 := by simpa [maxLen] using hc2
  have hsrc : Src Try.prog 1 66 vv 0 [] w := hv.isSl.src Try.underlying66 (by simp)
  obtain ⟨vo, vc, rfl, v1, v2, v3, v4⟩ := hv.isSl.form
  clear h hv
  subst hi
  have hx' : cur.take i = xs.take i := by rw [← hx, List.take_take, Nat.mul_one, Nat.min_eq_left (by omega)]
  have hll : cur.length = cap := by omega
  have e1 : splice cur i ([] : List Value) = cur := by simp [splice]
  have hr0 : Row w g 3 (splice cur (i * 1) []) → Row w g 3 cur := by rw [Nat.mul_one, e1]; exact id
  have k1 : (0 : Int) ≤ (i : Int) := by omega
  have k2 : (i : Int) ≤ (cap : Int) := by omega
  have k3 : (0 : Int) ≤ (i : Int) + 1 := by omega
  have k4 : (i : Int) + 1 ≤ (cap : Int) := by omega
  have k5 : ((i : Int) + 1).toNat = i + 1 := by omega
  have k6 : i + 1 - i = 1 := by omega
  have k7 : ¬ cap = i := by omega
  have Hl := Lib.hid hll; clear hll hl hx
  have E1 := Lib.hid e1; clear e1 hr0
  go_enter Try.func72, Try.ntmps72
  go_wp2_with (first
    | (refine in_list rfl ?_; intro K hK; (refine wp_room (.tmp 32) (.tmp 33) 66 66 rfl 3 1 8 _ Try.underlying66 info_int g i cap _ cur rfl hr (.slice vo 0 vc) 0 [] rfl hsrc ?_ ?_ ?_); (focus omega); (focus (have := Hl.out; simp only [List.length_nil]; omega)); intro w1 hr1 hk1; refine hK _ _ ?_)
    | (refine in_list rfl ?_; intro K hK; (refine wp_clearRow (.tmp 43) 66 rfl 3 1 8 _ Try.underlying66 info_int rfl g i 3 1 _ (some ⟨g, i, none⟩) _ rfl hr1 (fun _ => rfl) ?_ ?_ ?_); (focus (simp only [Nat.mul_one, E1.out, Hl.out]; omega)); (focus (exact zeroCells_one _ _ (by simp [Value.cells, Value.oneCell']) (by simp [Value.cells]))); intro w2 zs hz hr2 hk2; refine hK _ _ ?_))
  all_goals
    go_ret
    rw [Nat.mul_one, E1.out] at hr2
    have hlz : (splice cur i zs).length = cap := by rw [length_splice _ _ _ (by have := Hl.out; omega)]; exact Hl.out
    have := Row.own (k := 1) hr2 i (by omega) hBg hSg (by omega) hc2
    rw [Nat.mul_one, take_splice_le _ _ _ _ (Nat.le_refl _) (by have := Hl.out; omega), hx'] at this
    exact ⟨_, rfl, this, hk1.trans hk2 (fun _ _ h => h)⟩

set_option maxRecDepth 100000 in
set_option maxHeartbeats 2000000 in
/-- within, one or nothing in its place -/
theorem repIntLess_any (g cap n i : Nat) (xs : List Value) (vv : Value) (m : Nat) (news : List Value) (w : World) (S : Nat → Prop) (B : Nat) (h : OwnSl w S B 3 1 (.slice (some ⟨g, 0, none⟩) n cap) n xs) (hx1 : ∀ u ∈ xs, u.oneCell' = true) (hv : OwnSl w S B 3 1 vv m news) (hvg : vv.ownBlock ≠ some g) (hone : ∀ u ∈ news, u.oneCell' = true) (hn : n ≤ 1000000) (hi : i + 1 < n) (hm : m ≤ 1) (N : Nat) (L : List Value) (hN : N = n - 1 + m) (hL : L = xs.take i ++ news ++ xs.drop (i + 1)) :
    Calls Try.prog 72 #[.slice (some ⟨g, 0, none⟩) n cap, .int .i64 i, .int .i64 ((i : Int) + 1), vv] w fun e w' => ∃ v', e = .returned v' ∧ OwnSl w' S B 3 1 v' N L ∧ Keep (· = g) w w' := by
  obtain ⟨cur, hr, hl, hx, hBg, hSg, hc, hc2⟩ := h.row
  have hc3 : cap ≤ 9223372036854775807 := by simpa [maxLen] using hc2
  have hnl : news.length = m := by have := hv.1.1; omega
  have hll : cur.length = cap := by omega
  have hx' : cur.take n = xs := by rw [← hx, Nat.mul_one]
  obtain ⟨vo, vc, rfl, v1, v2, v3, v4⟩ := hv.isSl.form
  have hvs := hv.isSl
  clear h hv hl hx
  obtain ⟨d, rfl⟩ : ∃ d, n = i + 1 + (d + 1) := ⟨n - (i + 2), by omega⟩
  have HN := Lib.hid hN; clear hN
  have HL := Lib.hid hL; clear hL
  have k1 : (0 : Int) ≤ (i : Int) := by omega
  have k2 : (i : Int) ≤ (cap : Int) := by omega
  have k3 : (0 : Int) ≤ (i : Int) + 1 := by omega
  have k4 : (i : Int) + 1 ≤ (cap : Int) := by omega
  have k5 : ((i : Int) + 1).toNat = i + 1 := by omega
  have Hl := Lib.hid hll; clear hll
  have Hx := Lib.hid hx'; clear hx'
  have Hn := Lib.hid hnl; clear hnl
  go_enter Try.func72, Try.ntmps72
  have k6 : ¬ cap = i + 1 := by omega
  have k7 : (i : Int) + 1 ≤ (i : Int) + 1 + ((d : Int) + 1) := by omega
  have k8 : IntKind.i64.wrap ((i : Int) + (m : Int)) = (i : Int) + (m : Int) := IntWalk.i64_in _ (by omega)
  have k9 : i + 1 + (d + 1) - (i + 1) = d + 1 := by omega
  have k10 : IntKind.i64.wrap ((i : Int) + (m : Int) + ((d : Int) + 1)) = (i : Int) + (m : Int) + ((d : Int) + 1) := IntWalk.i64_in _ (by omega)
  have k11 : ¬ ((cap : Int) < (i : Int) + (m : Int) + ((d : Int) + 1)) := by omega
  have k12 : ((i : Int) + (m : Int) + ((d : Int) + 1)).toNat = i + m + (d + 1) := by omega
  have k13 : (0 : Int) ≤ (i : Int) + (m : Int) + ((d : Int) + 1) := by omega
  have k14 : (i : Int) + (m : Int) + ((d : Int) + 1) ≤ cap := by omega
  have k15 : (i : Int) + (m : Int) ≤ (i : Int) + 1 := by omega
  have k16 : (i : Int) ≤ (i : Int) + (m : Int) + ((d : Int) + 1) := by omega
  have k17 : ¬ cap = i := by omega
  go_wp2_with fail
  refine wp_region_ord (fun _ => True) (fun _ => true) [0, 1, 2, 3, 4, 5, 6, 7, 8, 9, 10, 11, 12] rfl (by kernel_rfl) trivial ?_
  repeat ((refine ord_q (v := ?_) rfl rfl (fun _ _ _ h => h) rfl (fun W hW => ?_) ?_); rotate_left; (focus ((try dsimp only at hW); skip; first | (go_simp; first | done | with_reducible rfl))); (try simp only [Act.put, List.setIfInBounds_toArray, List.set_cons_zero, List.set_cons_succ]))
  refine ord_nil ?_
  have hD : (xs.drop (i + 1)).length = d + 1 := by rw [List.length_drop, ← Hx.out, List.length_take, Hl.out]; omega
  have hT : cur.take i = xs.take i := by rw [← Hx.out, List.take_take, Nat.min_eq_left (by omega)]
  obtain ⟨hF1, hF2⟩ := rep_fwd cur news (xs.drop (i + 1)) i (by rw [Hn.out, hD, Hl.out]; omega)
  rw [Hn.out, hD, hT] at hF2
  rw [Hn.out] at hF1
  have hcs1 : (Builtin.firstCells 1 m (.slice vo m vc)).run Try.prog w.drew = .ok news.toArray w.drew := by
    have h1 := IsSl.first (P := Try.prog) (w := w.drew) (hvs.keep fun _ _ _ h => ⟨rfl, h⟩) m (Nat.le_refl _)
    rwa [List.take_of_length_le (by rw [Hn.out]; omega)] at h1
  have hcs2 : ∀ W, Row W g 3 (splice cur i news) → (Builtin.firstCells 1 (d + 1) (.slice (some ⟨g, i + 1, none⟩) (d + 1) (cap - (i + 1)))).run Try.prog W = .ok (xs.drop (i + 1)).toArray W := by
    intro W hW
    have h1 := (Row.isSl (S := NoS) (k := 1) (off := i + 1) hW (d + 1) (cap - (i + 1)) (by rw [length_splice _ _ _ (by rw [Hn.out, Hl.out]; omega), Hl.out]; omega) id (by omega) (by unfold maxLen; omega)).first (P := Try.prog) (d + 1) (Nat.le_refl _)
    rw [List.take_take, Nat.min_self, drop_splice_ge _ _ _ _ (by rw [Hn.out]; omega) (by rw [Hl.out]; omega), Nat.mul_one] at h1
    rwa [show (cur.drop (i + 1)).take (d + 1) = xs.drop (i + 1) by rw [← Hx.out, List.drop_take]; congr 1; omega] at h1
  have HD := Lib.hid hD; clear hD
  have HT := Lib.hid hT; clear hT
  have HF1 := Lib.hid hF1; clear hF1
  have HF2 := Lib.hid hF2; clear hF2
  have Hc1 := Lib.hid hcs1; clear hcs1
  have Hc2 := Lib.hid hcs2; clear hcs2
  have k18 : ¬ cap = i + m := by omega
  have k19 : i + m + (d + 1) - (i + m) = d + 1 := by omega
  have k20 : (0 : Int) ≤ (i : Int) + (m : Int) := by omega
  have k21 : (i : Int) + (m : Int) ≤ (i : Int) + (m : Int) + ((d : Int) + 1) := by omega
  have k22 : ((i : Int) + (m : Int)).toNat = i + m := by omega
  have k23 : (i : Int) + (m : Int) + ((d : Int) + 1) ≤ (i : Int) + 1 + ((d : Int) + 1) := by omega
  go_wp2_with (first
    | ((refine in_list rfl ?_); intro K hK; (refine wp_copyRow (.tmp 95) (.tmp 96) 66 66 rfl 3 1 8 _ Try.underlying66 info_int g i 3 m (i + m + (d + 1) - i) (cap - i) (some ⟨g, i, none⟩) cur rfl hr (.slice vo m vc) rfl m news rfl ?_ ?_ Hc1.out (fun _ => rfl) ?_ hone ?_); (focus (exact (Nat.min_eq_left (by omega)).symm)); (focus (rw [Hn.out, Nat.mul_one])); (focus (rw [Hn.out, Hl.out]; omega)); intro w1 hr1 hk1; refine hK _ _ (Stop.of ?_)))
  refine Stop.on ?_
  go_wp2_with fail
  refine wp_region_ord (fun _ => True) (fun i => !([9].contains i)) [0, 1, 2, 3, 4, 5, 6, 7, 8, 9] rfl (by kernel_rfl) trivial ?_
  repeat ((refine ord_q (v := ?_) rfl rfl (fun _ _ _ h => h) rfl (fun W hW => ?_) ?_); rotate_left; (focus ((try dsimp only at hW); skip; first | (go_simp; first | done | with_reducible rfl))); (try simp only [Act.put, List.setIfInBounds_toArray, List.set_cons_zero, List.set_cons_succ]))
  refine ord_l rfl rfl rfl (by kernel_rfl) ?_
  intro K hK
  refine wp_copyRow (.tmp 103) (.tmp 106) 66 66 rfl 3 1 8 _ Try.underlying66 info_int g (i + m) 3 (d + 1) (d + 1) (cap - (i + m)) (some ⟨g, i + m, none⟩) _ rfl (w := w1.drew) hr1 (.slice (some ⟨g, i + 1, none⟩) (d + 1) (cap - (i + 1))) rfl (d + 1) (xs.drop (i + 1)) rfl (Nat.min_self _).symm (by rw [HD.out, Nat.mul_one]) (Hc2.out _ hr1) (fun _ => rfl) ?_ (fun u hu => hx1 u (List.mem_of_mem_drop hu)) ?_
  · rw [length_splice _ _ _ (by rw [Hn.out, Hl.out]; omega), HD.out, Hl.out]; omega
  intro w2 hr2 hk2
  refine hK.out _ _ (ord_nil ?_)
  go_wp2_with (first
    | ((refine in_list rfl ?_); intro K hK; (refine wp_clearRow (.tmp 110) 66 rfl 3 1 8 _ Try.underlying66 info_int rfl g (i + m + (d + 1)) 3 _ _ _ _ rfl hr2 ?_ ?_ ?_ ?_); (focus (intro h0; first | rfl | (exfalso; omega) | (rw [if_neg (by omega)]))); (focus (rw [HF1.out, Hl.out]; omega)); (focus (exact zeroCells_one _ _ (by simp [Value.cells, Value.oneCell']) (by simp [Value.cells]))); intro w3 zs hz hr3 hk3; refine hK _ _ ?_))
  all_goals
    go_ret
    have hown := Row.own (k := 1) hr3 (i + m + (d + 1)) (by rw [length_splice _ _ _ (by rw [HF1.out, Hl.out, hz]; omega), HF1.out, Hl.out, Nat.mul_one]) hBg hSg (by omega) hc2
    rw [Nat.mul_one, take_splice_le _ _ _ _ (Nat.le_refl _) (by rw [HF1.out, Hl.out]; omega), HF2.out] at hown
    refine ⟨_, rfl, ?_, ((((Keep.refl (· = g) w).drew.trans hk1 (fun _ _ h => h)).drew).trans hk2 (fun _ _ h => h)).trans hk3 (fun _ _ h => h)⟩
    rw [HL.out, show N = i + m + (d + 1) by rw [HN.out]; omega]
    first | exact hown | (rw [‹cap = i + m + (d + 1)›] at hown; exact hown)
end Go.Proofs.Ytbldcbakhpdigaa
