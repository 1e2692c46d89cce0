/- Rep, RepM, RepG, Encode, Clone, Ord -/
import Derived.Test.YtbldcbakhpdigaaGreatJ1
import Derived.RegionTactic
import Derived.BigRegion
import Derived.Deep.RegionHeld3
import Derived.Deep.QuietTactic
import Derived.BigQuiet
import Derived.StillTailTactics
import Derived.Lib.Bytealg
import GoSem.Op.String
/- slices.Replace(s, i, i+1, v...) at strings and ints; v lies apart. (Printed by gen/rep.py.) -/
namespace Go.Proofs.YtbldcbakhpdigaaGreat
open Go.RowKit

theorem take_splice {α : Type} (X b : List α) (off : Nat) (h : off + b.length ≤ X.length) : (splice X off b).take (off + b.length) = X.take off ++ b := by
  unfold splice
  rw [← List.append_assoc, List.take_append_of_le_length (by simp only [List.length_append, List.length_take]; omega), List.take_of_length_le (by simp only [List.length_append, List.length_take]; omega)]
theorem take_splice_le {α : Type} (X b : List α) (off t : Nat) (ht : t ≤ off) (h : off ≤ X.length) : (splice X off b).take t = X.take t := by
  unfold splice
  rw [List.take_append_of_le_length (by rw [List.length_take]; omega), List.take_take, Nat.min_eq_left ht]
theorem drop_splice {α : Type} (X b : List α) (off : Nat) (h : off ≤ X.length) : (splice X off b).drop off = b ++ X.drop (off + b.length) := by
  unfold splice
  rw [List.drop_append_of_le_length (by rw [List.length_take]; omega), List.drop_of_length_le (by rw [List.length_take]; omega), List.nil_append]
theorem drop_splice_ge {α : Type} (X b : List α) (off t : Nat) (ht : off + b.length ≤ t) (h : off ≤ X.length) : (splice X off b).drop t = X.drop t := by
  obtain ⟨d, rfl⟩ : ∃ d, t = off + b.length + d := ⟨t - (off + b.length), by omega⟩
  have e : (splice X off b).drop (off + b.length) = X.drop (off + b.length) := by
    unfold splice
    rw [← List.append_assoc]
    exact List.drop_left' (by simp only [List.length_append, List.length_take]; omega)
  rw [← List.drop_drop, e, List.drop_drop]

/-- v first, then what is behind it -/
theorem rep_fwd {α : Type} (cur news b : List α) (i : Nat) (h : i + news.length + b.length ≤ cur.length) :
    (splice (splice cur i news) (i + news.length) b).length = cur.length ∧ (splice (splice cur i news) (i + news.length) b).take (i + news.length + b.length) = cur.take i ++ news ++ b := by
  have h1 : (splice cur i news).length = cur.length := length_splice _ _ _ (by omega)
  exact ⟨(length_splice _ _ _ (by omega)).trans h1, by rw [take_splice _ _ _ (by omega), take_splice _ _ _ (by omega)]⟩
/-- what is behind v first -/
theorem rep_bwd {α : Type} (cur news b : List α) (i : Nat) (h : i + news.length + b.length ≤ cur.length) :
    (splice (splice cur (i + news.length) b) i news).length = cur.length ∧ (splice (splice cur (i + news.length) b) i news).take (i + news.length + b.length) = cur.take i ++ news ++ b := by
  have h1 : (splice cur (i + news.length) b).length = cur.length := length_splice _ _ _ (by omega)
  refine ⟨(length_splice _ _ _ (by omega)).trans h1, ?_⟩
  rw [List.take_add, take_splice _ _ _ (by omega), take_splice_le _ _ _ _ (by omega) (by omega)]
  congr 1
  rw [drop_splice_ge _ _ _ _ (Nat.le_refl _) (by omega), drop_splice _ _ _ (by omega), List.take_append_of_le_length (Nat.le_refl _), List.take_length]


set_option maxRecDepth 100000 in
set_option maxHeartbeats 1000000 in
/-- the last one, something in its place -/
theorem repStrEnd_any (g cap n i : Nat) (xs : List Value) (vv : Value) (m : Nat) (news : List Value) (w : World) (S : Nat → Prop) (B : Nat) (hS : ∀ g, S g → g < w.heap.size) (hB : B ≤ w.heap.size) (h : OwnSl w S B 9 1 (.slice (some ⟨g, 0, none⟩) n cap) n xs) (hv : OwnSl w S B 9 1 vv m news) (hone : ∀ u ∈ news, u.oneCell' = true) (hn : n ≤ 1000000) (hm : m ≤ 1000000) (hi : n = i + 1) (hm0 : 0 < m) :
    Calls Tryz.prog 74 #[.slice (some ⟨g, 0, none⟩) n cap, .int .i64 i, .int .i64 ((i : Int) + 1), vv] w fun e w' => ∃ v', e = .returned v' ∧ OwnSl w' S B 9 1 v' (i + m) (xs.take i ++ news) ∧ Keep (· = g) w w' ∧ Below B w w' := by
  obtain ⟨cur, hr, hl, hx, hBg, hSg, hc, hc2⟩ := h.row
  have hc3 : cap ≤ 9223372036854775807 := by simpa [maxLen] using hc2
  have hh : OwnSl w S B 9 1 (.slice (some ⟨g, 0, none⟩) i cap) i (xs.take i) := by
    have := Row.own hr i hl hBg hSg (by omega) hc2
    rwa [show cur.take (i * 1) = xs.take i by rw [← hx, List.take_take, Nat.mul_one, Nat.mul_one, Nat.min_eq_left (by omega)]] at this
  have hsrc : Src Tryz.prog 1 72 vv m news w := hv.isSl.src Tryz.underlying72 hone
  obtain ⟨vo, vc, rfl, v1, v2, v3, v4⟩ := hv.isSl.form
  clear h hv hx hl hr
  subst hi
  have k1 : (0 : Int) ≤ (i : Int) := by omega
  have k2 : (i : Int) ≤ (cap : Int) := by omega
  have k3 : (0 : Int) ≤ (i : Int) + 1 := by omega
  have k4 : (i : Int) + 1 ≤ (cap : Int) := by omega
  have k5 : ((i : Int) + 1).toNat = i + 1 := by omega
  have k6 : ¬ (((i + m : Nat) : Int) < ((i + 1 : Nat) : Int)) := by omega
  have k7 : ¬ ((i : Int) + (m : Int) < (i : Int) + 1) := by omega
  have Hone := Lib.hid hone; clear hone
  go_enter Tryz.func74, Tryz.ntmps74
  go_wp2_with (at_builtin; (refine wpList_app rfl (.tmp 32) (.tmp 33) 72 72 rfl S B 9 1 16 _ Tryz.underlying72 info_str rfl (.slice (some ⟨g, 0, none⟩) i cap) _ _ rfl hh (.slice vo m vc) _ _ rfl hsrc hS hB ?_ ?_ ?_); (focus (unfold maxLen; omega)); (focus omega); intro ao1 c1 w1 hown1 hk1 hb1 hd1)
  all_goals
    go_ret
    exact ⟨_, rfl, hown1, hk1.mono (fun _ _ h => by cases h; rfl), hb1⟩

set_option maxRecDepth 100000 in
set_option maxHeartbeats 1000000 in
/-- the last one, nothing in its place -/
theorem repStrCut_any (g cap n i : Nat) (xs : List Value) (vv : Value) (w : World) (S : Nat → Prop) (B : Nat) (h : OwnSl w S B 9 1 (.slice (some ⟨g, 0, none⟩) n cap) n xs) (hv : OwnSl w S B 9 1 vv 0 []) (hn : n ≤ 1000000) (hi : n = i + 1) :
    Calls Tryz.prog 74 #[.slice (some ⟨g, 0, none⟩) n cap, .int .i64 i, .int .i64 ((i : Int) + 1), vv] w fun e w' => ∃ v', e = .returned v' ∧ OwnSl w' S B 9 1 v' i (xs.take i) ∧ Keep (· = g) w w' := by
  obtain ⟨cur, hr, hl, hx, hBg, hSg, hc, hc2⟩ := h.row
  have hc3 : cap ≤ 9223372036854775807 := by simpa [maxLen] using hc2
  have hsrc : Src Tryz.prog 1 72 vv 0 [] w := hv.isSl.src Tryz.underlying72 (by simp)
  obtain ⟨vo, vc, rfl, v1, v2, v3, v4⟩ := hv.isSl.form
  clear h hv
  subst hi
  have hx' : cur.take i = xs.take i := by rw [← hx, List.take_take, Nat.mul_one, Nat.min_eq_left (by omega)]
  have hll : cur.length = cap := by omega
  have e1 : splice cur i ([] : List Value) = cur := by simp [splice]
  have hr0 : Row w g 9 (splice cur (i * 1) []) → Row w g 9 cur := by rw [Nat.mul_one, e1]; exact id
  have k1 : (0 : Int) ≤ (i : Int) := by omega
  have k2 : (i : Int) ≤ (cap : Int) := by omega
  have k3 : (0 : Int) ≤ (i : Int) + 1 := by omega
  have k4 : (i : Int) + 1 ≤ (cap : Int) := by omega
  have k5 : ((i : Int) + 1).toNat = i + 1 := by omega
  have k6 : i + 1 - i = 1 := by omega
  have k7 : ¬ cap = i := by omega
  have Hl := Lib.hid hll; clear hll hl hx
  have E1 := Lib.hid e1; clear e1 hr0
  go_enter Tryz.func74, Tryz.ntmps74
  go_wp2_with (first
    | (refine in_list rfl ?_; intro K hK; (refine wp_room (.tmp 32) (.tmp 33) 72 72 rfl 9 1 16 _ Tryz.underlying72 info_str g i cap _ cur rfl hr (.slice vo 0 vc) 0 [] rfl hsrc ?_ ?_ ?_); (focus omega); (focus (have := Hl.out; simp only [List.length_nil]; omega)); intro w1 hr1 hk1; refine hK _ _ ?_)
    | (refine in_list rfl ?_; intro K hK; (refine wp_clearRow (.tmp 43) 72 rfl 9 1 16 _ Tryz.underlying72 info_str rfl g i 9 1 _ (some ⟨g, i, none⟩) _ rfl hr1 (fun _ => rfl) ?_ ?_ ?_); (focus (simp only [Nat.mul_one, E1.out, Hl.out]; omega)); (focus (exact zeroCells_one _ _ (by simp [Value.cells, Value.oneCell']) (by simp [Value.cells]))); intro w2 zs hz hr2 hk2; refine hK _ _ ?_))
  all_goals
    go_ret
    rw [Nat.mul_one, E1.out] at hr2
    have hlz : (splice cur i zs).length = cap := by rw [length_splice _ _ _ (by have := Hl.out; omega)]; exact Hl.out
    have := Row.own (k := 1) hr2 i (by omega) hBg hSg (by omega) hc2
    rw [Nat.mul_one, take_splice_le _ _ _ _ (Nat.le_refl _) (by have := Hl.out; omega), hx'] at this
    exact ⟨_, rfl, this, hk1.trans hk2 (fun _ _ h => h)⟩

set_option maxRecDepth 100000 in
set_option maxHeartbeats 2000000 in
/-- within, one or nothing in its place -/
theorem repStrLess_any (g cap n i : Nat) (xs : List Value) (vv : Value) (m : Nat) (news : List Value) (w : World) (S : Nat → Prop) (B : Nat) (h : OwnSl w S B 9 1 (.slice (some ⟨g, 0, none⟩) n cap) n xs) (hx1 : ∀ u ∈ xs, u.oneCell' = true) (hv : OwnSl w S B 9 1 vv m news) (hvg : vv.ownBlock ≠ some g) (hone : ∀ u ∈ news, u.oneCell' = true) (hn : n ≤ 1000000) (hi : i + 1 < n) (hm : m ≤ 1) (N : Nat) (L : List Value) (hN : N = n - 1 + m) (hL : L = xs.take i ++ news ++ xs.drop (i + 1)) :
    Calls Tryz.prog 74 #[.slice (some ⟨g, 0, none⟩) n cap, .int .i64 i, .int .i64 ((i : Int) + 1), vv] w fun e w' => ∃ v', e = .returned v' ∧ OwnSl w' S B 9 1 v' N L ∧ Keep (· = g) w w' := by
  obtain ⟨cur, hr, hl, hx, hBg, hSg, hc, hc2⟩ := h.row
  have hc3 : cap ≤ 9223372036854775807 := by simpa [maxLen] using hc2
  have hnl : news.length = m := by have := hv.1.1; omega
  have hll : cur.length = cap := by omega
  have hx' : cur.take n = xs := by rw [← hx, Nat.mul_one]
  obtain ⟨vo, vc, rfl, v1, v2, v3, v4⟩ := hv.isSl.form
  have hvs := hv.isSl
  clear h hv hl hx
  obtain ⟨d, rfl⟩ : ∃ d, n = i + 1 + (d + 1) := ⟨n - (i + 2), by omega⟩
  have HN := Lib.hid hN; clear hN
  have HL := Lib.hid hL; clear hL
  have k1 : (0 : Int) ≤ (i : Int) := by omega
  have k2 : (i : Int) ≤ (cap : Int) := by omega
  have k3 : (0 : Int) ≤ (i : Int) + 1 := by omega
  have k4 : (i : Int) + 1 ≤ (cap : Int) := by omega
  have k5 : ((i : Int) + 1).toNat = i + 1 := by omega
  have Hl := Lib.hid hll; clear hll
  have Hx := Lib.hid hx'; clear hx'
  have Hn := Lib.hid hnl; clear hnl
  go_enter Tryz.func74, Tryz.ntmps74
  have k6 : ¬ cap = i + 1 := by omega
  have k7 : (i : Int) + 1 ≤ (i : Int) + 1 + ((d : Int) + 1) := by omega
  have k8 : IntKind.i64.wrap ((i : Int) + (m : Int)) = (i : Int) + (m : Int) := IntWalk.i64_in _ (by omega)
  have k9 : i + 1 + (d + 1) - (i + 1) = d + 1 := by omega
  have k10 : IntKind.i64.wrap ((i : Int) + (m : Int) + ((d : Int) + 1)) = (i : Int) + (m : Int) + ((d : Int) + 1) := IntWalk.i64_in _ (by omega)
  have k11 : ¬ ((cap : Int) < (i : Int) + (m : Int) + ((d : Int) + 1)) := by omega
  have k12 : ((i : Int) + (m : Int) + ((d : Int) + 1)).toNat = i + m + (d + 1) := by omega
  have k13 : (0 : Int) ≤ (i : Int) + (m : Int) + ((d : Int) + 1) := by omega
  have k14 : (i : Int) + (m : Int) + ((d : Int) + 1) ≤ cap := by omega
  have k15 : (i : Int) + (m : Int) ≤ (i : Int) + 1 := by omega
  have k16 : (i : Int) ≤ (i : Int) + (m : Int) + ((d : Int) + 1) := by omega
  have k17 : ¬ cap = i := by omega
  go_wp2_with fail
  refine wp_region_ord (fun _ => True) (fun _ => true) [0, 1, 2, 3, 4, 5, 6, 7, 8, 9, 10, 11, 12] rfl (by kernel_rfl) trivial ?_
  repeat ((refine ord_q (v := ?_) rfl rfl (fun _ _ _ h => h) rfl (fun W hW => ?_) ?_); rotate_left; (focus ((try dsimp only at hW); skip; first | (go_simp; first | done | with_reducible rfl))); (try simp only [Act.put, List.setIfInBounds_toArray, List.set_cons_zero, List.set_cons_succ]))
  refine ord_nil ?_
  have hD : (xs.drop (i + 1)).length = d + 1 := by rw [List.length_drop, ← Hx.out, List.length_take, Hl.out]; omega
  have hT : cur.take i = xs.take i := by rw [← Hx.out, List.take_take, Nat.min_eq_left (by omega)]
  obtain ⟨hF1, hF2⟩ := rep_fwd cur news (xs.drop (i + 1)) i (by rw [Hn.out, hD, Hl.out]; omega)
  rw [Hn.out, hD, hT] at hF2
  rw [Hn.out] at hF1
  have hcs1 : (Builtin.firstCells 1 m (.slice vo m vc)).run Tryz.prog w.drew = .ok news.toArray w.drew := by
    have h1 := IsSl.first (P := Tryz.prog) (w := w.drew) (hvs.keep fun _ _ _ h => ⟨rfl, h⟩) m (Nat.le_refl _)
    rwa [List.take_of_length_le (by rw [Hn.out]; omega)] at h1
  have hcs2 : ∀ W, Row W g 9 (splice cur i news) → (Builtin.firstCells 1 (d + 1) (.slice (some ⟨g, i + 1, none⟩) (d + 1) (cap - (i + 1)))).run Tryz.prog W = .ok (xs.drop (i + 1)).toArray W := by
    intro W hW
    have h1 := (Row.isSl (S := NoS) (k := 1) (off := i + 1) hW (d + 1) (cap - (i + 1)) (by rw [length_splice _ _ _ (by rw [Hn.out, Hl.out]; omega), Hl.out]; omega) id (by omega) (by unfold maxLen; omega)).first (P := Tryz.prog) (d + 1) (Nat.le_refl _)
    rw [List.take_take, Nat.min_self, drop_splice_ge _ _ _ _ (by rw [Hn.out]; omega) (by rw [Hl.out]; omega), Nat.mul_one] at h1
    rwa [show (cur.drop (i + 1)).take (d + 1) = xs.drop (i + 1) by rw [← Hx.out, List.drop_take]; congr 1; omega] at h1
  have HD := Lib.hid hD; clear hD
  have HT := Lib.hid hT; clear hT
  have HF1 := Lib.hid hF1; clear hF1
  have HF2 := Lib.hid hF2; clear hF2
  have Hc1 := Lib.hid hcs1; clear hcs1
  have Hc2 := Lib.hid hcs2; clear hcs2
  have k18 : ¬ cap = i + m := by omega
  have k19 : i + m + (d + 1) - (i + m) = d + 1 := by omega
  have k20 : (0 : Int) ≤ (i : Int) + (m : Int) := by omega
  have k21 : (i : Int) + (m : Int) ≤ (i : Int) + (m : Int) + ((d : Int) + 1) := by omega
  have k22 : ((i : Int) + (m : Int)).toNat = i + m := by omega
  have k23 : (i : Int) + (m : Int) + ((d : Int) + 1) ≤ (i : Int) + 1 + ((d : Int) + 1) := by omega
  go_wp2_with (first
    | ((refine in_list rfl ?_); intro K hK; (refine wp_copyRow (.tmp 95) (.tmp 96) 72 72 rfl 9 1 16 _ Tryz.underlying72 info_str g i 9 m (i + m + (d + 1) - i) (cap - i) (some ⟨g, i, none⟩) cur rfl hr (.slice vo m vc) rfl m news rfl ?_ ?_ Hc1.out (fun _ => rfl) ?_ hone ?_); (focus (exact (Nat.min_eq_left (by omega)).symm)); (focus (rw [Hn.out, Nat.mul_one])); (focus (rw [Hn.out, Hl.out]; omega)); intro w1 hr1 hk1; refine hK _ _ (Stop.of ?_)))
  refine Stop.on ?_
  go_wp2_with fail
  refine wp_region_ord (fun _ => True) (fun i => !([9].contains i)) [0, 1, 2, 3, 4, 5, 6, 7, 8, 9] rfl (by kernel_rfl) trivial ?_
  repeat ((refine ord_q (v := ?_) rfl rfl (fun _ _ _ h => h) rfl (fun W hW => ?_) ?_); rotate_left; (focus ((try dsimp only at hW); skip; first | (go_simp; first | done | with_reducible rfl))); (try simp only [Act.put, List.setIfInBounds_toArray, List.set_cons_zero, List.set_cons_succ]))
  refine ord_l rfl rfl rfl (by kernel_rfl) ?_
  intro K hK
  refine wp_copyRow (.tmp 103) (.tmp 106) 72 72 rfl 9 1 16 _ Tryz.underlying72 info_str g (i + m) 9 (d + 1) (d + 1) (cap - (i + m)) (some ⟨g, i + m, none⟩) _ rfl (w := w1.drew) hr1 (.slice (some ⟨g, i + 1, none⟩) (d + 1) (cap - (i + 1))) rfl (d + 1) (xs.drop (i + 1)) rfl (Nat.min_self _).symm (by rw [HD.out, Nat.mul_one]) (Hc2.out _ hr1) (fun _ => rfl) ?_ (fun u hu => hx1 u (List.mem_of_mem_drop hu)) ?_
  · rw [length_splice _ _ _ (by rw [Hn.out, Hl.out]; omega), HD.out, Hl.out]; omega
  intro w2 hr2 hk2
  refine hK.out _ _ (ord_nil ?_)
  go_wp2_with (first
    | ((refine in_list rfl ?_); intro K hK; (refine wp_clearRow (.tmp 110) 72 rfl 9 1 16 _ Tryz.underlying72 info_str rfl g (i + m + (d + 1)) 9 _ _ _ _ rfl hr2 ?_ ?_ ?_ ?_); (focus (intro h0; first | rfl | (exfalso; omega) | (rw [if_neg (by omega)]))); (focus (rw [HF1.out, Hl.out]; omega)); (focus (exact zeroCells_one _ _ (by simp [Value.cells, Value.oneCell']) (by simp [Value.cells]))); intro w3 zs hz hr3 hk3; refine hK _ _ ?_))
  all_goals
    go_ret
    have hown := Row.own (k := 1) hr3 (i + m + (d + 1)) (by rw [length_splice _ _ _ (by rw [HF1.out, Hl.out, hz]; omega), HF1.out, Hl.out, Nat.mul_one]) hBg hSg (by omega) hc2
    rw [Nat.mul_one, take_splice_le _ _ _ _ (Nat.le_refl _) (by rw [HF1.out, Hl.out]; omega), HF2.out] at hown
    refine ⟨_, rfl, ?_, ((((Keep.refl (· = g) w).drew.trans hk1 (fun _ _ h => h)).drew).trans hk2 (fun _ _ h => h)).trans hk3 (fun _ _ h => h)⟩
    rw [HL.out, show N = i + m + (d + 1) by rw [HN.out]; omega]
    first | exact hown | (rw [‹cap = i + m + (d + 1)›] at hown; exact hown)

set_option maxRecDepth 100000 in
set_option maxHeartbeats 1000000 in
/-- the last one, something in its place -/
theorem repIntEnd_any (g cap n i : Nat) (xs : List Value) (vv : Value) (m : Nat) (news : List Value) (w : World) (S : Nat → Prop) (B : Nat) (hS : ∀ g, S g → g < w.heap.size) (hB : B ≤ w.heap.size) (h : OwnSl w S B 3 1 (.slice (some ⟨g, 0, none⟩) n cap) n xs) (hv : OwnSl w S B 3 1 vv m news) (hone : ∀ u ∈ news, u.oneCell' = true) (hn : n ≤ 1000000) (hm : m ≤ 1000000) (hi : n = i + 1) (hm0 : 0 < m) :
    Calls Tryz.prog 75 #[.slice (some ⟨g, 0, none⟩) n cap, .int .i64 i, .int .i64 ((i : Int) + 1), vv] w fun e w' => ∃ v', e = .returned v' ∧ OwnSl w' S B 3 1 v' (i + m) (xs.take i ++ news) ∧ Keep (· = g) w w' ∧ Below B w w' := by
  obtain ⟨cur, hr, hl, hx, hBg, hSg, hc, hc2⟩ := h.row
  have hc3 : cap ≤ 9223372036854775807 := by simpa [maxLen] using hc2
  have hh : OwnSl w S B 3 1 (.slice (some ⟨g, 0, none⟩) i cap) i (xs.take i) := by
    have := Row.own hr i hl hBg hSg (by omega) hc2
    rwa [show cur.take (i * 1) = xs.take i by rw [← hx, List.take_take, Nat.mul_one, Nat.mul_one, Nat.min_eq_left (by omega)]] at this
  have hsrc : Src Tryz.prog 1 36 vv m news w := hv.isSl.src Tryz.underlying36 hone
  obtain ⟨vo, vc, rfl, v1, v2, v3, v4⟩ := hv.isSl.form
  clear h hv hx hl hr
  subst hi
  have k1 : (0 : Int) ≤ (i : Int) := by omega
  have k2 : (i : Int) ≤ (cap : Int) := by omega
  have k3 : (0 : Int) ≤ (i : Int) + 1 := by omega
  have k4 : (i : Int) + 1 ≤ (cap : Int) := by omega
  have k5 : ((i : Int) + 1).toNat = i + 1 := by omega
  have k6 : ¬ (((i + m : Nat) : Int) < ((i + 1 : Nat) : Int)) := by omega
  have k7 : ¬ ((i : Int) + (m : Int) < (i : Int) + 1) := by omega
  have Hone := Lib.hid hone; clear hone
  go_enter Tryz.func75, Tryz.ntmps75
  go_wp2_with (at_builtin; (refine wpList_app rfl (.tmp 32) (.tmp 33) 36 36 rfl S B 3 1 8 _ Tryz.underlying36 info_int rfl (.slice (some ⟨g, 0, none⟩) i cap) _ _ rfl hh (.slice vo m vc) _ _ rfl hsrc hS hB ?_ ?_ ?_); (focus (unfold maxLen; omega)); (focus omega); intro ao1 c1 w1 hown1 hk1 hb1 hd1)
  all_goals
    go_ret
    exact ⟨_, rfl, hown1, hk1.mono (fun _ _ h => by cases h; rfl), hb1⟩

set_option maxRecDepth 100000 in
set_option maxHeartbeats 1000000 in
/-- the last one, nothing in its place -/
theorem repIntCut_any (g cap n i : Nat) (xs : List Value) (vv : Value) (w : World) (S : Nat → Prop) (B : Nat) (h : OwnSl w S B 3 1 (.slice (some ⟨g, 0, none⟩) n cap) n xs) (hv : OwnSl w S B 3 1 vv 0 []) (hn : n ≤ 1000000) (hi : n = i + 1) :
    Calls Tryz.prog 75 #[.slice (some ⟨g, 0, none⟩) n cap, .int .i64 i, .int .i64 ((i : Int) + 1), vv] w fun e w' => ∃ v', e = .returned v' ∧ OwnSl w' S B 3 1 v' i (xs.take i) ∧ Keep (· = g) w w' := by
  obtain ⟨cur, hr, hl, hx, hBg, hSg, hc, hc2⟩ := h.row
  have hc3 : cap ≤ 9223372036854775807 := by simpa [maxLen] using hc2
  have hsrc : Src Tryz.prog 1 36 vv 0 [] w := hv.isSl.src Tryz.underlying36 (by simp)
  obtain ⟨vo, vc, rfl, v1, v2, v3, v4⟩ := hv.isSl.form
  clear h hv
  subst hi
  have hx' : cur.take i = xs.take i := by rw [← hx, List.take_take, Nat.mul_one, Nat.min_eq_left (by omega)]
  have hll : cur.length = cap := by omega
  have e1 : splice cur i ([] : List Value) = cur := by simp [splice]
  have hr0 : Row w g 3 (splice cur (i * 1) []) → Row w g 3 cur := by rw [Nat.mul_one, e1]; exact id
  have k1 : (0 : Int) ≤ (i : Int) := by omega
  have k2 : (i : Int) ≤ (cap : Int) := by omega
  have k3 : (0 : Int) ≤ (i : Int) + 1 := by omega
  have k4 : (i : Int) + 1 ≤ (cap : Int) := by omega
  have k5 : ((i : Int) + 1).toNat = i + 1 := by omega
  have k6 : i + 1 - i = 1 := by omega
  have k7 : ¬ cap = i := by omega
  have Hl := Lib.hid hll; clear hll hl hx
  have E1 := Lib.hid e1; clear e1 hr0
  go_enter Tryz.func75, Tryz.ntmps75
  go_wp2_with (first
    | (refine in_list rfl ?_; intro K hK; (refine wp_room (.tmp 32) (.tmp 33) 36 36 rfl 3 1 8 _ Tryz.underlying36 info_int g i cap _ cur rfl hr (.slice vo 0 vc) 0 [] rfl hsrc ?_ ?_ ?_); (focus omega); (focus (have := Hl.out; simp only [List.length_nil]; omega)); intro w1 hr1 hk1; refine hK _ _ ?_)
    | (refine in_list rfl ?_; intro K hK; (refine wp_clearRow (.tmp 43) 36 rfl 3 1 8 _ Tryz.underlying36 info_int rfl g i 3 1 _ (some ⟨g, i, none⟩) _ rfl hr1 (fun _ => rfl) ?_ ?_ ?_); (focus (simp only [Nat.mul_one, E1.out, Hl.out]; omega)); (focus (exact zeroCells_one _ _ (by simp [Value.cells, Value.oneCell']) (by simp [Value.cells]))); intro w2 zs hz hr2 hk2; refine hK _ _ ?_))
  all_goals
    go_ret
    rw [Nat.mul_one, E1.out] at hr2
    have hlz : (splice cur i zs).length = cap := by rw [length_splice _ _ _ (by have := Hl.out; omega)]; exact Hl.out
    have := Row.own (k := 1) hr2 i (by omega) hBg hSg (by omega) hc2
    rw [Nat.mul_one, take_splice_le _ _ _ _ (Nat.le_refl _) (by have := Hl.out; omega), hx'] at this
    exact ⟨_, rfl, this, hk1.trans hk2 (fun _ _ h => h)⟩

set_option maxRecDepth 100000 in
set_option maxHeartbeats 2000000 in
/-- within, one or nothing in its place -/
theorem repIntLess_any (g cap n i : Nat) (xs : List Value) (vv : Value) (m : Nat) (news : List Value) (w : World) (S : Nat → Prop) (B : Nat) (h : OwnSl w S B 3 1 (.slice (some ⟨g, 0, none⟩) n cap) n xs) (hx1 : ∀ u ∈ xs, u.oneCell' = true) (hv : OwnSl w S B 3 1 vv m news) (hvg : vv.ownBlock ≠ some g) (hone : ∀ u ∈ news, u.oneCell' = true) (hn : n ≤ 1000000) (hi : i + 1 < n) (hm : m ≤ 1) (N : Nat) (L : List Value) (hN : N = n - 1 + m) (hL : L = xs.take i ++ news ++ xs.drop (i + 1)) :
    Calls Tryz.prog 75 #[.slice (some ⟨g, 0, none⟩) n cap, .int .i64 i, .int .i64 ((i : Int) + 1), vv] w fun e w' => ∃ v', e = .returned v' ∧ OwnSl w' S B 3 1 v' N L ∧ Keep (· = g) w w' := by
  obtain ⟨cur, hr, hl, hx, hBg, hSg, hc, hc2⟩ := h.row
  have hc3 : cap ≤ 9223372036854775807 := by simpa [maxLen] using hc2
  have hnl : news.length = m := by have := hv.1.1; omega
  have hll : cur.length = cap := by omega
  have hx' : cur.take n = xs := by rw [← hx, Nat.mul_one]
  obtain ⟨vo, vc, rfl, v1, v2, v3, v4⟩ := hv.isSl.form
  have hvs := hv.isSl
  clear h hv hl hx
  obtain ⟨d, rfl⟩ : ∃ d, n = i + 1 + (d + 1) := ⟨n - (i + 2), by omega⟩
  have HN := Lib.hid hN; clear hN
  have HL := Lib.hid hL; clear hL
  have k1 : (0 : Int) ≤ (i : Int) := by omega
  have k2 : (i : Int) ≤ (cap : Int) := by omega
  have k3 : (0 : Int) ≤ (i : Int) + 1 := by omega
  have k4 : (i : Int) + 1 ≤ (cap : Int) := by omega
  have k5 : ((i : Int) + 1).toNat = i + 1 := by omega
  have Hl := Lib.hid hll; clear hll
  have Hx := Lib.hid hx'; clear hx'
  have Hn := Lib.hid hnl; clear hnl
  go_enter Tryz.func75, Tryz.ntmps75
  have k6 : ¬ cap = i + 1 := by omega
  have k7 : (i : Int) + 1 ≤ (i : Int) + 1 + ((d : Int) + 1) := by omega
  have k8 : IntKind.i64.wrap ((i : Int) + (m : Int)) = (i : Int) + (m : Int) := IntWalk.i64_in _ (by omega)
  have k9 : i + 1 + (d + 1) - (i + 1) = d + 1 := by omega
  have k10 : IntKind.i64.wrap ((i : Int) + (m : Int) + ((d : Int) + 1)) = (i : Int) + (m : Int) + ((d : Int) + 1) := IntWalk.i64_in _ (by omega)
  have k11 : ¬ ((cap : Int) < (i : Int) + (m : Int) + ((d : Int) + 1)) := by omega
  have k12 : ((i : Int) + (m : Int) + ((d : Int) + 1)).toNat = i + m + (d + 1) := by omega
  have k13 : (0 : Int) ≤ (i : Int) + (m : Int) + ((d : Int) + 1) := by omega
  have k14 : (i : Int) + (m : Int) + ((d : Int) + 1) ≤ cap := by omega
  have k15 : (i : Int) + (m : Int) ≤ (i : Int) + 1 := by omega
  have k16 : (i : Int) ≤ (i : Int) + (m : Int) + ((d : Int) + 1) := by omega
  have k17 : ¬ cap = i := by omega
  go_wp2_with fail
  refine wp_region_ord (fun _ => True) (fun _ => true) [0, 1, 2, 3, 4, 5, 6, 7, 8, 9, 10, 11, 12] rfl (by kernel_rfl) trivial ?_
  repeat ((refine ord_q (v := ?_) rfl rfl (fun _ _ _ h => h) rfl (fun W hW => ?_) ?_); rotate_left; (focus ((try dsimp only at hW); skip; first | (go_simp; first | done | with_reducible rfl))); (try simp only [Act.put, List.setIfInBounds_toArray, List.set_cons_zero, List.set_cons_succ]))
  refine ord_nil ?_
  have hD : (xs.drop (i + 1)).length = d + 1 := by rw [List.length_drop, ← Hx.out, List.length_take, Hl.out]; omega
  have hT : cur.take i = xs.take i := by rw [← Hx.out, List.take_take, Nat.min_eq_left (by omega)]
  obtain ⟨hF1, hF2⟩ := rep_fwd cur news (xs.drop (i + 1)) i (by rw [Hn.out, hD, Hl.out]; omega)
  rw [Hn.out, hD, hT] at hF2
  rw [Hn.out] at hF1
  have hcs1 : (Builtin.firstCells 1 m (.slice vo m vc)).run Tryz.prog w.drew = .ok news.toArray w.drew := by
    have h1 := IsSl.first (P := Tryz.prog) (w := w.drew) (hvs.keep fun _ _ _ h => ⟨rfl, h⟩) m (Nat.le_refl _)
    rwa [List.take_of_length_le (by rw [Hn.out]; omega)] at h1
  have hcs2 : ∀ W, Row W g 3 (splice cur i news) → (Builtin.firstCells 1 (d + 1) (.slice (some ⟨g, i + 1, none⟩) (d + 1) (cap - (i + 1)))).run Tryz.prog W = .ok (xs.drop (i + 1)).toArray W := by
    intro W hW
    have h1 := (Row.isSl (S := NoS) (k := 1) (off := i + 1) hW (d + 1) (cap - (i + 1)) (by rw [length_splice _ _ _ (by rw [Hn.out, Hl.out]; omega), Hl.out]; omega) id (by omega) (by unfold maxLen; omega)).first (P := Tryz.prog) (d + 1) (Nat.le_refl _)
    rw [List.take_take, Nat.min_self, drop_splice_ge _ _ _ _ (by rw [Hn.out]; omega) (by rw [Hl.out]; omega), Nat.mul_one] at h1
    rwa [show (cur.drop (i + 1)).take (d + 1) = xs.drop (i + 1) by rw [← Hx.out, List.drop_take]; congr 1; omega] at h1
  have HD := Lib.hid hD; clear hD
  have HT := Lib.hid hT; clear hT
  have HF1 := Lib.hid hF1; clear hF1
  have HF2 := Lib.hid hF2; clear hF2
  have Hc1 := Lib.hid hcs1; clear hcs1
  have Hc2 := Lib.hid hcs2; clear hcs2
  have k18 : ¬ cap = i + m := by omega
  have k19 : i + m + (d + 1) - (i + m) = d + 1 := by omega
  have k20 : (0 : Int) ≤ (i : Int) + (m : Int) := by omega
  have k21 : (i : Int) + (m : Int) ≤ (i : Int) + (m : Int) + ((d : Int) + 1) := by omega
  have k22 : ((i : Int) + (m : Int)).toNat = i + m := by omega
  have k23 : (i : Int) + (m : Int) + ((d : Int) + 1) ≤ (i : Int) + 1 + ((d : Int) + 1) := by omega
  go_wp2_with (first
    | ((refine in_list rfl ?_); intro K hK; (refine wp_copyRow (.tmp 95) (.tmp 96) 36 36 rfl 3 1 8 _ Tryz.underlying36 info_int g i 3 m (i + m + (d + 1) - i) (cap - i) (some ⟨g, i, none⟩) cur rfl hr (.slice vo m vc) rfl m news rfl ?_ ?_ Hc1.out (fun _ => rfl) ?_ hone ?_); (focus (exact (Nat.min_eq_left (by omega)).symm)); (focus (rw [Hn.out, Nat.mul_one])); (focus (rw [Hn.out, Hl.out]; omega)); intro w1 hr1 hk1; refine hK _ _ (Stop.of ?_)))
  refine Stop.on ?_
  go_wp2_with fail
  refine wp_region_ord (fun _ => True) (fun i => !([9].contains i)) [0, 1, 2, 3, 4, 5, 6, 7, 8, 9] rfl (by kernel_rfl) trivial ?_
  repeat ((refine ord_q (v := ?_) rfl rfl (fun _ _ _ h => h) rfl (fun W hW => ?_) ?_); rotate_left; (focus ((try dsimp only at hW); skip; first | (go_simp; first | done | with_reducible rfl))); (try simp only [Act.put, List.setIfInBounds_toArray, List.set_cons_zero, List.set_cons_succ]))
  refine ord_l rfl rfl rfl (by kernel_rfl) ?_
  intro K hK
  refine wp_copyRow (.tmp 103) (.tmp 106) 36 36 rfl 3 1 8 _ Tryz.underlying36 info_int g (i + m) 3 (d + 1) (d + 1) (cap - (i + m)) (some ⟨g, i + m, none⟩) _ rfl (w := w1.drew) hr1 (.slice (some ⟨g, i + 1, none⟩) (d + 1) (cap - (i + 1))) rfl (d + 1) (xs.drop (i + 1)) rfl (Nat.min_self _).symm (by rw [HD.out, Nat.mul_one]) (Hc2.out _ hr1) (fun _ => rfl) ?_ (fun u hu => hx1 u (List.mem_of_mem_drop hu)) ?_
  · rw [length_splice _ _ _ (by rw [Hn.out, Hl.out]; omega), HD.out, Hl.out]; omega
  intro w2 hr2 hk2
  refine hK.out _ _ (ord_nil ?_)
  go_wp2_with (first
    | ((refine in_list rfl ?_); intro K hK; (refine wp_clearRow (.tmp 110) 36 rfl 3 1 8 _ Tryz.underlying36 info_int rfl g (i + m + (d + 1)) 3 _ _ _ _ rfl hr2 ?_ ?_ ?_ ?_); (focus (intro h0; first | rfl | (exfalso; omega) | (rw [if_neg (by omega)]))); (focus (rw [HF1.out, Hl.out]; omega)); (focus (exact zeroCells_one _ _ (by simp [Value.cells, Value.oneCell']) (by simp [Value.cells]))); intro w3 zs hz hr3 hk3; refine hK _ _ ?_))
  all_goals
    go_ret
    have hown := Row.own (k := 1) hr3 (i + m + (d + 1)) (by rw [length_splice _ _ _ (by rw [HF1.out, Hl.out, hz]; omega), HF1.out, Hl.out, Nat.mul_one]) hBg hSg (by omega) hc2
    rw [Nat.mul_one, take_splice_le _ _ _ _ (Nat.le_refl _) (by rw [HF1.out, Hl.out]; omega), HF2.out] at hown
    refine ⟨_, rfl, ?_, ((((Keep.refl (· = g) w).drew.trans hk1 (fun _ _ h => h)).drew).trans hk2 (fun _ _ h => h)).trans hk3 (fun _ _ h => h)⟩
    rw [HL.out, show N = i + m + (d + 1) by rw [HN.out]; omega]
    first | exact hown | (rw [‹cap = i + m + (d + 1)›] at hown; exact hown)
end Go.Proofs.YtbldcbakhpdigaaGreat

/- slices.Replace(s, i, i+1, v...) at strings and ints: within, two or more in its place, where there is room. (Printed by gen/rep2.py.) -/
namespace Go.Proofs.YtbldcbakhpdigaaGreat
open Go.RowKit

set_option maxRecDepth 100000 in
set_option maxHeartbeats 2000000 in
/-- within, two or more in its place, where there is room -/
theorem repStrRoom_any (g cap n i : Nat) (xs : List Value) (vb vc m : Nat) (news : List Value) (w : World) (S : Nat → Prop) (B : Nat) (h : OwnSl w S B 9 1 (.slice (some ⟨g, 0, none⟩) n cap) n xs) (hx1 : ∀ u ∈ xs, u.oneCell' = true) (hv : OwnSl w S B 9 1 (.slice (some ⟨vb, 0, none⟩) m vc) m news) (hvg : vb ≠ g) (hone : ∀ u ∈ news, u.oneCell' = true) (hn : n ≤ 1000000) (hmm : m ≤ 1000000) (hi : i + 1 < n) (hm : 2 ≤ m) (hroom : n - 1 + m ≤ cap) (N : Nat) (L : List Value) (hN : N = n - 1 + m) (hL : L = xs.take i ++ news ++ xs.drop (i + 1)) :
    Calls Tryz.prog 74 #[.slice (some ⟨g, 0, none⟩) n cap, .int .i64 i, .int .i64 ((i : Int) + 1), .slice (some ⟨vb, 0, none⟩) m vc] w fun e w' => ∃ v', e = .returned v' ∧ OwnSl w' S B 9 1 v' N L ∧ Keep (· = g) w w' := by
  obtain ⟨cur, hr, hl, hx, hBg, hSg, hc, hc2⟩ := h.row
  obtain ⟨curv, hrv, hlv, _, _, _, hcv, hcv2⟩ := hv.row
  have hc3 : cap ≤ 9223372036854775807 := by simpa [maxLen] using hc2
  have hcv3 : vc ≤ 9223372036854775807 := by simpa [maxLen] using hcv2
  have hnl : news.length = m := by have := hv.1.1; omega
  have hll : cur.length = cap := by omega
  have hllv : curv.length = vc := by omega
  have hx' : cur.take n = xs := by rw [← hx, Nat.mul_one]
  have hvs := hv.isSl
  clear h hv hl hx hlv
  obtain ⟨d, rfl⟩ : ∃ d, n = i + 1 + (d + 1) := ⟨n - (i + 2), by omega⟩
  have hov : (callFunc 91 #[.slice (some ⟨g, i + m, none⟩) (d + 1) (cap - (i + m)), .slice (some ⟨vb, 0, none⟩) m vc]).run Tryz.prog w.drew = .ok (.value (.bool false)) w.drew := by
    rw [run_callFunc_extern Tryz.func91 (by kernel_rfl) (by kernel_rfl) (by kernel_rfl) (e := Extern.SlicesOverlaps.overlaps #[72, 72] #[4]) (by kernel_rfl)]
    rw [Lib.run_overlaps_apart w.drew 72 4 9 Tryz.underlying72 1 (fun w => by kernel_rfl) ⟨g, i + m, none⟩ ⟨vb, 0, none⟩ (d + 1) (cap - (i + m)) m vc (Ne.symm hvg) 9 9 cap vc
      (by have hr' : w.drew.heap[g]? = _ := hr; simp [World.shape?, hr', hll]) (by have hr' : w.drew.heap[vb]? = _ := hrv; simp [World.shape?, hr', hllv]) (by omega) (hr.frozen _) (hr.frozen _)]
    rfl
  have HN := Lib.hid hN; clear hN
  have HL := Lib.hid hL; clear hL
  have k1 : (0 : Int) ≤ (i : Int) := by omega
  have k2 : (i : Int) ≤ (cap : Int) := by omega
  have k3 : (0 : Int) ≤ (i : Int) + 1 := by omega
  have k4 : (i : Int) + 1 ≤ (cap : Int) := by omega
  have k5 : ((i : Int) + 1).toNat = i + 1 := by omega
  have Hl := Lib.hid hll; clear hll
  have Hx := Lib.hid hx'; clear hx'
  have Hn := Lib.hid hnl; clear hnl
  have k6 : ¬ cap = i + 1 := by omega
  have k7 : (i : Int) + 1 ≤ (i : Int) + 1 + ((d : Int) + 1) := by omega
  have k8 : IntKind.i64.wrap ((i : Int) + (m : Int)) = (i : Int) + (m : Int) := IntWalk.i64_in _ (by omega)
  have k9 : i + 1 + (d + 1) - (i + 1) = d + 1 := by omega
  have k10 : IntKind.i64.wrap ((i : Int) + (m : Int) + ((d : Int) + 1)) = (i : Int) + (m : Int) + ((d : Int) + 1) := IntWalk.i64_in _ (by omega)
  have k11 : ¬ ((cap : Int) < (i : Int) + (m : Int) + ((d : Int) + 1)) := by omega
  have k12 : ((i : Int) + (m : Int) + ((d : Int) + 1)).toNat = i + m + (d + 1) := by omega
  have k13 : (0 : Int) ≤ (i : Int) + (m : Int) + ((d : Int) + 1) := by omega
  have k14 : (i : Int) + (m : Int) + ((d : Int) + 1) ≤ cap := by omega
  have k15 : ¬ ((i : Int) + (m : Int) ≤ (i : Int) + 1) := by omega
  have k16 : (i : Int) ≤ (i : Int) + (m : Int) + ((d : Int) + 1) := by omega
  have k17 : ¬ cap = i := by omega
  have hD : (xs.drop (i + 1)).length = d + 1 := by rw [List.length_drop, ← Hx.out, List.length_take, Hl.out]; omega
  have hT : cur.take i = xs.take i := by rw [← Hx.out, List.take_take, Nat.min_eq_left (by omega)]
  obtain ⟨hF1, hF2⟩ := rep_bwd cur news (xs.drop (i + 1)) i (by rw [Hn.out, hD, Hl.out]; omega)
  rw [Hn.out, hD, hT] at hF2
  rw [Hn.out] at hF1
  have hcs1 : ∀ W, Keep (· = g) w W → (Builtin.firstCells 1 m (.slice (some ⟨vb, 0, none⟩) m vc)).run Tryz.prog W = .ok news.toArray W := by
    intro W hW
    have h1 := IsSl.first (P := Tryz.prog) (w := W) (hvs.keep fun g' hg hl hs => ⟨hW.block g' hl (fun e => hvg (by cases hg; exact e)), hs⟩) m (Nat.le_refl _)
    rwa [List.take_of_length_le (by rw [Hn.out]; omega)] at h1
  have hcs2 : (Builtin.firstCells 1 (d + 1) (.slice (some ⟨g, i + 1, none⟩) (d + 1) (cap - (i + 1)))).run Tryz.prog w.drew.drew = .ok (xs.drop (i + 1)).toArray w.drew.drew := by
    have h1 := (Row.isSl (w := w.drew.drew) (S := NoS) (k := 1) (off := i + 1) hr (d + 1) (cap - (i + 1)) (by rw [Hl.out]; omega) id (by omega) (by unfold maxLen; omega)).first (P := Tryz.prog) (d + 1) (Nat.le_refl _)
    rw [List.take_take, Nat.min_self, Nat.mul_one] at h1
    rwa [show (cur.drop (i + 1)).take (d + 1) = xs.drop (i + 1) by rw [← Hx.out, List.drop_take]; congr 1; omega] at h1
  have HD := Lib.hid hD; clear hD
  have HT := Lib.hid hT; clear hT
  have HF1 := Lib.hid hF1; clear hF1
  have HF2 := Lib.hid hF2; clear hF2
  have Hc1 := Lib.hid hcs1; clear hcs1
  have Hc2 := Lib.hid hcs2; clear hcs2
  have k18 : ¬ cap = i + m := by omega
  have k19 : i + m + (d + 1) - (i + m) = d + 1 := by omega
  have k20 : (0 : Int) ≤ (i : Int) + (m : Int) := by omega
  have k21 : (i : Int) + (m : Int) ≤ (i : Int) + (m : Int) + ((d : Int) + 1) := by omega
  have k22 : ((i : Int) + (m : Int)).toNat = i + m := by omega
  go_enter Tryz.func74, Tryz.ntmps74
  go_wp2_with fail
  refine wp_region_ord (fun _ => True) (fun _ => true) [0, 1, 2, 3, 4, 5, 6, 7, 8, 9, 10, 11, 12] rfl (by kernel_rfl) trivial ?_
  repeat ((refine ord_q (v := ?_) rfl rfl (fun _ _ _ h => h) rfl (fun W hW => ?_) ?_); rotate_left; (focus ((try dsimp only at hW); skip; first | (go_simp; first | done | with_reducible rfl))); (try simp only [Act.put, List.setIfInBounds_toArray, List.set_cons_zero, List.set_cons_succ]))
  refine ord_nil ?_
  go_wp2_with fail
  refine wp_region_ord (fun _ => True) (fun i => !([9].contains i)) [0, 1, 2, 3, 4, 5, 6, 7, 8, 9] rfl (by kernel_rfl) trivial ?_
  repeat ((refine ord_q (v := ?_) rfl rfl (fun _ _ _ h => h) rfl (fun W hW => ?_) ?_); rotate_left; (focus ((try dsimp only at hW); skip; first | (go_simp; first | done | with_reducible rfl))); (try simp only [Act.put, List.setIfInBounds_toArray, List.set_cons_zero, List.set_cons_succ]))
  refine ord_l rfl rfl rfl (by kernel_rfl) ?_
  intro K hK
  refine wp_copyRow (.tmp 126) (.tmp 129) 72 72 rfl 9 1 16 _ Tryz.underlying72 info_str g (i + m) 9 (d + 1) (d + 1) (cap - (i + m)) (some ⟨g, i + m, none⟩) _ rfl (w := w.drew.drew) hr (.slice (some ⟨g, i + 1, none⟩) (d + 1) (cap - (i + 1))) rfl (d + 1) (xs.drop (i + 1)) rfl (Nat.min_self _).symm (by rw [HD.out, Nat.mul_one]) Hc2.out (fun _ => rfl) ?_ (fun u hu => hx1 u (List.mem_of_mem_drop hu)) ?_
  · rw [HD.out, Hl.out]; omega
  intro w2 hr2 hk2
  refine hK.out _ _ (ord_nil ?_)
  have hkk : Keep (· = g) w w2 := (Keep.refl (· = g) w).drew.drew.trans hk2 (fun _ _ h => h)
  go_wp2_with (first
    | ((refine in_list rfl ?_); intro K hK; (refine wp_copyRow (.tmp 133) (.tmp 134) 72 72 rfl 9 1 16 _ Tryz.underlying72 info_str g i 9 m (i + m + (d + 1) - i) (cap - i) (some ⟨g, i, none⟩) _ rfl hr2 (.slice (some ⟨vb, 0, none⟩) m vc) rfl m news rfl ?_ ?_ (Hc1.out _ hkk) (fun _ => rfl) ?_ hone ?_); (focus (exact (Nat.min_eq_left (by omega)).symm)); (focus (rw [Hn.out, Nat.mul_one])); (focus (rw [length_splice _ _ _ (by rw [HD.out, Hl.out]; omega), Hn.out, Hl.out]; omega)); intro w3 hr3 hk3; refine hK _ _ ?_))
  go_ret
  have hown := Row.own (k := 1) hr3 (i + m + (d + 1)) (by rw [HF1.out, Hl.out, Nat.mul_one]) hBg hSg (by omega) hc2
  rw [Nat.mul_one, HF2.out] at hown
  refine ⟨_, rfl, ?_, hkk.trans hk3 (fun _ _ h => h)⟩
  rw [HL.out, show N = i + m + (d + 1) by rw [HN.out]; omega]
  exact hown

set_option maxRecDepth 100000 in
set_option maxHeartbeats 2000000 in
/-- within, two or more in its place, where there is room -/
theorem repIntRoom_any (g cap n i : Nat) (xs : List Value) (vb vc m : Nat) (news : List Value) (w : World) (S : Nat → Prop) (B : Nat) (h : OwnSl w S B 3 1 (.slice (some ⟨g, 0, none⟩) n cap) n xs) (hx1 : ∀ u ∈ xs, u.oneCell' = true) (hv : OwnSl w S B 3 1 (.slice (some ⟨vb, 0, none⟩) m vc) m news) (hvg : vb ≠ g) (hone : ∀ u ∈ news, u.oneCell' = true) (hn : n ≤ 1000000) (hmm : m ≤ 1000000) (hi : i + 1 < n) (hm : 2 ≤ m) (hroom : n - 1 + m ≤ cap) (N : Nat) (L : List Value) (hN : N = n - 1 + m) (hL : L = xs.take i ++ news ++ xs.drop (i + 1)) :
    Calls Tryz.prog 75 #[.slice (some ⟨g, 0, none⟩) n cap, .int .i64 i, .int .i64 ((i : Int) + 1), .slice (some ⟨vb, 0, none⟩) m vc] w fun e w' => ∃ v', e = .returned v' ∧ OwnSl w' S B 3 1 v' N L ∧ Keep (· = g) w w' := by
  obtain ⟨cur, hr, hl, hx, hBg, hSg, hc, hc2⟩ := h.row
  obtain ⟨curv, hrv, hlv, _, _, _, hcv, hcv2⟩ := hv.row
  have hc3 : cap ≤ 9223372036854775807 := by simpa [maxLen] using hc2
  have hcv3 : vc ≤ 9223372036854775807 := by simpa [maxLen] using hcv2
  have hnl : news.length = m := by have := hv.1.1; omega
  have hll : cur.length = cap := by omega
  have hllv : curv.length = vc := by omega
  have hx' : cur.take n = xs := by rw [← hx, Nat.mul_one]
  have hvs := hv.isSl
  clear h hv hl hx hlv
  obtain ⟨d, rfl⟩ : ∃ d, n = i + 1 + (d + 1) := ⟨n - (i + 2), by omega⟩
  have hov : (callFunc 95 #[.slice (some ⟨g, i + m, none⟩) (d + 1) (cap - (i + m)), .slice (some ⟨vb, 0, none⟩) m vc]).run Tryz.prog w.drew = .ok (.value (.bool false)) w.drew := by
    rw [run_callFunc_extern Tryz.func95 (by kernel_rfl) (by kernel_rfl) (by kernel_rfl) (e := Extern.SlicesOverlaps.overlaps #[36, 36] #[4]) (by kernel_rfl)]
    rw [Lib.run_overlaps_apart w.drew 36 4 3 Tryz.underlying36 1 (fun w => by kernel_rfl) ⟨g, i + m, none⟩ ⟨vb, 0, none⟩ (d + 1) (cap - (i + m)) m vc (Ne.symm hvg) 3 3 cap vc
      (by have hr' : w.drew.heap[g]? = _ := hr; simp [World.shape?, hr', hll]) (by have hr' : w.drew.heap[vb]? = _ := hrv; simp [World.shape?, hr', hllv]) (by omega) (hr.frozen _) (hr.frozen _)]
    rfl
  have HN := Lib.hid hN; clear hN
  have HL := Lib.hid hL; clear hL
  have k1 : (0 : Int) ≤ (i : Int) := by omega
  have k2 : (i : Int) ≤ (cap : Int) := by omega
  have k3 : (0 : Int) ≤ (i : Int) + 1 := by omega
  have k4 : (i : Int) + 1 ≤ (cap : Int) := by omega
  have k5 : ((i : Int) + 1).toNat = i + 1 := by omega
  have Hl := Lib.hid hll; clear hll
  have Hx := Lib.hid hx'; clear hx'
  have Hn := Lib.hid hnl; clear hnl
  have k6 : ¬ cap = i + 1 := by omega
  have k7 : (i : Int) + 1 ≤ (i : Int) + 1 + ((d : Int) + 1) := by omega
  have k8 : IntKind.i64.wrap ((i : Int) + (m : Int)) = (i : Int) + (m : Int) := IntWalk.i64_in _ (by omega)
  have k9 : i + 1 + (d + 1) - (i + 1) = d + 1 := by omega
  have k10 : IntKind.i64.wrap ((i : Int) + (m : Int) + ((d : Int) + 1)) = (i : Int) + (m : Int) + ((d : Int) + 1) := IntWalk.i64_in _ (by omega)
  have k11 : ¬ ((cap : Int) < (i : Int) + (m : Int) + ((d : Int) + 1)) := by omega
  have k12 : ((i : Int) + (m : Int) + ((d : Int) + 1)).toNat = i + m + (d + 1) := by omega
  have k13 : (0 : Int) ≤ (i : Int) + (m : Int) + ((d : Int) + 1) := by omega
  have k14 : (i : Int) + (m : Int) + ((d : Int) + 1) ≤ cap := by omega
  have k15 : ¬ ((i : Int) + (m : Int) ≤ (i : Int) + 1) := by omega
  have k16 : (i : Int) ≤ (i : Int) + (m : Int) + ((d : Int) + 1) := by omega
  have k17 : ¬ cap = i := by omega
  have hD : (xs.drop (i + 1)).length = d + 1 := by rw [List.length_drop, ← Hx.out, List.length_take, Hl.out]; omega
  have hT : cur.take i = xs.take i := by rw [← Hx.out, List.take_take, Nat.min_eq_left (by omega)]
  obtain ⟨hF1, hF2⟩ := rep_bwd cur news (xs.drop (i + 1)) i (by rw [Hn.out, hD, Hl.out]; omega)
  rw [Hn.out, hD, hT] at hF2
  rw [Hn.out] at hF1
  have hcs1 : ∀ W, Keep (· = g) w W → (Builtin.firstCells 1 m (.slice (some ⟨vb, 0, none⟩) m vc)).run Tryz.prog W = .ok news.toArray W := by
    intro W hW
    have h1 := IsSl.first (P := Tryz.prog) (w := W) (hvs.keep fun g' hg hl hs => ⟨hW.block g' hl (fun e => hvg (by cases hg; exact e)), hs⟩) m (Nat.le_refl _)
    rwa [List.take_of_length_le (by rw [Hn.out]; omega)] at h1
  have hcs2 : (Builtin.firstCells 1 (d + 1) (.slice (some ⟨g, i + 1, none⟩) (d + 1) (cap - (i + 1)))).run Tryz.prog w.drew.drew = .ok (xs.drop (i + 1)).toArray w.drew.drew := by
    have h1 := (Row.isSl (w := w.drew.drew) (S := NoS) (k := 1) (off := i + 1) hr (d + 1) (cap - (i + 1)) (by rw [Hl.out]; omega) id (by omega) (by unfold maxLen; omega)).first (P := Tryz.prog) (d + 1) (Nat.le_refl _)
    rw [List.take_take, Nat.min_self, Nat.mul_one] at h1
    rwa [show (cur.drop (i + 1)).take (d + 1) = xs.drop (i + 1) by rw [← Hx.out, List.drop_take]; congr 1; omega] at h1
  have HD := Lib.hid hD; clear hD
  have HT := Lib.hid hT; clear hT
  have HF1 := Lib.hid hF1; clear hF1
  have HF2 := Lib.hid hF2; clear hF2
  have Hc1 := Lib.hid hcs1; clear hcs1
  have Hc2 := Lib.hid hcs2; clear hcs2
  have k18 : ¬ cap = i + m := by omega
  have k19 : i + m + (d + 1) - (i + m) = d + 1 := by omega
  have k20 : (0 : Int) ≤ (i : Int) + (m : Int) := by omega
  have k21 : (i : Int) + (m : Int) ≤ (i : Int) + (m : Int) + ((d : Int) + 1) := by omega
  have k22 : ((i : Int) + (m : Int)).toNat = i + m := by omega
  go_enter Tryz.func75, Tryz.ntmps75
  go_wp2_with fail
  refine wp_region_ord (fun _ => True) (fun _ => true) [0, 1, 2, 3, 4, 5, 6, 7, 8, 9, 10, 11, 12] rfl (by kernel_rfl) trivial ?_
  repeat ((refine ord_q (v := ?_) rfl rfl (fun _ _ _ h => h) rfl (fun W hW => ?_) ?_); rotate_left; (focus ((try dsimp only at hW); skip; first | (go_simp; first | done | with_reducible rfl))); (try simp only [Act.put, List.setIfInBounds_toArray, List.set_cons_zero, List.set_cons_succ]))
  refine ord_nil ?_
  go_wp2_with fail
  refine wp_region_ord (fun _ => True) (fun i => !([9].contains i)) [0, 1, 2, 3, 4, 5, 6, 7, 8, 9] rfl (by kernel_rfl) trivial ?_
  repeat ((refine ord_q (v := ?_) rfl rfl (fun _ _ _ h => h) rfl (fun W hW => ?_) ?_); rotate_left; (focus ((try dsimp only at hW); skip; first | (go_simp; first | done | with_reducible rfl))); (try simp only [Act.put, List.setIfInBounds_toArray, List.set_cons_zero, List.set_cons_succ]))
  refine ord_l rfl rfl rfl (by kernel_rfl) ?_
  intro K hK
  refine wp_copyRow (.tmp 126) (.tmp 129) 36 36 rfl 3 1 8 _ Tryz.underlying36 info_int g (i + m) 3 (d + 1) (d + 1) (cap - (i + m)) (some ⟨g, i + m, none⟩) _ rfl (w := w.drew.drew) hr (.slice (some ⟨g, i + 1, none⟩) (d + 1) (cap - (i + 1))) rfl (d + 1) (xs.drop (i + 1)) rfl (Nat.min_self _).symm (by rw [HD.out, Nat.mul_one]) Hc2.out (fun _ => rfl) ?_ (fun u hu => hx1 u (List.mem_of_mem_drop hu)) ?_
  · rw [HD.out, Hl.out]; omega
  intro w2 hr2 hk2
  refine hK.out _ _ (ord_nil ?_)
  have hkk : Keep (· = g) w w2 := (Keep.refl (· = g) w).drew.drew.trans hk2 (fun _ _ h => h)
  go_wp2_with (first
    | ((refine in_list rfl ?_); intro K hK; (refine wp_copyRow (.tmp 133) (.tmp 134) 36 36 rfl 3 1 8 _ Tryz.underlying36 info_int g i 3 m (i + m + (d + 1) - i) (cap - i) (some ⟨g, i, none⟩) _ rfl hr2 (.slice (some ⟨vb, 0, none⟩) m vc) rfl m news rfl ?_ ?_ (Hc1.out _ hkk) (fun _ => rfl) ?_ hone ?_); (focus (exact (Nat.min_eq_left (by omega)).symm)); (focus (rw [Hn.out, Nat.mul_one])); (focus (rw [length_splice _ _ _ (by rw [HD.out, Hl.out]; omega), Hn.out, Hl.out]; omega)); intro w3 hr3 hk3; refine hK _ _ ?_))
  go_ret
  have hown := Row.own (k := 1) hr3 (i + m + (d + 1)) (by rw [HF1.out, Hl.out, Nat.mul_one]) hBg hSg (by omega) hc2
  rw [Nat.mul_one, HF2.out] at hown
  refine ⟨_, rfl, ?_, hkk.trans hk3 (fun _ _ h => h)⟩
  rw [HL.out, show N = i + m + (d + 1) by rw [HN.out]; omega]
  exact hown
end Go.Proofs.YtbldcbakhpdigaaGreat

/- slices.Replace(s, i, i+1, v...) at strings and ints: within, where there is no room; and every way in one. (Printed by gen/rep3.py.) -/
namespace Go.Proofs.YtbldcbakhpdigaaGreat
open Go.RowKit

set_option maxRecDepth 100000 in
set_option maxHeartbeats 2000000 in
/-- within, where there is no room -/
theorem repStrGrow_any (g cap n i : Nat) (xs : List Value) (vb vc m : Nat) (news : List Value) (w : World) (S : Nat → Prop) (B : Nat) (hS : ∀ g, S g → g < w.heap.size) (hB : B ≤ w.heap.size) (h : OwnSl w S B 9 1 (.slice (some ⟨g, 0, none⟩) n cap) n xs) (hx1 : ∀ u ∈ xs, u.oneCell' = true) (hv : OwnSl w S B 9 1 (.slice (some ⟨vb, 0, none⟩) m vc) m news) (hone : ∀ u ∈ news, u.oneCell' = true) (hn : n ≤ 1000000) (hmm : m ≤ 1000000) (hi : i + 1 < n) (hroom : cap < n - 1 + m) (N : Nat) (L : List Value) (hN : N = n - 1 + m) (hL : L = xs.take i ++ news ++ xs.drop (i + 1)) :
    Calls Tryz.prog 74 #[.slice (some ⟨g, 0, none⟩) n cap, .int .i64 i, .int .i64 ((i : Int) + 1), .slice (some ⟨vb, 0, none⟩) m vc] w fun e w' => ∃ v', e = .returned v' ∧ OwnSl w' S B 9 1 v' N L ∧ Keep NoS w w' := by
  obtain ⟨cur, hr, hl, hx, hBg, hSg, hc, hc2⟩ := h.row
  have hc3 : cap ≤ 9223372036854775807 := by simpa [maxLen] using hc2
  have hnl : news.length = m := by have := hv.1.1; omega
  have hll : cur.length = cap := by omega
  have hx' : cur.take n = xs := by rw [← hx, Nat.mul_one]
  have hvs := hv.isSl
  obtain ⟨vo, vc', e0, v1, v2, _, _⟩ := hv.isSl.form
  cases e0
  clear h hv hl hx
  obtain ⟨d, rfl⟩ : ∃ d, n = i + 1 + (d + 1) := ⟨n - (i + 2), by omega⟩
  have HN := Lib.hid hN; clear hN
  have HL := Lib.hid hL; clear hL
  have k1 : (0 : Int) ≤ (i : Int) := by omega
  have k2 : (i : Int) ≤ (cap : Int) := by omega
  have k3 : (0 : Int) ≤ (i : Int) + 1 := by omega
  have k4 : (i : Int) + 1 ≤ (cap : Int) := by omega
  have k5 : ((i : Int) + 1).toNat = i + 1 := by omega
  have Hl := Lib.hid hll; clear hll
  have Hx := Lib.hid hx'; clear hx'
  have Hn := Lib.hid hnl; clear hnl
  have k6 : ¬ cap = i + 1 := by omega
  have k7 : (i : Int) + 1 ≤ (i : Int) + 1 + ((d : Int) + 1) := by omega
  have k8 : IntKind.i64.wrap ((i : Int) + (m : Int)) = (i : Int) + (m : Int) := IntWalk.i64_in _ (by omega)
  have k9 : i + 1 + (d + 1) - (i + 1) = d + 1 := by omega
  have k10 : IntKind.i64.wrap ((i : Int) + (m : Int) + ((d : Int) + 1)) = (i : Int) + (m : Int) + ((d : Int) + 1) := IntWalk.i64_in _ (by omega)
  have k11 : (cap : Int) < (i : Int) + (m : Int) + ((d : Int) + 1) := by omega
  have k17 : ¬ cap = i := by omega
  have k18 : (i : Int) + (m : Int) + ((d : Int) + 1) - (i : Int) = ((m + (d + 1) : Nat) : Int) := by omega
  have k19 : i + (m + (d + 1)) = i + m + (d + 1) := by omega
  have k20 : (0 : Int) ≤ (i : Int) + (m : Int) := by omega
  have k22 : ((i : Int) + (m : Int)).toNat = i + m := by omega
  have hD : (xs.drop (i + 1)).length = d + 1 := by rw [List.length_drop, ← Hx.out, List.length_take, Hl.out]; omega
  have hT : cur.take i = xs.take i := by rw [← Hx.out, List.take_take, Nat.min_eq_left (by omega)]
  have hgl : g < w.heap.size := hr.lt
  have HD := Lib.hid hD; clear hD
  have HT := Lib.hid hT; clear hT
  go_enter Tryz.func74, Tryz.ntmps74
  go_wp2_with fail
  refine wp_region_ord (fun _ => True) (fun _ => true) [0, 1, 2, 3, 4, 5, 6, 7, 8, 9, 10, 11, 12] rfl (by kernel_rfl) trivial ?_
  repeat ((refine ord_q (v := ?_) rfl rfl (fun _ _ _ h => h) rfl (fun W hW => ?_) ?_); rotate_left; (focus ((try dsimp only at hW); skip; first | (go_simp; first | done | with_reducible rfl))); (try simp only [Act.put, List.setIfInBounds_toArray, List.set_cons_zero, List.set_cons_succ]))
  refine ord_nil ?_
  go_wp2_with (first | (at_builtin; (refine in_list rfl ?_); intro K hK; go_must ((refine wp_growZeros (w := w.drew) (.tmp 63) (.tmp 66) 72 3 rfl 9 1 16 _ Tryz.underlying72 Tryz.underlying3 info_str rfl (by omega) g i cap (m + (d + 1)) cur rfl ?_ hr ?_ ?_ ?_ ?_ ?_ ?_); (focus (first | rfl | (show Value.int _ _ = _; congr 1; first | done | omega))); (focus (rw [Hl.out]; omega)); (focus omega); (focus omega); (focus (unfold maxLen; omega)); (focus omega); intro c1 w1 rest hr1 hl1 hc1 hc1' hk1; refine hK _ _ (Stop.of ?_))))
  have hr1 : Row w1 w.heap.size 9 (cur.take i ++ rest) := by rw [Nat.mul_one] at hr1; exact hr1
  have hl1 : (cur.take i ++ rest).length = c1 := by rw [Nat.mul_one, Nat.mul_one] at hl1; exact hl1
  have hk1 : Keep NoS w w1 := (Keep.refl NoS w).drew.trans hk1 (fun _ _ h => h)
  have k12 : ¬ c1 = i := by omega
  have k14 : ¬ c1 = i + m := by omega
  have k15 : (i : Int) ≤ (c1 : Int) := by omega
  have k16 : (i : Int) + (m : Int) ≤ (i : Int) + (m : Int) + ((d : Int) + 1) := by omega
  have hc1'' : c1 ≤ 9223372036854775807 := by simpa [maxLen] using hc1'
  have hci : (cur.take i).length = i := by rw [List.length_take, Hl.out]; omega
  obtain ⟨hF1, hF2⟩ := rep_fwd (cur.take i ++ rest) news (xs.drop (i + 1)) i (by rw [Hn.out, HD.out, hl1]; omega)
  rw [Hn.out, HD.out, List.take_left' hci] at hF2
  rw [Hn.out] at hF1
  have hcs1 : (Builtin.firstCells 1 m (.slice (some ⟨vb, 0, none⟩) m vc)).run Tryz.prog w1 = .ok news.toArray w1 := by
    have h1 := IsSl.first (P := Tryz.prog) (w := w1) (hvs.keep fun g' hg hl hs => ⟨hk1.block g' hl id, hs⟩) m (Nat.le_refl _)
    rwa [List.take_of_length_le (by rw [Hn.out]; omega)] at h1
  have Hl1 := Lib.hid hl1; clear hl1
  have HF1 := Lib.hid hF1; clear hF1
  have HF2 := Lib.hid hF2; clear hF2
  have Hc1 := Lib.hid hcs1; clear hcs1
  have Hci := Lib.hid hci; clear hci
  refine Stop.on ?_
  go_wp2_with (first | ((refine in_list rfl ?_); intro K hK; (refine wp_copyRow (.tmp 70) (.tmp 71) 72 72 rfl 9 1 16 _ Tryz.underlying72 info_str w.heap.size i 9 m (i + m + (d + 1) - i) (c1 - i) (some ⟨w.heap.size, i, none⟩) _ ?_ hr1 (.slice (some ⟨vb, 0, none⟩) m vc) rfl m news rfl ?_ ?_ Hc1.out (fun _ => rfl) ?_ hone ?_); go_must ((focus (first | rfl | (show Value.slice _ _ _ = _; congr 1; omega))); (focus (exact (Nat.min_eq_left (by omega)).symm)); (focus (rw [Hn.out, Nat.mul_one])); (focus (rw [Hl1.out, Hn.out]; omega)); intro w2 hr2 hk2; refine hK _ _ (Stop.of ?_))))
  have hkk : Keep NoS w w2 := hk1.trans hk2 (fun _ hl e => absurd hl (by omega))
  have hg2 : Row w2 g 9 cur := hr.keep hkk id
  have hcs : (Builtin.firstCells 1 (d + 1) (.slice (some ⟨g, i + 1, none⟩) (d + 1) (cap - (i + 1)))).run Tryz.prog w2.drew = .ok (xs.drop (i + 1)).toArray w2.drew := by
    have h1 := (Row.isSl (w := w2.drew) (S := NoS) (k := 1) (off := i + 1) hg2 (d + 1) (cap - (i + 1)) (by rw [Hl.out]; omega) id (by omega) (by unfold maxLen; omega)).first (P := Tryz.prog) (d + 1) (Nat.le_refl _)
    rw [List.take_take, Nat.min_self, Nat.mul_one] at h1
    rwa [show (cur.drop (i + 1)).take (d + 1) = xs.drop (i + 1) by rw [← Hx.out, List.drop_take]; congr 1; omega] at h1
  have Hcs := Lib.hid hcs; clear hcs
  have k23 : i + m + (d + 1) - (i + m) = d + 1 := by omega
  refine Stop.on ?_
  go_wp2_with fail
  refine wp_region_ord (fun _ => True) (fun i => !([9].contains i)) [0, 1, 2, 3, 4, 5, 6, 7, 8, 9] rfl (by kernel_rfl) trivial ?_
  repeat ((refine ord_q (v := ?_) rfl rfl (fun _ _ _ h => h) rfl (fun W hW => ?_) ?_); rotate_left; (focus ((try dsimp only at hW); skip; first | (go_simp; first | done | with_reducible rfl))); (try simp only [Act.put, List.setIfInBounds_toArray, List.set_cons_zero, List.set_cons_succ]))
  refine ord_l rfl rfl rfl (by kernel_rfl) ?_
  intro K hK
  refine wp_copyRow (.tmp 78) (.tmp 81) 72 72 rfl 9 1 16 _ Tryz.underlying72 info_str w.heap.size (i + m) 9 (d + 1) (d + 1) (c1 - (i + m)) (some ⟨w.heap.size, i + m, none⟩) _ rfl (w := w2.drew) hr2 (.slice (some ⟨g, i + 1, none⟩) (d + 1) (cap - (i + 1))) rfl (d + 1) (xs.drop (i + 1)) rfl (Nat.min_self _).symm (by rw [HD.out, Nat.mul_one]) Hcs.out (fun _ => rfl) ?_ (fun u hu => hx1 u (List.mem_of_mem_drop hu)) ?_
  · rw [length_splice _ _ _ (by rw [Hn.out, Hl1.out]; omega), HD.out, Hl1.out]; omega
  intro w3 hr3 hk3
  refine hK.out _ _ (ord_nil ?_)
  go_wp2
  go_ret
  have hown := Row.own (S := S) (B := B) (k := 1) hr3 (i + m + (d + 1)) (by rw [HF1.out, Hl1.out, Nat.mul_one]) hB (fun hs => absurd (hS _ hs) (Nat.lt_irrefl _)) (by omega) hc1'
  rw [Nat.mul_one, HF2.out] at hown
  refine ⟨_, rfl, ?_, hkk.drew.trans hk3 (fun _ hl e => absurd hl (by omega))⟩
  rw [HL.out, show N = i + m + (d + 1) by rw [HN.out]; omega, ← HT.out]
  exact hown

/-- slices.Replace(s, i, i+1, v...): every way -/
theorem repStr_any (v : Value) (n i : Nat) (xs : List Value) (vv : Value) (m : Nat) (news : List Value) (w : World) (S : Nat → Prop) (B : Nat) (hS : ∀ g, S g → g < w.heap.size) (hB : B ≤ w.heap.size) (h : OwnSl w S B 9 1 v n xs) (hx1 : ∀ u ∈ xs, u.oneCell' = true) (hv : OwnSl w S B 9 1 vv m news) (hvg : ∀ g, v.ownBlock = some g → vv.ownBlock ≠ some g) (hone : ∀ u ∈ news, u.oneCell' = true) (hn : n ≤ 1000000) (hmm : m ≤ 1000000) (hi : i < n) :
    Calls Tryz.prog 74 #[v, .int .i64 i, .int .i64 ((i : Int) + 1), vv] w fun e w' => ∃ v', e = .returned v' ∧ OwnSl w' S B 9 1 v' (n - 1 + m) (xs.take i ++ news ++ xs.drop (i + 1)) ∧ Keep (fun g => v.ownBlock = some g) w w' := by
  have hxl := h.1.1
  have hnl := hv.1.1
  rw [Nat.mul_one] at hxl hnl
  rcases h.1.2 with ⟨rfl, h0⟩ | ⟨g, cap, cur, rfl, _⟩
  · omega
  have hvg' := hvg g rfl
  by_cases hin : n = i + 1
  · have e1 : xs.drop (i + 1) = [] := List.drop_of_length_le (by omega)
    have e2 : n - 1 + m = i + m := by omega
    rw [e1, e2, List.append_nil]
    by_cases hm0 : m = 0
    · subst hm0
      obtain rfl : news = [] := List.eq_nil_of_length_eq_zero hnl
      refine (repStrCut_any g cap n i xs vv w S B h hv hn hin).mono ?_
      rintro e w' ⟨v', rfl, h1, h2⟩
      exact ⟨v', rfl, by rw [List.append_nil]; exact h1, h2.mono (fun k _ hk => by rw [hk]; rfl)⟩
    · refine (repStrEnd_any g cap n i xs vv m news w S B hS hB h hv hone hn hmm hin (by omega)).mono ?_
      rintro e w' ⟨v', rfl, h1, h2, _⟩
      exact ⟨v', rfl, h1, h2.mono (fun k _ hk => by rw [hk]; rfl)⟩
  · by_cases hm1 : m ≤ 1
    · refine (repStrLess_any g cap n i xs vv m news w S B h hx1 hv hvg' hone hn (by omega) hm1 _ _ rfl rfl).mono ?_
      rintro e w' ⟨v', rfl, h1, h2⟩
      exact ⟨v', rfl, h1, h2.mono (fun k _ hk => by rw [hk]; rfl)⟩
    · rcases hv.1.2 with ⟨rfl, h0⟩ | ⟨vb, vc, curv, rfl, _⟩
      · omega
      · by_cases hroom : n - 1 + m ≤ cap
        · refine (repStrRoom_any g cap n i xs vb vc m news w S B h hx1 hv (fun e => hvg' (by rw [e]; rfl)) hone hn hmm (by omega) (by omega) hroom _ _ rfl rfl).mono ?_
          rintro e w' ⟨v', rfl, h1, h2⟩
          exact ⟨v', rfl, h1, h2.mono (fun k _ hk => by rw [hk]; rfl)⟩
        · refine (repStrGrow_any g cap n i xs vb vc m news w S B hS hB h hx1 hv hone hn hmm (by omega) (by omega) _ _ rfl rfl).mono ?_
          rintro e w' ⟨v', rfl, h1, h2⟩
          exact ⟨v', rfl, h1, h2.mono (fun _ _ hk => hk.elim)⟩

set_option maxRecDepth 100000 in
set_option maxHeartbeats 2000000 in
/-- within, where there is no room -/
theorem repIntGrow_any (g cap n i : Nat) (xs : List Value) (vb vc m : Nat) (news : List Value) (w : World) (S : Nat → Prop) (B : Nat) (hS : ∀ g, S g → g < w.heap.size) (hB : B ≤ w.heap.size) (h : OwnSl w S B 3 1 (.slice (some ⟨g, 0, none⟩) n cap) n xs) (hx1 : ∀ u ∈ xs, u.oneCell' = true) (hv : OwnSl w S B 3 1 (.slice (some ⟨vb, 0, none⟩) m vc) m news) (hone : ∀ u ∈ news, u.oneCell' = true) (hn : n ≤ 1000000) (hmm : m ≤ 1000000) (hi : i + 1 < n) (hroom : cap < n - 1 + m) (N : Nat) (L : List Value) (hN : N = n - 1 + m) (hL : L = xs.take i ++ news ++ xs.drop (i + 1)) :
    Calls Tryz.prog 75 #[.slice (some ⟨g, 0, none⟩) n cap, .int .i64 i, .int .i64 ((i : Int) + 1), .slice (some ⟨vb, 0, none⟩) m vc] w fun e w' => ∃ v', e = .returned v' ∧ OwnSl w' S B 3 1 v' N L ∧ Keep NoS w w' := by
  obtain ⟨cur, hr, hl, hx, hBg, hSg, hc, hc2⟩ := h.row
  have hc3 : cap ≤ 9223372036854775807 := by simpa [maxLen] using hc2
  have hnl : news.length = m := by have := hv.1.1; omega
  have hll : cur.length = cap := by omega
  have hx' : cur.take n = xs := by rw [← hx, Nat.mul_one]
  have hvs := hv.isSl
  obtain ⟨vo, vc', e0, v1, v2, _, _⟩ := hv.isSl.form
  cases e0
  clear h hv hl hx
  obtain ⟨d, rfl⟩ : ∃ d, n = i + 1 + (d + 1) := ⟨n - (i + 2), by omega⟩
  have HN := Lib.hid hN; clear hN
  have HL := Lib.hid hL; clear hL
  have k1 : (0 : Int) ≤ (i : Int) := by omega
  have k2 : (i : Int) ≤ (cap : Int) := by omega
  have k3 : (0 : Int) ≤ (i : Int) + 1 := by omega
  have k4 : (i : Int) + 1 ≤ (cap : Int) := by omega
  have k5 : ((i : Int) + 1).toNat = i + 1 := by omega
  have Hl := Lib.hid hll; clear hll
  have Hx := Lib.hid hx'; clear hx'
  have Hn := Lib.hid hnl; clear hnl
  have k6 : ¬ cap = i + 1 := by omega
  have k7 : (i : Int) + 1 ≤ (i : Int) + 1 + ((d : Int) + 1) := by omega
  have k8 : IntKind.i64.wrap ((i : Int) + (m : Int)) = (i : Int) + (m : Int) := IntWalk.i64_in _ (by omega)
  have k9 : i + 1 + (d + 1) - (i + 1) = d + 1 := by omega
  have k10 : IntKind.i64.wrap ((i : Int) + (m : Int) + ((d : Int) + 1)) = (i : Int) + (m : Int) + ((d : Int) + 1) := IntWalk.i64_in _ (by omega)
  have k11 : (cap : Int) < (i : Int) + (m : Int) + ((d : Int) + 1) := by omega
  have k17 : ¬ cap = i := by omega
  have k18 : (i : Int) + (m : Int) + ((d : Int) + 1) - (i : Int) = ((m + (d + 1) : Nat) : Int) := by omega
  have k19 : i + (m + (d + 1)) = i + m + (d + 1) := by omega
  have k20 : (0 : Int) ≤ (i : Int) + (m : Int) := by omega
  have k22 : ((i : Int) + (m : Int)).toNat = i + m := by omega
  have hD : (xs.drop (i + 1)).length = d + 1 := by rw [List.length_drop, ← Hx.out, List.length_take, Hl.out]; omega
  have hT : cur.take i = xs.take i := by rw [← Hx.out, List.take_take, Nat.min_eq_left (by omega)]
  have hgl : g < w.heap.size := hr.lt
  have HD := Lib.hid hD; clear hD
  have HT := Lib.hid hT; clear hT
  go_enter Tryz.func75, Tryz.ntmps75
  go_wp2_with fail
  refine wp_region_ord (fun _ => True) (fun _ => true) [0, 1, 2, 3, 4, 5, 6, 7, 8, 9, 10, 11, 12] rfl (by kernel_rfl) trivial ?_
  repeat ((refine ord_q (v := ?_) rfl rfl (fun _ _ _ h => h) rfl (fun W hW => ?_) ?_); rotate_left; (focus ((try dsimp only at hW); skip; first | (go_simp; first | done | with_reducible rfl))); (try simp only [Act.put, List.setIfInBounds_toArray, List.set_cons_zero, List.set_cons_succ]))
  refine ord_nil ?_
  go_wp2_with (first | (at_builtin; (refine in_list rfl ?_); intro K hK; go_must ((refine wp_growZeros (w := w.drew) (.tmp 63) (.tmp 66) 36 3 rfl 3 1 8 _ Tryz.underlying36 Tryz.underlying3 info_int rfl (by omega) g i cap (m + (d + 1)) cur rfl ?_ hr ?_ ?_ ?_ ?_ ?_ ?_); (focus (first | rfl | (show Value.int _ _ = _; congr 1; first | done | omega))); (focus (rw [Hl.out]; omega)); (focus omega); (focus omega); (focus (unfold maxLen; omega)); (focus omega); intro c1 w1 rest hr1 hl1 hc1 hc1' hk1; refine hK _ _ (Stop.of ?_))))
  have hr1 : Row w1 w.heap.size 3 (cur.take i ++ rest) := by rw [Nat.mul_one] at hr1; exact hr1
  have hl1 : (cur.take i ++ rest).length = c1 := by rw [Nat.mul_one, Nat.mul_one] at hl1; exact hl1
  have hk1 : Keep NoS w w1 := (Keep.refl NoS w).drew.trans hk1 (fun _ _ h => h)
  have k12 : ¬ c1 = i := by omega
  have k14 : ¬ c1 = i + m := by omega
  have k15 : (i : Int) ≤ (c1 : Int) := by omega
  have k16 : (i : Int) + (m : Int) ≤ (i : Int) + (m : Int) + ((d : Int) + 1) := by omega
  have hc1'' : c1 ≤ 9223372036854775807 := by simpa [maxLen] using hc1'
  have hci : (cur.take i).length = i := by rw [List.length_take, Hl.out]; omega
  obtain ⟨hF1, hF2⟩ := rep_fwd (cur.take i ++ rest) news (xs.drop (i + 1)) i (by rw [Hn.out, HD.out, hl1]; omega)
  rw [Hn.out, HD.out, List.take_left' hci] at hF2
  rw [Hn.out] at hF1
  have hcs1 : (Builtin.firstCells 1 m (.slice (some ⟨vb, 0, none⟩) m vc)).run Tryz.prog w1 = .ok news.toArray w1 := by
    have h1 := IsSl.first (P := Tryz.prog) (w := w1) (hvs.keep fun g' hg hl hs => ⟨hk1.block g' hl id, hs⟩) m (Nat.le_refl _)
    rwa [List.take_of_length_le (by rw [Hn.out]; omega)] at h1
  have Hl1 := Lib.hid hl1; clear hl1
  have HF1 := Lib.hid hF1; clear hF1
  have HF2 := Lib.hid hF2; clear hF2
  have Hc1 := Lib.hid hcs1; clear hcs1
  have Hci := Lib.hid hci; clear hci
  refine Stop.on ?_
  go_wp2_with (first | ((refine in_list rfl ?_); intro K hK; (refine wp_copyRow (.tmp 70) (.tmp 71) 36 36 rfl 3 1 8 _ Tryz.underlying36 info_int w.heap.size i 3 m (i + m + (d + 1) - i) (c1 - i) (some ⟨w.heap.size, i, none⟩) _ ?_ hr1 (.slice (some ⟨vb, 0, none⟩) m vc) rfl m news rfl ?_ ?_ Hc1.out (fun _ => rfl) ?_ hone ?_); go_must ((focus (first | rfl | (show Value.slice _ _ _ = _; congr 1; omega))); (focus (exact (Nat.min_eq_left (by omega)).symm)); (focus (rw [Hn.out, Nat.mul_one])); (focus (rw [Hl1.out, Hn.out]; omega)); intro w2 hr2 hk2; refine hK _ _ (Stop.of ?_))))
  have hkk : Keep NoS w w2 := hk1.trans hk2 (fun _ hl e => absurd hl (by omega))
  have hg2 : Row w2 g 3 cur := hr.keep hkk id
  have hcs : (Builtin.firstCells 1 (d + 1) (.slice (some ⟨g, i + 1, none⟩) (d + 1) (cap - (i + 1)))).run Tryz.prog w2.drew = .ok (xs.drop (i + 1)).toArray w2.drew := by
    have h1 := (Row.isSl (w := w2.drew) (S := NoS) (k := 1) (off := i + 1) hg2 (d + 1) (cap - (i + 1)) (by rw [Hl.out]; omega) id (by omega) (by unfold maxLen; omega)).first (P := Tryz.prog) (d + 1) (Nat.le_refl _)
    rw [List.take_take, Nat.min_self, Nat.mul_one] at h1
    rwa [show (cur.drop (i + 1)).take (d + 1) = xs.drop (i + 1) by rw [← Hx.out, List.drop_take]; congr 1; omega] at h1
  have Hcs := Lib.hid hcs; clear hcs
  have k23 : i + m + (d + 1) - (i + m) = d + 1 := by omega
  refine Stop.on ?_
  go_wp2_with fail
  refine wp_region_ord (fun _ => True) (fun i => !([9].contains i)) [0, 1, 2, 3, 4, 5, 6, 7, 8, 9] rfl (by kernel_rfl) trivial ?_
  repeat ((refine ord_q (v := ?_) rfl rfl (fun _ _ _ h => h) rfl (fun W hW => ?_) ?_); rotate_left; (focus ((try dsimp only at hW); skip; first | (go_simp; first | done | with_reducible rfl))); (try simp only [Act.put, List.setIfInBounds_toArray, List.set_cons_zero, List.set_cons_succ]))
  refine ord_l rfl rfl rfl (by kernel_rfl) ?_
  intro K hK
  refine wp_copyRow (.tmp 78) (.tmp 81) 36 36 rfl 3 1 8 _ Tryz.underlying36 info_int w.heap.size (i + m) 3 (d + 1) (d + 1) (c1 - (i + m)) (some ⟨w.heap.size, i + m, none⟩) _ rfl (w := w2.drew) hr2 (.slice (some ⟨g, i + 1, none⟩) (d + 1) (cap - (i + 1))) rfl (d + 1) (xs.drop (i + 1)) rfl (Nat.min_self _).symm (by rw [HD.out, Nat.mul_one]) Hcs.out (fun _ => rfl) ?_ (fun u hu => hx1 u (List.mem_of_mem_drop hu)) ?_
  · rw [length_splice _ _ _ (by rw [Hn.out, Hl1.out]; omega), HD.out, Hl1.out]; omega
  intro w3 hr3 hk3
  refine hK.out _ _ (ord_nil ?_)
  go_wp2
  go_ret
  have hown := Row.own (S := S) (B := B) (k := 1) hr3 (i + m + (d + 1)) (by rw [HF1.out, Hl1.out, Nat.mul_one]) hB (fun hs => absurd (hS _ hs) (Nat.lt_irrefl _)) (by omega) hc1'
  rw [Nat.mul_one, HF2.out] at hown
  refine ⟨_, rfl, ?_, hkk.drew.trans hk3 (fun _ hl e => absurd hl (by omega))⟩
  rw [HL.out, show N = i + m + (d + 1) by rw [HN.out]; omega, ← HT.out]
  exact hown

/-- slices.Replace(s, i, i+1, v...): every way -/
theorem repInt_any (v : Value) (n i : Nat) (xs : List Value) (vv : Value) (m : Nat) (news : List Value) (w : World) (S : Nat → Prop) (B : Nat) (hS : ∀ g, S g → g < w.heap.size) (hB : B ≤ w.heap.size) (h : OwnSl w S B 3 1 v n xs) (hx1 : ∀ u ∈ xs, u.oneCell' = true) (hv : OwnSl w S B 3 1 vv m news) (hvg : ∀ g, v.ownBlock = some g → vv.ownBlock ≠ some g) (hone : ∀ u ∈ news, u.oneCell' = true) (hn : n ≤ 1000000) (hmm : m ≤ 1000000) (hi : i < n) :
    Calls Tryz.prog 75 #[v, .int .i64 i, .int .i64 ((i : Int) + 1), vv] w fun e w' => ∃ v', e = .returned v' ∧ OwnSl w' S B 3 1 v' (n - 1 + m) (xs.take i ++ news ++ xs.drop (i + 1)) ∧ Keep (fun g => v.ownBlock = some g) w w' := by
  have hxl := h.1.1
  have hnl := hv.1.1
  rw [Nat.mul_one] at hxl hnl
  rcases h.1.2 with ⟨rfl, h0⟩ | ⟨g, cap, cur, rfl, _⟩
  · omega
  have hvg' := hvg g rfl
  by_cases hin : n = i + 1
  · have e1 : xs.drop (i + 1) = [] := List.drop_of_length_le (by omega)
    have e2 : n - 1 + m = i + m := by omega
    rw [e1, e2, List.append_nil]
    by_cases hm0 : m = 0
    · subst hm0
      obtain rfl : news = [] := List.eq_nil_of_length_eq_zero hnl
      refine (repIntCut_any g cap n i xs vv w S B h hv hn hin).mono ?_
      rintro e w' ⟨v', rfl, h1, h2⟩
      exact ⟨v', rfl, by rw [List.append_nil]; exact h1, h2.mono (fun k _ hk => by rw [hk]; rfl)⟩
    · refine (repIntEnd_any g cap n i xs vv m news w S B hS hB h hv hone hn hmm hin (by omega)).mono ?_
      rintro e w' ⟨v', rfl, h1, h2, _⟩
      exact ⟨v', rfl, h1, h2.mono (fun k _ hk => by rw [hk]; rfl)⟩
  · by_cases hm1 : m ≤ 1
    · refine (repIntLess_any g cap n i xs vv m news w S B h hx1 hv hvg' hone hn (by omega) hm1 _ _ rfl rfl).mono ?_
      rintro e w' ⟨v', rfl, h1, h2⟩
      exact ⟨v', rfl, h1, h2.mono (fun k _ hk => by rw [hk]; rfl)⟩
    · rcases hv.1.2 with ⟨rfl, h0⟩ | ⟨vb, vc, curv, rfl, _⟩
      · omega
      · by_cases hroom : n - 1 + m ≤ cap
        · refine (repIntRoom_any g cap n i xs vb vc m news w S B h hx1 hv (fun e => hvg' (by rw [e]; rfl)) hone hn hmm (by omega) (by omega) hroom _ _ rfl rfl).mono ?_
          rintro e w' ⟨v', rfl, h1, h2⟩
          exact ⟨v', rfl, h1, h2.mono (fun k _ hk => by rw [hk]; rfl)⟩
        · refine (repIntGrow_any g cap n i xs vb vc m news w S B hS hB h hx1 hv hone hn hmm (by omega) (by omega) _ _ rfl rfl).mono ?_
          rintro e w' ⟨v', rfl, h1, h2⟩
          exact ⟨v', rfl, h1, h2.mono (fun _ _ hk => hk.elim)⟩
end Go.Proofs.YtbldcbakhpdigaaGreat

/- The walk of node.encode: the node's bytes, in a slice of the call's own. -/
namespace Go.Proofs.YtbldcbakhpdigaaGreat
open Go.RowKit

/-- what is laid behind k pairs -/
def L (nd : Nd) (k : Nat) : List UInt8 := [b8 nd.pairs.length, b8 nd.kids.length] ++ encPrs (nd.pairs.take k)

theorem L_le (nd : Nd) (k : Nat) : (L nd k).length ≤ 2 + prSize nd.pairs := by
  have := prSize_take_le nd.pairs k
  simp only [L, List.length_append, encPrs_length, List.length_cons, List.length_nil]; omega

theorem b8_val (n : Nat) : ((b8 n).toNat : Int) = (n : Int) % 256 := by simp [b8]
theorem L_zero (nd : Nd) : (L nd 0).length = 2 := rfl
theorem L_zero_cells (nd : Nd) : bCells (L nd 0) = [.int .u8 ((nd.pairs.length : Int) % 256), .int .u8 ((nd.kids.length : Int) % 256)] := by
  simp [L, encPrs, bCells, b8_val]
theorem L_succ {nd : Nd} {k : Nat} (h : k < nd.pairs.length) : L nd (k + 1) = L nd k ++ encPr nd.pairs[k] := by
  simp only [L, encPrs, take_succ_flatMap encPr nd.pairs k h, List.append_assoc]
theorem L_len {nd : Nd} {k : Nat} (h : k < nd.pairs.length) : (L nd (k + 1)).length = (L nd k).length + 2 + nd.pairs[k].1.size + nd.pairs[k].2.size := by
  rw [L_succ h, List.length_append, encPr_length]; omega
theorem L_cells {nd : Nd} {k : Nat} (h : k < nd.pairs.length) : bCells (L nd (k + 1)) = bCells (L nd k) ++ [.int .u8 ((nd.pairs[k].1.size : Int) % 256), .int .u8 ((nd.pairs[k].2.size : Int) % 256)] ++ byteCells nd.pairs[k].1 ++ byteCells nd.pairs[k].2 := by
  rw [L_succ h, bCells_append]
  simp only [encPr, bCells_append, byteCells_eq, List.append_assoc]
  simp [bCells, b8_val]

/-- what is laid behind all pairs and k kids -/
def L2 (nd : Nd) (k : Nat) : List UInt8 := L nd nd.pairs.length ++ encKids (nd.kids.take k)
theorem L2_zero (nd : Nd) : L2 nd 0 = L nd nd.pairs.length := by simp [L2, encKids]
theorem L2_le (nd : Nd) (k : Nat) : (L2 nd k).length ≤ 2 + prSize nd.pairs + 2 * nd.kids.length := by
  have := L_le nd nd.pairs.length
  simp only [L2, List.length_append, encKids_length, List.length_take]; omega
theorem L2_succ {nd : Nd} {k : Nat} (h : k < nd.kids.length) : L2 nd (k + 1) = L2 nd k ++ encKid nd.kids[k] := by
  simp only [L2, encKids, take_succ_flatMap encKid nd.kids k h, List.append_assoc]
theorem L2_len {nd : Nd} {k : Nat} (h : k < nd.kids.length) : (L2 nd (k + 1)).length = (L2 nd k).length + 2 := by
  rw [L2_succ h, List.length_append]; rfl

theorem L2_cells {nd : Nd} {k : Nat} (h : k < nd.kids.length) (h0 : 0 ≤ nd.kids[k]) (h1 : nd.kids[k] < 65536) : bCells (L2 nd (k + 1)) = bCells (L2 nd k) ++ [.int .u8 (nd.kids[k] % 256), .int .u8 (nd.kids[k] / 256)] := by
  rw [L2_succ h, bCells_append]
  congr 1
  generalize nd.kids[k] = x at *
  obtain ⟨n, rfl⟩ := Int.eq_ofNat_of_zero_le h0
  simp only [encKid, bCells, List.map_cons, List.map_nil, b8_val, Int.toNat_natCast]
  congr 2
  congr 1
  omega
/-- what is laid behind all pairs, all kids and k keys -/
def L3 (nd : Nd) (k : Nat) : List UInt8 := L2 nd nd.kids.length ++ encKeys (nd.keys.take k)
theorem L3_zero (nd : Nd) : L3 nd 0 = L2 nd nd.kids.length := by simp [L3, encKeys]
theorem L3_all (nd : Nd) : L3 nd nd.keys.length = nd.enc := by simp only [L3, L2, L, List.take_length]; rfl
theorem L3_le (nd : Nd) (k : Nat) : (L3 nd k).length ≤ 2 + prSize nd.pairs + 2 * nd.kids.length + keySize nd.keys := by
  have := L2_le nd nd.kids.length
  have := keySize_take_le nd.keys k
  simp only [L3, List.length_append, encKeys_length]; omega
theorem L3_succ {nd : Nd} {k : Nat} (h : k < nd.keys.length) : L3 nd (k + 1) = L3 nd k ++ encKey nd.keys[k] := by
  simp only [L3, encKeys, take_succ_flatMap encKey nd.keys k h, List.append_assoc]
theorem L3_len {nd : Nd} {k : Nat} (h : k < nd.keys.length) : (L3 nd (k + 1)).length = (L3 nd k).length + 1 + nd.keys[k].size := by
  rw [L3_succ h, List.length_append, encKey, List.length_cons, length_bytes]; omega
theorem L3_cells {nd : Nd} {k : Nat} (h : k < nd.keys.length) : bCells (L3 nd (k + 1)) = bCells (L3 nd k) ++ [.int .u8 ((nd.keys[k].size : Int) % 256)] ++ byteCells nd.keys[k] := by
  rw [L3_succ h, bCells_append, byteCells_eq, encKey]
  simp [bCells, b8_val]

theorem info_u8 : (Tryz.prog.info? 5).map (fun i => (i.zero, i.size, i.bytes)) = some (some (.int .u8 0), 1, 1) := by kernel_rfl

set_option maxRecDepth 100000 in
set_option maxHeartbeats 1000000 in
theorem encode_any (b : Nat) (nd : Nd) (w : World) (S : Nat → Prop) (hS : ∀ g, S g → g < w.heap.size) (h : IsNode w S b nd) (hs : nd.size ≤ 1000000) (hkid : ∀ k ∈ nd.kids, 0 ≤ k ∧ k < 65536) :
    Calls Tryz.prog 89 #[.pointer (some ⟨b, 0, none⟩)] w fun e w' => ∃ v, e = .returned v ∧ OwnSl w' S w.heap.size 5 1 v nd.enc.length (bCells nd.enc) ∧ Below w.heap.size w w' := by
  obtain ⟨_, v0, v1, v2, hb, h0, h1, h2⟩ := h
  obtain ⟨c0, c1, c2, _, _, _, hlt⟩ := cells3 hb
  obtain ⟨ao0, cp0, rfl, n0, m0, _, _⟩ := IsSl.form h0
  obtain ⟨ao1, cp1, rfl, n1, m1, _, _⟩ := IsSl.form h1
  obtain ⟨ao2, cp2, rfl, n2, m2, _, _⟩ := IsSl.form h2
  unfold Nd.size at hs
  have l0 := length_le_prSize nd.pairs
  have l1 := length_le_keySize nd.keys
  go_enter Tryz.func89, Tryz.ntmps89
  go_wp2
  go_still_tail 12, (by kernel_rfl)
  change wpList _ _ _ _ _ w.drew
  go_wp2
  simp only [IntKind.wrap_u8]
  go_loopw [3, 28] (fun v i wr => ∃ (k : Nat) (ao : Option Addr) (c : Nat), k ≤ nd.pairs.length ∧ i = .int .i64 k ∧ v = .slice ao (L nd k).length c ∧ OwnSl wr S w.heap.size 5 1 v (L nd k).length (bCells (L nd k)) ∧ Below w.heap.size w wr) (fun _ i _ => nd.pairs.length - (intOf i).toNat)
  case atStart =>
    have hn := own_new (w := w) (S := S) (B := w.heap.size) (e := 5) (k := 1) [.int .u8 ((nd.pairs.length : Int) % 256), .int .u8 ((nd.kids.length : Int) % 256)] 2 2 rfl rfl (Nat.le_refl _) (by simp [maxLen]) (Nat.le_refl _) hS
    exact ⟨0, _, _, Nat.zero_le _, rfl, rfl, by rw [L_zero, L_zero_cells]; exact hn.drew, ((Below.refl _ _).alloc (Nat.le_refl _) _).drew⟩
  case round =>
    obtain ⟨k, ao, c, hk, rfl, rfl, hown, hbel⟩ := hrel
    by_cases hlt2 : k < nd.pairs.length
    · obtain ⟨b', o', rfl, hc1, hc2⟩ := h0.at rfl k hlt2
      have d1 := (hbel.cell (p := ⟨b', o' + k * 2, none⟩) (World.block_lt_of_cell? w _ hc1)).trans hc1
      have d2 := (hbel.cell (p := ⟨b', o' + k * 2 + 1, none⟩) (World.block_lt_of_cell? w _ hc2)).trans hc2
      have hSr : ∀ g, S g → g < wr.heap.size := fun g hg => Nat.lt_of_lt_of_le (hS g hg) hbel.size
      have hsz := hbel.size
      have hL := L_le nd k
      have hp0 := prSize_take nd.pairs k hlt2
      have hp2 := prSize_take_le nd.pairs (k + 1)
      have hz : nd.pairs[k].1.size + nd.pairs[k].2.size ≤ prSize nd.pairs := by omega
      clear hp0 hp2
      clear hc1 hc2
      go_wp2_with (at_builtin; go_must ((refine wpList_app rfl (.tmp 32) (.tmp 41) 40 40 rfl S w.heap.size 5 1 1 (.int .u8 0) Tryz.underlying40 info_u8 rfl (.slice ao (L nd k).length c) _ _ rfl (hown.below (below_two _ _ _)) _ 2 _ rfl (src_new [_, _] _ 1 2 2 (by simp) Tryz.underlying40 rfl ?_) (sub_alloc (sub_alloc hSr _) _) ?_ ?_ ?_ ?_); (focus (simp [Value.oneCell'])); (focus (simp only [World.size_alloc]; omega)); (focus (unfold maxLen; omega)); (focus omega); intro ao1 c1 w1 hown1 hk1 hb1 hd1))
      have q1 : w1.cell? ⟨wr.heap.size, 0, none⟩ = some (.string nd.pairs[k].1) := (hk1.cell (p := ⟨wr.heap.size, 0, none⟩) (by simp; omega) hown.lt).trans (by simp [World.cell?_alloc_old])
      have q2 : w1.cell? ⟨wr.heap.size, 1, none⟩ = some (.string nd.pairs[k].2) := (hk1.cell (p := ⟨wr.heap.size, 1, none⟩) (by simp; omega) hown.lt).trans (by simp [World.cell?_alloc_old])
      have n1 : (Value.slice ao1 ((L nd k).length + 2) c1).ownBlock ≠ some wr.heap.size := hd1 _ (by simp; omega) hown.lt
      have hp1 : wr.heap.size < w1.heap.size := by have := hk1.size; simp at this; omega
      have hs1 : w.heap.size ≤ w1.heap.size := by omega
      have hS1 := sub_below (sub_alloc (sub_alloc hSr _) _) hb1
      go_region_held3 (fun w' => w'.cell? ⟨wr.heap.size, 0, none⟩ = some (.string nd.pairs[k].1) ∧ w'.cell? ⟨wr.heap.size, 1, none⟩ = some (.string nd.pairs[k].2))
        (first | exact ⟨q1, q2⟩ | exact ⟨q1', q2'⟩ | exact ⟨q1'', q2''⟩)
        (first
          | ((refine step_app rfl (.tmp 43) (.tmp 45) 40 9 rfl S w.heap.size 5 1 1 (.int .u8 0) Tryz.underlying40 info_u8 rfl (.slice ao1 ((L nd k).length + 2) c1) _ _ rfl hown1.drew (.string nd.pairs[k].1) _ _ rfl (Src.ofString _ Tryz.underlying9 _) hS1 ?_ ?_ ?_ ?_); (focus (exact hs1)); (focus (unfold maxLen; omega)); (focus omega); (intro ao2' c2' w2 hown2 hk2 hb2 hd2);
              (have q1' := (hk2.cell (p := ⟨wr.heap.size, 0, none⟩) hp1 n1).trans q1); (have q2' := (hk2.cell (p := ⟨wr.heap.size, 1, none⟩) hp1 n1).trans q2); (have n2' := hd2 _ hp1 n1))
          | ((refine step_app rfl (.tmp 46) (.tmp 48) 40 9 rfl S w.heap.size 5 1 1 (.int .u8 0) Tryz.underlying40 info_u8 rfl (.slice ao2' ((L nd k).length + 2 + nd.pairs[k].1.size) c2') _ _ rfl hown2 (.string nd.pairs[k].2) _ _ rfl (Src.ofString _ Tryz.underlying9 _) (sub_below (w := w1.drew) hS1 hb2) ?_ ?_ ?_ ?_); (focus (exact Nat.le_trans hs1 hk2.size)); (focus (unfold maxLen; omega)); (focus omega); (intro ao3 c3 w3 hown3 hk3 hb3 hd3);
              (have q1'' := (hk3.cell (p := ⟨wr.heap.size, 0, none⟩) (Nat.lt_of_lt_of_le hp1 hk2.size) n2').trans q1'); (have q2'' := (hk3.cell (p := ⟨wr.heap.size, 1, none⟩) (Nat.lt_of_lt_of_le hp1 hk2.size) n2').trans q2')))
      go_wp2
      go_roundw
      case rel => exact ⟨k + 1, ao3, c3, by omega, by go_num, by rw [L_len hlt2], by rw [L_len hlt2, L_cells hlt2]; exact hown3, ((hbel.trans (below_two wr _ _ |>.mono hsz)).trans hb1).trans (Below.trans (b := w1.drew) (Below.refl _ _).drew (hb2.trans hb3))⟩
      case measure => simp [intOf]; omega
    · obtain rfl : k = nd.pairs.length := by omega
      have c1' := (hbel.cell (p := ⟨b, 1, none⟩) hlt).trans c1
      have c2' := (hbel.cell (p := ⟨b, 2, none⟩) hlt).trans c2
      have hlt' : b < wr.heap.size := Nat.lt_of_lt_of_le hlt hbel.size
      have hL := L_le nd nd.pairs.length
      clear hlt2 h0 hk hb c0 c2
      obtain ⟨wo, rfl⟩ : ∃ wo : World, wo = wr := ⟨_, rfl⟩
      go_wp2
      go_loopw [3, 56] (fun v i wr => ∃ (k : Nat) (ao : Option Addr) (c : Nat), k ≤ nd.kids.length ∧ i = .int .i64 k ∧ v = .slice ao (L2 nd k).length c ∧ OwnSl wr S w.heap.size 5 1 v (L2 nd k).length (bCells (L2 nd k)) ∧ Below w.heap.size w wr) (fun _ i _ => nd.kids.length - (intOf i).toNat)
      case atStart => exact ⟨0, ao, c, Nat.zero_le _, rfl, by rw [L2_zero], by rw [L2_zero]; exact hown, hbel⟩
      case round =>
        obtain ⟨k, ao, c, hk, rfl, rfl, hown, hbel⟩ := hrel
        by_cases hlt2 : k < nd.kids.length
        · obtain ⟨b', o', rfl, hc1⟩ := h2.at rfl k hlt2
          have d1 := (hbel.cell (p := ⟨b', o' + k, none⟩) (World.block_lt_of_cell? w _ hc1)).trans hc1
          have hSr : ∀ g, S g → g < wr.heap.size := fun g hg => Nat.lt_of_lt_of_le (hS g hg) hbel.size
          have hsz := hbel.size
          have hL := L2_le nd k
          obtain ⟨hk0, hk1'⟩ := hkid nd.kids[k] (List.getElem_mem hlt2)
          go_wp2_with (at_builtin; go_must ((refine wpList_app rfl (.tmp 60) (.tmp 66) 40 40 rfl S w.heap.size 5 1 1 (.int .u8 0) Tryz.underlying40 info_u8 rfl (.slice ao (L2 nd k).length c) _ _ rfl (hown.below (below_one _ _)) _ 2 _ rfl (src_new [_, _] _ 1 2 2 (by simp) Tryz.underlying40 rfl ?_) (sub_alloc hSr _) ?_ ?_ ?_ ?_); (focus (simp [Value.oneCell'])); (focus (simp only [World.size_alloc]; omega)); (focus (unfold maxLen; omega)); (focus omega); intro ao1 c1 w1 hown1 hk1 hb1 hd1))
          go_roundw
          case rel => exact ⟨k + 1, ao1, c1, by omega, by go_num, by rw [L2_len hlt2], by rw [L2_len hlt2, L2_cells hlt2 hk0 hk1']; exact hown1, (hbel.trans (below_one wr _ |>.mono hsz)).trans hb1⟩
          case measure => simp [intOf]; omega
        · obtain rfl : k = nd.kids.length := by omega
          have c1'' := (hbel.cell (p := ⟨b, 1, none⟩) hlt).trans c1
          have hL := L2_le nd nd.kids.length
          clear hlt2 h2 hk c1' c2'
          obtain ⟨w2o, rfl⟩ : ∃ w2o : World, w2o = wr := ⟨_, rfl⟩
          go_wp2
          go_loopw [3, 74] (fun v i wr => ∃ (k : Nat) (ao : Option Addr) (c : Nat), k ≤ nd.keys.length ∧ i = .int .i64 k ∧ v = .slice ao (L3 nd k).length c ∧ OwnSl wr S w.heap.size 5 1 v (L3 nd k).length (bCells (L3 nd k)) ∧ Below w.heap.size w wr) (fun _ i _ => nd.keys.length - (intOf i).toNat)
          case atStart => exact ⟨0, ao, c, Nat.zero_le _, rfl, by rw [L3_zero], by rw [L3_zero]; exact hown, hbel⟩
          case round =>
            obtain ⟨k, ao, c, hk, rfl, rfl, hown, hbel⟩ := hrel
            by_cases hlt2 : k < nd.keys.length
            · obtain ⟨b', o', rfl, hc1⟩ := h1.at rfl k hlt2
              have d1 := (hbel.cell (p := ⟨b', o' + k, none⟩) (World.block_lt_of_cell? w _ hc1)).trans hc1
              have hSr : ∀ g, S g → g < wr.heap.size := fun g hg => Nat.lt_of_lt_of_le (hS g hg) hbel.size
              have hsz := hbel.size
              have hL := L3_le nd k
              have hp0 := keySize_take nd.keys k hlt2
              have hp2 := keySize_take_le nd.keys (k + 1)
              have hz : nd.keys[k].size ≤ keySize nd.keys := by omega
              clear hp0 hp2
              go_wp2_with (first
                | (at_builtin; (refine wpList_app rfl (.tmp 78) (.tmp 82) 40 40 rfl S w.heap.size 5 1 1 (.int .u8 0) Tryz.underlying40 info_u8 rfl (.slice ao (L3 nd k).length c) _ _ rfl (hown.below (below_one _ _)) _ 1 _ rfl (src_new [_] _ 1 1 1 (by simp) Tryz.underlying40 rfl ?_) (sub_alloc hSr _) ?_ ?_ ?_ ?_); (focus (simp [Value.oneCell'])); (focus (simp only [World.size_alloc]; omega)); (focus (unfold maxLen; omega)); (focus omega); intro ao1 c1 w1 hown1 hk1 hb1 hd1)
                | (at_builtin; (refine wpList_app rfl (.tmp 83) (.tmp 84) 40 9 rfl S w.heap.size 5 1 1 (.int .u8 0) Tryz.underlying40 info_u8 rfl (.slice ao1 ((L3 nd k).length + 1) c1) _ _ rfl hown1 (.string nd.keys[k]) _ _ rfl (Src.ofString _ Tryz.underlying9 _) (sub_below (sub_alloc hSr _) hb1) ?_ ?_ ?_ ?_); (focus (have := hb1.size; simp only [World.size_alloc] at this; omega)); (focus (unfold maxLen; omega)); (focus omega); intro ao2 c2 w2 hown2 hk2 hb2 hd2))
              go_roundw
              case rel => exact ⟨k + 1, ao2, c2, by omega, by go_num, by rw [L3_len hlt2], by rw [L3_len hlt2, L3_cells hlt2]; exact hown2, ((hbel.trans (below_one wr _ |>.mono hsz)).trans hb1).trans hb2⟩
              case measure => simp [intOf]; omega
            · obtain rfl : k = nd.keys.length := by omega
              go_wp2
              go_ret
              exact ⟨_, rfl, by rw [← L3_all]; exact hown, hbel⟩
end Go.Proofs.YtbldcbakhpdigaaGreat

/- slices.Clone at bytes, ints, strings, pairs. (Printed by gen/clone.py.) -/
namespace Go.Proofs.YtbldcbakhpdigaaGreat
open Go.RowKit

set_option maxRecDepth 100000 in
set_option maxHeartbeats 400000 in
theorem cloneBytes_any (v : Value) (n : Nat) (xs : List Value) (w : World) (S : Nat → Prop) (hS : ∀ g, S g → g < w.heap.size) (h : IsSl w S 1 v n xs) (h1 : ∀ u ∈ xs, u.oneCell' = true) (hn : n ≤ 1000000) :
    Calls Tryz.prog 26 #[v] w fun e w' => ∃ v', e = .returned v' ∧ OwnSl w' S w.heap.size 5 1 v' n xs ∧ Below w.heap.size w w' := by
  have hsrc := h.src (P := Tryz.prog) Tryz.underlying40 h1
  obtain ⟨ao, c, rfl, g1, g2, g3, g4⟩ := h.form
  cases ao with
  | none =>
    obtain rfl : c = 0 := g4 rfl
    obtain rfl : n = 0 := by omega
    have hx : xs = [] := List.eq_nil_of_length_eq_zero (by obtain ⟨_, _, _, _, _, e, _⟩ := h; simpa using e)
    subst hx
    have hq := fun w => Lib.run_eql_slice_nil (P := Tryz.prog) w 40 5 none 0 0 0 0 Tryz.underlying40
    clear hsrc h g3 g4
    go_enter Tryz.func26, Tryz.ntmps26
    go_wp2
    go_ret
    exact ⟨_, rfl, OwnSl.nil _ _ _ _ _, Below.refl _ _⟩
  | some ad =>
    have hq := fun w => Lib.run_eql_slice_nil (P := Tryz.prog) w 40 5 (some ad) n c 0 0 Tryz.underlying40
    have hn0 := own_new (w := w) (S := S) (B := w.heap.size) (e := 5) (k := 1) [] 0 0 rfl rfl (Nat.le_refl _) (Nat.zero_le _) (Nat.le_refl _) hS
    have hsrc' : Src Tryz.prog 1 40 (.slice (some ad) n c) n xs (w.alloc (.cells #[] 5)) := (h.below (below_one w _)).src Tryz.underlying40 h1
    clear hsrc h g3 g4
    go_enter Tryz.func26, Tryz.ntmps26
    go_wp2_with (at_builtin; (refine wpList_app rfl (.tmp 5) (.tmp 6) 40 40 rfl S w.heap.size 5 1 1 _ Tryz.underlying40 info_u8 rfl (.slice (some ⟨w.heap.size, 0, none⟩) 0 0) 0 [] rfl hn0 (.slice (some ad) n c) _ _ rfl hsrc' (sub_alloc hS _) ?_ ?_ ?_ ?_); (focus (simp only [World.size_alloc]; omega)); (focus (unfold maxLen; omega)); (focus omega); intro ao1 c1 w1 hown1 hk1 hb1 hd1; simp only [Nat.zero_add])
    go_ret
    simp only [Nat.zero_add, List.nil_append] at hown1
    exact ⟨_, rfl, hown1, (below_one w _).trans hb1⟩

set_option maxRecDepth 100000 in
set_option maxHeartbeats 400000 in
theorem cloneInt_any (v : Value) (n : Nat) (xs : List Value) (w : World) (S : Nat → Prop) (hS : ∀ g, S g → g < w.heap.size) (h : IsSl w S 1 v n xs) (h1 : ∀ u ∈ xs, u.oneCell' = true) (hn : n ≤ 1000000) :
    Calls Tryz.prog 76 #[v] w fun e w' => ∃ v', e = .returned v' ∧ OwnSl w' S w.heap.size 3 1 v' n xs ∧ Below w.heap.size w w' := by
  have hsrc := h.src (P := Tryz.prog) Tryz.underlying36 h1
  obtain ⟨ao, c, rfl, g1, g2, g3, g4⟩ := h.form
  cases ao with
  | none =>
    obtain rfl : c = 0 := g4 rfl
    obtain rfl : n = 0 := by omega
    have hx : xs = [] := List.eq_nil_of_length_eq_zero (by obtain ⟨_, _, _, _, _, e, _⟩ := h; simpa using e)
    subst hx
    have hq := fun w => Lib.run_eql_slice_nil (P := Tryz.prog) w 36 3 none 0 0 0 0 Tryz.underlying36
    clear hsrc h g3 g4
    go_enter Tryz.func76, Tryz.ntmps76
    go_wp2
    go_ret
    exact ⟨_, rfl, OwnSl.nil _ _ _ _ _, Below.refl _ _⟩
  | some ad =>
    have hq := fun w => Lib.run_eql_slice_nil (P := Tryz.prog) w 36 3 (some ad) n c 0 0 Tryz.underlying36
    have hn0 := own_new (w := w) (S := S) (B := w.heap.size) (e := 3) (k := 1) [] 0 0 rfl rfl (Nat.le_refl _) (Nat.zero_le _) (Nat.le_refl _) hS
    have hsrc' : Src Tryz.prog 1 36 (.slice (some ad) n c) n xs (w.alloc (.cells #[] 3)) := (h.below (below_one w _)).src Tryz.underlying36 h1
    clear hsrc h g3 g4
    go_enter Tryz.func76, Tryz.ntmps76
    go_wp2_with (at_builtin; (refine wpList_app rfl (.tmp 5) (.tmp 6) 36 36 rfl S w.heap.size 3 1 8 _ Tryz.underlying36 info_int rfl (.slice (some ⟨w.heap.size, 0, none⟩) 0 0) 0 [] rfl hn0 (.slice (some ad) n c) _ _ rfl hsrc' (sub_alloc hS _) ?_ ?_ ?_ ?_); (focus (simp only [World.size_alloc]; omega)); (focus (unfold maxLen; omega)); (focus omega); intro ao1 c1 w1 hown1 hk1 hb1 hd1; simp only [Nat.zero_add])
    go_ret
    simp only [Nat.zero_add, List.nil_append] at hown1
    exact ⟨_, rfl, hown1, (below_one w _).trans hb1⟩

set_option maxRecDepth 100000 in
set_option maxHeartbeats 400000 in
theorem cloneStr_any (v : Value) (n : Nat) (xs : List Value) (w : World) (S : Nat → Prop) (hS : ∀ g, S g → g < w.heap.size) (h : IsSl w S 1 v n xs) (h1 : ∀ u ∈ xs, u.oneCell' = true) (hn : n ≤ 1000000) :
    Calls Tryz.prog 78 #[v] w fun e w' => ∃ v', e = .returned v' ∧ OwnSl w' S w.heap.size 9 1 v' n xs ∧ Below w.heap.size w w' := by
  have hsrc := h.src (P := Tryz.prog) Tryz.underlying72 h1
  obtain ⟨ao, c, rfl, g1, g2, g3, g4⟩ := h.form
  cases ao with
  | none =>
    obtain rfl : c = 0 := g4 rfl
    obtain rfl : n = 0 := by omega
    have hx : xs = [] := List.eq_nil_of_length_eq_zero (by obtain ⟨_, _, _, _, _, e, _⟩ := h; simpa using e)
    subst hx
    have hq := fun w => Lib.run_eql_slice_nil (P := Tryz.prog) w 72 9 none 0 0 0 0 Tryz.underlying72
    clear hsrc h g3 g4
    go_enter Tryz.func78, Tryz.ntmps78
    go_wp2
    go_ret
    exact ⟨_, rfl, OwnSl.nil _ _ _ _ _, Below.refl _ _⟩
  | some ad =>
    have hq := fun w => Lib.run_eql_slice_nil (P := Tryz.prog) w 72 9 (some ad) n c 0 0 Tryz.underlying72
    have hn0 := own_new (w := w) (S := S) (B := w.heap.size) (e := 9) (k := 1) [] 0 0 rfl rfl (Nat.le_refl _) (Nat.zero_le _) (Nat.le_refl _) hS
    have hsrc' : Src Tryz.prog 1 72 (.slice (some ad) n c) n xs (w.alloc (.cells #[] 9)) := (h.below (below_one w _)).src Tryz.underlying72 h1
    clear hsrc h g3 g4
    go_enter Tryz.func78, Tryz.ntmps78
    go_wp2_with (at_builtin; (refine wpList_app rfl (.tmp 5) (.tmp 6) 72 72 rfl S w.heap.size 9 1 16 _ Tryz.underlying72 info_str rfl (.slice (some ⟨w.heap.size, 0, none⟩) 0 0) 0 [] rfl hn0 (.slice (some ad) n c) _ _ rfl hsrc' (sub_alloc hS _) ?_ ?_ ?_ ?_); (focus (simp only [World.size_alloc]; omega)); (focus (unfold maxLen; omega)); (focus omega); intro ao1 c1 w1 hown1 hk1 hb1 hd1; simp only [Nat.zero_add])
    go_ret
    simp only [Nat.zero_add, List.nil_append] at hown1
    exact ⟨_, rfl, hown1, (below_one w _).trans hb1⟩

set_option maxRecDepth 100000 in
set_option maxHeartbeats 400000 in
theorem clonePair_any (v : Value) (n : Nat) (xs : List Value) (w : World) (S : Nat → Prop) (hS : ∀ g, S g → g < w.heap.size) (h : IsSl w S 2 v n xs) (h1 : ∀ u ∈ xs, u.oneCell' = true) (hn : n ≤ 1000000) :
    Calls Tryz.prog 77 #[v] w fun e w' => ∃ v', e = .returned v' ∧ OwnSl w' S w.heap.size 53 2 v' n xs ∧ Below w.heap.size w w' := by
  have hsrc := h.src (P := Tryz.prog) Tryz.underlying29 h1
  obtain ⟨ao, c, rfl, g1, g2, g3, g4⟩ := h.form
  cases ao with
  | none =>
    obtain rfl : c = 0 := g4 rfl
    obtain rfl : n = 0 := by omega
    have hx : xs = [] := List.eq_nil_of_length_eq_zero (by obtain ⟨_, _, _, _, _, e, _⟩ := h; simpa using e)
    subst hx
    have hq := fun w => Lib.run_eql_slice_nil (P := Tryz.prog) w 29 53 none 0 0 0 0 Tryz.underlying29
    clear hsrc h g3 g4
    go_enter Tryz.func77, Tryz.ntmps77
    go_wp2
    go_ret
    exact ⟨_, rfl, OwnSl.nil _ _ _ _ _, Below.refl _ _⟩
  | some ad =>
    have hq := fun w => Lib.run_eql_slice_nil (P := Tryz.prog) w 29 53 (some ad) n c 0 0 Tryz.underlying29
    have hn0 := own_new (w := w) (S := S) (B := w.heap.size) (e := 53) (k := 2) [] 0 0 rfl rfl (Nat.le_refl _) (Nat.zero_le _) (Nat.le_refl _) hS
    have hsrc' : Src Tryz.prog 2 29 (.slice (some ad) n c) n xs (w.alloc (.cells #[] 53)) := (h.below (below_one w _)).src Tryz.underlying29 h1
    clear hsrc h g3 g4
    go_enter Tryz.func77, Tryz.ntmps77
    go_wp2_with (at_builtin; (refine wpList_app rfl (.tmp 5) (.tmp 6) 29 29 rfl S w.heap.size 53 2 32 _ Tryz.underlying29 info_pair rfl (.slice (some ⟨w.heap.size, 0, none⟩) 0 0) 0 [] rfl hn0 (.slice (some ad) n c) _ _ rfl hsrc' (sub_alloc hS _) ?_ ?_ ?_ ?_); (focus (simp only [World.size_alloc]; omega)); (focus (unfold maxLen; omega)); (focus omega); intro ao1 c1 w1 hown1 hk1 hb1 hd1; simp only [Nat.zero_add])
    go_ret
    simp only [Nat.zero_add, List.nil_append] at hown1
    exact ⟨_, rfl, hown1, (below_one w _).trans hb1⟩

end Go.Proofs.YtbldcbakhpdigaaGreat

/- The order of strings, byte by byte. No program in sight. -/
namespace Go.Proofs.YtbldcbakhpdigaaGreat

/-- a comes before b -/
def lt (a b : ByteArray) : Bool := Op.bytesLess a.toList b.toList

theorem bl_irrefl : ∀ l : List UInt8, Op.bytesLess l l = false
  | [] => rfl
  | a :: l => by simp [Op.bytesLess, bl_irrefl l]
theorem bl_trans : ∀ a b c : List UInt8, Op.bytesLess a b = true → Op.bytesLess b c = true → Op.bytesLess a c = true
  | _, [], _ => by simp [Op.bytesLess]
  | _, _ :: _, [] => by simp [Op.bytesLess]
  | [], _ :: _, _ :: _ => by simp [Op.bytesLess]
  | x :: a, y :: b, z :: c => by
    have ih := bl_trans a b c
    simp only [Op.bytesLess, Bool.or_eq_true, Bool.and_eq_true, decide_eq_true_eq, beq_iff_eq]
    rintro (h | ⟨rfl, h⟩) (k | ⟨rfl, k⟩)
    · exact .inl (UInt8.lt_trans h k)
    · exact .inl h
    · exact .inl k
    · exact .inr ⟨rfl, ih h k⟩
theorem bl_total : ∀ a b : List UInt8, Op.bytesLess a b = false → Op.bytesLess b a = false → a = b
  | [], [] => fun _ _ => rfl
  | [], _ :: _ => by simp [Op.bytesLess]
  | _ :: _, [] => by simp [Op.bytesLess]
  | x :: a, y :: b => by
    have ih := bl_total a b
    simp only [Op.bytesLess, Bool.or_eq_false_iff, Bool.and_eq_false_iff, decide_eq_false_iff_not, beq_eq_false_iff_ne]
    rintro ⟨h1, h2⟩ ⟨k1, k2⟩
    have e : x = y := by
      apply UInt8.toNat_inj.1
      rw [UInt8.lt_iff_toNat_lt] at h1 k1
      omega
    subst e
    rw [ih (by simpa using h2) (by simpa using k2)]
theorem toList_eq (a : ByteArray) : a.toList = a.data.toList := ByteArray.toList_eq a
theorem toList_inj {a b : ByteArray} (h : a.toList = b.toList) : a = b := by
  rw [toList_eq, toList_eq] at h
  cases a; cases b; congr; exact Array.ext' h

theorem lt_irrefl (a : ByteArray) : lt a a = false := bl_irrefl _
theorem lt_trans {a b c : ByteArray} (h : lt a b = true) (k : lt b c = true) : lt a c = true := bl_trans _ _ _ h k
theorem lt_total {a b : ByteArray} (h : lt a b = false) (k : lt b a = false) : a = b := toList_inj (bl_total _ _ h k)
theorem lt_asymm {a b : ByteArray} (h : lt a b = true) : lt b a = false := by
  cases hb : lt b a with
  | false => rfl
  | true => have := lt_trans h hb; rw [lt_irrefl] at this; cases this
theorem lt_ne {a b : ByteArray} (h : lt a b = true) : a ≠ b := by rintro rfl; rw [lt_irrefl] at h; cases h
/-- a is not behind b, b before c -/
theorem le_lt {a b c : ByteArray} (h : lt b a = false) (k : lt b c = true) : lt a c = true := by
  cases hab : lt a b with
  | true => exact lt_trans hab k
  | false => rw [lt_total hab h]; exact k
theorem lt_le {a b c : ByteArray} (h : lt a b = true) (k : lt c b = false) : lt a c = true := by
  cases hbc : lt b c with
  | true => exact lt_trans h hbc
  | false => rw [← lt_total hbc k]; exact h
theorem le_le {a b c : ByteArray} (h : lt b a = false) (k : lt c b = false) : lt c a = false := by
  cases hca : lt c a with
  | false => rfl
  | true => have := lt_le hca h; rw [k] at this; cases this

theorem cmp_facts : ∀ a b : List UInt8, (Lib.compareBytes a b < 0 ↔ Op.bytesLess a b = true) ∧ (Lib.compareBytes a b = 0 ↔ a = b)
  | [], [] => by simp [Lib.compareBytes, Op.bytesLess]
  | [], _ :: _ => by simp [Lib.compareBytes, Op.bytesLess]
  | _ :: _, [] => by simp [Lib.compareBytes, Op.bytesLess]
  | x :: a, y :: b => by
    have ih := cmp_facts a b
    unfold Lib.compareBytes Op.bytesLess
    by_cases h1 : x < y
    · have hne : x ≠ y := by rintro rfl; exact absurd h1 (UInt8.lt_irrefl _)
      simp [h1, hne]
    · rw [if_neg h1]
      by_cases h2 : y < x
      · rw [if_pos h2]
        have hne : x ≠ y := by rintro rfl; exact UInt8.lt_irrefl _ h2
        simp [h1, hne]
      · rw [if_neg h2]
        have e : x = y := by
          apply UInt8.toNat_inj.1
          rw [UInt8.lt_iff_toNat_lt] at h1 h2
          omega
        subst e
        simp [UInt8.lt_irrefl, ih]

/-- what strings.Compare gives -/
def cmpS (a b : ByteArray) : Int := Lib.compareBytes a.data.toList b.data.toList
theorem cmpS_neg (a b : ByteArray) : cmpS a b < 0 ↔ lt a b = true := by
  unfold cmpS lt; rw [toList_eq, toList_eq]; exact (cmp_facts _ _).1
theorem cmpS_zero (a b : ByteArray) : cmpS a b = 0 ↔ a = b := by
  unfold cmpS; rw [(cmp_facts _ _).2]
  exact ⟨fun h => toList_inj (by rw [toList_eq, toList_eq]; exact h), fun h => by rw [h]⟩

/-- Go's '>' on strings, as the walk spells it -/
theorem gtr_eq (a b : ByteArray) : (!Op.bytesLess a.toList b.toList && !(a.toList == b.toList)) = lt b a := by
  show (!lt a b && !(a.toList == b.toList)) = lt b a
  cases h : lt b a with
  | true =>
    rw [lt_asymm h]
    have : (a.toList == b.toList) = false := by rw [beq_eq_false_iff_ne]; intro e; exact lt_ne h (toList_inj e.symm)
    rw [this]; rfl
  | false =>
    cases h2 : lt a b with
    | true => rfl
    | false => rw [lt_total h2 h]; simp

/-- how many keys are not behind a key: the place of the kid in which it lies -/
def kidAt (keys : List ByteArray) (key : ByteArray) : Nat := (keys.takeWhile fun k => !lt key k).length
/-- the keys rise -/
def Rising (keys : List ByteArray) : Prop := keys.Pairwise fun a b => lt a b = true

theorem kidAt_le (keys : List ByteArray) (key : ByteArray) : kidAt keys key ≤ keys.length := by
  unfold kidAt
  exact (List.takeWhile_sublist _).length_le
theorem kidAt_facts (key : ByteArray) : ∀ (keys : List ByteArray), Rising keys →
    (∀ i (h : i < keys.length), i < kidAt keys key → lt key keys[i] = false) ∧ (∀ i (h : i < keys.length), kidAt keys key ≤ i → lt key keys[i] = true)
  | [], _ => ⟨fun i h => absurd h (by simp), fun i h => absurd h (by simp)⟩
  | k :: keys, hr => by
    have hr' := List.pairwise_cons.1 hr
    have ih := kidAt_facts key keys hr'.2
    cases hk : lt key k with
    | true =>
      have e : kidAt (k :: keys) key = 0 := by simp [kidAt, hk]
      rw [e]
      refine ⟨fun i _ h => absurd h (by omega), fun i h _ => ?_⟩
      cases i with
      | zero => exact hk
      | succ i => exact lt_trans hk (hr'.1 _ (List.getElem_mem (by simpa using h)))
    | false =>
      have e : kidAt (k :: keys) key = kidAt keys key + 1 := by simp [kidAt, hk]
      rw [e]
      refine ⟨fun i h hi => ?_, fun i h hi => ?_⟩
      · cases i with
        | zero => exact hk
        | succ i => exact ih.1 i (by simpa using h) (by omega)
      · cases i with
        | zero => omega
        | succ i => exact ih.2 i (by simpa using h) (by omega)

/-- how many pairs come before a key -/
def posAt (ps : List (ByteArray × ByteArray)) (key : ByteArray) : Nat := (ps.takeWhile fun p => lt p.1 key).length
/-- the pairs rise -/
def RisingP (ps : List (ByteArray × ByteArray)) : Prop := ps.Pairwise fun a b => lt a.1 b.1 = true
theorem posAt_le (ps : List (ByteArray × ByteArray)) (key : ByteArray) : posAt ps key ≤ ps.length := by
  unfold posAt
  exact (List.takeWhile_sublist _).length_le
theorem posAt_facts (key : ByteArray) : ∀ (ps : List (ByteArray × ByteArray)), RisingP ps →
    (∀ i (h : i < ps.length), i < posAt ps key → lt ps[i].1 key = true) ∧ (∀ i (h : i < ps.length), posAt ps key ≤ i → lt ps[i].1 key = false)
  | [], _ => ⟨fun i h => absurd h (by simp), fun i h => absurd h (by simp)⟩
  | k :: ps, hr => by
    have hr' := List.pairwise_cons.1 hr
    have ih := posAt_facts key ps hr'.2
    cases hk : lt k.1 key with
    | false =>
      have e : posAt (k :: ps) key = 0 := by simp [posAt, hk]
      rw [e]
      refine ⟨fun i _ h => absurd h (by omega), fun i h _ => ?_⟩
      cases i with
      | zero => exact hk
      | succ i =>
        cases h2 : lt (k :: ps)[i + 1].1 key with
        | false => rfl
        | true => have := lt_trans (hr'.1 _ (List.getElem_mem (by simpa using h))) h2; rw [hk] at this; cases this
    | true =>
      have e : posAt (k :: ps) key = posAt ps key + 1 := by simp [posAt, hk]
      rw [e]
      refine ⟨fun i h hi => ?_, fun i h hi => ?_⟩
      · cases i with
        | zero => exact hk
        | succ i => exact ih.1 i (by simpa using h) (by omega)
      · cases i with
        | zero => omega
        | succ i => exact ih.2 i (by simpa using h) (by omega)
/-- is the key there? -/
def isAt (ps : List (ByteArray × ByteArray)) (key : ByteArray) : Bool := match ps[posAt ps key]? with | some p => decide (p.1 = key) | none => false

end Go.Proofs.YtbldcbakhpdigaaGreat

