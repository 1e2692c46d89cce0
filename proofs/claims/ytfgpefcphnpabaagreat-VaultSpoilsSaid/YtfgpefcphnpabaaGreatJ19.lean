/- parts -/
import Derived.Test.YtfgpefcphnpabaaGreatJ18
import Derived.Deep.CutRange
import Derived.Deep.CutBlock
namespace Go.Proofs.YtfgpefcphnpabaaGreat
open Go.RowKit
set_option maxRecDepth 100000
set_option maxHeartbeats 8000000
theorem join_skip (t nb : Nat) (nd : Nd) (i : Nat) (deep : Int) (w : World) (S : Nat → Prop) (hn : IsNode w S nb nd) (hs : nd.kids.length < 2 ∨ nd.kids.length ≤ i) :
  Calls Tryz.prog 148 #[.pointer (some ⟨t, 0, none⟩), .pointer (some ⟨nb, 0, none⟩), .int .i64 i, .int .i64 deep] w fun e w' => e = .returned (.tuple #[]) ∧ w' = w := by
 obtain ⟨_, v0, v1, v2, hb, h0, h1, h2⟩ := hn
 obtain ⟨c0, c1, c2, _, _, _, hlt⟩ := cells3 hb
 obtain ⟨ao2, cp2, rfl, n2, m2, _, _⟩ := IsSl.form h2
 by_cases h : nd.kids.length < 2
 ·have x1 : (nd.kids.length : Int) < 2 := by omega
  go_enter Tryz.func148, Tryz.ntmps148
  go_wp2
  refine bodyPost_ret (results_none rfl _ _ _) rfl ?_
  exact ⟨rfl, rfl⟩
 ·have x1 : ¬ (nd.kids.length : Int) < 2 := by omega
  have x2 : (nd.kids.length : Int) ≤ (i : Int) := by omega
  have x3 : nd.kids.length ≤ i := by omega
  go_enter Tryz.func148, Tryz.ntmps148
  go_wp2
  refine bodyPost_ret (results_none rfl _ _ _) rfl ?_
  exact ⟨rfl, rfl⟩
theorem one_ints (l : List Int) : ∀ u ∈ l.map (Value.int .i64), u.oneCell' = true := by
 intro u hu
 obtain ⟨p, _, rfl⟩ := List.mem_map.1 hu
 rfl
def SJ (t : Nat) (mp : VS) (nb pb po j n cp : Nat) (root err b1 b2 : Int) (v0 v1 : Value) (W : World) : Prop :=
 TreeAt W t mp root err ∧ W.heap[nb]? = some (.cells #[v0, v1, .slice (some ⟨pb, po, none⟩) n cp] 188 (0, 0)) ∧ W.cell? ⟨pb, po + j, none⟩ = some (.int .i64 b1) ∧ W.cell? ⟨pb, po + (j + 1), none⟩ = some (.int .i64 b2)
theorem SJ.step {t : Nat} {mp : VS} {nb pb po j n cp : Nat} {root err b1 b2 : Int} {v0 v1 : Value} {W W' : World} {S S' : Nat → Prop} (h : SJ t mp nb pb po j n cp root err b1 b2 v0 v1 W) (hs : Step S S' W W') (h1 : ¬ S t) (h2 : ¬ S nb) (h3 : ¬ S pb) : SJ t mp nb pb po j n cp root err b1 b2 v0 v1 W' := by
 obtain ⟨q1, q2, q3, q4⟩ := h
 have l3 := World.block_lt_of_cell? W _ q3
 exact ⟨(q1.step h1 hs).1, (hs.1.block nb (Array.getElem?_eq_some_iff.1 q2).1 h2).trans q2, (World.cell?_of_block (w := W) (a := ⟨pb, po + j, none⟩) (hs.1.block pb l3 h3)).trans q3, (World.cell?_of_block (w := W) (a := ⟨pb, po + (j + 1), none⟩) (hs.1.block pb l3 h3)).trans q4⟩
theorem SJ.cells {t : Nat} {mp : VS} {nb pb po j n cp : Nat} {root err b1 b2 : Int} {v0 v1 : Value} {W : World} (h : SJ t mp nb pb po j n cp root err b1 b2 v0 v1 W) :
  W.cell? ⟨t, 0, none⟩ = some (.iface 113 mp.agg) ∧ t < W.heap.size ∧ W.cell? ⟨nb, 2, none⟩ = some (.slice (some ⟨pb, po, none⟩) n cp) ∧ nb < W.heap.size ∧ W.cell? ⟨pb, po + j, none⟩ = some (.int .i64 b1) ∧ W.cell? ⟨pb, po + (j + 1), none⟩ = some (.int .i64 b2) ∧ pb < W.heap.size := by
 obtain ⟨q1, q2, q3, q4⟩ := h
 obtain ⟨c0, _, _, _, _, _, hl⟩ := cells3 q1
 obtain ⟨_, _, c2, _, _, _, hl2⟩ := cells3 q2
 exact ⟨c0, hl, c2, hl2, q3, q4, World.block_lt_of_cell? W _ q3⟩
theorem node_setKeys {W : World} {S : Nat → Prop} {b : Nat} {ps : List Pr} {ks' : List ByteArray} {ns : List Int} {v0 v1 v2 v' : Value} (hb : W.heap[b]? = some (.cells #[v0, v1, v2] 188 (0, 0))) (hS : ¬ S b) (h0 : IsPrs W S v0 ps) (h2 : IsInts W S v2 ns) (h0b : v0.ownBlock ≠ some b) (h2b : v2.ownBlock ≠ some b) (hv : IsStrs W S v' ks') (hvb : v'.ownBlock ≠ some b) : IsNode (W.setCell ⟨b, 1, none⟩ v') S b ⟨ps, ks', ns⟩ := by
 have hk : Keep (· = b) W (W.setCell ⟨b, 1, none⟩ v') := Keep.setCell (M := (· = b)) (p := ⟨b, 1, none⟩) (Keep.refl _ _) (.inr rfl) _
 refine ⟨hS, v0, v', v2, by simp [World.setCell, Array.getElem?_modify, hb], IsSl.keep h0 fun g hg hl hs => ⟨hk.block g hl (fun e => h0b (by rw [hg, e])), hs⟩, IsSl.keep hv fun g hg hl hs => ⟨hk.block g hl (fun e => hvb (by rw [hg, e])), hs⟩, IsSl.keep h2 fun g hg hl hs => ⟨hk.block g hl (fun e => h2b (by rw [hg, e])), hs⟩⟩
theorem strs_ne {W : World} {S : Nat → Prop} {b : Nat} {ao0 ao1 ao2 : Option Addr} {x0 x1 x2 y0 y1 y2 : Nat} {ks : List ByteArray} (hb : W.heap[b]? = some (.cells #[.slice ao0 x0 y0, .slice ao1 x1 y1, .slice ao2 x2 y2] 188 (0, 0))) (h : IsStrs W S (.slice ao1 x1 y1) ks) (hk : 0 < ks.length) : (Value.slice ao1 x1 y1).ownBlock ≠ some b := by
 obtain ⟨ao, c, e, _, _, _, _, _, h6⟩ := h
 cases e
 obtain ⟨b', o, rfl, hc⟩ := h6 0 (.string ks[0]) (by simp [hk])
 intro e
 cases e
 rw [Nat.add_zero] at hc
 rcases o with _ | _ | _ | o <;> simp [World.cell?, hb] at hc
def JoinPost (mp : VS) (σ : MSt) (S : Nat → Prop) (nb : Nat) (nd A B : Nd) (k2 : ByteArray) (b1 b2 : Int) (j : Nat) (w : World) (e : Ending) (w' : World) : Prop :=
 (e = .returned (.tuple #[]) ∧ ∃ σ' S' nd', Inv σ' S' mp w' ∧ IsNode w' S' nb nd' ∧ Keep (fun g => S g ∨ g = nb) w w' ∧ (∀ g, S' g → S g ∨ w.heap.size ≤ g) ∧
  ((512 < (joinNd A B k2).size ∧ A.kids.length ≠ 1 ∧ B.kids.length ≠ 1 ∧ σ' = σ ∧ nd' = nd) ∨ ∃ ps zs, Spr (joinNd A B k2) ⟨#[]⟩ zs ∧ Puts ((σ.gone b1).gone b2) ps zs σ' ∧ nd' = (nd.delAt j).repl j ps)) ∨
  (((σ.gone b1).gone b2).most < ((σ.gone b1).gone b2).sz + (joinNd A B k2).room ∧ Gave mp σ S w e w')
theorem join_any (t : Nat) (mp : VS) (root err : Int) (σ : MSt) (S : Nat → Prop) (nb : Nat) (nd A B : Nd) (k2 : ByteArray) (i j : Nat) (deep b1 b2 : Int) (w : World) (h : Inv σ S mp w) (ht : TreeAt w t mp root err) (hst : ¬ S t) (hn : IsNode w S nb nd) (h2 : 2 ≤ nd.kids.length) (hi : i < nd.kids.length) (hj : j = min i (nd.kids.length - 2)) (hk1 : nd.kids[j]? = some b1) (hk2 : nd.kids[j + 1]? = some b2) (hkey : nd.keys[j]? = some k2)
  (hp : nd.pairs = []) (hkk : nd.keys.length = nd.kids.length - 1) (hA : Blk σ b1 A) (hB : Blk σ b2 B) (hB2 : (σ.gone b1).hasB b2 = true) (okJ : (joinNd A B k2).Ok) (hd : deep ≤ 40) (hl : nd.kids.length ≤ 2000) :
  Calls Tryz.prog 148 #[.pointer (some ⟨t, 0, none⟩), .pointer (some ⟨nb, 0, none⟩), .int .i64 i, .int .i64 deep] w (JoinPost mp σ S nb nd A B k2 b1 b2 j w) := by
 have hN := hn
 obtain ⟨hSb, v0, v1, v2, hb, h0, h1, h22⟩ := hn
 obtain ⟨c0, c1, c2, _, _, _, hlt⟩ := cells3 hb
 obtain ⟨ao2, cp2, rfl, n2, m2, _, _⟩ := IsSl.form h22
 obtain ⟨hj1, hj1'⟩ := List.getElem?_eq_some_iff.1 hk1
 obtain ⟨hj2, hj2'⟩ := List.getElem?_eq_some_iff.1 hk2
 obtain ⟨pb, po, rfl, d1⟩ := h22.at rfl j hj1
 obtain ⟨_, _, e', d2⟩ := h22.at rfl (j + 1) hj2
 cases e'
 rw [hj1'] at d1
 rw [hj2'] at d2
 have hpb : pb < w.heap.size := World.block_lt_of_cell? w _ d1
 have hSp : ¬ S pb := by
  obtain ⟨_, _, e, _, _, _, _, h5, _⟩ := h22
  cases e
  exact (h5 _ rfl).2.2
 have hSJ : SJ t mp nb pb po j nd.kids.length cp2 root err b1 b2 v0 v1 w := ⟨ht, hb, d1, d2⟩
 have HSJ := Lib.hid hSJ
 have HK := Lib.hid hkey
 have HP := Lib.hid hp
 have HKK := Lib.hid hkk
 have HN := Lib.hid hN
 have HB2 := Lib.hid hB2
 have HJ := Lib.hid hj
 have hj3 : j + 2 ≤ nd.kids.length := by omega
 have x4 : min (i : Int) ((nd.kids.length : Int) - 2) = (j : Int) := by omega
 have HX4 := Lib.hid x4
 have HD1 := Lib.hid hk1
 have HD2 := Lib.hid hk2
 clear hk1 hk2 hj1' hj2' hSJ hkey hp hkk hN hB2 hb d1 d2 hj hj1 hj2 c0 c1 x4
 have x1 : ¬ (nd.kids.length : Int) < 2 := by omega
 have x2 : ¬ (nd.kids.length : Int) ≤ (i : Int) := by omega
 have x3 : ¬ nd.kids.length ≤ i := by omega
 go_enter Tryz.func148, Tryz.ntmps148
 go_upto_region 1 with fail
 go_cut [2] from 13 to 196 (fun x wx => x = .int .i64 j ∧ w = wx)
 case first =>
  go_wp2_with fail
  all_goals
   go_meet
   refine ⟨?_, rfl⟩
   have := HX4.out
   congr 1 <;> omega
 case rest =>
  obtain ⟨rfl, rfl⟩ := hcut
  obtain ⟨y0, y1, y2, y3, y4, y5, y6⟩ := HSJ.out.cells
  have HA := Lib.hid hA
  have HB := Lib.hid hB
  have hj4 : (j : Int) + 2 ≤ (nd.kids.length : Int) := by omega
  have HI := Lib.hid h
  have HT := Lib.hid ht
  clear hA hB h ht c2
  go_wp2_with (first
   | (go_at_call 117; go_must ((refine (load_any t mp root err b1 deep σ S A w HI.out HT.out HA.out hd).mono ?_); rintro e w1 ⟨na, rfl, hnA, hb1⟩; refine Stop.of ?_)))
  refine Stop.on ?_
  have HI1 := Lib.hid (HI.out.below hb1)
  obtain ⟨y0, y1, y2, y3, y4, y5, y6⟩ := (HSJ.out.step (Step.of_below (S := S) hb1) hst hSb hSp).cells
  go_wp2_with (first
   | (go_at_call 145; go_must ((refine (must_ok _).mono ?_); rintro e w2 ⟨rfl, hw⟩; subst w2))
   | (go_at_call 117; go_must ((refine (load_any t mp root err b2 deep σ S B w1 HI1.out ((HT.out).step hst (Step.of_below (S := S) hb1)).1 HB.out hd).mono ?_); rintro e w2 ⟨nbb, rfl, hnB, hb2⟩; refine Stop.of ?_)))
  refine Stop.on ?_
  have hbw2 : Below w.heap.size w w2 := hb1.trans (hb2.mono hb1.size)
  have HI2 := Lib.hid (HI.out.below hbw2)
  have hsj2 := Lib.hid (HSJ.out.step (Step.of_below (S := S) hbw2) hst hSb hSp)
  have hA2 := hnA.isNode.below hb2
  have hB2' := hnB.isNode
  have HA2 := Lib.hid hA2
  have HB2' := Lib.hid hB2'
  obtain ⟨hSA, a0, a1, a2, bA, A0, A1, A2⟩ := hA2
  obtain ⟨hSB, g0, g1, g2, bB, B0, B1, B2⟩ := hB2'
  have hnaw : w.heap.size ≤ na := hnA.2.1
  obtain ⟨e0, e1, e2, _, _, _, lna⟩ := cells3 bA
  obtain ⟨f0, f1, f2, _, _, _, lnb⟩ := cells3 bB
  clear y0 y1 y2 y3 y4 y5 y6 bA bB hnA hnB
  go_wp2_with (first
   | (go_at_call 145; go_must ((refine (must_ok _).mono ?_); rintro e w3 ⟨rfl, hw⟩; subst w3)))
  have hsub2 := HI2.out.sub
  have la := HA.out.fits.np
  have lb := HB.out.fits.np
  have ka := HA.out.fits.nk
  have kb := HB.out.fits.nk
  refine wp_region_ord (fun W => Below w2.heap.size w2 W) (fun i => !([4, 9, 14, 19, 21].contains i)) [0, 1, 2, 3, 5, 6, 7, 8, 10, 11, 12, 13, 15, 16, 17, 18, 4, 9, 14, 19, 20, 21, 22] rfl (by kernel_rfl) ((Below.refl _ w2).drew) ?_
  repeat ((refine ord_q (v := ?_) rfl rfl (fun _ _ _ h => h) rfl (fun W hW => ?_) ?_); rotate_left; (focus ((try dsimp only at hW); have q0 := (hW.cell (p := ⟨na, 0, none⟩) lna).trans e0; have q1 := (hW.cell (p := ⟨na, 1, none⟩) lna).trans e1; have q2 := (hW.cell (p := ⟨na, 2, none⟩) lna).trans e2; have q3 := (hW.cell (p := ⟨nbb, 0, none⟩) lnb).trans f0; have q4 := (hW.cell (p := ⟨nbb, 1, none⟩) lnb).trans f1; have q5 := (hW.cell (p := ⟨nbb, 2, none⟩) lnb).trans f2; have q6 := Nat.lt_of_lt_of_le lna hW.size; have q7 := Nat.lt_of_lt_of_le lnb hW.size; first | (go_simp; first | done | with_reducible rfl))); (try simp only [Act.put, List.setIfInBounds_toArray, List.set_cons_zero, List.set_cons_succ]))
  have hbd : Below w2.heap.size w2 w2.drew := (Below.refl _ w2).drew
  have hC1 := clonePair_any a0 A.pairs.length (prCells A.pairs) w2.drew S hsub2 (IsSl.below A0 hbd) (one_prs _) (by omega)
  have HC1 := Lib.hid hC1; clear hC1
  refine ord_e rfl rfl rfl ?_; intro K hK; go_simp
  refine HC1.out.mono ?_; rintro e w3 ⟨u0, rfl, hu0, hb3⟩
  have hb23 : Below w2.heap.size w2 w3 := hbd.trans hb3
  refine hK.out _ _ hb23 ?_
  (try simp only [Act.put, List.setIfInBounds_toArray, List.set_cons_zero, List.set_cons_succ])
  refine ord_e rfl rfl rfl ?_; intro K hK
  refine wp_app (.tmp 71) (.tmp 75) 45 45 rfl S w2.heap.size 127 2 32 _ Tryz.underlying45 info_pair rfl u0 A.pairs.length (prCells A.pairs) rfl hu0 g0 B.pairs.length (prCells B.pairs) rfl ((IsSl.below B0 hb23).src Tryz.underlying45 (one_prs _)) (fun g hg => Nat.lt_of_lt_of_le (hsub2 g hg) hb23.size) hb23.size (by unfold maxLen; omega) (by omega) ?_
  intro ao4 c4 w4 hown4 hk4 hb4 hd4
  have hb24 : Below w2.heap.size w2 w4 := hb23.trans hb4
  refine hK.out _ _ hb24 ?_
  (try simp only [Act.put, List.setIfInBounds_toArray, List.set_cons_zero, List.set_cons_succ])
  have hC2 := cloneInt_any a2 A.kids.length (A.kids.map (.int .i64)) w4 S (fun g hg => Nat.lt_of_lt_of_le (hsub2 g hg) hb24.size) (IsSl.below A2 hb24) (one_ints _) (by omega)
  have HC2 := Lib.hid hC2; clear hC2
  refine ord_e rfl rfl rfl ?_; intro K hK; go_simp
  refine HC2.out.mono ?_; rintro e w5 ⟨u2, rfl, hu2, hb5⟩
  have hb25 : Below w2.heap.size w2 w5 := hb24.trans (hb5.mono hb24.size)
  refine hK.out _ _ hb25 ?_
  (try simp only [Act.put, List.setIfInBounds_toArray, List.set_cons_zero, List.set_cons_succ])
  refine ord_e rfl rfl rfl ?_; intro K hK
  refine wp_app (.tmp 81) (.tmp 85) 133 133 rfl S w2.heap.size 3 1 8 _ Tryz.underlying133 info_int rfl u2 A.kids.length (A.kids.map (.int .i64)) rfl (hu2.base hb24.size) g2 B.kids.length (B.kids.map (.int .i64)) rfl ((IsSl.below B2 hb25).src Tryz.underlying133 (one_ints _)) (fun g hg => Nat.lt_of_lt_of_le (hsub2 g hg) hb25.size) hb25.size (by unfold maxLen; omega) (by omega) ?_
  intro ao6 c6 w6 hown6 hk6 hb6 hd6
  have hb26 : Below w2.heap.size w2 w6 := hb25.trans hb6
  refine hK.out _ _ hb26 ?_
  (try simp only [Act.put, List.setIfInBounds_toArray, List.set_cons_zero, List.set_cons_succ])
  repeat ((refine ord_q (v := ?_) rfl rfl (fun _ _ _ h => h) rfl (fun W hW => ?_) ?_); rotate_left; (focus ((try dsimp only at hW); have q0 := (hW.cell (p := ⟨na, 0, none⟩) lna).trans e0; have q1 := (hW.cell (p := ⟨na, 1, none⟩) lna).trans e1; have q2 := (hW.cell (p := ⟨na, 2, none⟩) lna).trans e2; have q3 := (hW.cell (p := ⟨nbb, 0, none⟩) lnb).trans f0; have q4 := (hW.cell (p := ⟨nbb, 1, none⟩) lnb).trans f1; have q5 := (hW.cell (p := ⟨nbb, 2, none⟩) lnb).trans f2; have q6 := Nat.lt_of_lt_of_le lna hW.size; have q7 := Nat.lt_of_lt_of_le lnb hW.size; first | (go_simp; first | done | with_reducible rfl))); (try simp only [Act.put, List.setIfInBounds_toArray, List.set_cons_zero, List.set_cons_succ]))
  refine ord_e rfl rfl rfl ?_; intro K hK; go_simp
  have hb7 := below_one w6 (.cells #[.slice ao4 (A.pairs.length + B.pairs.length) c4, .slice none 0 0, .slice ao6 (A.kids.length + B.kids.length) c6] 188)
  have hb27 : Below w2.heap.size w2 (w6.alloc (.cells #[.slice ao4 (A.pairs.length + B.pairs.length) c4, .slice none 0 0, .slice ao6 (A.kids.length + B.kids.length) c6] 188)) := hb26.trans (hb7.mono hb26.size)
  refine hK.out _ _ hb27 ?_
  (try simp only [Act.put, List.setIfInBounds_toArray, List.set_cons_zero, List.set_cons_succ])
  repeat ((refine ord_q (v := ?_) rfl rfl (fun _ _ _ h => h) rfl (fun W hW => ?_) ?_); rotate_left; (focus ((try dsimp only at hW); have q0 := (hW.cell (p := ⟨na, 0, none⟩) lna).trans e0; have q1 := (hW.cell (p := ⟨na, 1, none⟩) lna).trans e1; have q2 := (hW.cell (p := ⟨na, 2, none⟩) lna).trans e2; have q3 := (hW.cell (p := ⟨nbb, 0, none⟩) lnb).trans f0; have q4 := (hW.cell (p := ⟨nbb, 1, none⟩) lnb).trans f1; have q5 := (hW.cell (p := ⟨nbb, 2, none⟩) lnb).trans f2; have q6 := Nat.lt_of_lt_of_le lna hW.size; have q7 := Nat.lt_of_lt_of_le lnb hW.size; first | (go_simp; first | done | with_reducible rfl))); (try simp only [Act.put, List.setIfInBounds_toArray, List.set_cons_zero, List.set_cons_succ]))
  refine ord_nil ?_
  have hcn : IsNode (w6.alloc (.cells #[.slice ao4 (A.pairs.length + B.pairs.length) c4, .slice none 0 0, .slice ao6 (A.kids.length + B.kids.length) c6] 188)) S w6.heap.size ⟨A.pairs ++ B.pairs, [], A.kids ++ B.kids⟩ := by
   refine ⟨fun hs => absurd (hsub2 _ hs) (Nat.not_lt.2 hb26.size), _, _, _, heap_alloc_new w6 _, ?_, IsSl.nil _ _ _, ?_⟩
   ·have q1 := (hown4.below (hb5)).keep (w' := w6) (S' := S) (fun g hg hl hs => ⟨hk6.block g hl (fun e => OwnSl.ne2 (hown4.below hb5) (hu2.base hb24.size) (by decide) g hg e), hs⟩)
    have := (q1.below hb7).isSl
    unfold IsPrs
    rw [List.length_append, prCells_append]
    exact this
   ·have := (hown6.below hb7).isSl
    unfold IsInts
    rw [List.length_append, List.map_append]
    exact this
  have hnc : w2.heap.size ≤ w6.heap.size := hb26.size
  have hbC : (w6.alloc (.cells #[.slice ao4 (A.pairs.length + B.pairs.length) c4, .slice none 0 0, .slice ao6 (A.kids.length + B.kids.length) c6] 188)).heap[w6.heap.size]? = some (.cells #[.slice ao4 (A.pairs.length + B.pairs.length) c4, .slice none 0 0, .slice ao6 (A.kids.length + B.kids.length) c6] 188 (0, 0)) := heap_alloc_new w6 _
  have hz0 : (Value.slice ao4 (A.pairs.length + B.pairs.length) c4).ownBlock ≠ some w6.heap.size := hown4.lt' (Nat.le_trans hb5.size hb6.size)
  have hz2 : (Value.slice ao6 (A.kids.length + B.kids.length) c6).ownBlock ≠ some w6.heap.size := hown6.lt' (Nat.le_refl _)
  obtain ⟨_, _, _, _, hbC', hP7, _, hI7⟩ := id hcn
  rw [hbC] at hbC'
  cases hbC'
  clear hown4 hown6 hu0 hu2 hb3 hb4 hb5 hb6 hb7 hk4 hk6 hd4 hd6 hb23 hb24 hb25 hb26 hbd HC1 HC2
  generalize (w6.alloc (.cells #[.slice ao4 (A.pairs.length + B.pairs.length) c4, .slice none 0 0, .slice ao6 (A.kids.length + B.kids.length) c6] 188)) = w7 at hcn hb27 hbC hP7 hI7 ⊢
  generalize w6.heap.size = nc at hcn hnc hbC hz0 hz2 ⊢
  clear K hK
  have hHA7 := HA2.out.below hb27
  go_upto_if 91 with (first
   | (go_at_call 118; go_must ((refine (leaf_any na A _ S hHA7).mono ?_); rintro e w8 ⟨rfl, hw⟩; subst w8)))
  go_cut [] from 13 to 196 (fun wx => IsNode wx S nc (joinNd A B k2) ∧ Below w2.heap.size w2 wx)
  case first =>
   by_cases hAk : A.kids = []
   ·have hke : A.kids.isEmpty = true := by rw [hAk]; rfl
    have HAk := Lib.hid hAk; clear hAk
    rw [hke]
    go_wp2_with fail
    go_meet
    refine ⟨?_, hb27⟩
    have : joinNd A B k2 = ⟨A.pairs ++ B.pairs, [], A.kids ++ B.kids⟩ := by unfold joinNd; rw [if_pos HAk.out]
    rw [this]
    exact hcn
   ·
    have hke : A.kids.isEmpty = false := by cases hq : A.kids with | nil => exact absurd hq hAk | cons a b => rfl
    have hJe : joinNd A B k2 = ⟨A.pairs ++ B.pairs, A.keys ++ [k2] ++ B.keys, A.kids ++ B.kids⟩ := by unfold joinNd; rw [if_neg hAk]
    have HAk := Lib.hid hAk; clear hAk
    rw [hke]
    go_wp2_with fail
    have hcN := hcn
    have bC := hbC
    obtain ⟨_, nc1, _, _, _, _, lnc⟩ := cells3 bC
    have hN7 := HN.out.below (hbw2.trans (hb27.mono hbw2.size))
    obtain ⟨_, nv0, nv1, nv2, bN, _, hn1, _⟩ := hN7
    obtain ⟨_, n1, _, _, _, _, lnn⟩ := cells3 bN
    obtain ⟨kao, kcp, rfl, km0, km1, _, _⟩ := IsSl.form hn1
    obtain ⟨kb0, ko0, rfl, nk1⟩ := IsSl.at1 hn1 rfl j (.string k2) (by rw [List.getElem?_map, HK.out]; rfl)
    have lkk := World.block_lt_of_cell? w7 _ nk1
    have hkj : (j : Int) < (nd.keys.length : Int) := by have := HKK.out; omega
    have hbd : Below w7.heap.size w7 w7.drew := (Below.refl _ w7).drew
    have hsub7 : ∀ g, S g → g < w7.heap.size := fun g hg => Nat.lt_of_lt_of_le (hsub2 g hg) hb27.size
    have lak : A.keys.length ≤ 1000000 := by have := HA.out.fits.kk; omega
    have lbk : B.keys.length ≤ 1000000 := by have := HB.out.fits.kk; omega
    have e1 := (hb27.cell (p := ⟨na, 1, none⟩) lna).trans e1
    have f1 := (hb27.cell (p := ⟨nbb, 1, none⟩) lnb).trans f1
    have lna := Nat.lt_of_lt_of_le lna hb27.size
    have lnb := Nat.lt_of_lt_of_le lnb hb27.size
    have hC3 := cloneStr_any a1 A.keys.length (A.keys.map .string) w7.drew S hsub7 (IsSl.below (IsSl.below A1 hb27) hbd) (one_strs _) lak
    have HC3 := Lib.hid hC3; clear hC3
    refine wp_region_fork (fun W => Below w7.heap.size w7 W) (fun i => !([5, 13, 14, 19, 22].contains i)) [0, 1, 2, 3, 4, 6, 7, 8, 9, 10, 11, 12, 15, 16, 17, 18] 5 13 [13, 14, 19, 20, 21, 22] [5, 14, 19, 20, 21, 22] rfl (by kernel_rfl) hbd ?_
    repeat ((refine ordK_q (v := ?_) rfl rfl (fun _ _ _ h => h) rfl (fun W hW => ?_) ?_); rotate_left; (focus ((try dsimp only at hW); have q0 := (hW.cell (p := ⟨na, 1, none⟩) lna).trans e1; have q1 := (hW.cell (p := ⟨nbb, 1, none⟩) lnb).trans f1; have q2 := Nat.lt_of_lt_of_le lna hW.size; have q3 := Nat.lt_of_lt_of_le lnb hW.size; have q4 := (hW.cell (p := ⟨nb, 1, none⟩) lnn).trans n1; have q5 := Nat.lt_of_lt_of_le lnn hW.size; have q6 := (hW.cell (p := ⟨kb0, ko0 + j, none⟩) lkk).trans nk1; have q7 := Nat.lt_of_lt_of_le lkk hW.size; have q8 := (hW.cell (p := ⟨nc, 1, none⟩) lnc).trans nc1; have q9 := Nat.lt_of_lt_of_le lnc hW.size; first | (go_simp; first | done | with_reducible rfl))); (try simp only [Act.put, List.setIfInBounds_toArray, List.set_cons_zero, List.set_cons_succ]))
    refine ordK_nil (fork_two rfl rfl rfl rfl ?_ ?_)
    ·skip
     intro K hK; go_simp
     refine HC3.out.mono ?_; rintro e w9 ⟨u1, rfl, hu1, hb9⟩
     have hb79 : Below w7.heap.size w7 w9 := hbd.trans hb9
     refine hK.out _ _ hb79 ?_
     (try simp only [Act.put, List.setIfInBounds_toArray, List.set_cons_zero, List.set_cons_succ])
     refine ord_e rfl rfl rfl ?_; intro K hK; go_simp
     have hb10 := below_one w9 (.cells #[.string k2] 9)
     have hb710 : Below w7.heap.size w7 (w9.alloc (.cells #[.string k2] 9)) := hb79.trans (hb10.mono hb79.size)
     refine hK.out _ _ hb710 ?_
     (try simp only [Act.put, List.setIfInBounds_toArray, List.set_cons_zero, List.set_cons_succ])
     have hown := (hu1.below hb10)
     have hsrc : Src Tryz.prog 1 156 (.slice (some ⟨w9.heap.size, 0, none⟩) 1 1) 1 [.string k2] (w9.alloc (.cells #[.string k2] 9)) := src_new (w := w9) [.string k2] 9 1 1 1 rfl Tryz.underlying156 rfl (by intro u hu; rw [List.mem_singleton.1 hu]; rfl)
     generalize w9.alloc (.cells #[.string k2] 9) = w10 at hb710 hown hsrc ⊢
     generalize w9.heap.size = kb9 at hsrc ⊢
     refine ord_e rfl rfl rfl ?_; intro K hK
     refine wp_app (.tmp 97) (.tmp 105) 156 156 rfl S w7.heap.size 9 1 16 _ Tryz.underlying156 info_str rfl u1 A.keys.length (A.keys.map .string) rfl hown (.slice (some ⟨kb9, 0, none⟩) 1 1) 1 [.string k2] rfl hsrc (fun g hg => Nat.lt_of_lt_of_le (hsub7 g hg) hb710.size) hb710.size (by unfold maxLen; omega) (by omega) ?_
     intro ao11 c11 w11 hown11 hk11 hb11 hd11
     have hb711 : Below w7.heap.size w7 w11 := hb710.trans hb11
     refine hK.out _ _ hb711 ?_
     (try simp only [Act.put, List.setIfInBounds_toArray, List.set_cons_zero, List.set_cons_succ])
     refine ord_e rfl rfl rfl ?_; intro K hK
     refine wp_app (.tmp 106) (.tmp 110) 156 156 rfl S w7.heap.size 9 1 16 _ Tryz.underlying156 info_str rfl (.slice ao11 (A.keys.length + 1) c11) (A.keys.length + 1) _ rfl hown11 g1 B.keys.length (B.keys.map .string) rfl ((IsSl.below (IsSl.below B1 hb27) hb711).src Tryz.underlying156 (one_strs _)) (fun g hg => Nat.lt_of_lt_of_le (hsub7 g hg) hb711.size) hb711.size (by unfold maxLen; omega) (by omega) ?_
     intro ao12 c12 w12 hown12 hk12 hb12 hd12
     have hb712 : Below w7.heap.size w7 w12 := hb711.trans hb12
     refine hK.out _ _ hb712 ?_
     (try simp only [Act.put, List.setIfInBounds_toArray, List.set_cons_zero, List.set_cons_succ])
     repeat ((refine ord_q (v := ?_) rfl rfl (fun _ _ _ h => h) rfl (fun W hW => ?_) ?_); rotate_left; (focus ((try dsimp only at hW); have q0 := (hW.cell (p := ⟨na, 1, none⟩) lna).trans e1; have q1 := (hW.cell (p := ⟨nbb, 1, none⟩) lnb).trans f1; have q2 := Nat.lt_of_lt_of_le lna hW.size; have q3 := Nat.lt_of_lt_of_le lnb hW.size; have q4 := (hW.cell (p := ⟨nb, 1, none⟩) lnn).trans n1; have q5 := Nat.lt_of_lt_of_le lnn hW.size; have q6 := (hW.cell (p := ⟨kb0, ko0 + j, none⟩) lkk).trans nk1; have q7 := Nat.lt_of_lt_of_le lkk hW.size; have q8 := (hW.cell (p := ⟨nc, 1, none⟩) lnc).trans nc1; have q9 := Nat.lt_of_lt_of_le lnc hW.size; first | (go_simp; first | done | with_reducible rfl))); (try simp only [Act.put, List.setIfInBounds_toArray, List.set_cons_zero, List.set_cons_succ]))
     have hnc12 := (hb712.block nc lnc).trans bC
     obtain ⟨_, m1, _, _, mf, _, lm⟩ := cells3 hnc12
     refine ord_l rfl rfl rfl (by kernel_rfl) ?_; intro K hK; go_simp
     refine hK.out _ _ ?_
     refine ord_nil ?_
     go_wp2_with fail
     go_meet
     refine ⟨?_, hb27.trans ((hb712.mono hb27.size).setCell hnc _)⟩
     rw [hJe]
     exact node_setKeys hnc12 (fun hs => absurd (hsub2 _ hs) (Nat.not_lt.2 hnc)) (IsSl.below hP7 hb712) (IsSl.below hI7 hb712) hz0 hz2 (by
      have := hown12.isSl
      rw [show A.keys.map Value.string ++ [Value.string k2] ++ B.keys.map Value.string = (A.keys ++ [k2] ++ B.keys).map Value.string from by simp] at this
      unfold IsStrs
      rw [show (A.keys ++ [k2] ++ B.keys).length = A.keys.length + 1 + B.keys.length from by rw [List.length_append, List.length_append, List.length_singleton]]
      exact this) (hown12.ne hnc12 (by decide))
    ·skip
     intro K hK; go_simp
     have hb79 : Below w7.heap.size w7 (w7.alloc (.cells #[.string k2] 9)).drew := (below_one w7 (.cells #[.string k2] 9)).drew
     refine hK.out _ _ hb79 ?_
     (try simp only [Act.put, List.setIfInBounds_toArray, List.set_cons_zero, List.set_cons_succ])
     have hown0 := (own_new (w := w7) (S := S) (B := w7.heap.size) (e := 9) (k := 1) [.string k2] 1 1 rfl rfl (Nat.le_refl _) (by simp [maxLen]) (Nat.le_refl _) hsub7).drew
     generalize (w7.alloc (.cells #[.string k2] 9)).drew = w9 at hb79 hown0 ⊢
     have hC4 := cloneStr_any a1 A.keys.length (A.keys.map .string) w9 S (fun g hg => Nat.lt_of_lt_of_le (hsub7 g hg) hb79.size) (IsSl.below (IsSl.below A1 hb27) hb79) (one_strs _) lak
     have HC4 := Lib.hid hC4; clear hC4
     refine ord_e rfl rfl rfl ?_; intro K hK; go_simp
     refine HC4.out.mono ?_; rintro e w10 ⟨u1, rfl, hu1, hb10⟩
     have hb710 : Below w7.heap.size w7 w10 := hb79.trans (hb10.mono hb79.size)
     refine hK.out _ _ hb710 ?_
     (try simp only [Act.put, List.setIfInBounds_toArray, List.set_cons_zero, List.set_cons_succ])
     have hown := hu1.base (B := w7.heap.size) hb79.size
     have hsrc : Src Tryz.prog 1 156 (.slice (some ⟨w7.heap.size, 0, none⟩) 1 1) 1 [.string k2] w10 := (hown0.below hb10).isSl.src Tryz.underlying156 (by intro u hu; rw [List.mem_singleton.1 hu]; rfl)
     refine ord_e rfl rfl rfl ?_; intro K hK
     refine wp_app (.tmp 97) (.tmp 105) 156 156 rfl S w7.heap.size 9 1 16 _ Tryz.underlying156 info_str rfl u1 A.keys.length (A.keys.map .string) rfl hown (.slice (some ⟨w7.heap.size, 0, none⟩) 1 1) 1 [.string k2] rfl hsrc (fun g hg => Nat.lt_of_lt_of_le (hsub7 g hg) hb710.size) hb710.size (by unfold maxLen; omega) (by omega) ?_
     intro ao11 c11 w11 hown11 hk11 hb11 hd11
     have hb711 : Below w7.heap.size w7 w11 := hb710.trans hb11
     refine hK.out _ _ hb711 ?_
     (try simp only [Act.put, List.setIfInBounds_toArray, List.set_cons_zero, List.set_cons_succ])
     refine ord_e rfl rfl rfl ?_; intro K hK
     refine wp_app (.tmp 106) (.tmp 110) 156 156 rfl S w7.heap.size 9 1 16 _ Tryz.underlying156 info_str rfl (.slice ao11 (A.keys.length + 1) c11) (A.keys.length + 1) _ rfl hown11 g1 B.keys.length (B.keys.map .string) rfl ((IsSl.below (IsSl.below B1 hb27) hb711).src Tryz.underlying156 (one_strs _)) (fun g hg => Nat.lt_of_lt_of_le (hsub7 g hg) hb711.size) hb711.size (by unfold maxLen; omega) (by omega) ?_
     intro ao12 c12 w12 hown12 hk12 hb12 hd12
     have hb712 : Below w7.heap.size w7 w12 := hb711.trans hb12
     refine hK.out _ _ hb712 ?_
     (try simp only [Act.put, List.setIfInBounds_toArray, List.set_cons_zero, List.set_cons_succ])
     repeat ((refine ord_q (v := ?_) rfl rfl (fun _ _ _ h => h) rfl (fun W hW => ?_) ?_); rotate_left; (focus ((try dsimp only at hW); have q0 := (hW.cell (p := ⟨na, 1, none⟩) lna).trans e1; have q1 := (hW.cell (p := ⟨nbb, 1, none⟩) lnb).trans f1; have q2 := Nat.lt_of_lt_of_le lna hW.size; have q3 := Nat.lt_of_lt_of_le lnb hW.size; have q4 := (hW.cell (p := ⟨nb, 1, none⟩) lnn).trans n1; have q5 := Nat.lt_of_lt_of_le lnn hW.size; have q6 := (hW.cell (p := ⟨kb0, ko0 + j, none⟩) lkk).trans nk1; have q7 := Nat.lt_of_lt_of_le lkk hW.size; have q8 := (hW.cell (p := ⟨nc, 1, none⟩) lnc).trans nc1; have q9 := Nat.lt_of_lt_of_le lnc hW.size; first | (go_simp; first | done | with_reducible rfl))); (try simp only [Act.put, List.setIfInBounds_toArray, List.set_cons_zero, List.set_cons_succ]))
     have hnc12 := (hb712.block nc lnc).trans bC
     obtain ⟨_, m1, _, _, mf, _, lm⟩ := cells3 hnc12
     refine ord_l rfl rfl rfl (by kernel_rfl) ?_; intro K hK; go_simp
     refine hK.out _ _ ?_
     refine ord_nil ?_
     go_wp2_with fail
     go_meet
     refine ⟨?_, hb27.trans ((hb712.mono hb27.size).setCell hnc _)⟩
     rw [hJe]
     exact node_setKeys hnc12 (fun hs => absurd (hsub2 _ hs) (Nat.not_lt.2 hnc)) (IsSl.below hP7 hb712) (IsSl.below hI7 hb712) hz0 hz2 (by
      have := hown12.isSl
      rw [show A.keys.map Value.string ++ [Value.string k2] ++ B.keys.map Value.string = (A.keys ++ [k2] ++ B.keys).map Value.string from by simp] at this
      unfold IsStrs
      rw [show (A.keys ++ [k2] ++ B.keys).length = A.keys.length + 1 + B.keys.length from by rw [List.length_append, List.length_append, List.length_singleton]]
      exact this) (hown12.ne hnc12 (by decide))
  case rest =>
   obtain ⟨wb, rfl⟩ : ∃ x : World, x = wc := ⟨_, rfl⟩
   obtain ⟨hcJ, hb2c⟩ := hcut
   obtain ⟨aA, cA, rfl, _, _, _, _⟩ := IsSl.form A2
   obtain ⟨aB, cB, rfl, _, _, _, _⟩ := IsSl.form B2
   have e2 := (hb2c.cell (p := ⟨na, 2, none⟩) lna).trans e2
   have f2 := (hb2c.cell (p := ⟨nbb, 2, none⟩) lnb).trans f2
   have lna := Nat.lt_of_lt_of_le lna hb2c.size
   have lnb := Nat.lt_of_lt_of_le lnb hb2c.size
   have hJs := okJ.size_le
   go_upto_region 9 with fail
   go_cut [132] from 13 to 196 (fun x wx => x = .bool (decide (512 < (joinNd A B k2).size ∧ A.kids.length ≠ 1 ∧ B.kids.length ≠ 1)) ∧ Below wb.heap.size wb wx)
   case first =>
    by_cases t1 : 512 < (joinNd A B k2).size
    ·have s1 : (512 : Int) < ((joinNd A B k2).size : Int) := by omega
     have T1 := Lib.hid t1; clear t1
     by_cases t2 : A.kids.length = 1
     ·have s2 : (A.kids.length : Int) = 1 := by omega
      have T2 := Lib.hid t2; clear t2
      go_wp2_with (first
       | (go_at_call 179; go_must ((refine (size_any nc _ _ S hcJ hJs).mono ?_); rintro e w8 ⟨rfl, hb8⟩; have e3 := (hb8.cell (p := ⟨na, 2, none⟩) lna).trans e2; have f3 := (hb8.cell (p := ⟨nbb, 2, none⟩) lnb).trans f2; have lna3 := Nat.lt_of_lt_of_le lna hb8.size; have lnb3 := Nat.lt_of_lt_of_le lnb hb8.size; clear e2 f2)))
      go_meet
      exact ⟨by rw [decide_eq_false (fun h => h.2.1 T2.out)], hb8⟩
     ·have s2 : ¬ (A.kids.length : Int) = 1 := by omega
      have s2' : ((A.kids.length : Int) == 1) = false := by rw [beq_eq_false_iff_ne]; omega
      have T2 := Lib.hid t2; clear t2
      by_cases t3 : B.kids.length = 1
      ·have s3 : (B.kids.length : Int) = 1 := by omega
       have T3 := Lib.hid t3; clear t3
       go_wp2_with (first
        | (go_at_call 179; go_must ((refine (size_any nc _ _ S hcJ hJs).mono ?_); rintro e w8 ⟨rfl, hb8⟩; have e3 := (hb8.cell (p := ⟨na, 2, none⟩) lna).trans e2; have f3 := (hb8.cell (p := ⟨nbb, 2, none⟩) lnb).trans f2; have lna3 := Nat.lt_of_lt_of_le lna hb8.size; have lnb3 := Nat.lt_of_lt_of_le lnb hb8.size; clear e2 f2)))
       go_meet
       exact ⟨by rw [decide_eq_false (fun h => h.2.2 T3.out)], hb8⟩
      ·have s3 : ¬ (B.kids.length : Int) = 1 := by omega
       have s3' : ((B.kids.length : Int) == 1) = false := by rw [beq_eq_false_iff_ne]; omega
       have T3 := Lib.hid t3; clear t3
       go_wp2_with (first
        | (go_at_call 179; go_must ((refine (size_any nc _ _ S hcJ hJs).mono ?_); rintro e w8 ⟨rfl, hb8⟩; have e3 := (hb8.cell (p := ⟨na, 2, none⟩) lna).trans e2; have f3 := (hb8.cell (p := ⟨nbb, 2, none⟩) lnb).trans f2; have lna3 := Nat.lt_of_lt_of_le lna hb8.size; have lnb3 := Nat.lt_of_lt_of_le lnb hb8.size; clear e2 f2)))
       go_meet
       exact ⟨by rw [decide_eq_true ⟨T1.out, T2.out, T3.out⟩]; have q2 := T2.out; have q3 := T3.out; congr 1; rw [Bool.and_eq_true]; constructor <;> rw [bne_iff_ne] <;> omega, hb8⟩
    ·have s1 : ¬ (512 : Int) < ((joinNd A B k2).size : Int) := by omega
     have T1 := Lib.hid t1; clear t1
     go_wp2_with (first
      | (go_at_call 179; go_must ((refine (size_any nc _ _ S hcJ hJs).mono ?_); rintro e w8 ⟨rfl, hb8⟩; clear e2 f2)))
     go_meet
     exact ⟨by rw [decide_eq_false (fun h => T1.out h.1)], hb8⟩
   case rest =>
    obtain ⟨rfl, hbcd⟩ := hcut
    have hbw : Below w.heap.size w wc := (hbw2.trans (hb2c.mono hbw2.size)).trans (hbcd.mono (Nat.le_trans hbw2.size hb2c.size))
    have hcJ' := hcJ.below hbcd
    have hIc := HI.out.below hbw
    have hTc := (HT.out).step hst (Step.of_below (S := S) hbw)
    have hNc := HN.out.below hbw
    have hSJc := HSJ.out.step (Step.of_below (S := S) hbw) hst hSb hSp
    clear hb2c hbcd hcJ e2 f2 lna lnb hb27 hP7 hI7 hcn hbC hz0 hz2 hHA7 hb1 hb2 HI1 HI2 hsj2 e0 e1 f0 f1 A0 A1 B0 B1
    by_cases hout : 512 < (joinNd A B k2).size ∧ A.kids.length ≠ 1 ∧ B.kids.length ≠ 1
    ·have ho : decide (512 < (joinNd A B k2).size ∧ A.kids.length ≠ 1 ∧ B.kids.length ≠ 1) = true := decide_eq_true hout
     rw [ho]
     have HO := Lib.hid hout; clear hout ho
     go_wp2_with fail
     refine bodyPost_ret (results_none rfl _ _ _) rfl ?_
     exact .inl ⟨rfl, σ, S, nd, hIc, hNc, Keep.of_below hbw _, fun g hg => .inl hg, .inl ⟨HO.out.1, HO.out.2.1, HO.out.2.2, rfl, rfl⟩⟩
    ·have ho : decide (512 < (joinNd A B k2).size ∧ A.kids.length ≠ 1 ∧ B.kids.length ≠ 1) = false := decide_eq_false hout
     rw [ho]
     clear hout ho
     have hf1 := free_any mp σ S wc.drew b1 (hIc.below ((Below.refl _ wc).drew)) HA.out.lo HA.out.has
     have HF1 := Lib.hid hf1; clear hf1
     have hm : ∀ w, (method 458 113 mp.agg "Free").run Tryz.prog w = .ok (263, .pointer (some ⟨mp.mp, 0, none⟩)) w := fun _ => by kernel_rfl
     obtain ⟨q0, q1, q2, q3, q4, q5, q6⟩ := hSJc.cells
     clear q0 q1 q2 q3 q4 q5 q6
     have hj5 : (j : Int) < (nd.kids.length : Int) := by omega
     have hj6 : (j : Int) + 1 < (nd.kids.length : Int) := by omega
     go_wp2_with fail
     refine wp_region_ord (fun W => SJ t mp nb pb po j nd.kids.length cp2 root err b1 b2 v0 v1 W) (fun i => !([13, 14].contains i)) [0, 1, 2, 3, 4, 5, 6, 7, 8, 9, 10, 11, 12, 13, 14] rfl (by kernel_rfl) hSJc ?_
     repeat ((refine ord_q (v := ?_) rfl rfl (fun _ _ _ h => h) rfl (fun W hW => ?_) ?_); rotate_left; (focus ((try dsimp only at hW); obtain ⟨q0, q1, q2, q3, q4, q5, q6⟩ := hW.cells; first | (go_simp; first | done | with_reducible rfl))); (try simp only [Act.put, List.setIfInBounds_toArray, List.set_cons_zero, List.set_cons_succ]))
     refine ord_e rfl rfl rfl ?_; intro K hK; go_simp
     refine HF1.out.mono ?_; rintro e w3 ⟨rfl, hI3, hs3⟩
     have hs3 : Step S S wc w3 := (Step.of_below ((Below.refl _ wc).drew)).trans hs3
     have hSJ3 := hSJc.step hs3 hst hSb hSp
     refine hK.out _ _ hSJ3 ?_
     (try simp only [Act.put, List.setIfInBounds_toArray, List.set_cons_zero, List.set_cons_succ])
     refine ord_e rfl rfl rfl ?_; intro K hK; go_simp
     refine (must_ok _).mono ?_; rintro e w4 ⟨rfl, hw⟩; subst w4
     refine hK.out _ _ hSJ3 ?_
     refine ord_nil ?_
     have hf2 := free_any mp (σ.gone b1) S w3.drew b2 (hI3.below ((Below.refl _ w3).drew)) HB.out.lo HB2.out
     have HF2 := Lib.hid hf2; clear hf2
     have hpw : IntKind.i64.wrap ((j : Int) + 1) = (j : Int) + 1 := IntWalk.i64_in _ (by omega)
     have hpt : ((j : Int) + 1).toNat = j + 1 := by omega
     have hp0 : (0 : Int) ≤ (j : Int) + 1 := by omega
     go_wp2_with fail
     refine wp_region_ord (fun W => SJ t mp nb pb po j nd.kids.length cp2 root err b1 b2 v0 v1 W) (fun i => !([14, 15].contains i)) [0, 1, 2, 3, 4, 5, 6, 7, 8, 9, 10, 11, 12, 13, 14, 15] rfl (by kernel_rfl) hSJ3 ?_
     repeat ((refine ord_q (v := ?_) rfl rfl (fun _ _ _ h => h) rfl (fun W hW => ?_) ?_); rotate_left; (focus ((try dsimp only at hW); obtain ⟨q0, q1, q2, q3, q4, q5, q6⟩ := hW.cells; first | (go_simp; first | done | with_reducible rfl))); (try simp only [Act.put, List.setIfInBounds_toArray, List.set_cons_zero, List.set_cons_succ]))
     refine ord_e rfl rfl rfl ?_; intro K hK; go_simp
     refine HF2.out.mono ?_; rintro e w4 ⟨rfl, hI4, hs4⟩
     have hs4 : Step S S w3 w4 := (Step.of_below ((Below.refl _ w3).drew)).trans hs4
     have hSJ4 := hSJ3.step hs4 hst hSb hSp
     refine hK.out _ _ hSJ4 ?_
     (try simp only [Act.put, List.setIfInBounds_toArray, List.set_cons_zero, List.set_cons_succ])
     refine ord_e rfl rfl rfl ?_; intro K hK; go_simp
     refine (must_ok _).mono ?_; rintro e w5 ⟨rfl, hw⟩; subst w5
     refine hK.out _ _ hSJ4 ?_
     refine ord_nil ?_
     clear hpw hpt hp0
     have hs14 : Step S S wc w4 := hs3.trans hs4
     have hT4 := hTc.1.step hTc.2 hs14
     have hJ4 := hcJ'.step hs14
     have hN4 := hNc.step hs14
     have hst4 : Step S S w w4 := (Step.of_below hbw).trans hs14
     clear hSJc hSJ3 hSJ4 hIc hTc hNc hI3 hs3 hs4 hcJ'
     go_wp2_with (first
      | (go_at_call 144; go_must ((refine (spread_any t mp root err _ ((σ.gone b1).gone b2) S nc (joinNd A B k2) ⟨#[]⟩ w4 hI4 hT4.1 hT4.2 hJ4 okJ (Nat.lt_succ_self _)).mono ?_); rintro e w5 (⟨v, ps, zs, σ', S', rfl, hown, hspr, hputs, hI5, hs5⟩ | ⟨hno, rfl, τ, Sτ, g1, g2, g3, g4⟩) <;> refine Stop.of ?_)))
     rotate_left
     ·refine Stop.on ?_
      exact ⟨rfl, .inr ⟨hno, rfl, τ, Sτ, g1, hst4.trans g2, g3, g4⟩⟩
     refine Stop.on ?_
     have hst5 : Step S S' w w5 := hst4.trans hs5
     obtain ⟨hSb5, n0, n1, n2, bN, N0, N1, N2⟩ := HN.out.step hst5
     obtain ⟨ao0, cp0, rfl, _, _, _, _⟩ := IsSl.form N0
     obtain ⟨ao1, cp1, rfl, _, _, _, _⟩ := IsSl.form N1
     obtain ⟨ao2, cp2', rfl, _, _, _, _⟩ := IsSl.form N2
     have hkpos : 0 < nd.keys.length := by have := HKK.out; omega
     have hkl : nd.keys.length ≤ 1000000 := by have := HKK.out; omega
     have hjk : j < nd.keys.length := by have := HKK.out; omega
     have hne1 := strs_ne bN N1 hkpos
     obtain ⟨_, _, y2, _, _, _, ly⟩ := cells3 bN
     have hC5 := cloneInt_any (.slice ao2 nd.kids.length cp2') nd.kids.length (nd.kids.map (.int .i64)) w5 S' hI5.sub N2 (one_ints _) (by omega)
     have HC5 := Lib.hid hC5; clear hC5
     have hpw : IntKind.i64.wrap ((j : Int) + 1) = (j : Int) + 1 := IntWalk.i64_in _ (by omega)
     have hpw2 : IntKind.i64.wrap ((j : Int) + 2) = (j : Int) + 2 := IntWalk.i64_in _ (by omega)
     go_wp2_with (first
      | (go_at_call 185; go_must (refine HC5.out.mono ?_; rintro e w6 ⟨u1, rfl, hu1, hb6⟩; refine Stop.of ?_)))
     refine Stop.on ?_
     obtain ⟨g6, c6', rfl, _, _, hg6, _⟩ := hu1.form2 (by omega)
     have hD6 := delInt_any g6 c6' nd.kids.length (j + 1) (nd.kids.map (.int .i64)) w6 S' w5.heap.size hu1 (one_ints _) (by omega) (by omega)
     rw [show ((j + 1 : Nat) : Int) = (j : Int) + 1 from by omega, show (j : Int) + 1 + 1 = (j : Int) + 2 from by omega] at hD6
     have HD6 := Lib.hid hD6; clear hD6
     go_wp2_with (first
      | (go_at_call 188; go_must (refine HD6.out.mono ?_; rintro e w7 ⟨c7, rfl, hu7, hk7⟩; refine Stop.of ?_)))
     refine Stop.on ?_
     have hgb : nb ≠ g6 := fun e => by rw [← e] at hg6; exact absurd ly (Nat.not_lt.2 hg6)
     have ly6 := Nat.lt_of_lt_of_le ly hb6.size
     have bN7 : w7.heap[nb]? = some (.cells #[.slice ao0 nd.pairs.length cp0, .slice ao1 nd.keys.length cp1, .slice ao2 nd.kids.length cp2'] 188 (0, 0)) := (hk7.block nb ly6 hgb).trans ((hb6.block nb ly).trans bN)
     have hb57 : Below w5.heap.size w5 w7 := hb6.trans (hk7.toBelow hb6.size (fun i hi e => absurd hg6 (Nat.not_le.2 (by rw [← e]; exact hi))))
     obtain ⟨_, _, z2, _, _, zf, lz⟩ := cells3 bN7
     clear y2
     go_upto_region 14 with fail
     have hk8 : Keep (· = nb) w7 (w7.setCell ⟨nb, 2, none⟩ (.slice (some ⟨g6, 0, none⟩) (nd.kids.length - 1) c7)) := Keep.setCell (M := (· = nb)) (p := ⟨nb, 2, none⟩) (Keep.refl _ _) (.inr rfl) _
     have bN8 : (w7.setCell ⟨nb, 2, none⟩ (.slice (some ⟨g6, 0, none⟩) (nd.kids.length - 1) c7)).heap[nb]? = some (.cells #[.slice ao0 nd.pairs.length cp0, .slice ao1 nd.keys.length cp1, .slice (some ⟨g6, 0, none⟩) (nd.kids.length - 1) c7] 188 (0, 0)) := by
      simp [World.setCell, Array.getElem?_modify, bN7]
     clear z2 zf lz
     generalize w7.setCell ⟨nb, 2, none⟩ (.slice (some ⟨g6, 0, none⟩) (nd.kids.length - 1) c7) = w8 at hk8 bN8 ⊢
     have N18 : IsStrs w8 S' (.slice ao1 nd.keys.length cp1) nd.keys := IsSl.keep (IsSl.below N1 hb57) fun g hg hl hs => ⟨hk8.block g hl (fun e => hne1 (by rw [hg, e])), hs⟩
     have hu8 := hu7.keep (w' := w8) (S' := S') fun g hg hl hs => ⟨hk8.block g hl (fun e => hu7.ne bN7 (by decide) (by rw [hg, e])), hs⟩
     have hbw8 : ∀ g, g < w5.heap.size → g ≠ nb → w8.heap[g]? = w5.heap[g]? := fun g hg hn => (hk8.block g (Nat.lt_of_lt_of_le hg hb57.size) hn).trans (hb57.block g hg)
     have hsz8 : w5.heap.size ≤ w8.heap.size := Nat.le_trans hb57.size hk8.size
     have hsub8 : ∀ g, S' g → g < w8.heap.size := fun g hg => Nat.lt_of_lt_of_le (hI5.sub g hg) hsz8
     obtain ⟨_, y1, _, _, _, _, ly8⟩ := cells3 bN8
     have hC8 := cloneStr_any (.slice ao1 nd.keys.length cp1) nd.keys.length (nd.keys.map .string) w8 S' hsub8 N18 (one_strs _) hkl
     have HC8 := Lib.hid hC8; clear hC8
     go_wp2_with (first
      | (go_at_call 187; go_must (refine HC8.out.mono ?_; rintro e w9 ⟨u2, rfl, hu9, hb9⟩; refine Stop.of ?_)))
     refine Stop.on ?_
     obtain ⟨g9, c9, rfl, _, _, hg9, _⟩ := hu9.form2 hkpos
     have hD9 := delStr_any g9 c9 nd.keys.length j (nd.keys.map .string) w9 S' w8.heap.size hu9 (one_strs _) hjk hkl
     have HD9 := Lib.hid hD9; clear hD9
     go_wp2_with (first
      | (go_at_call 189; go_must (refine HD9.out.mono ?_; rintro e w10 ⟨c10, rfl, hu10, hk10⟩; refine Stop.of ?_)))
     refine Stop.on ?_
     have hgb9 : nb ≠ g9 := fun e => by rw [← e] at hg9; exact absurd ly8 (Nat.not_lt.2 hg9)
     have bN10 : w10.heap[nb]? = some (.cells #[.slice ao0 nd.pairs.length cp0, .slice ao1 nd.keys.length cp1, .slice (some ⟨g6, 0, none⟩) (nd.kids.length - 1) c7] 188 (0, 0)) := (hk10.block nb (Nat.lt_of_lt_of_le ly8 hb9.size) hgb9).trans ((hb9.block nb ly8).trans bN8)
     have hb810 : Below w8.heap.size w8 w10 := hb9.trans (hk10.toBelow hb9.size (fun i hi e => absurd hg9 (Nat.not_le.2 (by rw [← e]; exact hi))))
     obtain ⟨_, z1, _, _, zf, _, lz⟩ := cells3 bN10
     clear y1
     go_upto_region 15 with fail
     have hk11 : Keep (· = nb) w10 (w10.setCell ⟨nb, 1, none⟩ (.slice (some ⟨g9, 0, none⟩) (nd.keys.length - 1) c10)) := Keep.setCell (M := (· = nb)) (p := ⟨nb, 1, none⟩) (Keep.refl _ _) (.inr rfl) _
     have bN11 : (w10.setCell ⟨nb, 1, none⟩ (.slice (some ⟨g9, 0, none⟩) (nd.keys.length - 1) c10)).heap[nb]? = some (.cells #[.slice ao0 nd.pairs.length cp0, .slice (some ⟨g9, 0, none⟩) (nd.keys.length - 1) c10, .slice (some ⟨g6, 0, none⟩) (nd.kids.length - 1) c7] 188 (0, 0)) := by
      simp [World.setCell, Array.getElem?_modify, bN10]
     clear z1 zf lz
     generalize w10.setCell ⟨nb, 1, none⟩ (.slice (some ⟨g9, 0, none⟩) (nd.keys.length - 1) c10) = w11 at hk11 bN11 ⊢
     have hu11 := hu10.keep (w' := w11) (S' := S') fun g hg hl hs => ⟨hk11.block g hl (fun e => hu10.ne bN10 (by decide) (by rw [hg, e])), hs⟩
     have hu811 := (hu8.below hb810).keep (w' := w11) (S' := S') fun g hg hl hs => ⟨hk11.block g hl (fun e => (hu8.below hb810).ne bN10 (by decide) (by rw [hg, e])), hs⟩
     have hsz11 : w5.heap.size ≤ w11.heap.size := Nat.le_trans hsz8 (Nat.le_trans hb810.size hk11.size)
     have hbw11 : ∀ g, g < w5.heap.size → g ≠ nb → w11.heap[g]? = w5.heap[g]? := fun g hg hn => (hk11.block g (Nat.lt_of_lt_of_le hg (Nat.le_trans hsz8 hb810.size)) hn).trans ((hb810.block g (Nat.lt_of_lt_of_le hg hsz8)).trans (hbw8 g hg hn))
     have hkeep : Keep (· = nb) w5 w11 := ⟨hk11.os.trans (hb810.os.trans (hk8.os.trans hb57.os)), hk11.tape.trans (hb810.tape.trans (hk8.tape.trans hb57.tape)), hk11.output.trans (hb810.output.trans (hk8.output.trans hb57.output)), hsz11, fun g hg hn => hbw11 g hg hn⟩
     have hlenk : (nd.delAt j).kids.length = nd.kids.length - 1 := by simp [Nd.delAt]; omega
     have hlenks : (nd.delAt j).keys.length = nd.keys.length - 1 := by simp [Nd.delAt]; omega
     have hN11 : IsNode w11 S' nb (nd.delAt j) := by
      refine ⟨hSb5, _, _, _, bN11, ?_, ?_, ?_⟩
      ·have e : (nd.delAt j).pairs = [] := HP.out
       rw [e]
       have N0' := N0
       unfold IsPrs at N0' ⊢
       rw [HP.out] at N0' ⊢
       exact IsSl.empty N0' hsz11
      ·have := hu11.isSl
       unfold IsStrs
       rw [hlenks]
       have e : (nd.delAt j).keys.map Value.string = (nd.keys.map Value.string).take (j * 1) ++ (nd.keys.map Value.string).drop ((j + 1) * 1) := by simp [Nd.delAt, List.map_take, List.map_drop]
       rw [e]; exact this
      ·have := hu811.isSl
       unfold IsInts
       rw [hlenk]
       have e : (nd.delAt j).kids.map (Value.int .i64) = (nd.kids.map (Value.int .i64)).take ((j + 1) * 1) ++ (nd.kids.map (Value.int .i64)).drop ((j + 1 + 1) * 1) := by simp [Nd.delAt, List.map_take, List.map_drop]
       rw [e]; exact this
     have hown11 := hown.keep (w' := w11) (S' := S') fun g hg hl hs => ⟨hkeep.block g hl (fun e => hown.ne bN (by decide) (by rw [hg, e])), hs⟩
     have hI11 := hI5.keepM hkeep (fun g hg e => hSb5 (by rw [← e]; exact hg))
     have hpl : ps.length ≤ 100000 := by
      have e1 := hputs.length.1
      have e2 := hspr.room okJ
      have e3 := room_le okJ
      omega
     have hR := replace_any nb (nd.delAt j) v ps j w11 S' hI11.sub hN11 HP.out hown11.isSl (by rw [hlenk]; omega) (by rw [hlenk, hlenks, HKK.out]) (by rw [hlenk]; omega) hpl
     have HRp := Lib.hid hR; clear hR
     have HSP := Lib.hid hspr; clear hspr
     have HPU := Lib.hid hputs; clear hputs
     go_wp2_with (first
      | (go_at_call 147; go_must (refine HRp.out.mono ?_; rintro e w12 ⟨rfl, hN12, hk12⟩)))
     go_end0
     refine .inl ⟨rfl, σ', S', _, hI11.keepM hk12 (fun g hg e => hSb5 (by rw [← e]; exact hg)), hN12, ?_, hst5.2, .inr ⟨ps, zs, HSP.out, HPU.out, rfl⟩⟩
     exact ((hst5.1.mono (fun _ _ h => .inl h)).trans hkeep (fun _ _ h => .inr h)).trans hk12 (fun _ _ h => .inr h)
def RoomL (L : Nat) (σ : MSt) (bs : List Int) (n : Nat) : Prop := σ.sz + 2 * n ≤ L + nh σ bs
theorem Chg.roomL {L : Nat} {σ σ' : MSt} {us bs : List Int} {n : Nat} (h : Chg σ σ' us bs) (r : RoomL L σ us n) : RoomL L σ' bs n := by
 have := h.size
 unfold RoomL at *
 rw [nh_eq h.H]; omega
def Pk (σ σ' : MSt) (bs : List Int) (n : Nat) : Prop := ∀ L, RoomL L σ bs n → σ.tk ≤ L → σ'.tk ≤ L
theorem Pk.refl (σ : MSt) (bs : List Int) (n : Nat) : Pk σ σ bs n := fun _ _ t => t
theorem Pk.trans {σ σ1 σ2 : MSt} {us bs : List Int} {n : Nat} (a : Pk σ σ1 us n) (h : Chg σ σ1 us bs) (b : Pk σ1 σ2 bs n) : Pk σ σ2 us n := fun L r t => b L (h.roomL r) (a L r t)
theorem puts_tk {nd : Nd} {l : ByteArray} {zs : List (ByteArray × Nd)} (hs : Spr nd l zs) (ok : nd.Ok) {σ σ' : MSt} {ps : List Pc} (hp : Puts σ ps zs σ') {L : Nat} (hr : σ.sz + nd.room ≤ L) (t : σ.tk ≤ L) : σ'.tk ≤ L := by
 have e1 := hs.room ok
 obtain ⟨_, e2, _, _, e3⟩ := hp.length
 omega
def EditPost (mp : VS) (σ : MSt) (S : Nat → Prop) (h : Nat) (lo : ByteArray) (hi : Option ByteArray) (cs : List Pr) (bs : List Int) (n : Nat) (w : World) (e : Ending) (w' : World) : Prop :=
 (∃ v ps σ' S' bs' m, e = .returned v ∧ OwnSl w' S' w.heap.size 243 2 v ps.length (pcCells ps) ∧ Pcs σ' h m lo hi ps cs bs' ∧ Chg σ σ' bs bs' ∧ Pk σ σ' bs n ∧ Inv σ' S' mp w' ∧ Step S S' w w') ∨ (¬ Room σ bs n ∧ Gave mp σ S w e w')
def EditIH (t : Nat) (mp : VS) (root err : Int) (key : ByteArray) (g : Nat) (cb : Array Value) (F : List Pr → List Pr) (vs : List (Nat × ByteArray)) (h : Nat) : Prop :=
 ∀ (σ : MSt) (S : Nat → Prop) (b deep : Int) (least lo : ByteArray) (hi : Option ByteArray) (cs : List Pr) (bs : List Int) (w : World), Inv σ S mp w → TreeAt w t mp root err → ¬ S t → Boxes w S vs → TrM σ h 2 lo hi b cs bs → bs.Nodup → Within lo hi key → deep + h ≤ 40 → 0 ≤ deep → least.size ≤ 128 →
  Calls Tryz.prog 112 #[.pointer (some ⟨t, 0, none⟩), .int .i64 b, .int .i64 deep, .string key, .string least, .func (.func g) #[] cb] w (EditPost mp σ S h lo hi (F cs) bs (cs.length + 1) w)
theorem spr_pcs {nd : Nd} {l : ByteArray} {zs : List (ByteArray × Nd)} (hs : Spr nd l zs) {σ σ' : MSt} {ps : List Pc} {lo : ByteArray} {hi : Option ByteArray} {h : Nat} {cs : List Pr} {bs : List Int} (ok : nd.Ok) (hr : NdRow σ h lo hi nd cs bs) (hp : Puts σ ps zs σ') (hc : Cln σ) (hn : bs.Nodup) (hb : ∀ x ∈ bs, σ.hasB x = true) (hl : l.size ≤ 128) (hroom : nd.room ≤ 900) :
  ∃ m bs', Pcs σ' h m lo hi ps cs bs' ∧ Chg σ σ' bs bs' := by
 have hlen : ps.length ≤ 900 := by
  have e1 := hs.room ok
  have e2 := hp.length.1
  omega
 have hkey := hp.keys (hs.keys ok hl)
 by_cases h2 : h = 0 ∨ 2 ≤ nd.kids.length
 ·obtain ⟨bs', q1, q2⟩ := spread_row hs (m := 2) ok hr hp hc (Nat.le_refl 2) (by rcases h2 with h2 | h2; exact .inl h2; exact .inr h2) hn hb
  exact ⟨2, bs', ⟨q1, hkey, hlen, by omega, by omega, .inl rfl⟩, q2⟩
 ·obtain ⟨h', rfl⟩ : ∃ d, h = d + 1 := ⟨h - 1, by omega⟩
  have hk := hr.1
  have hk1 := List.length_pos_iff.2 hk
  obtain ⟨bs', q1, q2⟩ := spread_row hs (m := 1) ok hr hp hc (by omega) (.inr (by omega)) hn hb
  refine ⟨1, bs', ⟨q1, hkey, hlen, by omega, by omega, .inr ?_⟩, q2⟩
  have e2 := hp.length.1
  have hsz : nd.size ≤ 512 := by
   rcases Nat.lt_or_ge 512 nd.size with h5 | h5
   ·have := (ok.big h5).2 hk; omega
   ·exact h5
  cases hs with
  | none h1 _ => exact absurd h1 hk
  | one _ _ => simpa using e2
  | leaf _ _ _ h2 => omega
  | inner _ _ _ h2 => omega
theorem edit_h0 (t : Nat) (mp : VS) (root err : Int) (key : ByteArray) (g : Nat) (cb : Array Value) (F : List Pr → List Pr) (vs : List (Nat × ByteArray)) (hent : ∀ args w, (callFunc g args).run Tryz.prog w = .ok (.enter g args) w) (hf : EditC g cb F vs) (hF : LocF F key) : EditIH t mp root err key g cb F vs 0 := by
 intro σ S b deep least lo hi cs bs w h ht hst hbx hT hn hw hd hd0 hl
 obtain ⟨nd, h1, h2, h3, h4, h5, h6, h7, h8⟩ := hT
 subst h4 h8
 have hlen := hF.len nd.pairs
 have hnp := h1.fits.np
 have ok : Nd.Ok ⟨F nd.pairs, [], []⟩ := ⟨fun p hp => by
  rcases hF.mem _ h6 p hp with h | h
  ·exact h2.pr p h
  ·exact h.2, by simp, by simp, rfl, by simp, by show (F nd.pairs).length ≤ 2000; omega, by simp⟩
 have hc1 := chg_gone h h1.has
 refine (edit_leaf t mp root err b deep σ S key least nd g cb F vs hent hf w h ht hst hbx h1 h3 (by omega) h6 ok).mono ?_
 rintro e w' (⟨v, ps, zs, σ', S', rfl, p2, p3, p4, p5, p6⟩ | ⟨hno, hg⟩)
 rotate_left
 ·refine .inr ⟨fun hR => ?_, hg.after (Step.refl S w) rfl rfl⟩
  have hR1 := hc1.room hR
  unfold Room at hR1; simp [nh] at hR1; unfold Nd.room at hno; simp only [if_true] at hno; omega
 have hcl := hc1.cln h.cln
 obtain ⟨m, bs', q1, q2⟩ := spr_pcs p3 (lo := lo) (hi := hi) (h := 0) (cs := F nd.pairs) (bs := []) ok ⟨rfl, rfl, hF.rise _ h6, fun p hp => by
  rcases hF.mem _ h6 p hp with h | h
  ·exact h7 p h
  ·rw [h.1]; exact hw, rfl⟩ p4 hcl List.nodup_nil (by simp) hl (by unfold Nd.room; simp only [if_true]; omega)
 refine .inl ⟨v, ps, σ', S', bs', m, rfl, p2, q1, hc1.trans q2, fun L r t => puts_tk p3 ok p4 ?_ t, p5, p6⟩
 have hR1 := hc1.roomL r
 unfold RoomL at hR1; simp [nh] at hR1; unfold Nd.room; simp only [if_true]; omega
structure EdN (σ : MSt) (h : Nat) (lo : ByteArray) (hi : Option ByteArray) (b : Int) (cs : List Pr) (bs : List Int) (key : ByteArray) (nd : Nd) (L : List (ByteArray × Int)) (k : ByteArray) (kb : Int) (M : List (ByteArray × Int)) (cl c cm : List Pr) (bl x bm : List Int) : Prop where
 blk : Blk σ b nd
 ok : nd.Ok
 kids : 2 ≤ nd.kids.length
 row : RowOf nd lo (L ++ (k, kb) :: M)
 l : RowL (TrM σ h 2) (some k) L cl bl
 t : TrM σ h 2 k (nextLo M hi) kb c x
 m : RowL (TrM σ h 2) hi M cm bm
 cs : cs = cl ++ (c ++ cm)
 bs : bs = b :: (bl ++ (x ++ bm))
 at_ : L.length = kidAt nd.keys key
 w : Within k (nextLo M hi) key
 rise : Rising nd.keys
 lo1 : ∀ k1 b1 M', M = (k1, b1) :: M' → lt k1 lo = false
theorem ed_open {σ : MSt} {h : Nat} {lo : ByteArray} {hi : Option ByteArray} {b : Int} {cs : List Pr} {bs : List Int} {key : ByteArray} (ht : TrM σ (h + 1) 2 lo hi b cs bs) (hw : Within lo hi key) :
  ∃ nd L k kb M cl c cm bl x bm, EdN σ h lo hi b cs bs key nd L k kb M cl c cm bl x bm := by
 obtain ⟨nd, bs', h1, h2, h3, h4, h5, h6⟩ := ht
 have hro := rowOf h2 h3 lo
 have hri := TrM.rising h2 h3 h6
 obtain ⟨b0, l, e, e2, e3⟩ := zip_lows h2.kk h3 lo
 have er : nd.row lo = (lo, b0) :: l := e
 obtain ⟨L, k, kb, M, q1, q2, q3, q4⟩ := row_split (b := b0) (r := l) (key := key) hw.1
 rw [er] at hro h6
 rw [q1] at hro h6
 have hlows := RowL.lows (fun k z b c x ht => TrM.content ht) (by rw [← q1] at h6; exact h6)
 obtain ⟨cl, cr, bl, br, r1, ⟨c, cm, x, bm, tk, rm, rfl, rfl⟩, rfl, rfl⟩ := h6.split
 refine ⟨nd, L, k, kb, M, cl, c, cm, bl, x, bm, h1, h2, h4, hro, r1, tk, rm, rfl, h5, by rw [q2, e2], ⟨q3, fun y hy => ?_⟩, hri, fun k1 b1 M' hM => ?_⟩
 ·cases M with
  | nil => exact hw.2 y hy
  | cons m M => obtain ⟨k1, b1⟩ := m; cases hy; exact q4 _ _ _ rfl
 ·subst hM
  have hmem : (k1, b1) ∈ (lo, b0) :: l := by rw [q1]; simp
  rcases List.mem_cons.1 hmem with h | h
  ·cases h; exact lt_irrefl _
  ·exact lt_asymm ((List.pairwise_cons.1 hlows).1 k1 (List.mem_map_of_mem h))
theorem ed_loc {σ : MSt} {h : Nat} {lo : ByteArray} {hi : Option ByteArray} {b : Int} {cs : List Pr} {bs : List Int} {key : ByteArray} {nd : Nd} {L : List (ByteArray × Int)} {k : ByteArray} {kb : Int} {M : List (ByteArray × Int)} {cl c cm : List Pr} {bl x bm : List Int} (hE : EdN σ h lo hi b cs bs key nd L k kb M cl c cm bl x bm) {F : List Pr → List Pr} (hF : LocF F key) : F cs = cl ++ (F c ++ cm) := by
 rw [hE.cs, ← List.append_assoc, hF.loc cl c cm, List.append_assoc]
 ·intro p hp
  have : ∀ {l : List (ByteArray × Int)} {cl : List Pr} {bl : List Int}, RowL (TrM σ h 2) (some k) l cl bl → ∀ p ∈ cl, lt p.1 k = true := by
   intro l cl bl hl p hp
   cases l with
   | nil => obtain ⟨rfl, _⟩ := hl; cases hp
   | cons q l =>
    have := RowL.content (fun k z b c x ht => TrM.content ht) hl
    exact (this.within p hp).2 k rfl
  exact lt_le (this hE.l p hp) hE.w.1
 ·intro p hp
  have hm := hE.m
  cases M with
  | nil => obtain ⟨rfl, _⟩ := hm; cases hp
  | cons q M =>
   obtain ⟨k1, b1⟩ := q
   have := RowL.content (fun k z b c x ht => TrM.content ht) hm
   exact lt_le (hE.w.2 k1 rfl) (this.within p hp).1
theorem pair_roomL {Lr : Nat} {σ σ2 : MSt} {h : Nat} {hi : Option ByteArray} {k1 k2 : ByteArray} {A B : Nd} {L M : List (ByteArray × Int)} {cl ca cb cm : List Pr} {bl xa xb bm : List Int} {n : Nat} (okA : A.Ok) (okB : B.Ok) (hl : RowL (TrM σ h 2) (some k1) L cl bl) (hm : RowL (TrM σ h 2) hi M cm bm) (nA : NdRow σ h k1 (some k2) A ca xa) (nB : NdRow σ h k2 (nextLo M hi) B cb xb) (hr : RoomL Lr σ2 (bl ++ ((xa ++ xb) ++ bm)) n) (hn : (cl ++ (ca ++ (cb ++ cm))).length ≤ n) :
  σ2.sz + (joinNd A B k2).room ≤ Lr := by
 have e1 := RowL.count (fun _ _ _ _ _ ht => TrM.count ht (Nat.le_refl 2)) hl
 have e2 := RowL.count (fun _ _ _ _ _ ht => TrM.count ht (Nat.le_refl 2)) hm
 have f1 := nh_le σ2 bl
 have f2 := nh_le σ2 (xa ++ xb)
 have f3 := nh_le σ2 bm
 unfold RoomL at hr
 rw [nh_append, nh_append] at hr
 simp only [List.length_append] at hn f2
 cases h with
 | zero =>
  obtain ⟨a1, rfl, _, _, rfl⟩ := nA
  obtain ⟨b1, rfl, _, _, rfl⟩ := nB
  have : (joinNd A B k2).room = A.pairs.length + B.pairs.length := by simp [Nd.room, joinNd, a1, b1]
  rw [this]
  simp only [List.length_nil] at f2
  omega
 | succ h =>
  have g1 := RowL.count (fun _ _ _ _ _ ht => TrM.count ht (Nat.le_refl 2)) nA.2
  have g2 := RowL.count (fun _ _ _ _ _ ht => TrM.count ht (Nat.le_refl 2)) nB.2
  rw [A.row_length okA nA.1] at g1
  rw [B.row_length okB nB.1] at g2
  have p1 := List.length_pos_iff.2 nA.1
  have p2 := List.length_pos_iff.2 nB.1
  have : (joinNd A B k2).room ≤ A.kids.length + B.kids.length := by
   simp [Nd.room, joinNd, okA.one nA.1, okB.one nB.1, nA.1]; omega
  omega
theorem join_mid (t : Nat) (mp : VS) (root err : Int) (σ : MSt) (S : Nat → Prop) (nb : Nat) (nd : Nd) (i : Nat) (deep : Int) (h : Nat) (hi : Option ByteArray) (lo : ByteArray) (R : List (ByteArray × Int)) (cs : List Pr) (bs : List Int) (n : Nat) (w : World) (hI : Inv σ S mp w) (ht : TreeAt w t mp root err) (hst : ¬ S t) (hn : IsNode w S nb nd) (ok : nd.Ok) (hR : RowOf nd lo R) (hM : Mid σ h hi R i cs bs) (hnd : bs.Nodup) (hd : deep ≤ 40) (hcs : cs.length ≤ n) (hl : R.length ≤ 1160) :
  Calls Tryz.prog 148 #[.pointer (some ⟨t, 0, none⟩), .pointer (some ⟨nb, 0, none⟩), .int .i64 i, .int .i64 deep] w fun e w' => (e = .returned (.tuple #[]) ∧ ∃ σ' S' nd' R' bs', Inv σ' S' mp w' ∧ IsNode w' S' nb nd' ∧ RowOf nd' lo R' ∧ RowL (TrM σ' h 2) hi R' cs bs' ∧ Chg σ σ' bs bs' ∧ Pk σ σ' bs n ∧ nd'.Ok ∧ nd'.kids.length ≤ 1700 ∧ Keep (fun g => S g ∨ g = nb) w w' ∧ ∀ g, S' g → S g ∨ w.heap.size ≤ g) ∨ (¬ Room σ bs n ∧ Gave mp σ S w e w') := by
 have hlen := hR.len
 have hall : ∀ x ∈ bs, σ.hasB x = true := by
  cases hM with
  | two hr => exact fun x hx => RowL.has (fun _ _ _ _ _ ht => TrM.has ht) hr x hx
  | one q1 q2 q3 _ =>
   intro x hx
   simp only [List.mem_append] at hx
   rcases hx with hx | hx | hx
   ·exact RowL.has (fun _ _ _ _ _ ht => TrM.has ht) q1 x hx
   ·exact q2.has x hx
   ·exact RowL.has (fun _ _ _ _ _ ht => TrM.has ht) q3 x hx
 by_cases hs : R.length < 2 ∨ R.length ≤ i
 ·refine (join_skip t nb nd i deep w S hn (by omega)).mono ?_
  rintro e w' ⟨rfl, rfl⟩
  exact .inl ⟨rfl, σ, S, nd, R, bs, hI, hn, hR, hM.skip hs, Chg.refl hall, Pk.refl _ _ _, ok, by omega, Keep.refl _ _, fun g hg => .inl hg⟩
 ·obtain ⟨L, k1, b1, k2, b2, M, cl, ca, cb, cm, bl, xa, xb, bm, m1, m2, hP⟩ := hM.pair (by omega)
  rw [← hlen.1] at hP
  have hro := hR
  rw [hP.row] at hro
  obtain ⟨dR, d1, d2, d3⟩ := delAt_rowOf hro
  have hLj := hP.len
  rw [hLj] at dR d1 d2 d3
  obtain ⟨A, xa', bA, okA, nA, kA, na, rfl⟩ := trM_iff.1 hP.a
  obtain ⟨B, xb', bB, okB, nB, kB, nb', rfl⟩ := trM_iff.1 hP.b
  have hk2 : k2.size ≤ 128 := ok.ky k2 (List.mem_of_getElem? d1)
  obtain ⟨nJ, okJ, lJ, lJ2⟩ := join_node okA okB nA nB na nb' hk2 bA.fits bB.fits
  have hbs := hP.bs
  have hb12 : b1 ≠ b2 := by
   rintro rfl
   rw [hbs] at hnd
   have h1 := (List.nodup_append.1 hnd).2.1
   exact (List.nodup_append.1 h1).2.2 b1 (by simp) b1 (by simp) rfl
  obtain ⟨c12, hB2⟩ := chg_gone2 hI bA.has bB.has hb12
  have hcl := c12.cln hI.cln
  have hperm : bs.Perm ([b1, b2] ++ (bl ++ ((xa' ++ xb') ++ bm))) := by
   rw [hbs]
   have e1 : (b1 :: xa' ++ (b2 :: xb' ++ bm)).Perm ([b1, b2] ++ ((xa' ++ xb') ++ bm)) := by
    show (b1 :: (xa' ++ b2 :: (xb' ++ bm))).Perm (b1 :: b2 :: ((xa' ++ xb') ++ bm))
    refine List.Perm.cons _ ?_
    rw [List.append_assoc]
    exact List.perm_middle
   exact (List.Perm.append_left bl e1).trans (List.perm_append_comm_assoc _ _ _)
  have c1 := c12.left (hperm.nodup_iff.1 hnd) (fun x hx => hall x (hperm.mem_iff.2 (List.mem_append_right _ hx)))
  have hrm := fun (hroom : Room σ bs n) => pair_roomL (Lr := ((σ.gone b1).gone b2).most) okA okB hP.l hP.m nA nB ((c1.perm hperm.symm (List.Perm.refl _)).room hroom) (by rw [← hP.cs]; exact hcs)
  have hrmL : ∀ L, RoomL L σ bs n → ((σ.gone b1).gone b2).sz + (joinNd A B k2).room ≤ L := fun L hroom => pair_roomL okA okB hP.l hP.m nA nB ((c1.perm hperm.symm (List.Perm.refl _)).roomL hroom) (by rw [← hP.cs]; exact hcs)
  refine (join_any t mp root err σ S nb nd A B k2 i (min i (nd.kids.length - 2)) deep b1 b2 w hI ht hst hn (by omega) (by omega) rfl d2 d3 d1 (ok.one (by intro e; rw [e] at hlen; simp at hlen; omega)) ok.kk bA bB hB2 okJ hd (by omega)).mono ?_
  rintro e w' (⟨rfl, σ', S', nd', hI', hN', hK', hS', hres⟩ | ⟨hno, hg⟩)
  rotate_left
  ·exact .inr ⟨fun hroom => absurd (hrm hroom) (Nat.not_le.2 hno), hg⟩
  refine .inl ⟨rfl, σ', S', nd', ?_⟩
  rcases hres with ⟨s1, s2, s3, rfl, rfl⟩ | ⟨ps, zs, hspr, hput, rfl⟩
  ·refine ⟨R, bs, hI', hN', hR, ?_, Chg.refl hall, Pk.refl _ _ _, ok, by omega, hK', hS'⟩
   rw [hP.row, hP.cs, hP.bs]
   have tA : TrM σ' h 2 k1 (some k2) b1 ca (b1 :: xa') := trM_iff.2 ⟨A, xa', bA, okA, nA, by
    cases h with
    | zero => exact .inl rfl
    | succ h => exact .inr (by have := List.length_pos_iff.2 nA.1; omega), na, rfl⟩
   have tB : TrM σ' h 2 k2 (nextLo M hi) b2 cb (b2 :: xb') := trM_iff.2 ⟨B, xb', bB, okB, nB, by
    cases h with
    | zero => exact .inl rfl
    | succ h => exact .inr (by have := List.length_pos_iff.2 nB.1; omega), nb', rfl⟩
   exact RowL.append (m := (k1, b1) :: (k2, b2) :: M) ⟨ca, _, _, _, tA, ⟨cb, _, _, _, tB, hP.m, rfl, rfl⟩, rfl, rfl⟩ hP.l
  ·obtain ⟨xs, q1, q2, q3, q4, q5⟩ := join_row hP okA okB bA.fits bB.fits nA nB kA kB na nb' hk2 c12 hcl hspr hput hnd
   have hRo := repl_rowOf (ps := ps) (by rw [← hLj] at *; exact dR) (.inr q3)
   rw [hLj] at hRo
   have hl2 : (L ++ pcRow k1 ps ++ M).length ≤ 1700 := by
    have := congrArg List.length hP.row
    simp only [List.length_append, List.length_cons, pcRow_length] at this ⊢
    omega
   refine ⟨_, _, hI', hN', hRo, q1, q2, fun L r t => puts_tk hspr okJ hput (hrmL L r) t, ?_, by rw [hRo.len.1]; exact hl2, hK', hS'⟩
   refine hRo.ok ?_ ?_ (RowL.tops (fun _ _ _ _ _ ht => ht.top) q1) (by omega)
   ·exact ok.one (by intro e; rw [e] at hlen; simp at hlen; omega)
   ·exact repl_keys (fun k hk => by
     rcases List.mem_append.1 hk with hk | hk
     ·exact ok.ky k (List.mem_of_mem_take hk)
     ·exact ok.ky k (List.mem_of_mem_drop hk)) q4
theorem Mid.tops {σ : MSt} {h : Nat} {hi : Option ByteArray} {R : List (ByteArray × Int)} {i : Nat} {cs : List Pr} {bs : List Int} (hm : Mid σ h hi R i cs bs) : ∀ p ∈ R, 1 ≤ p.2 ∧ p.2 ≤ 4096 := by
 cases hm with
 | two hr => exact RowL.tops (fun _ _ _ _ _ ht => ht.top) hr
 | one q1 q2 q3 _ =>
  intro p hp
  rcases List.mem_append.1 hp with hp | hp
  ·exact RowL.tops (fun _ _ _ _ _ ht => ht.top) q1 p hp
  ·rcases List.mem_cons.1 hp with rfl | hp
   ·exact q2.top
   ·exact RowL.tops (fun _ _ _ _ _ ht => ht.top) q3 p hp
theorem Step.thenK {S S1 S2 : Nat → Prop} {w w3 w5 : World} {nb : Nat} (h : Step S S1 w w3) (hk : Keep (fun g => S1 g ∨ g = nb) w3 w5) (h2 : ∀ g, S2 g → S1 g ∨ w3.heap.size ≤ g) (hnb : w.heap.size ≤ nb) : Step S S2 w w5 :=
 ⟨h.1.trans hk (fun i hi x => x.elim (fun s => (h.2 i s).elim id (fun y => absurd hi (Nat.not_lt.2 y))) (fun e => absurd hi (Nat.not_lt.2 (by rw [e]; exact hnb)))),
  fun g hg => (h2 g hg).elim (fun s => h.2 g s) (fun y => .inr (Nat.le_trans h.1.size y))⟩
theorem kid_roomL {Lr : Nat} {σ σ0 : MSt} {h : Nat} {k : ByteArray} {hi : Option ByteArray} {L M : List (ByteArray × Int)} {cl c cm : List Pr} {bl x bm : List Int} (hl : RowL (TrM σ h 2) (some k) L cl bl) (hm : RowL (TrM σ h 2) hi M cm bm) (hr : RoomL Lr σ0 (bl ++ (x ++ bm)) ((cl ++ (c ++ cm)).length + 1)) : RoomL Lr σ0 x (c.length + 1) := by
 have e1 := RowL.count (fun _ _ _ _ _ ht => TrM.count ht (Nat.le_refl 2)) hl
 have e2 := RowL.count (fun _ _ _ _ _ ht => TrM.count ht (Nat.le_refl 2)) hm
 have f1 := nh_le σ0 bl
 have f3 := nh_le σ0 bm
 unfold RoomL at *
 rw [nh_append, nh_append] at hr
 simp only [List.length_append] at hr
 omega
theorem node_roomL {Lr : Nat} {σ : MSt} {h : Nat} {hi : Option ByteArray} {lo : ByteArray} {nd : Nd} {R : List (ByteArray × Int)} {cs : List Pr} {bs : List Int} {n : Nat} (ok : nd.Ok) (hR : RowOf nd lo R) (hr : RowL (TrM σ h 2) hi R cs bs) (hm : RoomL Lr σ bs n) (hn : cs.length ≤ n) : σ.sz + nd.room ≤ Lr := by
 have e1 := RowL.count (fun _ _ _ _ _ ht => TrM.count ht (Nat.le_refl 2)) hr
 have f1 := nh_le σ bs
 have hl := hR.len
 have hk : nd.kids ≠ [] := fun e => by rw [e] at hl; simp at hl; omega
 have hp := ok.one hk
 have : nd.room ≤ nd.kids.length := by
  have := List.length_pos_iff.2 hk
  simp [Nd.room, hp, hk]; omega
 unfold RoomL at hm
 omega
theorem node_room2 {nd : Nd} {lo : ByteArray} {R : List (ByteArray × Int)} (ok : nd.Ok) (hR : RowOf nd lo R) : nd.room ≤ nd.kids.length := by
 have hl := hR.len
 have hk : nd.kids ≠ [] := fun e => by rw [e] at hl; simp at hl; omega
 have hp := ok.one hk
 have := List.length_pos_iff.2 hk
 simp [Nd.room, hp, hk]; omega
theorem edit_inner (t : Nat) (mp : VS) (root err : Int) (key : ByteArray) (g : Nat) (cb : Array Value) (F : List Pr → List Pr) (vs : List (Nat × ByteArray)) (hF : LocF F key) (hks : key.size ≤ 128) (h : Nat) (ih : EditIH t mp root err key g cb F vs h) : EditIH t mp root err key g cb F vs (h + 1) := by
 intro σ S b deep least lo hi cs bs w hI ht hst hbx hT hn hw hd hd0 hl
 have hTc := hT.has
 obtain ⟨nd, L, k, kb, M, cl, c, cm, bl, x, bm, hE⟩ := ed_open hT hw
 have hFc := ed_loc hE hF
 have hb0 : (b == 0) = false := by have := hE.blk.lo; simp; omega
 have hlen := hE.row.len
 have hLM : L.length + M.length + 1 = nd.kids.length := by rw [hlen.1]; simp; omega
 have hkne : nd.kids ≠ [] := fun e => by have := hE.kids; rw [e] at this; simp at this
 have hke : nd.kids.isEmpty = false := by cases hq : nd.kids with | nil => exact absurd hq hkne | cons a b => rfl
 have hnk := hE.blk.fits.nk
 have hcs := hE.cs
 have hbs := hE.bs
 subst hbs
 have cg := chg_gone hI hE.blk.has
 have c0 : Chg σ (σ.gone b) (b :: (bl ++ (x ++ bm))) (bl ++ (x ++ bm)) := cg.left (us := [b]) (bs := []) (rs := bl ++ (x ++ bm)) hn (fun y hy => hTc y (List.mem_cons_of_mem _ hy))
 have n0 := c0.nd hn
 have R0 : Room σ (b :: (bl ++ (x ++ bm))) (cs.length + 1) → Room (σ.gone b) (bl ++ (x ++ bm)) ((cl ++ (c ++ cm)).length + 1) := fun hR => by
  have := c0.room hR
  rwa [hcs] at this
 have hbx0 : ∀ y ∈ bl ++ (x ++ bm), y ∉ [b] := fun y hy e => (List.nodup_cons.1 hn).1 (by rw [← List.mem_singleton.1 e]; exact hy)
 have hh0 : ∀ y ∈ bl ++ (x ++ bm), (σ.gone b).hasB y = true := fun y hy => (c0.new y hy).1
 have Rk : Room σ (b :: (bl ++ (x ++ bm))) (cs.length + 1) → Room (σ.gone b) x (c.length + 1) := fun hR => kid_roomL (Lr := (σ.gone b).most) hE.l hE.m (R0 hR)
 have R0L : ∀ Lr, RoomL Lr σ (b :: (bl ++ (x ++ bm))) (cs.length + 1) → RoomL Lr (σ.gone b) (bl ++ (x ++ bm)) ((cl ++ (c ++ cm)).length + 1) := fun Lr hR => by
  have := c0.roomL hR
  rwa [hcs] at this
 have RkL : ∀ Lr, RoomL Lr σ (b :: (bl ++ (x ++ bm))) (cs.length + 1) → RoomL Lr (σ.gone b) x (c.length + 1) := fun Lr hR => kid_roomL hE.l hE.m (R0L Lr hR)
 have HR0L := Lib.hid R0L; clear R0L
 have HRkL := Lib.hid RkL; clear RkL
 have HRk := Lib.hid Rk; clear Rk
 have T0 := hE.t.keep cg (fun y hy => hbx0 y (by simp [hy]))
 have l0 := hE.l.keep cg (fun y hy => hbx0 y (by simp [hy]))
 have m0 := hE.m.keep cg (fun y hy => hbx0 y (by simp [hy]))
 have hkz : ∀ y, nextLo M hi = some y → lt y k = false := fun y hy => by
  have hc := T0.content
  rw [hy] at hc
  obtain ⟨p, r, e⟩ := List.exists_cons_of_ne_nil hc.ne
  exact lt_asymm (hc.within p (by rw [e]; simp)).lo_lt
 have nx : x.Nodup := (List.nodup_append.1 (List.nodup_append.1 n0).2.1).1
 have HE := Lib.hid hE; clear hE
 have HFc := Lib.hid hFc; clear hFc
 have HCS := Lib.hid hcs; clear hcs
 have HR0 := Lib.hid R0; clear R0
 have HIH := Lib.hid ih; clear ih
 have HKZ := Lib.hid hkz; clear hkz
 have HB0 := Lib.hid hbx0; clear hbx0
 have HH0 := Lib.hid hh0; clear hh0
 have HTC := Lib.hid hTc; clear hTc hT
 have HLM := Lib.hid hLM; clear hLM
 have HLE := Lib.hid hlen; clear hlen
 have htl : t < w.heap.size := (Array.getElem?_eq_some_iff.1 ht).1
 have hid : kb = kb := rfl
 have hkid : nd.kids[L.length]? = some kb := by rw [HE.out.row.2]; simp
 obtain ⟨hil, hkid'⟩ := List.getElem?_eq_some_iff.1 hkid
 clear hkid hid
 have HKid := Lib.hid hkid'; clear hkid'
 have hil' : (L.length : Int) < (nd.kids.length : Int) := by omega
 have hkl : nd.keys.length ≤ 1000000 := by have := HE.out.ok.kk; omega
 have HAt := Lib.hid HE.out.at_
 go_enter Tryz.func112, Tryz.ntmps112
 go_wp2_with (first
  | (go_at_call 146; go_must ((refine (take_any t mp root err b deep σ S nd w hI ht hst HE.out.blk (by omega)).mono ?_); rintro e w1 ⟨nb, rfl, hn1, hI1, hs1⟩))
  | (go_at_call 118; go_must ((refine (leaf_any nb nd _ S hn1.isNode).mono ?_); rintro e w2 ⟨rfl, hw⟩; subst w2; rw [hke]))
  | (go_at_call 119; go_must ((refine (kid_any nb nd key _ S hn1.isNode HE.out.rise hkl).mono ?_); rw [← HAt.out]; rintro e w2 ⟨rfl, hb2⟩; refine Stop.of ?_)))
 refine Stop.on ?_
 have hs2 : Step S S w w2 := hs1.trans (Step.of_below hb2)
 have hN2 := hn1.isNode.below hb2
 have hI2 := hI1.below hb2
 have ht2 := ht.step hst hs2
 have hbx2 := hbx.step hs2
 have hnbw : w.heap.size ≤ nb := hn1.2.1
 obtain ⟨hSb, v0, v1, v2, bN, N0, N1, N2⟩ := id hN2
 obtain ⟨ao2, cp2, rfl, _, _, _, _⟩ := IsSl.form N2
 obtain ⟨pb, po, rfl, d2⟩ := N2.at rfl L.length hil
 rw [HKid.out] at d2
 have hpb := World.block_lt_of_cell? w2 _ d2
 obtain ⟨_, _, y2, _, _, _, ly⟩ := cells3 bN
 have hE1 := HIH.out (σ.gone b) S kb (deep + 1) key k (nextLo M hi) c x w2 hI2 ht2.1 hst hbx2 T0 nx HE.out.w (by omega) (by omega) hks
 have HE1 := Lib.hid hE1; clear hE1
 go_wp2_with (first
  | (go_at_call 112; go_must (refine HE1.out.mono ?_; rintro e w3 (⟨v, ps, σ1, S1, x', m, rfl, hown, hP, hc1, hpk1, hI3, hs3⟩ | ⟨hno, rfl, τ, Sτ, g1, g2, g3, g4⟩) <;> refine Stop.of ?_)))
 rotate_left
 ·refine Stop.on ?_
  exact ⟨rfl, .inr ⟨fun hR => hno (HRk.out hR), rfl, τ, Sτ, g1, hs2.trans g2, g3, g4⟩⟩
 refine Stop.on ?_
 have hN3 := hN2.step hs3
 have hpl := hP.len
 have hRp := replace_any nb nd v ps L.length w3 S1 hI3.sub hN3 (HE.out.ok.one hkne) hown.isSl hil HE.out.ok.kk (by omega) (by omega)
 have HRp := Lib.hid hRp; clear hRp
 clear y2 d2 hpb
 go_wp2_with (first
  | (go_at_call 147; go_must (refine HRp.out.mono ?_; rintro e w4 ⟨rfl, hN4, hk4⟩; refine Stop.of ?_)))
 refine Stop.on ?_
 have hS1b : ¬ S1 nb := hN4.1
 have hI4 := hI3.keepM hk4 (fun g hg e => hS1b (by rw [← e]; exact hg))
 have ht3 := ht2.1.step ht2.2 hs3
 have hnbt : t ≠ nb := fun e => by rw [e] at htl; omega
 have ht4 : TreeAt w4 t mp root err := (hk4.block t (Array.getElem?_eq_some_iff.1 ht3.1).1 hnbt).trans ht3.1
 have hs4 : Step S S1 w w4 := (hs2.trans hs3).thenK (hk4.mono (fun _ _ h => .inr h)) (fun g hg => .inl hg) hnbw
 have cm1 := hc1.mid (ls := bl) (rs := bm) (by rw [List.append_assoc]; exact n0) (fun y hy => HH0.out y (by simp [hy])) (fun y hy => HH0.out y (by simp [hy]))
 rw [List.append_assoc, List.append_assoc] at cm1
 have hdl : ∀ y ∈ bl, y ∉ x := fun y hy hx => (List.nodup_append.1 n0).2.2 y hy y (List.mem_append_left _ hx) rfl
 have hdm : ∀ y ∈ bm, y ∉ x := fun y hy hx => (List.nodup_append.1 (List.nodup_append.1 n0).2.1).2.2 y hx y hy rfl
 obtain ⟨R, hRo, hMid, hRl⟩ := after_repl HE.out.row (l0.keep hc1 hdl) (m0.keep hc1 hdm) hP (by have := HLE.out.1; have := HE.out.kids; omega) HE.out.lo1 HKZ.out
 have hRl2 : R.length ≤ 1160 := by have := HLM.out; omega
 have ok1 : (nd.repl L.length ps).Ok := by
  exact hRo.ok (HE.out.ok.one hkne) (repl_keys HE.out.ok.ky hP.key) hMid.tops (by omega)
 have n1 := cm1.nd n0
 have R1 := fun hR => cm1.room (HR0.out hR)
 have R1L : ∀ Lr, RoomL Lr σ (b :: (bl ++ (x ++ bm))) (cs.length + 1) → RoomL Lr σ1 (bl ++ (x' ++ bm)) ((cl ++ (c ++ cm)).length + 1) := fun Lr hR => cm1.roomL (HR0L.out Lr hR)
 have HR1L := Lib.hid R1L; clear R1L
 have HPK1 := Lib.hid (show ∀ Lr, RoomL Lr σ (b :: (bl ++ (x ++ bm))) (cs.length + 1) → σ.tk ≤ Lr → σ1.tk ≤ Lr from fun Lr hR t => hpk1 Lr (HRkL.out Lr hR) t); clear hpk1
 have HR1 := Lib.hid R1; clear R1
 have hFl : (cl ++ (F c ++ cm)).length ≤ (cl ++ (c ++ cm)).length + 1 := by
  have := hF.len c
  simp only [List.length_append]; omega
 have hJ := join_mid t mp root err σ1 S1 nb (nd.repl L.length ps) L.length (deep + 1) h hi lo R (cl ++ (F c ++ cm)) (bl ++ (x' ++ bm)) _ w4 hI4 ht4 (fun x => ht3.2 x) hN4 ok1 hRo hMid n1 (by omega) hFl hRl2
 have HJ := Lib.hid hJ; clear hJ
 have HP := Lib.hid hP; clear hP
 have HRo := Lib.hid hRo; clear hRo hRl
 have HC := Lib.hid (c0.trans cm1)
 go_wp2_with (first
  | (go_at_call 148; go_must (refine HJ.out.mono ?_; rintro e w5 (⟨rfl, σ2, S2, n2, R2, bs2, hI5, hN5, hRo2, hr2, hc2, hpk2, ok2, hl2, hk5, hS2⟩ | ⟨hno, rfl, τ, Sτ, g1, g2, g3, g4⟩) <;> refine Stop.of ?_)))
 rotate_left
 ·refine Stop.on ?_
  exact ⟨rfl, .inr ⟨fun hR => hno (HR1.out hR), rfl, τ, Sτ, g1, hs4.trans g2, g3.trans HC.out.H, g4.trans HC.out.most⟩⟩
 refine Stop.on ?_
 have hs5 : Step S S2 w w5 := hs4.thenK hk5 hS2 hnbw
 have ht5 := ht.step hst hs5
 have rm2 := node_room2 ok2 hRo2
 have rm1 := fun hR => node_roomL (Lr := σ2.most) ok2 hRo2 hr2 (hc2.room (HR1.out hR)) hFl
 have HRML := Lib.hid (show ∀ Lr, RoomL Lr σ (b :: (bl ++ (x ++ bm))) (cs.length + 1) → σ2.sz + n2.room ≤ Lr from fun Lr hR => node_roomL ok2 hRo2 hr2 (hc2.roomL (HR1L.out Lr hR)) hFl)
 have HPK2 := Lib.hid (show ∀ Lr, RoomL Lr σ (b :: (bl ++ (x ++ bm))) (cs.length + 1) → σ.tk ≤ Lr → σ2.tk ≤ Lr from fun Lr hR t => hpk2 Lr (HR1L.out Lr hR) (HPK1.out Lr hR t)); clear hpk2
 have hRl2' := Lib.hid hRo2
 have HNL := Lib.hid rm2
 have HRM := Lib.hid rm1
 clear rm1 rm2 hRo2
 go_wp2_with (first
  | (go_at_call 144; go_must ((refine (spread_any t mp root err _ σ2 S2 nb n2 least w5 hI5 ht5.1 ht5.2 hN5 ok2 (Nat.lt_succ_self _)).mono ?_); rintro e w6 (⟨v6, ps6, zs, σ3, S3, rfl, p2, p3, p4, p5, p6⟩ | ⟨hno, rfl, τ, Sτ, g1, g2, g3, g4⟩) <;> refine Stop.of ?_)))
 rotate_left
 ·refine Stop.on ?_
  exact ⟨rfl, .inr ⟨fun hR => absurd (HRM.out hR) (Nat.not_le.2 hno), rfl, τ, Sτ, g1, hs5.trans g2, g3.trans (hc2.H.trans HC.out.H), g4.trans (hc2.most.trans HC.out.most)⟩⟩
 refine Stop.on ?_
 go_wp2_with fail
 go_ret
 have hkne2 : n2.kids ≠ [] := fun e => hRl2'.out.ne (by have := hRl2'.out.2; rw [e] at this; exact List.map_eq_nil_iff.1 this.symm)
 obtain ⟨m3, bs3, q1, q2⟩ := spr_pcs p3 (lo := lo) (hi := hi) (h := h + 1) (cs := cl ++ (F c ++ cm)) (bs := bs2) ok2 ⟨hkne2, by rw [hRl2'.out.row]; exact hr2⟩ p4 hI5.cln (hc2.nd n1) (RowL.has (fun _ _ _ _ _ ht => ht.has) hr2) hl (by have := HNL.out; have := ok2.one hkne2; simp [Nd.room, this, hkne2]; omega)
 refine .inl ⟨v6, ps6, σ3, S3, bs3, m3, rfl, p2.base hs5.1.size, ?_, (HC.out.trans hc2).trans q2, fun Lr hR t => puts_tk p3 ok2 p4 (HRML.out Lr hR) (HPK2.out Lr hR t), p5, hs5.trans p6⟩
 rw [HFc.out]
 exact q1
theorem edit_any (t : Nat) (mp : VS) (root err : Int) (key : ByteArray) (g : Nat) (cb : Array Value) (F : List Pr → List Pr) (vs : List (Nat × ByteArray)) (hent : ∀ args w, (callFunc g args).run Tryz.prog w = .ok (.enter g args) w) (hf : EditC g cb F vs) (hF : LocF F key) (hks : key.size ≤ 128) : ∀ h, EditIH t mp root err key g cb F vs h
 | 0 => edit_h0 t mp root err key g cb F vs hent hf hF
 | h + 1 => edit_inner t mp root err key g cb F vs hF hks h (edit_any t mp root err key g cb F vs hent hf hF hks h)
structure GN (w0 : World) (S : Nat → Prop) (nb : Nat) (ks : List ByteArray) (ns : List Int) (v1 v2 : Value) (wr : World) : Prop where
 bel : Below w0.heap.size w0 wr
 lo : w0.heap.size ≤ nb
 node : wr.heap[nb]? = some (.cells #[.slice none 0 0, v1, v2] 188 (0, 0))
 o1 : OwnSl wr S w0.heap.size 9 1 v1 ks.length (ks.map .string)
 o2 : OwnSl wr S w0.heap.size 3 1 v2 ns.length (ns.map (.int .i64))
theorem GN.lt {w0 : World} {S : Nat → Prop} {nb : Nat} {ks : List ByteArray} {ns : List Int} {v1 v2 : Value} {wr : World} (h : GN w0 S nb ks ns v1 v2 wr) : nb < wr.heap.size := (Array.getElem?_eq_some_iff.1 h.node).1
theorem GN.below {w0 : World} {S : Nat → Prop} {nb : Nat} {ks : List ByteArray} {ns : List Int} {v1 v2 : Value} {wr wr' : World} (h : GN w0 S nb ks ns v1 v2 wr) (hb : Below wr.heap.size wr wr') : GN w0 S nb ks ns v1 v2 wr' :=
 ⟨h.bel.trans (hb.mono h.bel.size), h.lo, (hb.block nb h.lt).trans h.node, h.o1.below hb, h.o2.below hb⟩
theorem GN.put2 {w0 : World} {S : Nat → Prop} {nb : Nat} {ks : List ByteArray} {ns ns' : List Int} {v1 v2 v2' : Value} {wr w' : World} (h : GN w0 S nb ks ns v1 v2 wr) (hk : Keep (fun g => v2.ownBlock = some g) wr w') (hb : Below w0.heap.size wr w') (ho : OwnSl w' S w0.heap.size 3 1 v2' ns'.length (ns'.map (.int .i64))) : GN w0 S nb ks ns' v1 v2' (w'.setCell ⟨nb, 2, none⟩ v2') := by
 have hn : w'.heap[nb]? = _ := (hk.block nb h.lt (h.o2.ne h.node (by decide))).trans h.node
 have hk5 : Keep (· = nb) w' (w'.setCell ⟨nb, 2, none⟩ v2') := Keep.setCell (M := (· = nb)) (p := ⟨nb, 2, none⟩) (Keep.refl _ _) (.inr rfl) _
 have h1 : OwnSl w' S w0.heap.size 9 1 v1 ks.length (ks.map .string) := h.o1.keep fun g hg hl hs => ⟨hk.block g hl (fun e => OwnSl.ne2 h.o1 h.o2 (by decide) g hg e), hs⟩
 refine ⟨(h.bel.trans hb).setCell (by exact h.lo) _, h.lo, by simp [World.setCell, Array.getElem?_modify, hn], h1.keep fun g hg hl hs => ⟨hk5.block g hl (fun e => h1.ne hn (by decide) (by rw [hg, e])), hs⟩, ho.keep fun g hg hl hs => ⟨hk5.block g hl (fun e => ho.ne hn (by decide) (by rw [hg, e])), hs⟩⟩
theorem GN.put1 {w0 : World} {S : Nat → Prop} {nb : Nat} {ks ks' : List ByteArray} {ns : List Int} {v1 v2 v1' : Value} {wr w' : World} (h : GN w0 S nb ks ns v1 v2 wr) (hk : Keep (fun g => v1.ownBlock = some g) wr w') (hb : Below w0.heap.size wr w') (ho : OwnSl w' S w0.heap.size 9 1 v1' ks'.length (ks'.map .string)) : GN w0 S nb ks' ns v1' v2 (w'.setCell ⟨nb, 1, none⟩ v1') := by
 have hn : w'.heap[nb]? = _ := (hk.block nb h.lt (h.o1.ne h.node (by decide))).trans h.node
 have hk5 : Keep (· = nb) w' (w'.setCell ⟨nb, 1, none⟩ v1') := Keep.setCell (M := (· = nb)) (p := ⟨nb, 1, none⟩) (Keep.refl _ _) (.inr rfl) _
 have h2 : OwnSl w' S w0.heap.size 3 1 v2 ns.length (ns.map (.int .i64)) := h.o2.keep fun g hg hl hs => ⟨hk.block g hl (fun e => OwnSl.ne2 h.o2 h.o1 (by decide) g hg e), hs⟩
 refine ⟨(h.bel.trans hb).setCell (by exact h.lo) _, h.lo, by simp [World.setCell, Array.getElem?_modify, hn], ho.keep fun g hg hl hs => ⟨hk5.block g hl (fun e => ho.ne hn (by decide) (by rw [hg, e])), hs⟩, h2.keep fun g hg hl hs => ⟨hk5.block g hl (fun e => h2.ne hn (by decide) (by rw [hg, e])), hs⟩⟩
def TrR (σ : MSt) (root : Int) (cs : List Pr) (bs : List Int) : Prop := (root = 0 ∧ cs = [] ∧ bs = []) ∨ ∃ h, TrM σ h 2 ⟨#[]⟩ none root cs bs
def GrowPost (mp : VS) (σ : MSt) (S : Nat → Prop) (cs : List Pr) (bs : List Int) (n : Nat) (w : World) (e : Ending) (w' : World) : Prop :=
 (∃ b σ' S' bs', e = .returned (.int .i64 b) ∧ TrR σ' b cs bs' ∧ Chg σ σ' bs bs' ∧ Pk σ σ' bs n ∧ Inv σ' S' mp w' ∧ Step S S' w w') ∨ (¬ Room σ bs n ∧ Gave mp σ S w e w')
def lenV : Value → Nat | .slice _ n _ => n | _ => 0
def GR (mp : VS) (σ0 : MSt) (S0 : Nat → Prop) (cs : List Pr) (bs0 : List Int) (n : Nat) (w : World) (v : Value) (wr : World) : Prop :=
 ∃ ps h m σ S bs, IsPcs wr S v ps ∧ Pcs σ h m ⟨#[]⟩ none ps cs bs ∧ Chg σ0 σ bs0 bs ∧ Pk σ0 σ bs0 n ∧ Inv σ S mp wr ∧ Step S0 S w wr
theorem grow_any (t : Nat) (mp : VS) (root err : Int) (σ : MSt) (v : Value) (ps : List Pc) (h m : Nat) (cs : List Pr) (bs : List Int) (n : Nat) (S : Nat → Prop) (w : World) (hI : Inv σ S mp w) (ht : TreeAt w t mp root err) (hst : ¬ S t) (hv : IsPcs w S v ps) (hP : Pcs σ h m ⟨#[]⟩ none ps cs bs) (hn : bs.Nodup) (hcs : cs.length ≤ n) :
  Calls Tryz.prog 111 #[.pointer (some ⟨t, 0, none⟩), v] w (GrowPost mp σ S cs bs n w) := by
 have hb0 : ∀ x ∈ bs, σ.hasB x = true := RowL.has (fun _ _ _ _ _ ht => ht.has) hP.row
 have htl : t < w.heap.size := (Array.getElem?_eq_some_iff.1 ht).1
 go_enter Tryz.func111, Tryz.ntmps111
 go_wp2
 go_loopw [1, 5, 6, 7] (fun l _ _ _ wr => GR mp σ S cs bs n w l wr) (fun l _ _ _ _ => lenV l)
 case atStart => exact ⟨ps, h, m, σ, S, bs, hv, hP, Chg.refl hb0, Pk.refl _ _ _, hI, Step.refl S w⟩
 case round =>
  obtain ⟨wo, rfl⟩ : ∃ x : World, x = wr := ⟨_, rfl⟩
  obtain ⟨ps, h, m, σ1, S1, bs1, hv1, hP1, hC1, hK1, hI1, hs1⟩ := hrel
  have HPK := Lib.hid hK1; clear hK1
  have HP1 := Lib.hid hP1
  have HC1 := Lib.hid hC1
  have hlen := hP1.len
  clear hP1 hC1 hb0 hP hv hI
  have ht1 := ht.step hst hs1
  obtain ⟨pao, pc, rfl, _, _, _, _⟩ := IsSl.form hv1
  by_cases h1 : 1 < ps.length
  ·have x1 : (1 : Int) < (ps.length : Int) := by omega
   have hb0 := below_one wo (.cells #[.slice none 0 0, .slice none 0 0, .slice none 0 0] 188)
   have hG0 : GN wo S1 wo.heap.size [] [] (.slice none 0 0) (.slice none 0 0) (wo.alloc (.cells #[.slice none 0 0, .slice none 0 0, .slice none 0 0] 188)) :=
    ⟨hb0, Nat.le_refl _, heap_alloc_new wo _, OwnSl.nil _ _ _ _ _, OwnSl.nil _ _ _ _ _⟩
   obtain ⟨pb, po, rfl⟩ : ∃ pb po, pao = some ⟨pb, po, none⟩ := by
    obtain ⟨b, o, e, _⟩ := hv1.at rfl 0 (by omega)
    exact ⟨b, o, e⟩
   go_wp2_with fail
   go_loopw [6, 7, 19] (fun _ _ i wk => ∃ (k : Nat) (v1 v2 : Value), k ≤ ps.length ∧ i = .int .i64 k ∧ GN wo S1 wo.heap.size (((ps.take k).drop 1).map (·.2)) ((ps.take k).map (·.1)) v1 v2 wk) (fun _ _ i _ => ps.length - (intOf i).toNat)
   case atStart => exact ⟨0, _, _, Nat.zero_le _, rfl, by simpa using hG0⟩
   case round =>
    obtain ⟨k, v1, v2, hk, rfl, hG⟩ := hrel
    by_cases hlt : k < ps.length
    ·obtain ⟨ns, hns⟩ : ∃ ns, ns = (ps.take k).map (·.1) := ⟨_, rfl⟩
     obtain ⟨ks, hks⟩ : ∃ ks, ks = ((ps.take k).drop 1).map (·.2) := ⟨_, rfl⟩
     have hnl : ns.length = k := by rw [hns]; simp; omega
     have hkl : ks.length = k - 1 := by rw [hks]; simp; omega
     rw [← hns, ← hks] at hG
     have hns2 : (ps.take (k + 1)).map (·.1) = ns ++ [ps[k].1] := by rw [hns, List.take_succ_eq_append_getElem hlt, List.map_append]; rfl
     have HNS := Lib.hid hns2; clear hns hns2
     have hks2 : ((ps.take (k + 1)).drop 1).map (·.2) = if k = 0 then ks else ks ++ [ps[k].2] := by
      rw [hks, List.take_succ_eq_append_getElem hlt]
      split
      ·rename_i e; subst e; simp
      ·rw [List.drop_append_of_le_length (by simp; omega), List.map_append]; rfl
     have HKS := Lib.hid hks2; clear hks hks2
     obtain ⟨_, _, e, d1, d2⟩ := hv1.at rfl k hlt
     cases e
     have d1' := (hG.bel.cell (p := ⟨pb, po + k * 2, none⟩) (World.block_lt_of_cell? wo _ d1)).trans d1
     have d2' := (hG.bel.cell (p := ⟨pb, po + k * 2 + 1, none⟩) (World.block_lt_of_cell? wo _ d2)).trans d2
     have hpb := World.block_lt_of_cell? wr _ d1'
     have hlti : (k : Int) < (ps.length : Int) := by omega
     have hGA := (hG.below (below_one wr (.cells #[.int .i64 ps[k].1, .string ps[k].2] 243)))
     have hPA : (wr.alloc (.cells #[.int .i64 ps[k].1, .string ps[k].2] 243)).heap[wr.heap.size]? = some (.cells #[.int .i64 ps[k].1, .string ps[k].2] 243 (0, 0)) := heap_alloc_new wr _
     clear d1 d2
     go_wp2_with fail
     generalize wr.alloc (.cells #[.int .i64 ps[k].1, .string ps[k].2] 243) = wA at hGA hPA ⊢
     have hqb : wo.heap.size ≤ wr.heap.size := hG.bel.size
     have hqn : wo.heap.size < wr.heap.size := hG.lt
     clear d1' d2' hpb hG
     generalize wr.heap.size = qb at hPA hqb hqn ⊢
     have hsub := hI1.sub
     have o2 := hGA.o2
     rw [hnl] at o2
     obtain ⟨ao2, c2, rfl, _, _, _, _⟩ := IsSl.form o2.isSl
     obtain ⟨_, _, y2, _, _, _, ly⟩ := cells3 hGA.node
     obtain ⟨z0, z1, lz⟩ : wA.cell? ⟨qb, 0, none⟩ = some (.int .i64 ps[k].1) ∧ wA.cell? ⟨qb, 1, none⟩ = some (.string ps[k].2) ∧ qb < wA.heap.size := ⟨by simp [World.cell?, hPA], by simp [World.cell?, hPA], (Array.getElem?_eq_some_iff.1 hPA).1⟩
     refine wp_region_ord (fun W => W.cell? ⟨wo.heap.size, 2, none⟩ = some (.slice ao2 k c2) ∧ wo.heap.size < W.heap.size ∧ W.cell? ⟨qb, 0, none⟩ = some (.int .i64 ps[k].1) ∧ qb < W.heap.size) (fun i => !([7, 8, 11].contains i)) [0, 1, 2, 3, 4, 5, 6, 7, 8, 9, 10, 11] rfl (by kernel_rfl) ⟨y2, ly, z0, lz⟩ ?_
     repeat ((refine ord_q (v := ?_) rfl rfl (fun _ _ _ h => h) rfl (fun W hW => ?_) ?_); rotate_left; (focus ((try dsimp only at hW); obtain ⟨q0, q1, q2, q3⟩ := hW; first | (go_simp; first | done | with_reducible rfl))); (try simp only [Act.put, List.setIfInBounds_toArray, List.set_cons_zero, List.set_cons_succ]))
     refine ord_e rfl rfl rfl ?_; intro K hK; go_simp
     have hbB := (below_one wA (.cells #[.int .i64 ps[k].1] 3)).drew
     have hGB := hGA.below hbB
     have oB := o2.below hbB
     obtain ⟨_, _, y2, _, _, _, ly⟩ := cells3 hGB.node
     have z0B := (hbB.cell (p := ⟨qb, 0, none⟩) lz).trans z0
     have lzB := Nat.lt_of_lt_of_le lz hbB.size
     refine hK.out _ _ ⟨y2, ly, z0B, lzB⟩ ?_
     (try simp only [Act.put, List.setIfInBounds_toArray, List.set_cons_zero, List.set_cons_succ])
     have hPB := (hbB.block qb lz).trans hPA
     have hsrc : Src Tryz.prog 1 133 (.slice (some ⟨wA.heap.size, 0, none⟩) 1 1) 1 [.int .i64 ps[k].1] (wA.alloc (.cells #[.int .i64 ps[k].1] 3)).drew := (own_new (w := wA) (S := S1) (B := wo.heap.size) (e := 3) (k := 1) [.int .i64 ps[k].1] 1 1 rfl rfl (Nat.le_refl _) (by simp [maxLen]) hGA.bel.size (fun g hg => Nat.lt_of_lt_of_le (hsub g hg) hGA.bel.size)).drew.isSl.src Tryz.underlying133 (by intro u hu; rw [List.mem_singleton.1 hu]; rfl)
     have hsubB : ∀ g, S1 g → g < (wA.alloc (.cells #[.int .i64 ps[k].1] 3)).drew.heap.size := fun g hg => Nat.lt_of_lt_of_le (Nat.lt_of_lt_of_le (hsub g hg) hGA.bel.size) hbB.size
     have hszB := hGB.bel.size
     generalize (wA.alloc (.cells #[.int .i64 ps[k].1] 3)).drew = wB at hGB oB hPB hsrc hsubB hszB ⊢
     refine ord_e rfl rfl rfl ?_; intro K hK
     refine wp_app (.tmp 28) (.tmp 31) 133 133 rfl S1 wo.heap.size 3 1 8 _ Tryz.underlying133 info_int rfl (.slice ao2 k c2) k (ns.map (.int .i64)) rfl oB (.slice (some ⟨wA.heap.size, 0, none⟩) 1 1) 1 [.int .i64 ps[k].1] rfl hsrc hsubB hszB (by unfold maxLen; omega) (by omega) ?_
     intro ao3 c3 w3 hown3 hk3 hb3 hd3
     have hG3 := hGB.put2 hk3 hb3 (ns' := ns ++ [ps[k].1]) (v2' := .slice ao3 (k + 1) c3) (by rw [List.length_append, List.length_singleton, hnl, List.map_append]; exact hown3)
     have hN3 : w3.heap[wo.heap.size]? = _ := (hk3.block _ hGB.lt (hGB.o2.ne hGB.node (by decide))).trans hGB.node
     have hP3 : w3.heap[qb]? = _ := (hk3.block qb (Array.getElem?_eq_some_iff.1 hPB).1 (oB.ne hPB (by decide))).trans hPB
     obtain ⟨_, _, y2, _, _, yf, ly⟩ := cells3 hN3
     have z3 : w3.cell? ⟨qb, 0, none⟩ = some (.int .i64 ps[k].1) := by simp [World.cell?, hP3]
     have l3 := (Array.getElem?_eq_some_iff.1 hP3).1
     refine hK.out _ _ ⟨y2, ly, z3, l3⟩ ?_
     (try simp only [Act.put, List.setIfInBounds_toArray, List.set_cons_zero, List.set_cons_succ])
     repeat ((refine ord_q (v := ?_) rfl rfl (fun _ _ _ h => h) rfl (fun W hW => ?_) ?_); rotate_left; (focus ((try dsimp only at hW); obtain ⟨q0, q1, q2, q3⟩ := hW; first | (go_simp; first | done | with_reducible rfl))); (try simp only [Act.put, List.setIfInBounds_toArray, List.set_cons_zero, List.set_cons_succ]))
     refine ord_l rfl rfl rfl (by kernel_rfl) ?_; intro K hK; go_simp
     refine hK.out _ _ ?_
     refine ord_nil ?_
     have hk4 : Keep (· = wo.heap.size) w3 (w3.setCell ⟨wo.heap.size, 2, none⟩ (.slice ao3 (k + 1) c3)) := Keep.setCell (M := (· = wo.heap.size)) (p := ⟨wo.heap.size, 2, none⟩) (Keep.refl _ _) (.inr rfl) _
     have hP4 := (hk4.block qb l3 (by omega)).trans hP3
     generalize w3.setCell ⟨wo.heap.size, 2, none⟩ (.slice ao3 (k + 1) c3) = w4 at hG3 hP4 ⊢
     clear hk4 hN3 hP3 hGB oB hPB hsrc hsubB hGA hPA o2 hown3 hk3 hb3 hd3 y2 yf ly z3 l3 z0 z1 lz z0B lzB hbB hszB
     by_cases hk0 : k = 0
     ·have x2 : ¬ (0 : Int) < (k : Int) := by omega
      have HK0 := Lib.hid hk0; clear hk0
      go_wp2_with fail
      go_roundw
      case rel => exact ⟨k + 1, _, _, by omega, by go_num, by rw [HNS.out, HKS.out, if_pos HK0.out]; exact hG3⟩
      case measure => simp [intOf]; omega
     ·have x2 : (0 : Int) < (k : Int) := by omega
      have hkn : k - 1 + 1 = k := by omega
      have HK0 := Lib.hid hk0; clear hk0
      have o1 := hG3.o1
      rw [hkl] at o1
      have v14 : IsSl w4 S1 1 v1 (k - 1) (ks.map .string) := o1.isSl
      obtain ⟨ao5, c5, rfl, _, _, _, _⟩ := IsSl.form v14
      clear v14
      obtain ⟨_, y1, _, _, _, _, ly⟩ := cells3 hG3.node
      obtain ⟨z1, lz⟩ : w4.cell? ⟨qb, 1, none⟩ = some (.string ps[k].2) ∧ qb < w4.heap.size := ⟨by simp [World.cell?, hP4], (Array.getElem?_eq_some_iff.1 hP4).1⟩
      go_wp2_with fail
      refine wp_region_ord (fun W => W.cell? ⟨wo.heap.size, 1, none⟩ = some (.slice ao5 (k - 1) c5) ∧ wo.heap.size < W.heap.size ∧ W.cell? ⟨qb, 1, none⟩ = some (.string ps[k].2) ∧ qb < W.heap.size) (fun i => !([7, 8, 11].contains i)) [0, 1, 2, 3, 4, 5, 6, 7, 8, 9, 10, 11] rfl (by kernel_rfl) ⟨y1, ly, z1, lz⟩ ?_
      repeat ((refine ord_q (v := ?_) rfl rfl (fun _ _ _ h => h) rfl (fun W hW => ?_) ?_); rotate_left; (focus ((try dsimp only at hW); obtain ⟨q0, q1, q2, q3⟩ := hW; first | (go_simp; first | done | with_reducible rfl))); (try simp only [Act.put, List.setIfInBounds_toArray, List.set_cons_zero, List.set_cons_succ]))
      refine ord_e rfl rfl rfl ?_; intro K hK; go_simp
      have hbB := (below_one w4 (.cells #[.string ps[k].2] 9)).drew
      have hGB := hG3.below hbB
      have oB := o1.below hbB
      obtain ⟨_, y1, _, _, _, _, ly⟩ := cells3 hGB.node
      have z1B := (hbB.cell (p := ⟨qb, 1, none⟩) lz).trans z1
      have lzB := Nat.lt_of_lt_of_le lz hbB.size
      refine hK.out _ _ ⟨y1, ly, z1B, lzB⟩ ?_
      (try simp only [Act.put, List.setIfInBounds_toArray, List.set_cons_zero, List.set_cons_succ])
      have hPB := (hbB.block qb lz).trans hP4
      have hsrc : Src Tryz.prog 1 156 (.slice (some ⟨w4.heap.size, 0, none⟩) 1 1) 1 [.string ps[k].2] (w4.alloc (.cells #[.string ps[k].2] 9)).drew := (own_new (w := w4) (S := S1) (B := wo.heap.size) (e := 9) (k := 1) [.string ps[k].2] 1 1 rfl rfl (Nat.le_refl _) (by simp [maxLen]) hG3.bel.size (fun g hg => Nat.lt_of_lt_of_le (hsub g hg) hG3.bel.size)).drew.isSl.src Tryz.underlying156 (by intro u hu; rw [List.mem_singleton.1 hu]; rfl)
      have hsubB : ∀ g, S1 g → g < (w4.alloc (.cells #[.string ps[k].2] 9)).drew.heap.size := fun g hg => Nat.lt_of_lt_of_le (Nat.lt_of_lt_of_le (hsub g hg) hG3.bel.size) hbB.size
      have hszB := hGB.bel.size
      generalize (w4.alloc (.cells #[.string ps[k].2] 9)).drew = wB at hGB oB hPB hsrc hsubB hszB ⊢
      refine ord_e rfl rfl rfl ?_; intro K hK
      refine wp_app (.tmp 41) (.tmp 44) 156 156 rfl S1 wo.heap.size 9 1 16 _ Tryz.underlying156 info_str rfl (.slice ao5 (k - 1) c5) (k - 1) (ks.map .string) rfl oB (.slice (some ⟨w4.heap.size, 0, none⟩) 1 1) 1 [.string ps[k].2] rfl hsrc hsubB hszB (by unfold maxLen; omega) (by omega) ?_
      intro ao6 c6 w6 hown6 hk6 hb6 hd6
      have hG6 := hGB.put1 hk6 hb6 (ks' := ks ++ [ps[k].2]) (v1' := .slice ao6 (k - 1 + 1) c6) (by rw [List.length_append, List.length_singleton, hkl, List.map_append]; exact hown6)
      have hN6 : w6.heap[wo.heap.size]? = _ := (hk6.block _ hGB.lt (hGB.o1.ne hGB.node (by decide))).trans hGB.node
      have hP6 : w6.heap[qb]? = _ := (hk6.block qb (Array.getElem?_eq_some_iff.1 hPB).1 (oB.ne hPB (by decide))).trans hPB
      obtain ⟨_, y1, _, _, yf, _, ly⟩ := cells3 hN6
      have z6 : w6.cell? ⟨qb, 1, none⟩ = some (.string ps[k].2) := by simp [World.cell?, hP6]
      have l6 := (Array.getElem?_eq_some_iff.1 hP6).1
      refine hK.out _ _ ⟨y1, ly, z6, l6⟩ ?_
      (try simp only [Act.put, List.setIfInBounds_toArray, List.set_cons_zero, List.set_cons_succ])
      repeat ((refine ord_q (v := ?_) rfl rfl (fun _ _ _ h => h) rfl (fun W hW => ?_) ?_); rotate_left; (focus ((try dsimp only at hW); obtain ⟨q0, q1, q2, q3⟩ := hW; first | (go_simp; first | done | with_reducible rfl))); (try simp only [Act.put, List.setIfInBounds_toArray, List.set_cons_zero, List.set_cons_succ]))
      refine ord_l rfl rfl rfl (by kernel_rfl) ?_; intro K hK; go_simp
      refine hK.out _ _ ?_
      refine ord_nil ?_
      rw [hkn] at hG6
      clear y1 yf ly z6 l6 hN6 hP6 hGB oB hPB hsrc hsubB hown6 hk6 hb6 hd6 hszB
      go_wp2_with fail
      go_roundw
      case rel => exact ⟨k + 1, _, _, by omega, by go_num, by rw [HNS.out, HKS.out, if_neg HK0.out]; exact hG6⟩
      case measure => simp [intOf]; omega
    ·obtain rfl : k = ps.length := by omega
     rw [List.take_length] at hG
     have x2 : ¬ (ps.length : Int) < (ps.length : Int) := by omega
     have hRo : RowOf ⟨[], (ps.drop 1).map (·.2), ps.map (·.1)⟩ ⟨#[]⟩ (pcRow ⟨#[]⟩ ps) := by
      constructor
      ·rw [pcRow_fst]
       cases ps with
       | nil => simp at h1
       | cons p r => simp [moreL]
      ·rw [pcRow_snd]
     have hm2 : m = 2 := HP1.out.single.resolve_right (by omega)
     subst hm2
     have ok : Nd.Ok ⟨[], (ps.drop 1).map (·.2), ps.map (·.1)⟩ := hRo.ok rfl (fun k hk => by
      obtain ⟨p, hp, rfl⟩ := List.mem_map.1 hk
      exact HP1.out.key p (List.mem_of_mem_drop hp)) (RowL.tops (fun _ _ _ _ _ ht => ht.top) HP1.out.row) (by rw [pcRow_length]; omega)
     have hkne : (ps.map (·.1)) ≠ [] := fun e => by rw [List.map_eq_nil_iff.1 e] at h1; simp at h1
     have rm2 := node_room2 ok hRo
     have rm1 := fun hR => node_roomL (Lr := σ1.most) ok hRo HP1.out.row (HC1.out.room hR) hcs
     have HRML := Lib.hid (show ∀ Lr, RoomL Lr σ bs n → σ1.sz + Nd.room ⟨[], (ps.drop 1).map (·.2), ps.map (·.1)⟩ ≤ Lr from fun Lr hR => node_roomL ok hRo HP1.out.row (HC1.out.roomL hR) hcs)
     have hnode : IsNode wr S1 wo.heap.size ⟨[], (ps.drop 1).map (·.2), ps.map (·.1)⟩ := ⟨fun hs => absurd (hI1.sub _ hs) (Nat.lt_irrefl _), _, _, _, hG.node, IsSl.nil _ _ _, hG.o1.isSl, hG.o2.isSl⟩
     have hIr := hI1.below hG.bel
     have htr := ht1.1.step ht1.2 (Step.of_below (S := S1) hG.bel)
     obtain ⟨_, _, e, d1, d2⟩ := hv1.at rfl 0 (by omega)
     cases e
     rw [Nat.zero_mul, Nat.add_zero] at d2
     have d2' := (hG.bel.cell (p := ⟨pb, po + 1, none⟩) (World.block_lt_of_cell? wo _ d2)).trans d2
     have hpb := World.block_lt_of_cell? wr _ d2'
     have hlp : (0 : Int) < (ps.length : Int) := by omega
     have hlp2 : 0 < ps.length := by omega
     have hRM := Lib.hid rm1
     have HRO := Lib.hid hRo
     have hroom2 := Lib.hid rm2
     clear rm1 rm2 hRo d1 d2
     go_wp2_with (first
      | (go_at_call 144; go_must ((refine (spread_any t mp root err _ σ1 S1 wo.heap.size ⟨[], (ps.drop 1).map (·.2), ps.map (·.1)⟩ _ wr hIr htr.1 htr.2 hnode ok (Nat.lt_succ_self _)).mono ?_); rintro e w6 (⟨v6, ps6, zs, σ3, S3, rfl, p2, p3, p4, p5, p6⟩ | ⟨hno, rfl, τ, Sτ, g1, g2, g3, g4⟩) <;> refine Stop.of ?_)))
     rotate_left
     ·refine Stop.on ?_
      exact ⟨rfl, .inr ⟨fun hR => absurd (hRM.out hR) (Nat.not_le.2 hno), rfl, τ, Sτ, g1, (hs1.trans (Step.of_below hG.bel)).trans g2, g3.trans HC1.out.H, g4.trans HC1.out.most⟩⟩
     refine Stop.on ?_
     go_wp2_with fail
     obtain ⟨m3, bs3, q1, q2⟩ := spr_pcs p3 (lo := ⟨#[]⟩) (hi := none) (h := h + 1) (cs := cs) (bs := bs1) ok ⟨hkne, by rw [HRO.out.row]; exact HP1.out.row⟩ p4 hI1.cln (HC1.out.nd hn) (RowL.has (fun _ _ _ _ _ ht => ht.has) HP1.out.row) (HP1.out.key _ (List.getElem_mem hlp2)) (by have := hroom2.out; simp at this ⊢; omega)
     have hl6 : ps6.length < ps.length := by
      have e1 := p3.room ok
      have e2 := p4.length.1
      simp [Nd.room] at e1
      have : ¬ ps = [] := fun e => by rw [e] at h1; simp at h1
      rw [if_neg this] at e1
      omega
     go_roundw
     case rel => exact ⟨ps6, h + 1, m3, σ3, S3, bs3, p2.isSl, q1, HC1.out.trans q2, fun Lr hR t => puts_tk p3 ok p4 (HRML.out Lr hR) (HPK.out Lr hR t), p5, (hs1.trans (Step.of_below hG.bel)).trans p6⟩
     case measure =>
      obtain ⟨ao6, c6, rfl, _⟩ := IsSl.form p2.isSl
      exact hl6
  ·have x1 : ¬ (1 : Int) < (ps.length : Int) := by omega
   by_cases h0 : ps.length = 0
   ·have x0 : (ps.length : Int) = 0 := by omega
    have hp0 : ps = [] := List.eq_nil_of_length_eq_zero h0
    subst hp0
    obtain ⟨hc0, hb0⟩ := HP1.out.row
    have HC0 := Lib.hid hc0
    have HB0 := Lib.hid hb0
    clear hc0 hb0 h0 x0
    go_wp2_with fail
    go_ret
    exact .inl ⟨0, σ1, S1, bs1, rfl, .inl ⟨rfl, HC0.out, HB0.out⟩, HC1.out, HPK.out, hI1, hs1⟩
   ·have h11 : ps.length = 1 := by omega
    obtain ⟨p, hp⟩ : ∃ p, ps = [p] := List.length_eq_one_iff.1 h11
    subst hp
    obtain ⟨c1, c2, y1, y2, hT, ⟨hc2, hy2⟩, hc, hy⟩ := HP1.out.row
    subst hc2 hy2
    rw [List.append_nil] at hc hy
    subst hc hy
    have HT := Lib.hid hT; clear hT
    obtain ⟨pb, po, e, d1, d2⟩ := hv1.at rfl 0 (Nat.lt_succ_self 0)
    subst e
    have d1' : wo.cell? ⟨pb, po, none⟩ = some (.int .i64 p.1) := d1
    have hpl : pb < wo.heap.size := World.block_lt_of_cell? wo _ d1
    clear d1 d2 h0 h11 h1
    go_wp2_with fail
    go_loopw [8, 9, 10, 11] (fun x y _ _ wx => ∃ (b : Int) (d h m : Nat) (σ2 : MSt) (S2 : Nat → Prop) (bs2 : List Int), x = .int .i64 b ∧ y = .int .i64 d ∧ TrM σ2 h m ⟨#[]⟩ none b cs bs2 ∧ (m = 2 ∨ d = 0) ∧ d ≤ 1 ∧ Chg σ σ2 bs bs2 ∧ Pk σ σ2 bs n ∧ Inv σ2 S2 mp wx ∧ Step S S2 w wx) (fun _ y _ _ _ => 2 - (intOf y).toNat)
    case atStart => exact ⟨p.1, 0, h, m, σ1, S1, _, rfl, rfl, HT.out, .inr rfl, by omega, HC1.out, HPK.out, hI1, hs1⟩
    case round =>
     obtain ⟨wo2, rfl⟩ : ∃ x : World, x = wr := ⟨_, rfl⟩
     obtain ⟨b, d, h2, m2, σ2, S2, bs2, rfl, rfl, hT2, hmd, hd1, hC2, hK2, hI2, hs2⟩ := hrel
     have HPK2 := Lib.hid hK2; clear hK2
     obtain ⟨nd, bs3, hB, ok, hNr, hKd, hne, rfl⟩ := trM_iff.1 hT2
     have HT2 := Lib.hid hT2; clear hT2
     have HC2 := Lib.hid hC2; clear hC2
     have ht2 := ht.step hst hs2
     have hd40 : (d : Int) ≤ 40 := by omega
     have hnk := hB.fits.nk
     by_cases hk1 : nd.kids.length = 1
     ·obtain ⟨h3, rfl⟩ : ∃ h3, h2 = h3 + 1 := by
       cases h2 with
       | zero => have := hNr.1; rw [this] at hk1; simp at hk1
       | succ h3 => exact ⟨h3, rfl⟩
      have hd0 : d = 0 := hmd.resolve_left (fun e => by
       have := hKd.resolve_left (by omega)
       omega)
      have x1 : (nd.kids.length : Int) = 1 := by omega
      have HK1 := Lib.hid hk1
      have HD0 := Lib.hid hd0
      have hrow := rowOf ok hNr.1 ⟨#[]⟩
      obtain ⟨b0, l, e, e2, e3⟩ := zip_lows ok.kk hNr.1 ⟨#[]⟩
      have hl0 : l = [] := by
       have := congrArg List.length e3
       simp at this
       exact List.eq_nil_of_length_eq_zero (by omega)
      subst hl0
      have hr2 := hNr.2
      unfold Nd.row at hr2
      rw [e] at hr2
      obtain ⟨c1, c2, y1, y2, hT3, ⟨hc2, hy2⟩, hc, hy⟩ := hr2
      subst hc2 hy2
      rw [List.append_nil] at hc hy
      subst hc hy
      have E3 := Lib.hid e3
      clear e e2 e3 hk1 hd0 hrow
      have cg := chg_gone hI2 hB.has
      have hnd3 := HC2.out.nd hn
      have cl := cg.left (us := [b]) (bs := []) (rs := bs3) hnd3 (fun x hx => HT2.out.has x (List.mem_cons_of_mem _ hx))
      have hT4 := hT3.keep cg (fun y hy e => (List.nodup_cons.1 hnd3).1 (by rw [← List.mem_singleton.1 e]; exact hy))
      have hm : ∀ w, (method 458 113 mp.agg "Free").run Tryz.prog w = .ok (263, .pointer (some ⟨mp.mp, 0, none⟩)) w := fun _ => by kernel_rfl
      go_wp2_with (first
       | (go_at_call 117; go_must ((refine (load_any t mp root err b d σ2 S2 nd _ hI2 ht2.1 hB hd40).mono ?_); rintro e w1 ⟨nb, rfl, hn1, hb1⟩))
       | (go_at_call 145; go_must ((refine (must_ok _).mono ?_); rintro e w2 ⟨rfl, hw⟩; subst w2; refine Stop.of ?_)))
      refine Stop.on ?_
      obtain ⟨_, v0, v1, v2, bN, _, _, N2⟩ := hn1.isNode
      obtain ⟨ao2, cp2, rfl, _, _, _, _⟩ := IsSl.form N2
      obtain ⟨_, _, y2, _, _, _, ly⟩ := cells3 bN
      obtain ⟨tc0, _, _, _, _, _, tl0⟩ := cells3 ((hb1.block t (Array.getElem?_eq_some_iff.1 ht2.1).1).trans ht2.1)
      go_wp2_with (first
       | (go_at_call 263; go_must ((refine (free_any mp σ2 S2 w1 b (hI2.below hb1) hB.lo hB.has).mono ?_); rintro e w3 ⟨rfl, hI3, hs3⟩; refine Stop.of ?_)))
      refine Stop.on ?_
      obtain ⟨_, v0', v1', v2', bN3, _, _, N23⟩ := hn1.isNode.step hs3
      obtain ⟨ao3, cp3, rfl, _, _, _, _⟩ := IsSl.form N23
      obtain ⟨pb2, po2, rfl, d2⟩ := N23.at rfl 0 (by rw [HK1.out]; exact Nat.lt_succ_self 0)
      have hk0 : nd.kids[0]'(by rw [HK1.out]; exact Nat.lt_succ_self 0) = b0 := by
       have := E3.out
       simp at this
       simp [this]
      rw [hk0, Nat.add_zero] at d2
      obtain ⟨_, _, y2, _, _, _, ly⟩ := cells3 bN3
      have hp2 := World.block_lt_of_cell? w3 _ d2
      go_wp2_with (first
       | (go_at_call 145; go_must ((refine (must_ok _).mono ?_); rintro e w2 ⟨rfl, hw⟩; subst w2)))
      go_roundw
      case rel => exact ⟨b0, d + 1, h3, 2, σ2.gone b, S2, bs3, rfl, by go_num, hT4, .inl rfl, by have := HD0.out; omega, HC2.out.trans cl, HPK2.out, hI3, (hs2.trans (Step.of_below hb1)).trans hs3⟩
      case measure => simp [intOf]; omega
     ·have x1 : ¬ (nd.kids.length : Int) = 1 := by omega
      have x1' : ((nd.kids.length : Int) == 1) = false := by rw [beq_eq_false_iff_ne]; omega
      have HK1 := Lib.hid hk1; clear hk1
      go_wp2_with (first
       | (go_at_call 117; go_must ((refine (load_any t mp root err b d σ2 S2 nd _ hI2 ht2.1 hB hd40).mono ?_); rintro e w1 ⟨nb, rfl, hn1, hb1⟩))
       | (go_at_call 145; go_must ((refine (must_ok _).mono ?_); rintro e w2 ⟨rfl, hw⟩; subst w2; refine Stop.of ?_)))
      refine Stop.on ?_
      obtain ⟨_, v0, v1, v2, bN, _, _, N2⟩ := hn1.isNode
      obtain ⟨ao2, cp2, rfl, _, _, _, _⟩ := IsSl.form N2
      obtain ⟨_, _, y2, _, _, _, ly⟩ := cells3 bN
      go_wp2_with fail
      go_ret
      refine .inl ⟨b, σ2, S2, _, rfl, .inr ⟨h2, trM_iff.2 ⟨nd, bs3, hB, ok, hNr, ?_, hne, rfl⟩⟩, HC2.out, HPK2.out, hI2.below hb1, hs2.trans (Step.of_below hb1)⟩
      cases h2 with
      | zero => exact .inl rfl
      | succ h2 => exact .inr (by have := List.length_pos_iff.2 hNr.1; have := HK1.out; omega)
end Go.Proofs.YtfgpefcphnpabaaGreat
