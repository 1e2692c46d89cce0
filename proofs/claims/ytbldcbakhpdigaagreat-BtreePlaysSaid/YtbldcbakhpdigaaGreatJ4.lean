/- Decode, Sto, StoW, StoT, Load, Write, Spread, SpreadW -/
import Derived.Test.YtbldcbakhpdigaaGreatJ3
import Derived.Maps.OwnSet
import Derived.Laws.MakeOwn
/- decode: a node out of the bytes that encode gives. -/
namespace Go.Proofs.YtbldcbakhpdigaaGreat
open Go.RowKit

/-- what decode has behind k pairs -/
structure D1 (nd : Nd) (rest : List UInt8) (w : World) (S : Nat → Prop) (k : Nat) (hv : Value) (wr : World) : Prop where
  cut : IsCut wr S w.heap.size w.heap.size (encPrs (nd.pairs.drop k) ++ (encKids nd.kids ++ (encKeys nd.keys ++ rest)))
  node : ∃ v0, wr.heap[w.heap.size + 1]? = some (.cells #[v0, .slice none 0 0, .slice none 0 0] 74 (0, 0)) ∧ OwnSl wr S w.heap.size 53 2 v0 k (prCells (nd.pairs.take k))
  head : IsBytes wr S hv [b8 nd.pairs.length, b8 nd.kids.length] ∧ ∀ g, hv.ownBlock = some g → g < w.heap.size
  bel : Below w.heap.size w wr

theorem D1.next {nd : Nd} {rest : List UInt8} {w : World} {S : Nat → Prop} {k : Nat} {hv : Value} {wr w3 w4 : World} (hD : D1 nd rest w S k hv wr) (hlt : k < nd.pairs.length) (hb3 : Below w.heap.size w w3) (hb4 : Below w.heap.size w w4)
    (hc3 : IsCut w3 S w.heap.size w.heap.size (encPrs (nd.pairs.drop (k + 1)) ++ (encKids nd.kids ++ (encKeys nd.keys ++ rest)))) (hcb : w4.heap[w.heap.size]? = w3.heap[w.heap.size]?)
    {v0 v' : Value} (hN : w4.heap[w.heap.size + 1]? = some (.cells #[v0, .slice none 0 0, .slice none 0 0] 74 (0, 0))) (hown : OwnSl w4 S w.heap.size 53 2 v' (k + 1) (prCells (nd.pairs.take k) ++ [.string nd.pairs[k].1, .string nd.pairs[k].2])) :
    D1 nd rest w S (k + 1) hv (w4.setCell ⟨w.heap.size + 1, 0, none⟩ v') := by
  have hne := hown.ne hN (by decide)
  have hk5 : Keep (· = w.heap.size + 1) w4 (w4.setCell ⟨w.heap.size + 1, 0, none⟩ v') := Keep.setCell (M := (· = w.heap.size + 1)) (p := ⟨w.heap.size + 1, 0, none⟩) (Keep.refl _ _) (.inr rfl) v'
  have hb5 : Below w.heap.size w (w4.setCell ⟨w.heap.size + 1, 0, none⟩ v') := hb4.setCell (by simp) v'
  have hlo : ∀ g, g < w.heap.size → (w4.setCell ⟨w.heap.size + 1, 0, none⟩ v').heap[g]? = w3.heap[g]? := fun g hg => (hb5.block g hg).trans (hb3.block g hg).symm
  obtain ⟨hcut, _, hhead, hbel⟩ := hD
  refine ⟨hc3.keep ?_ hlo, ⟨v', ?_, ?_⟩, ⟨IsSl.keep hhead.1 fun g hg _ hs => ⟨(hb5.block g (hhead.2 g hg)).trans (hbel.block g (hhead.2 g hg)).symm, hs⟩, hhead.2⟩, hb5⟩
  · rw [Below.heap_setCell _ _ _ _ (by simp)]; exact hcb
  · simp [World.setCell, Array.getElem?_modify, hN]
  · rw [List.take_succ_eq_append_getElem hlt, prCells_append]
    refine OwnSl.keep (w := w4) hown fun g hg hl hs => ⟨hk5.block g hl (fun e => hne (by rw [hg, e])), hs⟩

set_option maxRecDepth 100000 in
set_option maxHeartbeats 2000000 in
theorem decode_any (v : Value) (nd : Nd) (rest : List UInt8) (w : World) (S : Nat → Prop) (hS : ∀ g, S g → g < w.heap.size) (h : IsBytes w S v (nd.enc ++ rest)) (hf : nd.Fits) (_hl : (nd.enc ++ rest).length ≤ 1000000) :
    Calls Tryz.prog 42 #[v] w fun e w' => ∃ b, e = .returned (.tuple #[.pointer (some ⟨b, 0, none⟩), .int .i64 0]) ∧ OwnNode w' S w.heap.size b nd ∧ Below w.heap.size w w' := by
  generalize hL : nd.enc ++ rest = l at h
  have HL := Lib.hid hL; clear hL
  have hS0 : ¬ S w.heap.size := fun x => absurd (hS _ x) (Nat.lt_irrefl _)
  have hS1 : ¬ S (w.heap.size + 1) := fun x => absurd (hS _ x) (by omega)
  obtain ⟨ao, c, rfl, n1, m1, _, _⟩ := IsSl.form h
  have hvb : ∀ g, (Value.slice ao l.length c).ownBlock = some g → g < w.heap.size := by
    intro g hg
    obtain ⟨ao, c, hv, _, _, _, _, h5, _⟩ := h
    cases hv
    cases ao with
    | none => cases hg
    | some ad => cases hg; exact (h5 _ rfl).2.1
  have hcut0 : IsCut (w.alloc (.cells #[.slice ao l.length c, .bool false] 113)) S w.heap.size w.heap.size l :=
    ⟨hS0, Nat.le_refl _, _, heap_alloc_new _ _, IsSl.below h (below_one _ _), hvb⟩
  have hl2 : 2 ≤ l.length := by rw [← HL.out]; simp [Nd.enc]
  go_enter Tryz.func42, Tryz.ntmps42
  go_wp2_with (first | (go_at_call 58; go_must (refine (cut_any w.heap.size w.heap.size l 2 2 rfl _ S hcut0 hl2).mono ?_; rintro e w1 ⟨hv, rfl, hh, hc, hk1, hne, hsz1⟩; refine Stop.of ?_)))
  have e1 : l.take 2 = [b8 nd.pairs.length, b8 nd.kids.length] := by rw [← HL.out]; rfl
  have e2 : l.drop 2 = encPrs nd.pairs ++ (encKids nd.kids ++ (encKeys nd.keys ++ rest)) := by rw [← HL.out]; simp [Nd.enc]
  rw [e1] at hh
  rw [e2] at hc
  clear e1 e2 hcut0 h
  have hbel1 : Below w.heap.size w w1 := (below_one w _).trans (hk1.toBelow (by simp) (fun i hi => by omega))
  rw [World.size_alloc] at hsz1
  obtain ⟨hao, hcap, rfl, q1, q2, q3, q4⟩ : ∃ ao c, hv = .slice ao 2 c ∧ 2 ≤ c ∧ c ≤ 9223372036854775807 ∧ (2 = 0 ∨ ∃ b o, ao = some ⟨b, o, none⟩) ∧ (ao = none → c = 0) := IsSl.form hh
  obtain ⟨hb0, ho0, rfl, d0⟩ := hh.at rfl 0 (by simp)
  obtain ⟨_, _, e, d1⟩ := hh.at rfl 1 (by simp)
  cases e
  have d0' : w1.cell? ⟨hb0, ho0, none⟩ = some (.int .u8 ((b8 nd.pairs.length).toNat : Int)) := d0
  rw [b8_toNat _ hf.np] at d0'
  have d1' : w1.cell? ⟨hb0, ho0 + 1, none⟩ = some (.int .u8 ((b8 nd.kids.length).toNat : Int)) := d1
  rw [b8_toNat _ hf.nk] at d1'
  have hb0lt : hb0 < w.heap.size + 1 := by rw [← hsz1]; exact World.block_lt_of_cell? w1 _ d0
  clear d0 d1 q3 q4
  have np := hf.np
  have nk := hf.nk
  refine Stop.on ?_
  go_wp2_with fail
  have hb0B : hb0 < w.heap.size := hne _ rfl
  go_loopw [21] (fun i wr => ∃ k : Nat, k ≤ nd.pairs.length ∧ i = .int .i64 k ∧ D1 nd rest w S k (.slice (some ⟨hb0, ho0, none⟩) 2 hcap) wr) (fun i _ => nd.pairs.length - (intOf i).toNat)
  case atStart =>
    have hbn := below_one w1 (.cells #[.slice none 0 0, .slice none 0 0, .slice none 0 0] 74)
    obtain ⟨hc1, hc2, cv, hc3, hc4, hc5⟩ := hc
    exact ⟨0, Nat.zero_le _, rfl, ⟨hc1, hc2, cv, (hbn.block _ (by omega)).trans hc3, IsSl.below hc4 hbn, hc5⟩, ⟨_, by rw [← hsz1]; exact heap_alloc_new _ _, OwnSl.nil _ _ _ _ _⟩, ⟨IsSl.below hh hbn, hne⟩, hbel1.trans (hbn.mono (by omega))⟩
  case round =>
    obtain ⟨k, hk, rfl, hD⟩ := hrel
    by_cases hlt2 : k < nd.pairs.length
    · have hD0 := hD
      obtain ⟨hcutr, ⟨v0, hN, hown⟩, _, hbel⟩ := hD
      have hpf := hf.pr nd.pairs[k] (List.getElem_mem hlt2)
      have eL : encPrs (nd.pairs.drop k) ++ (encKids nd.kids ++ (encKeys nd.keys ++ rest)) = b8 nd.pairs[k].1.size :: b8 nd.pairs[k].2.size :: (nd.pairs[k].1.data.toList ++ (nd.pairs[k].2.data.toList ++ (encPrs (nd.pairs.drop (k + 1)) ++ (encKids nd.kids ++ (encKeys nd.keys ++ rest))))) := by
        unfold encPrs; rw [drop_flatMap _ _ _ hlt2]; simp [encPr]
      rw [eL] at hcutr
      clear eL
      generalize hR : encPrs (nd.pairs.drop (k + 1)) ++ (encKids nd.kids ++ (encKeys nd.keys ++ rest)) = R at hcutr
      have HR := Lib.hid hR; clear hR
      have hz1 : nd.pairs[k].1.size ≤ 255 := by omega
      have hz2 : nd.pairs[k].2.size ≤ 255 := by omega
      have hkb := hk
      generalize hp1 : nd.pairs[k].1 = s1 at hcutr hz1
      generalize hp2 : nd.pairs[k].2 = s2 at hcutr hz2
      have HP1 := Lib.hid hp1; clear hp1
      have HP2 := Lib.hid hp2; clear hp2
      obtain ⟨ao0, c0, rfl, g1, g2, _, _⟩ := hown.isSl.form
      have hnbr : w.heap.size + 1 < wr.heap.size := (Array.getElem?_eq_some_iff.1 hN).1
      have hcne : (Value.slice ao0 k c0).ownBlock ≠ some w.heap.size := by
        obtain ⟨_, _, cv, hcb0, _, _⟩ := hcutr
        exact hown.ne hcb0 (by decide)
      go_wp2_with (first | (go_at_call 58; go_must (refine (cut_any w.heap.size w.heap.size _ 2 2 rfl _ S hcutr (by simp)).mono ?_; rintro e w1 ⟨lv, rfl, hlb, hcut1, hkc1, hlne, hszc1⟩; refine Stop.of ?_)))
      have B1 : Below w.heap.size w w1 := hbel.trans (hkc1.toBelow (by omega) (fun i hi => by omega))
      have hN1 := (hkc1.block _ hnbr (by omega)).trans hN
      have hown1 : OwnSl w1 S w.heap.size 53 2 (.slice ao0 k c0) k (prCells (nd.pairs.take k)) := hown.keep fun g hg hl hs => ⟨hkc1.block g hl (fun e => hcne (by rw [hg, e])), hs⟩
      obtain ⟨lao, lc, rfl, r1, r2, r3, r4⟩ : ∃ ao c, lv = .slice ao 2 c ∧ 2 ≤ c ∧ c ≤ 9223372036854775807 ∧ (2 = 0 ∨ ∃ b o, ao = some ⟨b, o, none⟩) ∧ (ao = none → c = 0) := IsSl.form hlb
      obtain ⟨lb, lo, rfl, y0⟩ := hlb.at rfl 0 (by simp)
      obtain ⟨_, _, e, y1⟩ := hlb.at rfl 1 (by simp)
      cases e
      have hlbB : lb < w.heap.size := hlne _ rfl
      have l0 : ∀ W, Below w.heap.size w W → W.cell? ⟨lb, lo, none⟩ = some (.int .u8 (s1.size : Int)) := fun W hW => by
        have q : w1.cell? ⟨lb, lo, none⟩ = some (.int .u8 ((b8 s1.size).toNat : Int)) := y0
        rw [b8_toNat _ (by omega)] at q
        exact ((hW.cell (p := ⟨lb, lo, none⟩) hlbB).trans (B1.cell (p := ⟨lb, lo, none⟩) hlbB).symm).trans q
      have l1 : ∀ W, Below w.heap.size w W → W.cell? ⟨lb, lo + 1, none⟩ = some (.int .u8 (s2.size : Int)) := fun W hW => by
        have q : w1.cell? ⟨lb, lo + 1, none⟩ = some (.int .u8 ((b8 s2.size).toNat : Int)) := y1
        rw [b8_toNat _ (by omega)] at q
        exact ((hW.cell (p := ⟨lb, lo + 1, none⟩) hlbB).trans (B1.cell (p := ⟨lb, lo + 1, none⟩) hlbB).symm).trans q
      have cvt : ∀ (w' : World) (v : Value) (s : ByteArray), Below w.heap.size w w' → IsBytes w' S v s.data.toList → (∀ g, v.ownBlock = some g → g < w.heap.size) → ∀ W, Below w.heap.size w W → (convert 40 9 v).run Tryz.prog W = .ok (.string s) W := fun w' v s hw' hv hg W hW =>
        (show IsBytes W S v s.data.toList from IsSl.keep hv fun g hgg _ hs => ⟨(hW.block g (hg g hgg)).trans (hw'.block g (hg g hgg)).symm, hs⟩).str s _ _ _ Tryz.underlying40 Tryz.underlying5 Tryz.underlying9
      have Cvt := Lib.hid cvt; clear cvt
      have hc1b := hcut1
      rw [show ∀ (x y : UInt8) (l : List UInt8), (x :: y :: l).drop 2 = l from fun _ _ _ => rfl] at hc1b
      have n1c := (cells3 hN1).1
      have hnb1 : w.heap.size + 1 < w1.heap.size := by omega
      clear y0 y1 r3 r4 hcut1 hcutr hown hN hlb hkc1
      have tokA : True := trivial
      refine Stop.on ?_
      go_wp2
      have hC1 : w1.drew.cell? ⟨w.heap.size + 1, 0, none⟩ = some (.slice ao0 k c0) := n1c
      refine wp_region_ord (fun W => Below w.heap.size w W ∧ W.cell? ⟨w.heap.size + 1, 0, none⟩ = some (.slice ao0 k c0)) (fun i => !([10, 17, 20, 21, 24].contains i)) [0, 1, 2, 3, 4, 5, 6, 7, 8, 9, 12, 13, 14, 15, 16, 10, 11, 17, 18, 19, 20, 21, 22, 23, 24] rfl (by kernel_rfl) ⟨B1.drew, hC1⟩ ?_
      repeat ((refine ord_q (v := ?_) rfl rfl (fun _ _ _ h => h) rfl (fun W hW => ?_) ?_); rotate_left; (focus ((try dsimp only at hW); have q0 := l0 W hW.1; have q1 := l1 W hW.1; have q2 := hW.2; first | (go_simp; first | done | with_reducible rfl))); (try simp only [Act.put, List.setIfInBounds_toArray, List.set_cons_zero, List.set_cons_succ]))
      refine ord_e rfl rfl rfl ?_
      intro K hK
      go_simp
      refine (cut_any w.heap.size w.heap.size _ s1.size _ (by rw [IntKind.wrap_i64]; omega) w1.drew S (hc1b.keep rfl fun _ _ => rfl) (by rw [List.length_append, length_bytes]; omega)).mono ?_
      rintro e w2 ⟨v1, rfl, hv1, hcut2, hkc2, hv1B, hszc2⟩
      have B2 : Below w.heap.size w w2 := B1.drew.trans (hkc2.toBelow (by simp; omega) (fun i hi => by omega))
      have hN2 := (hkc2.block _ hnb1 (by omega)).trans hN1
      have n2c := (cells3 hN2).1
      have hnb2 : w.heap.size + 1 < w2.heap.size := by rw [hszc2]; exact hnb1
      have hown2 : OwnSl w2 S w.heap.size 53 2 (.slice ao0 k c0) k (prCells (nd.pairs.take k)) := hown1.keep fun g hg hl hs => ⟨hkc2.block g hl (fun e => hcne (by rw [hg, e])), hs⟩
      rw [← length_bytes s1, List.take_left] at hv1
      rw [← length_bytes s1, List.drop_left] at hcut2
      have cv1 := Cvt.out w2 v1 s1 B2 hv1 hv1B
      refine hK.out _ _ ⟨B2, n2c⟩ ?_
      (try simp only [Act.put, List.setIfInBounds_toArray, List.set_cons_zero, List.set_cons_succ])
      repeat ((refine ord_q (v := ?_) rfl rfl (fun _ _ _ h => h) rfl (fun W hW => ?_) ?_); rotate_left; (focus ((try dsimp only at hW); have q0 := l0 W hW.1; have q1 := l1 W hW.1; have q2 := hW.2; first | exact cv1 W hW.1 | (go_simp; first | done | with_reducible rfl))); (try simp only [Act.put, List.setIfInBounds_toArray, List.set_cons_zero, List.set_cons_succ]))
      refine ord_e rfl rfl rfl ?_
      intro K hK
      go_simp
      refine (cut_any w.heap.size w.heap.size _ s2.size _ (by rw [IntKind.wrap_i64]; omega) w2 S hcut2 (by rw [List.length_append, length_bytes]; omega)).mono ?_
      rintro e w3 ⟨v2, rfl, hv2, hcut3, hkc3, hv2B, hszc3⟩
      have B3 : Below w.heap.size w w3 := B2.trans (hkc3.toBelow (by omega) (fun i hi => by omega))
      have hN3 := (hkc3.block _ hnb2 (by omega)).trans hN2
      have n3c := (cells3 hN3).1
      have hnb3 : w.heap.size + 1 < w3.heap.size := by rw [hszc3]; exact hnb2
      have hown3 : OwnSl w3 S w.heap.size 53 2 (.slice ao0 k c0) k (prCells (nd.pairs.take k)) := hown2.keep fun g hg hl hs => ⟨hkc3.block g hl (fun e => hcne (by rw [hg, e])), hs⟩
      rw [← length_bytes s2, List.take_left] at hv2
      rw [← length_bytes s2, List.drop_left] at hcut3
      have cv2 := Cvt.out w3 v2 s2 B3 hv2 hv2B
      refine hK.out _ _ ⟨B3, n3c⟩ ?_
      (try simp only [Act.put, List.setIfInBounds_toArray, List.set_cons_zero, List.set_cons_succ])
      repeat ((refine ord_q (v := ?_) rfl rfl (fun _ _ _ h => h) rfl (fun W hW => ?_) ?_); rotate_left; (focus ((try dsimp only at hW); have q0 := l0 W hW.1; have q1 := l1 W hW.1; have q2 := hW.2; first | exact cv1 W hW.1 | exact cv2 W hW.1 | (go_simp; first | done | with_reducible rfl))); (try simp only [Act.put, List.setIfInBounds_toArray, List.set_cons_zero, List.set_cons_succ]))
      refine ord_e rfl rfl rfl ?_
      intro K hK
      go_simp
      have B4 := fun T => below_one w3 (.cells #[.string s1, .string s2] T)
      refine hK.out _ _ ⟨B3.trans ((B4 _).mono (by omega)), ?_⟩ ?_
      · exact ((B4 _).cell (p := ⟨w.heap.size + 1, 0, none⟩) hnb3).trans n3c
      (try simp only [Act.put, List.setIfInBounds_toArray, List.set_cons_zero, List.set_cons_succ])
      refine ord_e rfl rfl rfl ?_
      intro K hK
      refine wp_app (.tmp 29) (.tmp 45) 29 29 rfl S w.heap.size 53 2 32 _ Tryz.underlying29 info_pair rfl (.slice ao0 k c0) k (prCells (nd.pairs.take k)) rfl (hown3.below (B4 _)) _ 1 [.string s1, .string s2] rfl (src_new [_, _] _ 2 1 1 (hszc3.trans (hszc2.trans hszc1)) Tryz.underlying29 rfl ?_) (fun g hg => by have := hS g hg; rw [World.size_alloc]; omega) (by rw [World.size_alloc]; omega) (by simp only [maxLen]; omega) (by omega) ?_
      · intro u hu; simp only [List.mem_cons, List.not_mem_nil, or_false] at hu; rcases hu with rfl | rfl <;> rfl
      intro ao5 c5 w5 hown5 hkp5 hb5 hne5
      have b4c : (w3.alloc (.cells #[.string s1, .string s2] 53)).heap[w.heap.size]? = w3.heap[w.heap.size]? := (B4 _).block _ (by omega)
      have hN5 := (hkp5.block (w.heap.size + 1) (by rw [World.size_alloc]; omega) (hown3.ne hN3 (by decide))).trans (((B4 _).block _ hnb3).trans hN3)
      have n5c := (cells3 hN5).1
      have n5f := (cells3 hN5).2.2.2.1
      have B5 : Below w.heap.size w w5 := (B3.trans ((B4 _).mono (by omega))).trans hb5
      refine hK.out _ _ ⟨B5, n5c⟩ ?_
      (try simp only [Act.put, List.setIfInBounds_toArray, List.set_cons_zero, List.set_cons_succ])
      repeat ((refine ord_q (v := ?_) rfl rfl (fun _ _ _ h => h) rfl (fun W hW => ?_) ?_); rotate_left; (focus ((try dsimp only at hW); have q0 := l0 W hW.1; have q1 := l1 W hW.1; have q2 := hW.2; first | exact cv1 W hW.1 | exact cv2 W hW.1 | (go_simp; first | done | with_reducible rfl))); (try simp only [Act.put, List.setIfInBounds_toArray, List.set_cons_zero, List.set_cons_succ]))
      refine ord_l rfl rfl rfl (by kernel_rfl) ?_
      intro K hK
      go_simp
      refine hK.out _ _ (ord_nil ?_)
      have hD2 := hD0.next (w3 := w3) (w4 := w5) hlt2 B3 B5 (by rw [HR.out]; exact hcut3) ((hkp5.block w.heap.size (by rw [World.size_alloc]; omega) hcne).trans b4c) hN5 (v' := .slice ao5 (k + 1) c5) (by rw [HP1.out, HP2.out]; exact hown5)
      go_wp2
      go_roundw
      case rel => exact ⟨k + 1, hlt2, by go_num, hD2⟩
      case measure => simp [intOf]; omega
    · obtain rfl : k = nd.pairs.length := by omega
      have hDD : ∃ v0, DD w S (encKids nd.kids ++ (encKeys nd.keys ++ rest)) v0 nd.pairs (.slice none 0 0) [] (.slice none 0 0) [] wr := by
        obtain ⟨hcutr, ⟨v0, hN, hown⟩, _, hbel⟩ := hD
        rw [List.drop_length] at hcutr
        rw [List.take_length] at hown
        exact ⟨v0, hcutr, hN, hown, OwnSl.nil _ _ _ _ _, OwnSl.nil _ _ _ _ _, hbel⟩
      have l1 : ∀ W, Below w.heap.size w W → W.cell? ⟨hb0, ho0 + 1, none⟩ = some (.int .u8 (nd.kids.length : Int)) := fun W hW =>
        ((hW.cell (p := ⟨hb0, ho0 + 1, none⟩) hb0B).trans (hbel1.cell (p := ⟨hb0, ho0 + 1, none⟩) hb0B).symm).trans d1'
      clear hD hh hc hk1 d0' d1' hbel1 hlt2 hk
      obtain ⟨v0, hDD⟩ := hDD
      have hlr := l1 wr hDD.bel
      obtain ⟨wo, rfl⟩ : ∃ wo : World, wo = wr := ⟨_, rfl⟩
      go_wp2_with fail
      go_loopw [54] (fun i wr => ∃ (k : Nat) (v2 : Value), k ≤ nd.kids.length ∧ i = .int .i64 k ∧ DD w S (encKids (nd.kids.drop k) ++ (encKeys nd.keys ++ rest)) v0 nd.pairs (.slice none 0 0) [] v2 (nd.kids.take k) wr) (fun i _ => nd.kids.length - (intOf i).toNat)
      case atStart => exact ⟨0, .slice none 0 0, Nat.zero_le _, rfl, hDD⟩
      case round =>
        obtain ⟨k, v2, hk, rfl, hD⟩ := hrel
        by_cases hlt2 : k < nd.kids.length
        · obtain ⟨hkd0, hkd1⟩ := hf.kd nd.kids[k] (List.getElem_mem hlt2)
          obtain ⟨t, ht⟩ : ∃ t : Nat, nd.kids[k] = t := ⟨nd.kids[k].toNat, by omega⟩
          have ht' : nd.kids[k].toNat = t := by rw [ht]; rfl
          obtain ⟨ta, hta⟩ : ∃ a, a = t % 256 := ⟨_, rfl⟩
          obtain ⟨tc, htc⟩ : ∃ a, a = t / 256 := ⟨_, rfl⟩
          have HT := Lib.hid (kid_or ta tc t (by omega) (by omega) (by omega))
          have hta2 : ta < 256 := by omega
          have htc2 : tc < 256 := by omega
          have HTA := Lib.hid hta; clear hta
          have HTC := Lib.hid htc; clear htc
          have eL : encKids (nd.kids.drop k) ++ (encKeys nd.keys ++ rest) = b8 nd.kids[k].toNat :: b8 (nd.kids[k].toNat / 256) :: (encKids (nd.kids.drop (k + 1)) ++ (encKeys nd.keys ++ rest)) := by
            unfold encKids; rw [drop_flatMap _ _ _ hlt2]; simp [encKid]
          have hcutr := hD.cut
          rw [eL] at hcutr
          clear eL
          have hlen : (nd.kids.take k).length = k := by rw [List.length_take]; omega
          have hlen1 : (nd.kids.take (k + 1)).length = k + 1 := by rw [List.length_take]; omega
          have hltw := hD.lt
          obtain ⟨ao2, c2, rfl, g1, g2, _, _⟩ : ∃ ao c, v2 = .slice ao k c ∧ k ≤ c ∧ c ≤ 9223372036854775807 ∧ (k = 0 ∨ ∃ b o, ao = some ⟨b, o, none⟩) ∧ (ao = none → c = 0) := by have := hD.o2.isSl.form; rwa [hlen] at this
          go_wp2_with (first | (go_at_call 58; go_must (refine (cut_any w.heap.size w.heap.size _ 2 2 rfl _ S hcutr (by simp)).mono ?_; rintro e w1 ⟨lv, rfl, hlb, hcut1, hkc1, hlne, hszc1⟩; refine Stop.of ?_)))
          have hD1 := hD.took hkc1 hcut1
          rw [show ∀ (x y : UInt8) (l : List UInt8), (x :: y :: l).drop 2 = l from fun _ _ _ => rfl] at hD1
          obtain ⟨lao, lc, rfl, r1, r2, r3, r4⟩ : ∃ ao c, lv = .slice ao 2 c ∧ 2 ≤ c ∧ c ≤ 9223372036854775807 ∧ (2 = 0 ∨ ∃ b o, ao = some ⟨b, o, none⟩) ∧ (ao = none → c = 0) := IsSl.form hlb
          obtain ⟨lb, lo, rfl, y0⟩ := hlb.at rfl 0 (by simp)
          obtain ⟨_, _, e, y1⟩ := hlb.at rfl 1 (by simp)
          cases e
          have hlbB : lb < w.heap.size := hlne _ rfl
          have B1 := hD1.bel
          have m0 : ∀ W, Below w.heap.size w W → W.cell? ⟨lb, lo, none⟩ = some (.int .u8 (ta : Int)) := fun W hW => by
            have q : w1.cell? ⟨lb, lo, none⟩ = some (.int .u8 ((b8 nd.kids[k].toNat).toNat : Int)) := y0
            rw [ht', show (b8 t).toNat = ta by rw [HTA.out]; simp [b8]] at q
            exact ((hW.cell (p := ⟨lb, lo, none⟩) hlbB).trans (B1.cell (p := ⟨lb, lo, none⟩) hlbB).symm).trans q
          have m1 : ∀ W, Below w.heap.size w W → W.cell? ⟨lb, lo + 1, none⟩ = some (.int .u8 (tc : Int)) := fun W hW => by
            have q : w1.cell? ⟨lb, lo + 1, none⟩ = some (.int .u8 ((b8 (nd.kids[k].toNat / 256)).toNat : Int)) := y1
            rw [ht', ← HTC.out, b8_toNat _ htc2] at q
            exact ((hW.cell (p := ⟨lb, lo + 1, none⟩) hlbB).trans (B1.cell (p := ⟨lb, lo + 1, none⟩) hlbB).symm).trans q
          clear y0 y1 r3 r4 hcut1 hcutr hlb hkc1 hlr
          have n1c := (cells3 hD1.node).2.2.1
          refine Stop.on ?_
          go_wp2_with fail
          refine wp_region_ord (fun W => Below w.heap.size w W ∧ W.cell? ⟨w.heap.size + 1, 2, none⟩ = some (.slice ao2 k c2)) (fun i => !([15, 16, 19].contains i)) [0, 1, 2, 3, 4, 5, 6, 7, 8, 9, 10, 11, 12, 13, 14, 15, 16, 17, 18, 19] rfl (by kernel_rfl) ⟨B1.drew, n1c⟩ ?_
          repeat ((refine ord_q (v := ?_) rfl rfl (fun _ _ _ h => h) rfl (fun W hW => ?_) ?_); rotate_left; (focus ((try dsimp only at hW); have q0 := m0 W hW.1; have q1 := m1 W hW.1; have q2 := hW.2; first | (go_simp; first | done | with_reducible rfl))); (try simp only [Act.put, List.setIfInBounds_toArray, List.set_cons_zero, List.set_cons_succ]))
          refine ord_e rfl rfl rfl ?_
          intro K hK
          go_simp
          simp only [HT.out]
          have hDa := (hD1.alloc (.cells #[.int .i64 (t : Int)] 3)).drew
          have ho2 := hDa.o2
          rw [hlen] at ho2
          refine hK.out _ _ ⟨hDa.bel, (cells3 hDa.node).2.2.1⟩ ?_
          (try simp only [Act.put, List.setIfInBounds_toArray, List.set_cons_zero, List.set_cons_succ])
          refine ord_e rfl rfl rfl ?_
          intro K hK
          refine wp_app (.tmp 62) (.tmp 73) 36 36 rfl S w.heap.size 3 1 8 _ Tryz.underlying36 info_int rfl (.slice ao2 k c2) k ((nd.kids.take k).map (.int .i64)) rfl ho2 _ 1 [.int .i64 (t : Int)] rfl (src_new (w := w1.drew) [.int .i64 (t : Int)] 3 1 1 1 (g := wr.heap.size) hszc1 Tryz.underlying36 rfl ?_) (fun g hg => by have := hS g hg; have := hDa.lt; omega) (by have := hDa.lt; omega) (by simp only [maxLen]; omega) (by omega) ?_
          · intro u hu; simp only [List.mem_cons, List.not_mem_nil, or_false] at hu; rcases hu with rfl; rfl
          intro ao5 c5 w5 hown5 hkp5 hb5 hne5
          have hN5 := hDa.node2 hkp5
          have n5c := (cells3 hN5).2.2.1
          have n5f := (cells3 hN5).2.2.2.2.2.1
          have hD5 := hDa.put2 hkp5 hb5 (v' := .slice ao5 (k + 1) c5) (Ns' := nd.kids.take (k + 1)) (by rw [hlen1, List.take_succ_eq_append_getElem hlt2, List.map_append, List.map_cons, List.map_nil, ht]; exact hown5)
          refine hK.out _ _ ⟨hDa.bel.trans hb5, n5c⟩ ?_
          (try simp only [Act.put, List.setIfInBounds_toArray, List.set_cons_zero, List.set_cons_succ])
          repeat ((refine ord_q (v := ?_) rfl rfl (fun _ _ _ h => h) rfl (fun W hW => ?_) ?_); rotate_left; (focus ((try dsimp only at hW); have q0 := m0 W hW.1; have q1 := m1 W hW.1; have q2 := hW.2; first | (go_simp; first | done | with_reducible rfl))); (try simp only [Act.put, List.setIfInBounds_toArray, List.set_cons_zero, List.set_cons_succ]))
          refine ord_l rfl rfl rfl (by kernel_rfl) ?_
          intro K hK
          go_simp
          refine hK.out _ _ (ord_nil ?_)
          go_wp2
          go_roundw
          case rel => exact ⟨k + 1, _, hlt2, by go_num, hD5⟩
          case measure => simp [intOf]; omega
        · obtain rfl : k = nd.kids.length := by omega
          rw [List.drop_length, List.take_length, show encKids [] ++ (encKeys nd.keys ++ rest) = encKeys nd.keys ++ rest from rfl] at hD
          clear hlt2 hk hDD hlr
          obtain ⟨wo2, rfl⟩ : ∃ wo : World, wo = wr := ⟨_, rfl⟩
          obtain ⟨ao2, c2, rfl, g1, g2, _, _⟩ := hD.o2.isSl.form
          go_wp2
          have hkk := hf.kk
          go_loopw [9] (fun i wr => ∃ (k : Nat) (v1 : Value), k ≤ nd.keys.length ∧ i = .int .i64 (k + 1) ∧ DD w S (encKeys (nd.keys.drop k) ++ rest) v0 nd.pairs v1 (nd.keys.take k) (.slice ao2 nd.kids.length c2) nd.kids wr) (fun i _ => nd.keys.length + 1 - (intOf i).toNat)
          case atStart => exact ⟨0, .slice none 0 0, Nat.zero_le _, rfl, hD⟩
          case round =>
            obtain ⟨k, v1, hk, rfl, hD⟩ := hrel
            have hcK := (cells3 hD.node).2.2.1
            by_cases hlt2 : k < nd.keys.length
            · have hz := hf.ky nd.keys[k] (List.getElem_mem hlt2)
              have eL : encKeys (nd.keys.drop k) ++ rest = b8 nd.keys[k].size :: (nd.keys[k].data.toList ++ (encKeys (nd.keys.drop (k + 1)) ++ rest)) := by
                unfold encKeys; rw [drop_flatMap _ _ _ hlt2]; simp [encKey]
              have hcutr := hD.cut
              rw [eL] at hcutr
              clear eL
              have hlen : (nd.keys.take k).length = k := by rw [List.length_take]; omega
              have hlen1 : (nd.keys.take (k + 1)).length = k + 1 := by rw [List.length_take]; omega
              have hltw := hD.lt
              generalize hp1 : nd.keys[k] = s1 at hcutr hz
              have HP1 := Lib.hid hp1; clear hp1
              generalize hR : encKeys (nd.keys.drop (k + 1)) ++ rest = R at hcutr
              have HR := Lib.hid hR; clear hR
              obtain ⟨ao1, c1, rfl, g3, g4, _, _⟩ : ∃ ao c, v1 = .slice ao k c ∧ k ≤ c ∧ c ≤ 9223372036854775807 ∧ (k = 0 ∨ ∃ b o, ao = some ⟨b, o, none⟩) ∧ (ao = none → c = 0) := by have := hD.o1.isSl.form; rwa [hlen] at this
              have hlt3 : k + 1 < nd.kids.length := by omega
              have hlt4 : (k : Int) + 1 < nd.kids.length := by omega
              go_wp2_with fail
              have n1c := (cells3 hD.node).2.1
              refine wp_region_ord (fun W => Below w.heap.size w W ∧ W.cell? ⟨w.heap.size + 1, 1, none⟩ = some (.slice ao1 k c1)) (fun i => !([7, 11, 13, 14, 17].contains i)) [0, 1, 2, 3, 4, 5, 6, 7, 8, 9, 10, 11, 12, 13, 14, 15, 16, 17] rfl (by kernel_rfl) ⟨hD.bel.drew, n1c⟩ ?_
              repeat ((refine ord_q (v := ?_) rfl rfl (fun _ _ _ h => h) rfl (fun W hW => ?_) ?_); rotate_left; (focus ((try dsimp only at hW); have q2 := hW.2; first | (go_simp; first | done | with_reducible rfl))); (try simp only [Act.put, List.setIfInBounds_toArray, List.set_cons_zero, List.set_cons_succ]))
              refine ord_e rfl rfl rfl ?_
              intro K hK
              go_simp
              refine (cut_any w.heap.size w.heap.size _ 1 1 rfl wr.drew S (hcutr.keep rfl fun _ _ => rfl) (by simp)).mono ?_
              rintro e w1 ⟨lv, rfl, hlb, hcut1, hkc1, hlne, hszc1⟩
              have hD1 := hD.drew.took hkc1 hcut1
              rw [show ∀ (x : UInt8) (l : List UInt8), (x :: l).drop 1 = l from fun _ _ => rfl] at hD1
              obtain ⟨lao, lc, rfl, r1, r2, r3, r4⟩ : ∃ ao c, lv = .slice ao 1 c ∧ 1 ≤ c ∧ c ≤ 9223372036854775807 ∧ (1 = 0 ∨ ∃ b o, ao = some ⟨b, o, none⟩) ∧ (ao = none → c = 0) := IsSl.form hlb
              obtain ⟨lb, lo, rfl, y0⟩ := hlb.at rfl 0 (by simp)
              have hlbB : lb < w.heap.size := hlne _ rfl
              have B1 := hD1.bel
              have m0 : ∀ W, Below w.heap.size w W → W.cell? ⟨lb, lo, none⟩ = some (.int .u8 (s1.size : Int)) := fun W hW => by
                have q : w1.cell? ⟨lb, lo, none⟩ = some (.int .u8 ((b8 s1.size).toNat : Int)) := y0
                rw [b8_toNat _ hz] at q
                exact ((hW.cell (p := ⟨lb, lo, none⟩) hlbB).trans (B1.cell (p := ⟨lb, lo, none⟩) hlbB).symm).trans q
              clear y0 r3 r4 hcut1 hcutr hlb hkc1
              refine hK.out _ _ ⟨B1, (cells3 hD1.node).2.1⟩ ?_
              (try simp only [Act.put, List.setIfInBounds_toArray, List.set_cons_zero, List.set_cons_succ])
              repeat ((refine ord_q (v := ?_) rfl rfl (fun _ _ _ h => h) rfl (fun W hW => ?_) ?_); rotate_left; (focus ((try dsimp only at hW); have q0 := m0 W hW.1; have q2 := hW.2; first | (go_simp; first | done | with_reducible rfl))); (try simp only [Act.put, List.setIfInBounds_toArray, List.set_cons_zero, List.set_cons_succ]))
              refine ord_e rfl rfl rfl ?_
              intro K hK
              go_simp
              refine (cut_any w.heap.size w.heap.size _ s1.size _ (by rw [IntKind.wrap_i64]; omega) w1 S hD1.cut (by rw [List.length_append, length_bytes]; omega)).mono ?_
              rintro e w2 ⟨v, rfl, hv1, hcut2, hkc2, hv1B, hszc2⟩
              have hD2 := hD1.took hkc2 hcut2
              rw [← length_bytes s1, List.take_left] at hv1
              rw [← length_bytes s1, List.drop_left] at hD2
              have B2 := hD2.bel
              have cv1 : ∀ W, Below w.heap.size w W → (convert 40 9 v).run Tryz.prog W = .ok (.string s1) W := fun W hW =>
                (show IsBytes W S v s1.data.toList from IsSl.keep hv1 fun g hgg _ hs => ⟨(hW.block g (hv1B g hgg)).trans (B2.block g (hv1B g hgg)).symm, hs⟩).str s1 _ _ _ Tryz.underlying40 Tryz.underlying5 Tryz.underlying9
              refine hK.out _ _ ⟨B2, (cells3 hD2.node).2.1⟩ ?_
              (try simp only [Act.put, List.setIfInBounds_toArray, List.set_cons_zero, List.set_cons_succ])
              repeat ((refine ord_q (v := ?_) rfl rfl (fun _ _ _ h => h) rfl (fun W hW => ?_) ?_); rotate_left; (focus ((try dsimp only at hW); have q0 := m0 W hW.1; have q2 := hW.2; first | exact cv1 W hW.1 | (go_simp; first | done | with_reducible rfl))); (try simp only [Act.put, List.setIfInBounds_toArray, List.set_cons_zero, List.set_cons_succ]))
              refine ord_e rfl rfl rfl ?_
              intro K hK
              go_simp
              have hDa := hD2.alloc (.cells #[.string s1] 9)
              have ho1 := hDa.o1
              rw [hlen] at ho1
              refine hK.out _ _ ⟨hDa.bel, (cells3 hDa.node).2.1⟩ ?_
              (try simp only [Act.put, List.setIfInBounds_toArray, List.set_cons_zero, List.set_cons_succ])
              refine ord_e rfl rfl rfl ?_
              intro K hK
              refine wp_app (.tmp 91) (.tmp 100) 72 72 rfl S w.heap.size 9 1 16 _ Tryz.underlying72 info_str rfl (.slice ao1 k c1) k ((nd.keys.take k).map .string) rfl ho1 _ 1 [.string s1] rfl (src_new (w := w2) [.string s1] 9 1 1 1 (hszc2.trans hszc1) Tryz.underlying72 rfl ?_) (fun g hg => by have := hS g hg; have := hDa.lt; omega) (by have := hDa.lt; omega) (by simp only [maxLen]; omega) (by omega) ?_
              · intro u hu; simp only [List.mem_cons, List.not_mem_nil, or_false] at hu; rcases hu with rfl; rfl
              intro ao5 c5 w5 hown5 hkp5 hb5 hne5
              have hN5 := hDa.node1 hkp5
              have n5c := (cells3 hN5).2.1
              have n5f := (cells3 hN5).2.2.2.2.1
              have hD5 := hDa.put1 hkp5 hb5 (v' := .slice ao5 (k + 1) c5) (Ks' := nd.keys.take (k + 1)) (by rw [hlen1, List.take_succ_eq_append_getElem hlt2, List.map_append, List.map_cons, List.map_nil, HP1.out]; exact hown5)
              refine hK.out _ _ ⟨hDa.bel.trans hb5, n5c⟩ ?_
              (try simp only [Act.put, List.setIfInBounds_toArray, List.set_cons_zero, List.set_cons_succ])
              repeat ((refine ord_q (v := ?_) rfl rfl (fun _ _ _ h => h) rfl (fun W hW => ?_) ?_); rotate_left; (focus ((try dsimp only at hW); have q0 := m0 W hW.1; have q2 := hW.2; first | (go_simp; first | done | with_reducible rfl))); (try simp only [Act.put, List.setIfInBounds_toArray, List.set_cons_zero, List.set_cons_succ]))
              refine ord_l rfl rfl rfl (by kernel_rfl) ?_
              intro K hK
              go_simp
              refine hK.out _ _ (ord_nil ?_)
              go_wp2
              go_roundw
              case rel => exact ⟨k + 1, _, hlt2, by go_num, by rw [HR.out]; exact hD5⟩
              case measure => simp [intOf]; omega
            · obtain rfl : k = nd.keys.length := by omega
              rw [List.drop_length, List.take_length] at hD
              have hge : ¬ ((nd.keys.length : Int) + 1 < nd.kids.length) := by omega
              obtain ⟨cvv, hcvb, _⟩ := hD.cut.2.2
              have hcb := (cells2 hcvb).2.1
              have hc0 := (cells3 hD.node).1
              obtain ⟨ao0, c0, rfl, _, _, _, _⟩ := hD.o0.isSl.form
              have hon : ¬ (((nd.pairs.length : Int) = 0) ↔ ((nd.kids.length : Int) = 0)) := by
                have := hf.one
                simp only [← List.length_eq_zero_iff, ne_eq] at this
                omega
              have hob : (((nd.pairs.length : Int) == 0) == ((nd.kids.length : Int) == 0)) = false := by
                rw [Bool.eq_false_iff]; intro h; rw [beq_iff_eq, Bool.eq_iff_iff, beq_iff_eq, beq_iff_eq] at h; exact hon h
              clear hon
              go_wp2_with fail
              refine wp_region_ord (fun W => W.cell? ⟨w.heap.size, 1, none⟩ = some (.bool false) ∧ W.cell? ⟨w.heap.size + 1, 0, none⟩ = some (.slice ao0 nd.pairs.length c0) ∧ W.cell? ⟨w.heap.size + 1, 2, none⟩ = some (.slice ao2 nd.kids.length c2)) (fun _ => true) [0, 1, 2, 3, 4, 5, 6, 7, 8, 9, 10, 11, 12, 13, 14, 15, 16, 17, 18] rfl (by kernel_rfl) ⟨hcb, hc0, hcK⟩ ?_
              repeat ((refine ord_q (v := ?_) rfl rfl (fun _ _ _ h => h) rfl (fun W hW => ?_) ?_); rotate_left; (focus ((try dsimp only at hW); have q0 := hW.1; have q1 := hW.2.1; have q2 := hW.2.2; first | (go_simp; first | done | with_reducible rfl))); (try simp only [Act.put, List.setIfInBounds_toArray, List.set_cons_zero, List.set_cons_succ]))
              refine ord_nil ?_
              go_wp2
              go_ret2
              exact ⟨_, rfl, hD.drew.ownNode hS1, hD.drew.bel⟩
end Go.Proofs.YtbldcbakhpdigaaGreat

/- The store in memory. -/
namespace Go.Proofs.YtbldcbakhpdigaaGreat
open Go.RowKit

structure MSt where
  most : Nat
  bb : Nat
  hb : Nat
  D : DataW Unit
  H : DataW Unit
  mem : Int → List UInt8

/-- how a block's bytes read: by the number of their own block -/
def rB (v : Value) : Option (DataW Unit × List MemPlace) :=
  match v with
  | .slice (some ⟨g, o, sp⟩) n c => if o = 0 ∧ sp = none ∧ n = 512 ∧ c = 512 then some (.lit (.int .i64 g), []) else none
  | .slice none n c => if n = 0 ∧ c = 0 then some (.lit (.int .i64 (-1)), []) else none
  | _ => none

theorem rB_mk (g : Nat) : rB (.slice (some ⟨g, 0, none⟩) 512 512) = some (.lit (.int .i64 g), []) := by simp [rB]
theorem rB_nil : rB (.slice none 0 0) = some (.lit (.int .i64 (-1)), []) := by simp [rB]
theorem rB_inv {v : Value} {g : Nat} {ps : List MemPlace} (h : rB v = some (.lit (.int .i64 g), ps)) : v = .slice (some ⟨g, 0, none⟩) 512 512 := by
  unfold rB at h
  split at h
  · rename_i g' o sp n c
    split at h
    · rename_i hc
      obtain ⟨rfl, rfl, rfl, rfl⟩ := hc
      simp only [Option.some.injEq, Prod.mk.injEq, DataW.lit.injEq, Lit.int.injEq, true_and] at h
      have : g' = g := by omega
      rw [this]
    · cases h
  · split at h
    · simp only [Option.some.injEq, Prod.mk.injEq, DataW.lit.injEq, Lit.int.injEq, true_and] at h
      omega
    · cases h
  · cases h

abbrev kI (b : Int) : Lit := .int .i64 b

structure Inv (σ : MSt) (S : Nat → Prop) (mp : Nat) (w : World) : Prop where
  sub : ∀ g, S g → g < w.heap.size
  smp : S mp
  sbb : S σ.bb
  shb : S σ.hb
  ne : σ.bb ≠ σ.hb
  blk : w.heap[mp]? = some (.cells #[.int .i64 σ.most, .map (some σ.bb), .map (some σ.hb)] 57 (0, 0))
  own : w.ownsMap Tryz.prog 3 rB σ.bb 5000 σ.D
  oh : w.ownsMap Tryz.prog 3 (plainElem Tryz.prog 3) σ.hb 5000 σ.H
  szD : Maps.size σ.D ≤ σ.most
  cap : σ.most ≤ 4096
  hold : ∀ b, Maps.has σ.D (kI b) = false → σ.H.atKey (kI b) (.lit (.int .i64 0)) = .lit (.int .i64 0)
  rows : ∀ b z, Maps.has σ.D (kI b) = true → ∃ g : Nat, σ.D.atKey (kI b) z = .lit (.int .i64 g) ∧ S g ∧ (σ.mem b).length = 512 ∧ w.heap[g]? = some (.cells (bCells (σ.mem b)).toArray 5 (0, 0))

theorem tight {k : TypeId} {R : Value → Option (DataW Unit × List MemPlace)} {w : World} {b n m : Nat} {D : DataW Unit} (h : w.ownsMap Tryz.prog k R b n D) (hm : Maps.size D ≤ m) : w.ownsMap Tryz.prog k R b m D := by
  obtain ⟨es, clock, hb, F, hs, rfl⟩ := h
  refine ⟨es, clock, hb, F, ?_, rfl⟩
  rw [Maps.size_eq, length_sorted] at hm
  simpa using hm

theorem keyed_int : Maps.Keyed Tryz.prog 3 := Maps.int_keyed Tryz.underlying3
theorem key_int (b : Int) (hb : (Lit.int .i64 b).wf = true) : keyOf Tryz.prog 3 (.int .i64 b) = some (kI b) := by
  exact Maps.keyOf_int_mk Tryz.underlying3 hb

set_option maxRecDepth 100000 in
theorem check_any (mp : Nat) (σ : MSt) (S : Nat → Prop) (w : World) (b : Int) (h : Inv σ S mp w) (hb : (Lit.int .i64 b).wf = true) :
    Calls Tryz.prog 25 #[.pointer (some ⟨mp, 0, none⟩), .int .i64 b] w fun e w' => e = .returned (.int .i64 (if Maps.has σ.D (kI b) then 0 else 1)) ∧ w' = w := by
  have hm := h.blk
  have hs1 := h.sbb
  have hs2 := h.shb
  have hbh := h.ne
  have hD := h.own
  have hH := h.oh
  have c0 : w.cell? ⟨mp, 1, none⟩ = some (.map (some σ.bb)) := by simp [World.cell?, hm]
  have hlt : mp < w.heap.size := h.sub _ h.smp
  have hz : (zeroValue 40).run Tryz.prog w = .ok (.slice none 0 0) w := by kernel_rfl
  go_enter Tryz.func25, Tryz.ntmps25
  go_wp2_with (at_lookup; go_must (refine wpList_lookup_own_ok _ rfl _ _ 54 rfl 3 40 keyed_int Tryz.underlying54 rB hz (.lit (.int .i64 (-1))) [] rB_nil σ.bb 5000 σ.D rfl hD _ _ rfl (key_int b hb) ?_; intro v ps hv))
  all_goals
    go_ret
    simp_all

theorem Inv.row {σ : MSt} {S : Nat → Prop} {mp : Nat} {w : World} (h : Inv σ S mp w) {b : Int} (hh : Maps.has σ.D (kI b) = true) (z : DataW Unit) :
    ∃ g : Nat, σ.D.atKey (kI b) z = .lit (.int .i64 g) ∧ IsSl w NoS 1 (.slice (some ⟨g, 0, none⟩) 512 512) 512 (bCells (σ.mem b)) ∧ (σ.mem b).length = 512 := by
  obtain ⟨g, h1, h2, h3, h4⟩ := h.rows b z hh
  refine ⟨g, h1, ?_, h3⟩
  have hr : Row w g 5 (bCells (σ.mem b)) := h4
  have hl : (bCells (σ.mem b)).length = 512 := by simp [bCells, h3]
  have := hr.isSl (S := NoS) (k := 1) (off := 0) 512 512 (by omega) id (Nat.le_refl _) (by simp [maxLen])
  rwa [List.drop_zero, List.take_of_length_le (by omega)] at this

set_option maxRecDepth 100000 in
theorem read_has (mp : Nat) (σ : MSt) (S : Nat → Prop) (w : World) (b : Int) (h : Inv σ S mp w) (hb : (Lit.int .i64 b).wf = true) (hh : Maps.has σ.D (kI b) = true) :
    Calls Tryz.prog 11 #[.pointer (some ⟨mp, 0, none⟩), .int .i64 b] w fun e w' => ∃ v, e = .returned (.tuple #[v, .int .i64 0]) ∧ OwnSl w' S w.heap.size 5 1 v 512 (bCells (σ.mem b)) ∧ Below w.heap.size w w' := by
  have hm := h.blk
  have hs1 := h.sbb
  have hs2 := h.shb
  have hbh := h.ne
  have hD := h.own
  have hH := h.oh
  have c0 : w.cell? ⟨mp, 1, none⟩ = some (.map (some σ.bb)) := by simp [World.cell?, hm]
  have hlt : mp < w.heap.size := h.sub _ h.smp
  have hz : (zeroValue 40).run Tryz.prog w = .ok (.slice none 0 0) w := by kernel_rfl
  obtain ⟨g, hat, hsl, hlen⟩ := h.row hh (.lit (.int .i64 (-1)))
  have hsub := h.sub
  obtain ⟨v, ps, hrun, hv⟩ := hD.lookup keyed_int Tryz.underlying54 hz rB_nil (key_int b hb)
  rw [hat] at hv
  obtain rfl := rB_inv hv
  clear hv hat
  go_enter Tryz.func11, Tryz.ntmps11
  go_wp2_with (first
    | (go_at_call 25; go_must ((refine (check_any mp σ S w b h hb).mono ?_); rintro e w1 ⟨rfl, rfl⟩; rw [hh]))
    | (go_at_call 26; go_must ((refine (cloneBytes_any _ 512 _ _ NoS (fun _ h => h.elim) hsl (one_bytes _) (by omega)).mono ?_); rintro e w1 ⟨v', rfl, hown, hbl⟩)))
  go_ret2
  exact ⟨_, rfl, ⟨hown.1, fun g' hg' hs => absurd (hsub g' hs) (Nat.not_lt.2 (hown.1.lt g' hg').1)⟩, hbl⟩

set_option maxRecDepth 100000 in
theorem read_not (mp : Nat) (σ : MSt) (S : Nat → Prop) (w : World) (b : Int) (h : Inv σ S mp w) (hb : (Lit.int .i64 b).wf = true) (hh : Maps.has σ.D (kI b) = false) :
    Calls Tryz.prog 11 #[.pointer (some ⟨mp, 0, none⟩), .int .i64 b] w fun e w' => e = .returned (.tuple #[.slice none 0 0, .int .i64 1]) ∧ w' = w := by
  go_enter Tryz.func11, Tryz.ntmps11
  go_wp2_with (first
    | (go_at_call 25; go_must ((refine (check_any mp σ S w b h hb).mono ?_); rintro e w1 ⟨rfl, rfl⟩; rw [hh])))
  go_ret2
  exact ⟨rfl, rfl⟩

/-- the state behind a block is given back -/
def MSt.free (σ : MSt) (b : Int) : MSt := { σ with D := σ.D.del (kI b) }

set_option maxRecDepth 100000 in
theorem free_not (mp : Nat) (σ : MSt) (S : Nat → Prop) (w : World) (b : Int) (h : Inv σ S mp w) (hb : (Lit.int .i64 b).wf = true) (hh : Maps.has σ.D (kI b) = false) :
    Calls Tryz.prog 120 #[.pointer (some ⟨mp, 0, none⟩), .int .i64 b] w fun e w' => e = .returned (.int .i64 1) ∧ w' = w := by
  go_enter Tryz.func120, Tryz.ntmps120
  go_wp2_with (first
    | (go_at_call 25; go_must ((refine (check_any mp σ S w b h hb).mono ?_); rintro e w1 ⟨rfl, rfl⟩; rw [hh])))
  go_ret
  exact ⟨rfl, rfl⟩

set_option maxRecDepth 100000 in
theorem free_has (mp : Nat) (σ : MSt) (S : Nat → Prop) (w : World) (b : Int) (h : Inv σ S mp w) (hb : (Lit.int .i64 b).wf = true) (hh : Maps.has σ.D (kI b) = true) (hheld : σ.H.atKey (kI b) (.lit (.int .i64 0)) = .lit (.int .i64 0)) :
    Calls Tryz.prog 120 #[.pointer (some ⟨mp, 0, none⟩), .int .i64 b] w fun e w' => e = .returned (.int .i64 0) ∧ Inv (σ.free b) S mp w' ∧ Step S S w w' := by
  have hm := h.blk
  have hs1 := h.sbb
  have hs2 := h.shb
  have hbh := h.ne
  have hD := h.own
  have hH := h.oh
  have c0 : w.cell? ⟨mp, 1, none⟩ = some (.map (some σ.bb)) := by simp [World.cell?, hm]
  have c2 : w.cell? ⟨mp, 2, none⟩ = some (.map (some σ.hb)) := by simp [World.cell?, hm]
  have hlt : mp < w.heap.size := h.sub _ h.smp
  have hz : (zeroValue 3).run Tryz.prog w = .ok (.int .i64 0) w := by kernel_rfl
  obtain ⟨c, hrun, hat, _⟩ := hH.lookup_int keyed_int Tryz.underlying55 Tryz.underlying3 hz (key_int b hb)
  rw [hheld] at hat
  cases hat
  go_enter Tryz.func120, Tryz.ntmps120
  go_wp2_with (first
    | (go_at_call 25; go_must ((refine (check_any mp σ S w b h hb).mono ?_); rintro e w1 ⟨rfl, hw⟩; subst w1; rw [hh]))
    | (refine wpList_delete_own _ rfl _ _ 54 3 rfl 40 keyed_int Tryz.underlying54 rB σ.bb 5000 σ.D rfl hD _ _ rfl (key_int b hb) ?_; intro w1 hD1 hturn))
  go_ret
  have hg := hturn.grown
  have hne : ∀ {g : Nat} {cs : Array Value} {t : TypeId} {fr : Nat × Nat}, w.heap[g]? = some (.cells cs t fr) → some g ≠ some σ.bb := fun hc e => by
    cases e
    obtain ⟨es, cl, hbm, _⟩ := hD
    rw [hbm] at hc; cases hc
  have hmp := (hg.block mp hlt (hne hm)).trans hm
  have hblk : ∀ g, g < w.heap.size → ¬ S g → w1.heap[g]? = w.heap[g]? := fun g hl hs => hg.block g hl (fun e => by cases e; exact hs hs1)
  refine ⟨rfl, ⟨fun g hg' => Nat.lt_of_lt_of_le (h.sub g hg') hg.size, h.smp, hs1, hs2, hbh, hmp, hD1, hH.kept hg (fun e => hbh (Option.some.inj e).symm), ?_, h.cap, ?_, ?_⟩, ?_⟩
  · have := Maps.size_del (k := kI b) (hD.tidy keyed_int)
    have := h.szD
    show Maps.size (σ.D.del (kI b)) ≤ σ.most
    omega
  · intro b' hb2
    by_cases hbb : kI b' = kI b
    · rw [hbb]; exact hheld
    · exact h.hold b' ((Maps.has_del_other hbb).symm.trans hb2)
  · intro b' z hb2
    by_cases hbb : kI b' = kI b
    · rw [hbb] at hb2
      rw [show (σ.free b).D = σ.D.del (kI b) from rfl, Maps.has_del_same] at hb2
      cases hb2
    · have hb3 : Maps.has σ.D (kI b') = true := (Maps.has_del_other hbb).symm.trans hb2
      obtain ⟨g, r1, r2, r3, r4⟩ := h.rows b' z hb3
      exact ⟨g, (Maps.atKey_del_other hbb z).trans r1, r2, r3, (hg.block g (h.sub g r2) (hne r4)).trans r4⟩
  · obtain ⟨q1, q2, q3, q4, q5⟩ := hg
    exact ⟨⟨by first | exact q1 | exact q2 | exact q3, by first | exact q2 | exact q1 | exact q3, by first | exact q3 | exact q2 | exact q1, q4, fun g hl hs => hblk g hl hs⟩, fun g h => .inl h⟩

/-- what Free leaves: a held block stays -/
def MSt.held (σ : MSt) (b : Int) : Bool := match σ.H.atKey (kI b) (.lit (.int .i64 0)) with | .lit (.int .i64 c) => c != 0 | _ => false
def MSt.gone (σ : MSt) (b : Int) : MSt := if σ.held b then σ else σ.free b

set_option maxRecDepth 100000 in
theorem free_any (mp : Nat) (σ : MSt) (S : Nat → Prop) (w : World) (b : Int) (h : Inv σ S mp w) (hb : (Lit.int .i64 b).wf = true) (hh : Maps.has σ.D (kI b) = true) :
    Calls Tryz.prog 120 #[.pointer (some ⟨mp, 0, none⟩), .int .i64 b] w fun e w' => e = .returned (.int .i64 0) ∧ Inv (σ.gone b) S mp w' ∧ Step S S w w' := by
  have hz : (zeroValue 3).run Tryz.prog w = .ok (.int .i64 0) w := by kernel_rfl
  obtain ⟨c, hrun, hat, _⟩ := h.oh.lookup_int keyed_int Tryz.underlying55 Tryz.underlying3 hz (key_int b hb)
  by_cases hc : c = 0
  · subst hc
    have := free_has mp σ S w b h hb hh hat
    have hg : σ.gone b = σ.free b := by simp [MSt.gone, MSt.held, hat]
    rwa [← hg] at this
  · have hg : σ.gone b = σ := by simp [MSt.gone, MSt.held, hat, hc]
    rw [hg]
    have hm := h.blk
    have c2 : w.cell? ⟨mp, 2, none⟩ = some (.map (some σ.hb)) := by simp [World.cell?, hm]
    have hlt : mp < w.heap.size := h.sub _ h.smp
    go_enter Tryz.func120, Tryz.ntmps120
    go_wp2_with (first
      | (go_at_call 25; go_must ((refine (check_any mp σ S w b h hb).mono ?_); rintro e w1 ⟨rfl, hw⟩; subst w1; rw [hh])))
    go_ret
    exact ⟨rfl, h, Step.refl S w⟩

/-- a block of the store has got new bytes -/
def MSt.put (σ : MSt) (b : Int) (g : Nat) (l : List UInt8) : MSt := { σ with D := σ.D.put (kI b) (.lit (.int .i64 g)), mem := fun x => if x = b then l else σ.mem x }

theorem isKey_int (b : Int) : WideAt.IsKeyLit (kI b) := trivial

theorem Inv.put {σ : MSt} {S : Nat → Prop} {mp : Nat} {w w1 w2 : World} (h : Inv σ S mp w) (b : Int) (g : Nat) (l : List UInt8) (hk : Keep NoS w w1) (hr : Row w1 g 5 (bCells l)) (hl : l.length = 512) (hg : w.heap.size ≤ g)
    (hsz : Maps.has σ.D (kI b) = true ∨ Maps.size σ.D < σ.most) (ho : w2.ownsMap Tryz.prog 3 rB σ.bb 5001 (σ.D.put (kI b) (.lit (.int .i64 g)))) (hgr : w1.grownBy w2 (some σ.bb)) :
    Inv (σ.put b g l) (fun x => S x ∨ x = g) mp w2 ∧ Step S (fun x => S x ∨ x = g) w w2 := by
  have hD := h.own
  have hT := hD.tidy keyed_int
  have hsize : Maps.size (σ.D.put (kI b) (.lit (.int .i64 g))) ≤ σ.most := by
    rw [Maps.size_put hT]
    have := h.szD
    split <;> rename_i hh
    · exact this
    · rcases hsz with h1 | h1
      · exact absurd h1 hh
      · omega
  have hcap := h.cap
  have hne : ∀ {w : World} {g : Nat} {cs : Array Value} {t : TypeId} {fr : Nat × Nat} {n : Nat} {D : DataW Unit}, w.ownsMap Tryz.prog 3 rB σ.bb n D → w.heap[g]? = some (.cells cs t fr) → some g ≠ some σ.bb := fun hD hc e => by
    cases e
    obtain ⟨es, cl, hbm, _⟩ := hD
    rw [hbm] at hc; cases hc
  have hblk : ∀ x, x < w.heap.size → some x ≠ some σ.bb → w2.heap[x]? = w.heap[x]? := fun x hx hn =>
    (hgr.block x (Nat.lt_of_lt_of_le hx hk.size) hn).trans (hk.block x hx id)
  have hD1 : w1.ownsMap Tryz.prog 3 rB σ.bb 5000 σ.D := by
    obtain ⟨es, cl, hbm, r⟩ := hD
    exact ⟨es, cl, (hk.block _ (h.sub _ h.sbb) id).trans hbm, r⟩
  have hrow2 : Row w2 g 5 (bCells l) := (hgr.block g hr.lt (hne hD1 hr)).trans hr
  refine ⟨⟨?_, .inl h.smp, .inl h.sbb, .inl h.shb, h.ne, ?_, ?_, ?_, hsize, h.cap, ?_, ?_⟩, ?_, ?_⟩
  · rintro x (hx | rfl)
    · exact Nat.lt_of_lt_of_le (h.sub x hx) (Nat.le_trans hk.size hgr.size)
    · exact hrow2.lt
  · exact (hblk mp (h.sub _ h.smp) (hne hD h.blk)).trans h.blk
  · exact tight ho (Nat.le_trans hsize (by omega))
  · obtain ⟨es, cl, hbm, r⟩ := h.oh
    exact ⟨es, cl, (hblk _ (h.sub _ h.shb) (fun e => h.ne (Option.some.inj e).symm)).trans hbm, r⟩
  · intro b' hb2
    by_cases hbb : b' = b
    · subst hbb
      exact absurd hb2 (by rw [show (σ.put b' g l).D = σ.D.put (kI b') (.lit (.int .i64 g)) from rfl, Maps.has_put_same hT.isMap (isKey_int _)]; simp)
    · exact h.hold b' ((Maps.has_put_other (fun e => by cases e; exact hbb rfl) _).symm.trans hb2)
  · intro b' z hb2
    by_cases hbb : b' = b
    · subst hbb
      exact ⟨g, Maps.atKey_put_same hT.isMap (isKey_int _) _ _, .inr rfl, by simp [MSt.put, hl], by simpa [MSt.put, Row] using hrow2⟩
    · have hkk : kI b' ≠ kI b := fun e => by cases e; exact hbb rfl
      have hb3 : Maps.has σ.D (kI b') = true := (Maps.has_put_other hkk _).symm.trans hb2
      obtain ⟨g', r1, r2, r3, r4⟩ := h.rows b' z hb3
      refine ⟨g', (Maps.atKey_put_other hkk _ _).trans r1, .inl r2, ?_, ?_⟩
      · simpa [MSt.put, hbb] using r3
      · simpa [MSt.put, hbb] using (hblk g' (h.sub g' r2) (hne hD r4)).trans r4
  · obtain ⟨q1, q2, q3, q4, q5⟩ := hgr
    exact ⟨by first | exact q1.trans hk.os | exact q2.trans hk.os | exact q3.trans hk.os, by first | exact q2.trans hk.tape | exact q1.trans hk.tape | exact q3.trans hk.tape, by first | exact q3.trans hk.output | exact q2.trans hk.output | exact q1.trans hk.output, Nat.le_trans hk.size q4, fun x hx hs => hblk x hx (fun e => by cases e; exact hs h.sbb)⟩
  · rintro x (hx | rfl)
    · exact .inl hx
    · exact .inr hg
end Go.Proofs.YtbldcbakhpdigaaGreat

/- The store in memory: Write, Take. -/
namespace Go.Proofs.YtbldcbakhpdigaaGreat
open Go.RowKit

theorem madeU8 (n : Nat) : madeCells (Value.cells (.int .u8 0)) n = (bCells (List.replicate n 0)).toArray := by
  apply Array.ext
  · simp [madeCells, bCells]
  · intro j h1 h2
    simp [madeCells, bCells, Value.cells, Nat.mod_one]
theorem make512 (w : World) : (Instr.makeSlice 40 (.int .i64 512) (.int .i64 512)).run Tryz.prog w = .ok (.slice (some ⟨w.heap.size, 0, none⟩) 512 512) (w.alloc (.cells (bCells (List.replicate 512 0)).toArray 5)) := by
  obtain ⟨i, hi, hz, hsize, hby⟩ := info_parts info_u8
  have := run_make (P := Tryz.prog) (w := w) 40 5 i _ Tryz.underlying40 hi hz .i64 .i64 512 512 (by omega) (by omega) (by rw [hby]; omega) (by omega)
  rw [this, hsize]
  rw [show Int.toNat 512 * 1 = 512 from rfl, madeU8]
  rfl

theorem splice_head' (n : Nat) (l : List UInt8) : splice (bCells (List.replicate n 0)) 0 (bCells l) = bCells (l ++ List.replicate (n - l.length) 0) := by
  simp [splice, bCells]
theorem splice_head (l : List UInt8) : splice (bCells (List.replicate 512 0)) 0 (bCells l) = bCells (l ++ List.replicate (512 - l.length) 0) := splice_head' 512 l
theorem pad_length (l : List UInt8) (hl : l.length ≤ 512) : (l ++ List.replicate (512 - l.length) 0).length = 512 := by
  rw [List.length_append, List.length_replicate]; omega

set_option maxRecDepth 100000 in
theorem write_has (mp : Nat) (σ : MSt) (S : Nat → Prop) (w : World) (b : Int) (v : Value) (l : List UInt8) (h : Inv σ S mp w) (hb : (Lit.int .i64 b).wf = true) (hh : Maps.has σ.D (kI b) = true) (hheld : σ.H.atKey (kI b) (.lit (.int .i64 0)) = .lit (.int .i64 0)) (hv : IsBytes w NoS v l) (hl : l.length ≤ 512) :
    Calls Tryz.prog 123 #[.pointer (some ⟨mp, 0, none⟩), .int .i64 b, v] w fun e w' => e = .returned (.int .i64 0) ∧ ∃ g S', Inv (σ.put b g (l ++ List.replicate (512 - l.length) 0)) S' mp w' ∧ Step S S' w w' := by
  have hm := h.blk
  have hD := h.own
  have hH := h.oh
  have c0 : w.cell? ⟨mp, 1, none⟩ = some (.map (some σ.bb)) := by simp [World.cell?, hm]
  have c2 : w.cell? ⟨mp, 2, none⟩ = some (.map (some σ.hb)) := by simp [World.cell?, hm]
  have hlt : mp < w.heap.size := h.sub _ h.smp
  have hz : (zeroValue 3).run Tryz.prog w = .ok (.int .i64 0) w := by kernel_rfl
  obtain ⟨c, hrun, hat, _⟩ := hH.lookup_int keyed_int Tryz.underlying55 Tryz.underlying3 hz (key_int b hb)
  rw [hheld] at hat
  cases hat
  obtain ⟨ao, cp, rfl, n0, m0, _, _⟩ := IsSl.form hv
  have hl2 : ¬ ((512 : Int) < (l.length : Int)) := by omega
  have hmk := make512 w
  have hr0 : Row (w.alloc (.cells (bCells (List.replicate 512 0)).toArray 5)) w.heap.size 5 (bCells (List.replicate 512 0)) := heap_alloc_new w _
  have hlen := Lib.hid (show (bCells l).length = l.length from bCells_length l)
  have hz5 := Lib.hid (show (bCells (List.replicate 512 (0:UInt8))).length = 512 by simp [bCells])
  have hfst := (IsSl.below hv (below_one w (.cells (bCells (List.replicate 512 0)).toArray 5))).first (P := Tryz.prog) l.length (Nat.le_refl _)
  rw [Nat.mul_one, List.take_of_length_le (Nat.le_of_eq hlen.out)] at hfst
  have hfst := Lib.hid hfst
  go_enter Tryz.func123, Tryz.ntmps123
  go_wp2_with (first
    | (go_at_call 25; go_must ((refine (check_any mp σ S w b h hb).mono ?_); rintro e w1 ⟨rfl, hw⟩; subst w1; rw [hh]))
    | ((refine in_list rfl ?_); intro K hK; (refine wp_copyRow (.tmp 28) (.tmp 29) 40 40 rfl 5 1 1 (.int .u8 0) Tryz.underlying40 info_u8 w.heap.size 0 5 l.length 512 512 (some ⟨w.heap.size, 0, none⟩) (bCells (List.replicate 512 0)) rfl hr0 (.slice ao l.length cp) rfl l.length (bCells l) rfl ?_ ?_ hfst.out (fun _ => rfl) ?_ (one_bytes _) ?_); go_must ((focus (exact (Nat.min_eq_left hl).symm)); (focus (rw [hlen.out, Nat.mul_one])); (focus (rw [hlen.out, hz5.out]; omega)); intro w2 hr2 hk2; refine hK _ _ (Stop.of ?_)))
)
  have hk2' : Keep NoS w w2 := ((Keep.refl NoS w).alloc _).trans hk2 (fun i hi e => absurd hi (by rw [e]; exact Nat.lt_irrefl _))
  have c0' : w2.cell? ⟨mp, 1, none⟩ = some (.map (some σ.bb)) := (hk2'.cell hlt id).trans c0
  have hlt' : mp < w2.heap.size := Nat.lt_of_lt_of_le hlt hk2'.size
  have hD2 : w2.ownsMap Tryz.prog 3 rB σ.bb 5000 σ.D := by
    obtain ⟨es, cl, hbm, r⟩ := hD
    exact ⟨es, cl, (hk2'.block _ (h.sub _ h.sbb) id).trans hbm, r⟩
  rw [splice_head l] at hr2
  refine Stop.on ?_
  go_wp2_with (first
    | (at_mapUpdate; go_must (refine wpList_mapUpdate_own _ rfl _ _ _ 54 rfl 3 40 keyed_int Tryz.underlying54 rB σ.bb 5000 σ.D rfl hD2 (by simp [maxLen]) _ _ (kI b) rfl rfl (key_int b hb) (.lit (.int .i64 w.heap.size)) [] (rB_mk _) ?_; intro w3 hown3 hgr3)))
  go_ret
  have q := h.put b w.heap.size _ hk2' hr2 (pad_length l hl) (Nat.le_refl _) (.inl hh) hown3 hgr3
  exact ⟨rfl, _, _, q.1, q.2⟩
end Go.Proofs.YtbldcbakhpdigaaGreat

/- The store in memory: Take, Used. -/
namespace Go.Proofs.YtbldcbakhpdigaaGreat
open Go.RowKit

theorem wf_nat (b : Int) (h0 : -1000000 ≤ b) (h1 : b ≤ 1000000) : (Lit.int .i64 b).wf = true := by
  simp only [Lit.wf, Bool.and_eq_true, decide_eq_true_eq]
  constructor
  · exact Int.le_trans (by decide) h0
  · exact Int.le_trans h1 (by decide)

theorem wp_mapUpdate {P : Program} {w : World} {o : Oper} {a : Act} {K : Act → World → Prop} {Q : Exit → Act → World → Prop} (m x v : Operand) (t : TypeId) (hop : o.op = Op.mapUpdate t m x v)
    (k e : TypeId) (Ky : Maps.Keyed P k) (ht : P.underlying t = some (.map k e)) (R : Value → Option (DataW Unit × List MemPlace)) (b n : Nat) (D : DataW Unit)
    (hm : a.eval m = .map (some b)) (hown : w.ownsMap P k R b n D) (hn : n < maxLen) (key val : Value) (kl : Lit) (hx : a.eval x = key) (hv : a.eval v = val) (hkey : keyOf P k key = some kl)
    (d : DataW Unit) (ps : List MemPlace) (hval : R val = some (d, ps))
    (hK : ∀ w', w'.ownsMap P k R b (n + 1) (D.put kl d) → w.grownBy w' (some b) → K (a.put o.dst undef) w') : o.wp P a w K Q := by
  obtain ⟨w', hrun, r1, r2⟩ := hown.update Ky ht hn hkey hval
  unfold Oper.wp
  simp [execOp, hop, hm, hx, hv, hrun, Result.andThen]
  exact hK _ r1 r2

theorem many_size (n : Nat) : ∀ D : DataW Unit, Maps.Tidy D → (∀ i : Nat, 1 ≤ i → i ≤ n → Maps.has D (kI i) = true) → n ≤ Maps.size D := by
  induction n with
  | zero => intro D _ _; exact Nat.zero_le _
  | succ n ih =>
    intro D hT h
    have h1 := ih (D.del (kI ((n + 1 : Nat) : Int))) (hT.del _) (fun i h1 h2 => by
      rw [Maps.has_del_other (fun e => by simp [kI] at e; omega)]
      exact h i h1 (by omega))
    have h2 := Maps.size_del (k := kI ((n + 1 : Nat) : Int)) hT
    rw [h (n + 1) (by omega) (Nat.le_refl _)] at h2
    rw [if_pos rfl] at h2
    omega

theorem least_free (D : DataW Unit) (hT : Maps.Tidy D) : ∃ f : Nat, 1 ≤ f ∧ f ≤ Maps.size D + 1 ∧ Maps.has D (kI f) = false ∧ ∀ i : Nat, 1 ≤ i → i < f → Maps.has D (kI i) = true := by
  have key : ∀ n : Nat, (∃ f : Nat, 1 ≤ f ∧ f ≤ n ∧ Maps.has D (kI f) = false ∧ ∀ i : Nat, 1 ≤ i → i < f → Maps.has D (kI i) = true) ∨ ∀ i : Nat, 1 ≤ i → i ≤ n → Maps.has D (kI i) = true := by
    intro n
    induction n with
    | zero => exact .inr (fun i h1 h2 => by omega)
    | succ n ih =>
      rcases ih with ⟨f, h1, h2, h3, h4⟩ | h
      · exact .inl ⟨f, h1, by omega, h3, h4⟩
      · cases hh : Maps.has D (kI ((n + 1 : Nat) : Int))
        · exact .inl ⟨n + 1, by omega, Nat.le_refl _, hh, fun i h1 h2 => h i h1 (by omega)⟩
        · exact .inr (fun i h1 h2 => by
            by_cases e : i = n + 1
            · rw [e]; exact hh
            · exact h i h1 (by omega))
  rcases key (Maps.size D + 1) with h | h
  · exact h
  · have := many_size _ D hT h; omega

set_option maxRecDepth 100000 in
theorem take_full (mp : Nat) (σ : MSt) (S : Nat → Prop) (w : World) (h : Inv σ S mp w) (hf : σ.most ≤ Maps.size σ.D) :
    Calls Tryz.prog 122 #[.pointer (some ⟨mp, 0, none⟩)] w fun e w' => e = .returned (.tuple #[.int .i64 0, .int .i64 12]) ∧ w' = w.drew := by
  have hm := h.blk
  have hlt : mp < w.heap.size := h.sub _ h.smp
  have c0 : w.drew.cell? ⟨mp, 0, none⟩ = some (.int .i64 σ.most) := by show w.cell? _ = _; simp [World.cell?, hm]
  have c1 : w.drew.cell? ⟨mp, 1, none⟩ = some (.map (some σ.bb)) := by show w.cell? _ = _; simp [World.cell?, hm]
  have hlen := h.own.drew.len (t := 54) Tryz.underlying54
  have hle : (σ.most : Int) ≤ (Maps.size σ.D : Int) := by omega
  go_enter Tryz.func122, Tryz.ntmps122
  go_wp2_with fail
  refine wp_region_ord (fun W => W = w.drew) (fun _ => true) [0, 1, 2, 3, 4, 5, 6, 7, 8, 9] rfl (by kernel_rfl) rfl ?_
  repeat ((refine ord_q (v := ?_) rfl rfl (fun _ _ _ h => h) rfl (fun W hW => ?_) ?_); rotate_left; (focus ((try dsimp only at hW); subst hW; have q0 := hlen; first | exact hlen _ | (go_simp; first | done | with_reducible rfl))); (try simp only [Act.put, List.setIfInBounds_toArray, List.set_cons_zero, List.set_cons_succ]))
  refine ord_nil ?_
  go_wp2_with fail
  go_ret2
  exact ⟨rfl, rfl⟩

theorem Inv.below {σ : MSt} {S : Nat → Prop} {mp : Nat} {w w' : World} (h : Inv σ S mp w) (hb : Below w.heap.size w w') : Inv σ S mp w' := by
  refine ⟨fun g hg => Nat.lt_of_lt_of_le (h.sub g hg) hb.size, h.smp, h.sbb, h.shb, h.ne, (hb.block _ (h.sub _ h.smp)).trans h.blk, ?_, ?_, h.szD, h.cap, h.hold, ?_⟩
  · obtain ⟨es, cl, hbm, r⟩ := h.own
    exact ⟨es, cl, (hb.block _ (h.sub _ h.sbb)).trans hbm, r⟩
  · obtain ⟨es, cl, hbm, r⟩ := h.oh
    exact ⟨es, cl, (hb.block _ (h.sub _ h.shb)).trans hbm, r⟩
  · intro b z hb2
    obtain ⟨g, r1, r2, r3, r4⟩ := h.rows b z hb2
    exact ⟨g, r1, r2, r3, (hb.block _ (h.sub _ r2)).trans r4⟩

set_option maxRecDepth 100000 in
theorem take_ok (mp : Nat) (σ : MSt) (S : Nat → Prop) (w : World) (h : Inv σ S mp w) (hf : Maps.size σ.D < σ.most) :
    Calls Tryz.prog 122 #[.pointer (some ⟨mp, 0, none⟩)] w fun e w' => ∃ (f : Nat) (g : Nat) (S' : Nat → Prop), e = .returned (.tuple #[.int .i64 f, .int .i64 0]) ∧ 1 ≤ f ∧ f ≤ σ.most ∧ Maps.has σ.D (kI f) = false ∧ (∀ i : Nat, 1 ≤ i → i < f → Maps.has σ.D (kI i) = true) ∧
      Inv (σ.put f g (List.replicate 512 0)) S' mp w' ∧ Step S S' w w' := by
  have hm := h.blk
  have hlt : mp < w.heap.size := h.sub _ h.smp
  have c0 : w.drew.cell? ⟨mp, 0, none⟩ = some (.int .i64 σ.most) := by show w.cell? _ = _; simp [World.cell?, hm]
  have c1 : w.drew.cell? ⟨mp, 1, none⟩ = some (.map (some σ.bb)) := by show w.cell? _ = _; simp [World.cell?, hm]
  have hlen := h.own.drew.len (t := 54) Tryz.underlying54
  have hle : ¬ (σ.most ≤ Maps.size σ.D) := by omega
  obtain ⟨f, f1, f2, f3, f4⟩ := least_free σ.D (h.own.tidy keyed_int)
  have hcap := h.cap
  have hf3 : f ≤ 4096 := by omega
  have HF := Lib.hid hf; clear hf
  go_enter Tryz.func122, Tryz.ntmps122
  go_wp2_with fail
  refine wp_region_ord (fun W => W = w.drew) (fun _ => true) [0, 1, 2, 3, 4, 5, 6, 7, 8, 9] rfl (by kernel_rfl) rfl ?_
  repeat ((refine ord_q (v := ?_) rfl rfl (fun _ _ _ h => h) rfl (fun W hW => ?_) ?_); rotate_left; (focus ((try dsimp only at hW); subst hW; have q0 := hlen; first | exact hlen _ | (go_simp; first | done | with_reducible rfl))); (try simp only [Act.put, List.setIfInBounds_toArray, List.set_cons_zero, List.set_cons_succ]))
  refine ord_nil ?_
  go_wp2_with fail
  clear c0 c1 hlen hle
  go_loopw [4, 5, 6] (fun i _ _ wr => ∃ k : Nat, 1 ≤ k ∧ k ≤ f ∧ i = .int .i64 k ∧ Below w.heap.size w wr) (fun i _ _ _ => f - (intOf i).toNat)
  case atStart => exact ⟨1, Nat.le_refl _, f1, rfl, (Below.refl _ _).drew⟩
  case round =>
    obtain ⟨k, k1, k2, rfl, hbel⟩ := hrel
    have hI := h.below hbel
    have hlt' := hI.sub _ hI.smp
    have c1 : wr.cell? ⟨mp, 1, none⟩ = some (.map (some σ.bb)) := by simp [World.cell?, hI.blk]
    have hz : (zeroValue 40).run Tryz.prog wr = .ok (.slice none 0 0) wr := by kernel_rfl
    have hkw := wf_nat (k : Int) (by omega) (by omega)
    by_cases hkf : k = f
    · subst hkf
      go_wp2_with (at_lookup; go_must (refine wpList_lookup_own_ok _ rfl _ _ 54 rfl 3 40 keyed_int Tryz.underlying54 rB hz (.lit (.int .i64 (-1))) [] rB_nil σ.bb 5000 σ.D rfl hI.own _ _ rfl (key_int k hkw) ?_; intro v ps hv; rw [f3]))
      have hS : ∀ W : World, Below w.heap.size w W → W.cell? ⟨mp, 1, none⟩ = some (.map (some σ.bb)) ∧ mp < W.heap.size := fun W hW => by
        have hI := h.below hW
        exact ⟨by simp [World.cell?, hI.blk], hI.sub _ hI.smp⟩
      refine wp_region_ord (fun W => Below w.heap.size w W) (fun i => !([5, 6].contains i)) [0, 1, 2, 3, 4, 5, 6] rfl (by kernel_rfl) hbel.drew ?_
      repeat ((refine ord_q (v := ?_) rfl rfl (fun _ _ _ h => h) rfl (fun W hW => ?_) ?_); rotate_left; (focus ((try dsimp only at hW); have q0 := (hS W hW).1; have q1 := (hS W hW).2; first | (go_simp; first | done | with_reducible rfl))); (try simp only [Act.put, List.setIfInBounds_toArray, List.set_cons_zero, List.set_cons_succ]))
      have hmk := make512 wr.drew
      refine ord_e rfl rfl rfl ?_; intro K hK; go_simp
      have hk1 : Keep NoS w (wr.drew.alloc (.cells (bCells (List.replicate 512 0)).toArray 5)) := (Keep.of_below hbel NoS).drew.alloc _
      have hr1 : Row (wr.drew.alloc (.cells (bCells (List.replicate 512 0)).toArray 5)) wr.heap.size 5 (bCells (List.replicate 512 0)) := heap_alloc_new wr.drew _
      refine hK.out _ _ hk1.below ?_
      refine ord_l rfl rfl rfl (by kernel_rfl) ?_; intro K hK
      refine wp_mapUpdate _ _ _ 54 rfl 3 40 keyed_int Tryz.underlying54 rB σ.bb 5000 σ.D rfl (h.below hk1.below).own (by simp [maxLen]) _ _ (kI k) rfl rfl (key_int k hkw) (.lit (.int .i64 wr.heap.size)) [] (rB_mk _) ?_
      intro w3 hown3 hgr3
      refine hK.out _ _ ?_
      refine ord_nil ?_
      go_wp2_with fail
      go_ret2
      have q := h.put k wr.heap.size _ hk1 hr1 List.length_replicate hbel.size (.inr HF.out) hown3 hgr3
      exact ⟨k, _, _, rfl, k1, by have := HF.out; omega, f3, f4, q.1, q.2⟩
    · have hh := f4 k k1 (by omega)
      go_wp2_with (at_lookup; go_must (refine wpList_lookup_own_ok _ rfl _ _ 54 rfl 3 40 keyed_int Tryz.underlying54 rB hz (.lit (.int .i64 (-1))) [] rB_nil σ.bb 5000 σ.D rfl hI.own _ _ rfl (key_int k hkw) ?_; intro v ps hv; rw [hh]))
      go_roundw
      case rel => exact ⟨k + 1, by omega, by omega, by go_num, hbel⟩
      case measure => simp [intOf]; omega
end Go.Proofs.YtbldcbakhpdigaaGreat

/- load: a node of the tree, out of the store. -/
namespace Go.Proofs.YtbldcbakhpdigaaGreat
open Go.RowKit

/-- block b of the store bears the node -/
structure Blk (σ : MSt) (b : Int) (nd : Nd) : Prop where
  has : Maps.has σ.D (kI b) = true
  lo : 1 ≤ b
  hi : b ≤ 4096
  mem : ∃ rest, σ.mem b = nd.enc ++ rest
  fits : nd.Fits

/-- the tree's own block -/
def TreeAt (w : World) (t mp : Nat) (root err : Int) : Prop := w.heap[t]? = some (.cells #[.iface 24 (.pointer (some ⟨mp, 0, none⟩)), .int .i64 root, .int .i64 err] 61 (0, 0))

set_option maxRecDepth 100000 in
set_option maxHeartbeats 2000000 in
theorem load_any (t mp : Nat) (root err b deep : Int) (σ : MSt) (S : Nat → Prop) (nd : Nd) (w : World) (h : Inv σ S mp w) (ht : TreeAt w t mp root err) (hb : Blk σ b nd) (hd : deep ≤ 40) :
    Calls Tryz.prog 23 #[.pointer (some ⟨t, 0, none⟩), .int .i64 b, .int .i64 deep] w fun e w' => ∃ nb, e = .returned (.tuple #[.pointer (some ⟨nb, 0, none⟩), .int .i64 0]) ∧ OwnNode w' S w.heap.size nb nd ∧ Below w.heap.size w w' := by
  obtain ⟨c0, c1, c2, _, _, _, hlt⟩ := cells3 ht
  obtain ⟨rest, hmem⟩ := hb.mem
  have hrd := read_has mp σ S w b h (wf_nat b (by have := hb.lo; omega) (by have := hb.hi; omega)) hb.has
  have hfit := hb.fits
  have hsub := h.sub
  have hl5 : (nd.enc ++ rest).length = 512 := by
    rw [← hmem]; obtain ⟨_, _, _, hl, _⟩ := h.rows b (.lit (.int .i64 0)) hb.has; exact hl
  rw [hmem] at hrd
  have hd2 : ¬ ((40 : Int) < deep) := by omega
  go_enter Tryz.func23, Tryz.ntmps23
  have hm : ∀ w, (method 277 24 (.pointer (some ⟨mp, 0, none⟩)) "Read").run Tryz.prog w = .ok (11, .pointer (some ⟨mp, 0, none⟩)) w := fun _ => by kernel_rfl
  have HRd := Lib.hid hrd; clear hrd hmem
  go_wp2_with (first
    | (refine HRd.out.mono ?_; rintro e w1 ⟨v, rfl, hv, hbel1⟩)
    | (go_at_call 42; go_must ((refine (decode_any _ nd rest w1 S (fun g hg => Nat.lt_of_lt_of_le (hsub g hg) hbel1.size) (by unfold IsBytes; rw [hl5]; exact hv.isSl) hfit (by rw [hl5]; omega)).mono ?_); rintro e w2 ⟨nb, rfl, hn, hbel2⟩)))
  go_ret2
  refine ⟨nb, rfl, ?_, hbel1.trans (hbel2.mono hbel1.size)⟩
  obtain ⟨q0, q1, v0, v1, v2, q2, q3, q4, q5⟩ := hn
  exact ⟨q0, Nat.le_trans hbel1.size q1, v0, v1, v2, q2, q3.base hbel1.size, q4.base hbel1.size, q5.base hbel1.size⟩

theorem TreeAt.step {w w' : World} {t mp : Nat} {root err : Int} {S S' : Nat → Prop} (h : TreeAt w t mp root err) (hS : ¬ S t) (hs : Step S S' w w') : TreeAt w' t mp root err ∧ ¬ S' t := by
  have hl := (Array.getElem?_eq_some_iff.1 h).1
  exact ⟨(hs.1.block t hl hS).trans h, fun x => (hs.2 t x).elim hS (fun y => absurd hl (Nat.not_lt.2 y))⟩

set_option maxRecDepth 100000 in
set_option maxHeartbeats 2000000 in
theorem take_any (t mp : Nat) (root err b deep : Int) (σ : MSt) (S : Nat → Prop) (nd : Nd) (w : World) (h : Inv σ S mp w) (ht : TreeAt w t mp root err) (_hst : ¬ S t) (hb : Blk σ b nd) (hd : deep ≤ 40) :
    Calls Tryz.prog 48 #[.pointer (some ⟨t, 0, none⟩), .int .i64 b, .int .i64 deep] w fun e w' => ∃ nb, e = .returned (.pointer (some ⟨nb, 0, none⟩)) ∧ OwnNode w' S w.heap.size nb nd ∧ Inv (σ.gone b) S mp w' ∧ Step S S w w' := by
  have hwf := wf_nat b (by have := hb.lo; omega) (by have := hb.hi; omega)
  have hlt : t < w.heap.size := (Array.getElem?_eq_some_iff.1 ht).1
  go_enter Tryz.func48, Tryz.ntmps48
  have hm : ∀ w, (method 277 24 (.pointer (some ⟨mp, 0, none⟩)) "Free").run Tryz.prog w = .ok (120, .pointer (some ⟨mp, 0, none⟩)) w := fun _ => by kernel_rfl
  go_wp2_with (first
    | (go_at_call 23; go_must ((refine (load_any t mp root err b deep σ S nd w h ht hb hd).mono ?_); rintro e w1 ⟨nb, rfl, hn, hbel1⟩))
    | (go_at_call 47; go_must ((refine (must_ok _).mono ?_); rintro e w1 ⟨rfl, rfl⟩; refine Stop.of ?_)))
  refine Stop.on ?_
  obtain ⟨c0, _, _, _, _, _, hlt1⟩ := cells3 ((hbel1.block t hlt).trans ht)
  go_wp2_with (first
    | (go_at_call 120; go_must ((refine (free_any mp σ S _ b (h.below hbel1) hwf hb.has).mono ?_); rintro e w2 ⟨rfl, hI, hs⟩))
    | (go_at_call 47; go_must ((refine (must_ok _).mono ?_); rintro e w1 ⟨rfl, rfl⟩; refine Stop.of ?_)))
  refine Stop.on ?_
  go_wp2_with fail
  go_ret
  exact ⟨nb, rfl, hn.step hs, hI, (Step.of_below hbel1).trans hs⟩

/-- a new block of the store bears the node; all else is as it was -/
structure Wrote (σ : MSt) (b : Int) (nd : Nd) (σ' : MSt) : Prop where
  new : Maps.has σ.D (kI b) = false
  blk : Blk σ' b nd
  other : ∀ x, x ≠ b → Maps.has σ'.D (kI x) = Maps.has σ.D (kI x) ∧ σ'.mem x = σ.mem x
  size : Maps.size σ'.D = Maps.size σ.D + 1
  held : σ'.H = σ.H
  most : σ'.most = σ.most
end Go.Proofs.YtbldcbakhpdigaaGreat

/- write: a node into a new block of the store. -/
namespace Go.Proofs.YtbldcbakhpdigaaGreat
open Go.RowKit

theorem Inv.keepM {σ : MSt} {S M : Nat → Prop} {mp : Nat} {w w' : World} (h : Inv σ S mp w) (hk : Keep M w w') (hM : ∀ g, S g → ¬ M g) : Inv σ S mp w' := by
  have hb : ∀ g, S g → w'.heap[g]? = w.heap[g]? := fun g hg => hk.block g (h.sub g hg) (hM g hg)
  refine ⟨fun g hg => Nat.lt_of_lt_of_le (h.sub g hg) hk.size, h.smp, h.sbb, h.shb, h.ne, (hb _ h.smp).trans h.blk, ?_, ?_, h.szD, h.cap, h.hold, ?_⟩
  · obtain ⟨es, cl, hbm, r⟩ := h.own
    exact ⟨es, cl, (hb _ h.sbb).trans hbm, r⟩
  · obtain ⟨es, cl, hbm, r⟩ := h.oh
    exact ⟨es, cl, (hb _ h.shb).trans hbm, r⟩
  · intro b z hb2
    obtain ⟨g, r1, r2, r3, r4⟩ := h.rows b z hb2
    exact ⟨g, r1, r2, r3, (hb _ r2).trans r4⟩

set_option maxRecDepth 100000 in
set_option maxHeartbeats 4000000 in
theorem write_any (t mp : Nat) (root err : Int) (σ : MSt) (S : Nat → Prop) (nb : Nat) (nd : Nd) (least : ByteArray) (w : World) (h : Inv σ S mp w) (ht : TreeAt w t mp root err) (hst : ¬ S t) (hn : IsNode w S nb nd) (hfit : nd.Fits) (hs : nd.size ≤ 512) (hroom : Maps.size σ.D < σ.most) :
    Calls Tryz.prog 71 #[.pointer (some ⟨t, 0, none⟩), .pointer (some ⟨nb, 0, none⟩), .string least] w fun e w' => ∃ (f : Nat) (σ' : MSt) (S' : Nat → Prop), e = .returned (.agg #[.int .i64 f, .string least]) ∧ Wrote σ f nd σ' ∧ Inv σ' S' mp w' ∧ Step S S' w w' := by
  obtain ⟨c0, _, _, _, _, _, hlt⟩ := cells3 ht
  have hnb : nb < w.heap.size := by obtain ⟨_, _, _, _, hb, _⟩ := hn; exact (Array.getElem?_eq_some_iff.1 hb).1
  have hsub := h.sub
  have HR := Lib.hid hroom; clear hroom
  go_enter Tryz.func71, Tryz.ntmps71
  have hmT : ∀ w, (method 277 24 (.pointer (some ⟨mp, 0, none⟩)) "Take").run Tryz.prog w = .ok (122, .pointer (some ⟨mp, 0, none⟩)) w := fun _ => by kernel_rfl
  have hmW : ∀ w, (method 277 24 (.pointer (some ⟨mp, 0, none⟩)) "Write").run Tryz.prog w = .ok (123, .pointer (some ⟨mp, 0, none⟩)) w := fun _ => by kernel_rfl
  have hb0 := below_one w (.cells #[.int .i64 0, .string ⟨#[]⟩] 99)
  go_wp2_with (first
    | (go_at_call 122; go_must ((refine (take_ok mp σ S _ (h.below hb0) HR.out).mono ?_); rintro e w1 ⟨f, g, S1, rfl, f1, f2, f3, f4, hI1, hs1⟩))
    | (go_at_call 47; go_must ((refine (must_ok _).mono ?_); rintro e w2 ⟨rfl, hw⟩; subst w2)))
  have hstep1 : Step S S1 w w1 := (Step.of_below hb0).trans hs1
  have ht1 := ht.step hst hstep1
  have hn1 := hn.step hstep1
  have hsub1 := hI1.sub
  have hcellr : w1.heap[w.heap.size]? = some (.cells #[.int .i64 0, .string ⟨#[]⟩] 99 (0, 0)) := (hs1.1.block _ (by rw [World.size_alloc]; exact Nat.lt_succ_self _) (fun x => absurd (hsub _ x) (Nat.lt_irrefl _))).trans (heap_alloc_new _ _)
  obtain ⟨c1, _, _, _, _, _, hlt1⟩ := cells3 ht1.1
  have hnb1 : nb < w1.heap.size := Nat.lt_of_lt_of_le hnb hstep1.1.size
  have hcap := h.cap
  have HF2 := Lib.hid f2
  have f5 : f ≤ 4096 := by omega
  clear f2 c0
  have hwf := wf_nat (f : Int) (by omega) (by omega)
  refine wp_region_ord (fun W => W.cell? ⟨t, 0, none⟩ = some (.iface 24 (.pointer (some ⟨mp, 0, none⟩))) ∧ t < W.heap.size) (fun i => !([6, 9, 10].contains i)) [0, 1, 2, 3, 4, 5, 7, 8, 6, 9, 10] rfl (by kernel_rfl) ⟨c1, hlt1⟩ ?_
  repeat ((refine ord_q (v := ?_) rfl rfl (fun _ _ _ h => h) rfl (fun W hW => ?_) ?_); rotate_left; (focus ((try dsimp only at hW); have q0 := hW.1; have q1 := hW.2; first | (go_simp; first | done | with_reducible rfl))); (try simp only [Act.put, List.setIfInBounds_toArray, List.set_cons_zero, List.set_cons_succ]))
  have hE := encode_any nb nd w1.drew S1 hsub1 hn1 (by omega) hfit.kd
  refine ord_e rfl rfl rfl ?_; intro K hK; go_simp
  refine hE.mono ?_; rintro e w2 ⟨v, rfl, hv, hbel2⟩
  have hI2 : Inv (σ.put f g (List.replicate 512 0)) S1 mp w2 := hI1.below (((Below.refl _ w1).drew).trans hbel2)
  have hs2 : Step S1 S1 w1 w2 := Step.of_below (((Below.refl _ w1).drew).trans hbel2)
  have ht2 := ht1.1.step ht1.2 hs2
  obtain ⟨c2, _, _, _, _, _, hlt2⟩ := cells3 ht2.1
  refine hK.out _ _ ⟨c2, hlt2⟩ ?_
  have hvb : IsBytes w2 NoS v nd.enc := by
    obtain ⟨ao, c, e1, e2, e3, e4, e5, e6, e7⟩ := hv.isSl
    exact ⟨ao, c, e1, e2, e3, e4, e5, fun ad h => ⟨(e6 ad h).1, (e6 ad h).2.1, id⟩, e7⟩
  have hel : nd.enc.length ≤ 512 := by rw [Nd.enc_length]; exact hs
  have hWr := write_has mp _ S1 w2 f v nd.enc hI2 hwf (Maps.has_put_same (h.own.tidy keyed_int).isMap (isKey_int _) _) (h.hold f f3) hvb hel
  have HWr := Lib.hid hWr; clear hWr hE
  refine ord_e rfl rfl rfl ?_; intro K hK; go_simp
  refine HWr.out.mono ?_; rintro e w3 ⟨rfl, g2, S2, hI3, hs3⟩
  have hs13 : Step S1 S2 w1 w3 := hs2.trans hs3
  have ht3 := ht1.1.step ht1.2 hs13
  obtain ⟨c3, _, _, _, _, _, hlt3⟩ := cells3 ht3.1
  refine hK.out _ _ ⟨c3, hlt3⟩ ?_
  refine ord_e rfl rfl rfl ?_; intro K hK; go_simp
  refine (must_ok _).mono ?_; rintro e w4 ⟨rfl, hw⟩; subst w4
  refine hK.out _ _ ⟨c3, hlt3⟩ ?_
  refine ord_nil ?_
  have hw1 : w.heap.size < w1.heap.size := (Array.getElem?_eq_some_iff.1 hcellr).1
  have hS1r : ¬ S1 w.heap.size := fun x => (hs1.2 _ x).elim (fun y => absurd (hsub _ y) (Nat.lt_irrefl _)) (fun y => by rw [World.size_alloc] at y; omega)
  have hr3 : w3.heap[w.heap.size]? = some (.cells #[.int .i64 0, .string ⟨#[]⟩] 99 (0, 0)) := (hs13.1.block _ hw1 hS1r).trans hcellr
  have hr3lt : w.heap.size < w3.heap.size := (Array.getElem?_eq_some_iff.1 hr3).1
  have r0 : w3.cell? ⟨w.heap.size, 0, none⟩ = some (.int .i64 0) := by simp [World.cell?, hr3]
  have r1 : w3.cell? ⟨w.heap.size, 1, none⟩ = some (.string ⟨#[]⟩) := by simp [World.cell?, hr3]
  have g0 : w3.frozen? ⟨w.heap.size, 0, none⟩ = false := by simp [World.frozen?, hr3]
  have g1 : w3.frozen? ⟨w.heap.size, 1, none⟩ = false := by simp [World.frozen?, hr3]
  have hi3 := hI3.sub
  clear c1 c2 c3 hcellr
  go_wp2_with fail
  have hk5 : Keep (· = w.heap.size) w3 ((w3.setCell ⟨w.heap.size, 0, none⟩ (.int .i64 f)).setCell ⟨w.heap.size, 1, none⟩ (.string least)) := ((Keep.refl (· = w.heap.size) w3).setCell (p := ⟨w.heap.size, 0, none⟩) (.inr rfl) _).setCell (p := ⟨w.heap.size, 1, none⟩) (.inr rfl) _
  have hfin : ((w3.setCell ⟨w.heap.size, 0, none⟩ (.int .i64 f)).setCell ⟨w.heap.size, 1, none⟩ (.string least)).heap[w.heap.size]? = some (.cells #[.int .i64 f, .string least] 99 (0, 0)) := by
    simp [World.setCell, Array.getElem?_modify, hr3]
  refine bodyPost_ret (results_cell_row rfl _ _ _ 99 #[.int .i64 f, .string least] (0, 0) _ rfl hfin Tryz.underlying99 rfl rfl) rfl ?_
  have hS2r : ¬ S2 w.heap.size := fun x => (hs13.2 _ x).elim hS1r (fun y => by omega)
  have hst3 : Step S S2 w w3 := hstep1.trans hs13
  refine ⟨f, _, S2, rfl, ?_, hI3.keepM hk5 (fun g hg e => hS2r (by rw [← e]; exact hg)), hst3.1.trans hk5 (fun i hi e => absurd hi (by rw [e]; exact Nat.lt_irrefl _)), hst3.2⟩
  have hT := h.own.tidy keyed_int
  have hT1 := hT.put (k := kI f) (isKey_int _) (.lit (.int .i64 g))
  have hne : ∀ x : Int, x ≠ f → kI x ≠ kI f := fun x hx e => hx (by injection e)
  refine ⟨f3, ⟨Maps.has_put_same hT1.isMap (isKey_int _) _, by omega, by omega, ⟨_, by simp only [MSt.put, if_true]; rfl⟩, hfit⟩, fun x hx => ⟨?_, ?_⟩, ?_, rfl, rfl⟩
  · exact (Maps.has_put_other (hne x hx) _).trans (Maps.has_put_other (hne x hx) _)
  · simp only [MSt.put, if_neg hx]
  · show Maps.size ((σ.D.put (kI f) _).put (kI f) _) = _
    rw [Maps.size_put hT1, Maps.has_put_same hT.isMap (isKey_int _), if_pos rfl, Maps.size_put hT, f3]
    rfl
end Go.Proofs.YtbldcbakhpdigaaGreat

/- spread: a node into one block, or more. -/
namespace Go.Proofs.YtbldcbakhpdigaaGreat
open Go.RowKit

/-- a node whose parts are in their bounds -/
structure Nd.Ok (nd : Nd) : Prop where
  pr : ∀ p ∈ nd.pairs, p.1.size ≤ 128 ∧ p.2.size ≤ 64
  ky : ∀ k ∈ nd.keys, k.size ≤ 128
  kd : ∀ k ∈ nd.kids, 1 ≤ k ∧ k ≤ 4096
  kk : nd.keys.length = nd.kids.length - 1
  one : nd.kids ≠ [] → nd.pairs = []
  np : nd.pairs.length ≤ 2000
  nk : nd.kids.length ≤ 2000

theorem prSize_most (ps : List Pr) (h : ∀ p ∈ ps, p.1.size ≤ 128 ∧ p.2.size ≤ 64) : prSize ps ≤ 194 * ps.length := by
  induction ps with
  | nil => exact Nat.zero_le _
  | cons p ps ih =>
    have h1 := h p (by simp)
    have := ih (fun q hq => h q (by simp [hq]))
    rw [prSize_cons, List.length_cons]; omega
theorem keySize_most (ps : List ByteArray) (h : ∀ p ∈ ps, p.size ≤ 128) : keySize ps ≤ 129 * ps.length := by
  induction ps with
  | nil => exact Nat.zero_le _
  | cons p ps ih =>
    have h1 := h p (by simp)
    have := ih (fun q hq => h q (by simp [hq]))
    rw [keySize_cons, List.length_cons]; omega
theorem Nd.Ok.size_le {nd : Nd} (h : nd.Ok) : nd.size ≤ 1000000 := by
  have h1 := prSize_most _ h.pr
  have h2 := keySize_most _ h.ky
  have h3 := h.np
  have h4 := h.nk
  have h5 := h.kk
  unfold Nd.size
  omega
theorem Nd.Ok.fits {nd : Nd} (h : nd.Ok) (hs : nd.size ≤ 512) (hne : nd.kids ≠ [] ∨ nd.pairs ≠ []) : nd.Fits := by
  have h1 := length_le_prSize nd.pairs
  have h2 := length_le_keySize nd.keys
  unfold Nd.size at hs
  refine ⟨by omega, by omega, fun p hp => ?_, fun k hk => ?_, fun k hk => ?_, h.kk, ?_, ?_⟩
  · have := h.pr p hp; omega
  · have := h.ky k hk; omega
  · have := h.kd k hk; omega
  · intro hp hk; exact hne.elim (fun x => x hk) (fun x => x hp)
  · intro hk; exact h.one hk

/-- what spread makes of a node: the nodes it writes, each with its least key -/
inductive Spr : Nd → ByteArray → List (ByteArray × Nd) → Prop
  | none {nd l} : nd.kids = [] → nd.pairs = [] → Spr nd l []
  | one {nd l} : (nd.kids ≠ [] ∨ nd.pairs ≠ []) → nd.size ≤ 512 → Spr nd l [(leastOf nd l, nd)]
  | leaf {nd l} (i : Nat) (hi : i < nd.pairs.length) {A B} : nd.kids = [] → 512 < nd.size → 1 ≤ i → Spr ⟨nd.pairs.take i, [], []⟩ l A → Spr ⟨nd.pairs.drop i, [], []⟩ (leastOf ⟨nd.pairs.drop i, [], []⟩ nd.pairs[i].1) B → Spr nd l (A ++ B)
  | inner {nd l} (i : Nat) (hi : i - 1 < nd.keys.length) {A B} : nd.kids ≠ [] → 512 < nd.size → i = nd.kids.length / 2 → Spr ⟨[], nd.keys.take (i - 1), nd.kids.take i⟩ l A → Spr ⟨[], nd.keys.drop i, nd.kids.drop i⟩ (leastOf ⟨[], nd.keys.drop i, nd.kids.drop i⟩ nd.keys[i - 1]) B → Spr nd l (A ++ B)

/-- the nodes come into the store, each into a new block -/
def Puts : MSt → List Pc → List (ByteArray × Nd) → MSt → Prop
  | σ, [], [], σ' => σ' = σ
  | σ, p :: ps, z :: zs, σ' => ∃ σ1, p.2 = z.1 ∧ Wrote σ p.1 z.2 σ1 ∧ Puts σ1 ps zs σ'
  | _, _, _, _ => False

theorem Puts.append {σ σ1 σ2 : MSt} {ps qs : List Pc} {zs ys : List (ByteArray × Nd)} (h : Puts σ ps zs σ1) (k : Puts σ1 qs ys σ2) : Puts σ (ps ++ qs) (zs ++ ys) σ2 := by
  induction ps generalizing σ zs with
  | nil =>
    cases zs with
    | nil => cases h; exact k
    | cons z zs => exact absurd h id
  | cons p ps ih =>
    cases zs with
    | nil => exact absurd h id
    | cons z zs =>
      obtain ⟨τ, h1, h2, h3⟩ := h
      exact ⟨τ, h1, h2, ih h3⟩
theorem Puts.length {σ σ1 : MSt} {ps : List Pc} {zs : List (ByteArray × Nd)} (h : Puts σ ps zs σ1) : ps.length = zs.length ∧ Maps.size σ1.D = Maps.size σ.D + zs.length ∧ σ1.most = σ.most ∧ σ1.H = σ.H := by
  induction ps generalizing σ zs with
  | nil =>
    cases zs with
    | nil => cases h; exact ⟨rfl, rfl, rfl, rfl⟩
    | cons z zs => exact absurd h id
  | cons p ps ih =>
    cases zs with
    | nil => exact absurd h id
    | cons z zs =>
      obtain ⟨τ, h1, h2, h3⟩ := h
      have := ih h3
      have s := h2.size
      refine ⟨by simp [this.1], by rw [this.2.1, List.length_cons]; omega, this.2.2.1.trans h2.most, this.2.2.2.trans h2.held⟩

def Nd.room (nd : Nd) : Nat := nd.pairs.length + (if nd.kids = [] then 0 else max 1 (nd.kids.length / 2))

/-- an overfull node has three pairs, or five kids -/
theorem Nd.Ok.big {nd : Nd} (h : nd.Ok) (hs : 512 < nd.size) : (nd.kids = [] → 3 ≤ nd.pairs.length) ∧ (nd.kids ≠ [] → 5 ≤ nd.kids.length) := by
  have h1 := prSize_most _ h.pr
  have h2 := keySize_most _ h.ky
  have h5 := h.kk
  unfold Nd.size at hs
  constructor
  · intro hk
    rw [hk] at h5 hs
    simp only [List.length_nil] at h5 hs
    rw [h5] at h2
    omega
  · intro hk
    have hp := h.one hk
    rw [hp] at h1 hs
    simp only [List.length_nil] at h1
    omega

theorem Nd.Ok.left {nd : Nd} (h : nd.Ok) (i : Nat) (_hk : nd.kids = []) : Nd.Ok ⟨nd.pairs.take i, [], []⟩ :=
  ⟨fun p hp => h.pr p (List.mem_of_mem_take hp), by simp, by simp, rfl, by simp, by have := h.np; simp only [List.length_take]; omega, by simp⟩
theorem Nd.Ok.right {nd : Nd} (h : nd.Ok) (i : Nat) (_hk : nd.kids = []) : Nd.Ok ⟨nd.pairs.drop i, [], []⟩ :=
  ⟨fun p hp => h.pr p (List.mem_of_mem_drop hp), by simp, by simp, rfl, by simp, by have := h.np; simp; omega, by simp⟩
theorem Nd.Ok.leftI {nd : Nd} (h : nd.Ok) (i : Nat) (hi : i ≤ nd.kids.length) : Nd.Ok ⟨[], nd.keys.take (i - 1), nd.kids.take i⟩ :=
  ⟨by simp, fun k hk => h.ky k (List.mem_of_mem_take hk), fun k hk => h.kd k (List.mem_of_mem_take hk), by have := h.kk; simp; omega, by simp, by simp, by have := h.nk; simp; omega⟩
theorem Nd.Ok.rightI {nd : Nd} (h : nd.Ok) (i : Nat) : Nd.Ok ⟨[], nd.keys.drop i, nd.kids.drop i⟩ :=
  ⟨by simp, fun k hk => h.ky k (List.mem_of_mem_drop hk), fun k hk => h.kd k (List.mem_of_mem_drop hk), by have := h.kk; simp; omega, by simp, by simp, by have := h.nk; simp; omega⟩

theorem Spr.room {nd : Nd} {l : ByteArray} {zs : List (ByteArray × Nd)} (h : Spr nd l zs) (ok : nd.Ok) : zs.length ≤ nd.room := by
  induction h with
  | none h1 h2 => simp
  | @one nd l h1 h2 =>
    unfold Nd.room
    rcases h1 with h1 | h1
    · rw [if_neg h1]; simp; omega
    · have := List.length_pos_iff.2 h1; simp; omega
  | @leaf nd l i hi A B hk hs hi1 _ _ iha ihb =>
    have a := iha (ok.left i hk)
    have b := ihb (ok.right i hk)
    unfold Nd.room at *
    rw [hk]
    simp at *
    omega
  | @inner nd l i hi A B hk hs hi1 _ _ iha ihb =>
    have a := iha (ok.leftI i (by omega))
    have b := ihb (ok.rightI i)
    have h5 := (ok.big hs).2 hk
    unfold Nd.room at *
    have n1 : nd.kids.take i ≠ [] := fun e => by have := congrArg List.length e; simp only [List.length_take, List.length_nil] at this; omega
    have n2 : nd.kids.drop i ≠ [] := fun e => by have := congrArg List.length e; simp only [List.length_drop, List.length_nil] at this; omega
    rw [if_neg n1] at a
    rw [if_neg n2] at b
    rw [if_neg hk]
    simp only [List.length_take, List.length_drop, List.length_nil, List.length_append] at *
    omega
end Go.Proofs.YtbldcbakhpdigaaGreat

/- spread: the walk. -/
namespace Go.Proofs.YtbldcbakhpdigaaGreat
open Go.RowKit

/-- what spread answers -/
def SprPost (mp : Nat) (σ : MSt) (S : Nat → Prop) (nd : Nd) (least : ByteArray) (w : World) (e : Ending) (w' : World) : Prop :=
  ∃ v ps zs σ' S', e = .returned v ∧ OwnSl w' S' w.heap.size 99 2 v ps.length (pcCells ps) ∧ Spr nd least zs ∧ Puts σ ps zs σ' ∧ Inv σ' S' mp w' ∧ Step S S' w w'

set_option maxRecDepth 100000 in
set_option maxHeartbeats 4000000 in
theorem spread_none (t mp : Nat) (σ : MSt) (S : Nat → Prop) (nb : Nat) (nd : Nd) (least : ByteArray) (w : World) (h : Inv σ S mp w) (hn : IsNode w S nb nd) (hk : nd.kids = []) (hp : nd.pairs = []) :
    Calls Tryz.prog 46 #[.pointer (some ⟨t, 0, none⟩), .pointer (some ⟨nb, 0, none⟩), .string least] w (SprPost mp σ S nd least w) := by
  have hN := hn
  obtain ⟨_, v0, v1, v2, hb, h0, h1, h2⟩ := hn
  obtain ⟨c0, c1, c2, _, _, _, hlt⟩ := cells3 hb
  obtain ⟨ao0, cp0, rfl, n0, m0, _, _⟩ := IsSl.form h0
  have hke : nd.kids.isEmpty = true := by rw [hk]; rfl
  have hpl : nd.pairs.length = 0 := by rw [hp]; rfl
  go_enter Tryz.func46, Tryz.ntmps46
  go_wp2_with (first
    | (go_at_call 37; go_must ((refine (leaf_any nb nd _ S hN).mono ?_); rintro e w1 ⟨rfl, hw⟩; subst w1; rw [hke])))
  go_ret
  exact ⟨_, [], [], σ, S, rfl, OwnSl.nil _ _ _ _ _, .none hk hp, rfl, h, Step.refl S w⟩

set_option maxRecDepth 100000 in
set_option maxHeartbeats 4000000 in
theorem spread_one (t mp : Nat) (root err : Int) (σ : MSt) (S : Nat → Prop) (nb : Nat) (nd : Nd) (least : ByteArray) (w : World) (h : Inv σ S mp w) (ht : TreeAt w t mp root err) (hst : ¬ S t) (hn : IsNode w S nb nd) (ok : nd.Ok) (hne : nd.kids ≠ [] ∨ nd.pairs ≠ []) (hs : nd.size ≤ 512) (hroom : Maps.size σ.D < σ.most) :
    Calls Tryz.prog 46 #[.pointer (some ⟨t, 0, none⟩), .pointer (some ⟨nb, 0, none⟩), .string least] w (SprPost mp σ S nd least w) := by
  have hN := hn
  obtain ⟨_, v0, v1, v2, hb, h0, h1, h2⟩ := hn
  obtain ⟨c0, c1, c2, _, _, _, hlt⟩ := cells3 hb
  obtain ⟨ao0, cp0, rfl, n0, m0, _, _⟩ := IsSl.form h0
  have hfit := ok.fits hs hne
  have HR := Lib.hid hroom; clear hroom
  have hcond : (nd.kids.isEmpty && nd.pairs.isEmpty) = false := by
    rcases hne with hne | hne <;> cases h1 : nd.kids <;> cases h2 : nd.pairs <;> simp_all
  have hne2 := Lib.hid (show nd.kids = [] → nd.pairs ≠ [] from fun x y => hne.elim (fun z => z x) (fun z => z y))
  have htl : t < w.heap.size := (Array.getElem?_eq_some_iff.1 ht).1
  have hs2 : (nd.size : Int) ≤ 512 := by omega
  go_enter Tryz.func46, Tryz.ntmps46
  have hdone : ∀ (f : Nat) (σ' : MSt) (S' : Nat → Prop) (w' : World), Wrote σ f nd σ' → Inv σ' S' mp w' → Step S S' w w' → SprPost mp σ S nd least w (.returned (.slice (some ⟨w'.heap.size, 0, none⟩) 1 1)) (w'.alloc (.cells #[.int .i64 f, .string (leastOf nd least)] 99)) := by
    intro f σ' S' w' h1 h2 h3
    refine ⟨_, [((f : Int), leastOf nd least)], _, σ', S', rfl, ?_, .one hne hs, ⟨σ', rfl, h1, rfl⟩, h2.below (below_one _ _), h3.trans (Step.of_below (below_one _ _))⟩
    have := own_new (w := w') (S := S') (B := w.heap.size) (e := 99) (k := 2) (pcCells [((f : Int), leastOf nd least)]) 1 1 rfl rfl (Nat.le_refl _) (by simp [maxLen]) h3.1.size h2.sub
    exact this
  cases hk : nd.kids.isEmpty with
  | true =>
    have hpl : ¬ nd.pairs.length = 0 := by
      rw [hk] at hcond; intro e; rw [List.eq_nil_of_length_eq_zero e] at hcond; simp at hcond
    have hpl' : ¬ ((nd.pairs.length : Int) = 0) := by omega
    go_wp2_with (first
      | (go_at_call 37; go_must ((refine (leaf_any nb nd _ S hN).mono ?_); rintro e w1 ⟨rfl, hw⟩; subst w1; rw [hk]))
      | (go_at_call 70; go_must ((refine (size_any nb nd _ S hN ok.size_le).mono ?_); rintro e w1 ⟨rfl, hbel1⟩))
      | (go_at_call 72; go_must ((refine (least_any nb nd least _ S (hN.below hbel1) hne2.out).mono ?_); rintro e w2 ⟨rfl, hw⟩; subst w2))
      | (go_at_call 71; go_must ((refine (write_any t mp root err σ S nb nd _ _ (h.below hbel1) ((hbel1.block _ htl).trans ht) hst (hN.below hbel1) hfit hs HR.out).mono ?_); rintro e w3 ⟨f, σ', S', rfl, hW, hI, hS⟩)))
    go_ret
    exact hdone f σ' S' w3 hW hI ((Step.of_below hbel1).trans hS)
  | false =>
    go_wp2_with (first
      | (go_at_call 37; go_must ((refine (leaf_any nb nd _ S hN).mono ?_); rintro e w1 ⟨rfl, hw⟩; subst w1; rw [hk]))
      | (go_at_call 70; go_must ((refine (size_any nb nd _ S hN ok.size_le).mono ?_); rintro e w1 ⟨rfl, hbel1⟩))
      | (go_at_call 72; go_must ((refine (least_any nb nd least _ S (hN.below hbel1) hne2.out).mono ?_); rintro e w2 ⟨rfl, hw⟩; subst w2))
      | (go_at_call 71; go_must ((refine (write_any t mp root err σ S nb nd _ _ (h.below hbel1) ((hbel1.block _ htl).trans ht) hst (hN.below hbel1) hfit hs HR.out).mono ?_); rintro e w3 ⟨f, σ', S', rfl, hW, hI, hS⟩)))
    go_ret
    exact hdone f σ' S' w3 hW hI ((Step.of_below hbel1).trans hS)
end Go.Proofs.YtbldcbakhpdigaaGreat

