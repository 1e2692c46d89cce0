/- walk: through the pairs from a key on. -/
import Derived.Test.YtbldcbakhpdigaaScan
namespace Go.Proofs.Ytbldcbakhpdigaa
open Go.RowKit

/-- the pairs below a block from a key on -/
inductive WalkL (σ : MSt) (key : ByteArray) : Nat → Int → List Pr → Prop
  | leaf {n b nd} : Blk σ b nd → nd.kids = [] → RisingP nd.pairs → WalkL σ key n b (nd.pairs.drop (posAt nd.pairs key))
  | inner {n b nd} (Ls : List (List Pr)) : Blk σ b nd → nd.kids ≠ [] → Rising nd.keys → Ls.length = (nd.kids.drop (kidAt nd.keys key)).length → (∀ i (h : i < (nd.kids.drop (kidAt nd.keys key)).length) (h' : i < Ls.length), WalkL σ key n (nd.kids.drop (kidAt nd.keys key))[i] Ls[i]) → WalkL σ key (n + 1) b Ls.flatten

/-- what walk answers -/
def WalkPost (S : Nat → Prop) (B ob mb : Nat) (v : Value) (O L : List Pr) (most : Int) (w : World) (e : Ending) (w' : World) : Prop :=
  e = .returned (.tuple #[.bool (decide (((O.length + L.length : Nat) : Int) < most)), .int .i64 0]) ∧ ∃ v', Acc w' S B ob mb v' (O ++ L.take (most - O.length).toNat) most ∧ YStep ob v v' w w'

theorem after_ex {w : World} {S : Nat → Prop} {k n c : Nat} {ao : Option Addr} {xs : List Value} (h : IsSl w S k (.slice ao n c) n xs) (i : Nat) (hi : i ≤ n) : ∃ ao', (if c = i then ao else ao.map fun x => x.add (i * k)) = ao' ∧ IsSl w S k (.slice ao' (n - i) (c - i)) (n - i) (xs.drop (i * k)) := ⟨_, rfl, IsSl.after h i hi⟩

set_option maxRecDepth 100000 in
set_option maxHeartbeats 4000000 in
theorem walk_leaf (t mp B ob mb : Nat) (root err b deep : Int) (σ : MSt) (S : Nat → Prop) (key : ByteArray) (v : Value) (O : List Pr) (most : Int) (nd : Nd) (w : World) (h : Inv σ S mp w) (ht : TreeAt w t mp root err) (hb : Blk σ b nd) (hk : nd.kids = []) (hr : RisingP nd.pairs) (hd : deep ≤ 40)
    (hA : Acc w S B ob mb v O most) (hB : B ≤ w.heap.size) (hO : (O.length : Int) < most) (hl : O.length + (nd.pairs.drop (posAt nd.pairs key)).length ≤ 999999) :
    Calls Try.prog 42 #[.pointer (some ⟨t, 0, none⟩), .int .i64 b, .int .i64 deep, .string key, .func (.func 43) #[] #[.pointer (some ⟨ob, 0, none⟩), .pointer (some ⟨mb, 0, none⟩)]] w (WalkPost S B ob mb v O (nd.pairs.drop (posAt nd.pairs key)) most w) := by
  have hke : nd.kids.isEmpty = true := by rw [hk]; rfl
  have hnp := hb.fits.np
  have hp := posAt_le nd.pairs key
  generalize hP : posAt nd.pairs key = P at hp hl
  have HP := Lib.hid hP; clear hP
  have hsub := h.sub
  go_enter Try.func42, Try.ntmps42
  go_wp2_with (first
    | (go_at_call 47; go_must ((refine (load_any t mp root err b deep σ S nd _ h ht hb hd).mono ?_); rintro e w1 ⟨nb, rfl, hn1, hb1⟩))
    | (go_at_call 48; go_must ((refine (leaf_any nb nd _ S hn1.isNode).mono ?_); rintro e w2 ⟨rfl, hw⟩; subst w2; rw [hke]))
    | (go_at_call 40; go_must ((refine (find_any nb nd key _ S hn1.isNode hr (by omega)).mono ?_); rw [HP.out]; rintro e w3 ⟨rfl, hb3⟩; refine Stop.of ?_)))
  obtain ⟨_, hnB, x0, x1, x2, hbn, hx0, _, _⟩ := hn1.step (Step.of_below hb3)
  obtain ⟨e0, _, _, _, _, _, hlt3⟩ := cells3 hbn
  obtain ⟨ao0, cp0, rfl, m0, m1, _, _⟩ := IsSl.form hx0.isSl
  obtain ⟨ao', ha1, ha2⟩ := after_ex hx0.isSl P hp
  generalize hD : nd.pairs.drop P = D at hl
  have hDl : D.length = nd.pairs.length - P := by rw [← hD, List.length_drop]
  have hDs : IsPrs w3 S (.slice ao' (nd.pairs.length - P) (cp0 - P)) D := by
    unfold IsPrs; rw [hDl, ← hD, prCells_drop]; exact ha2
  have hblk : ∀ g o, ao' = some ⟨g, o, none⟩ → w.heap.size ≤ g := by
    intro g o e
    have : ∃ o', ao0 = some ⟨g, o', none⟩ := by
      rw [e] at ha1
      split at ha1
      · exact ⟨o, ha1⟩
      · rcases hx0.1.2 with ⟨e1, _⟩ | ⟨g', cap, cur, e1, _⟩
        · have e2 : ao0 = none := by injection e1
          rw [e2] at ha1; cases ha1
        · have e2 : ao0 = some ⟨g', 0, none⟩ := by injection e1
          rw [e2, Option.map_some, Addr.add_lit] at ha1; cases ha1; exact ⟨_, e2⟩
    obtain ⟨o', rfl⟩ := this
    exact hx0.lo g rfl
  have hvl : ∀ g, v.ownBlock = some g → g < w.heap.size := fun g hg => Nat.not_le.1 (fun hh => hA.own.lt' hh hg)
  have hobl : ob < w.heap.size := (Array.getElem?_eq_some_iff.1 hA.out).1
  have hb3w : Below w.heap.size w w3 := hb1.trans (hb3.mono hb1.size)
  have HDs := Lib.hid hDs; clear hDs ha2
  have HDl := Lib.hid hDl
  have HD := Lib.hid hD; clear hD
  have HA3 := Lib.hid (hA.below hb3w)
  have HY0 : YStep ob v v w w3 := YStep.below hb3w
  have hsub3 : ∀ g, S g → g < w3.heap.size := fun g hg => Nat.lt_of_lt_of_le (hsub g hg) hb3w.size
  have hB3 : B ≤ w3.heap.size := Nat.le_trans hB hb3w.size
  have hBl : ∀ g, v.ownBlock = some g → B ≤ g := hA.own.lo
  have hO2 := Lib.hid hO; clear hO
  clear hDl
  refine Stop.on ?_
  go_wp2_with fail
  go_loopw [17, 47] (fun _ i wr => ∃ (k : Nat) (vk : Value), k ≤ nd.pairs.length - P ∧ i = .int .i64 k ∧ Acc wr S B ob mb vk (O ++ D.take k) most ∧ ((O.length + k : Nat) : Int) < most ∧ YStep ob v vk w3 wr) (fun _ i _ => (nd.pairs.length - P) - (intOf i).toNat)
  case atStart => exact ⟨0, v, Nat.zero_le _, rfl, by rw [List.take_zero, List.append_nil]; exact HA3.out, by rw [Nat.add_zero]; exact hO2.out, YStep.refl _ _ _⟩
  case round =>
    obtain ⟨k, vk, hkn, rfl, hAk, hOk, hY⟩ := hrel
    by_cases hlt : k < nd.pairs.length - P
    · have hkD : k < D.length := by rw [HDl.out]; exact hlt
      obtain ⟨pb, po, rfl, d1, d2⟩ := HDs.out.at rfl k hkD
      have hpw : w.heap.size ≤ pb := hblk pb po rfl
      have hpb3 := World.block_lt_of_cell? w3 _ d1
      have hnM : ¬ (pb = ob ∨ v.ownBlock = some pb) := fun x => x.elim (fun e => by omega) (fun e => by have := hvl _ e; omega)
      have g1 := (hY.1.cell (p := ⟨pb, po + k * 2, none⟩) hpb3 hnM).trans d1
      have g2 := (hY.1.cell (p := ⟨pb, po + k * 2 + 1, none⟩) hpb3 hnM).trans d2
      have hpbr := Nat.lt_of_lt_of_le hpb3 hY.1.size
      have hbn' := below_one wr (.cells #[.string D[k].1, .string D[k].2] 49)
      have hy := yield_any B ob mb vk (O ++ D.take k) most D[k] S (wr.alloc (.cells #[.string D[k].1, .string D[k].2] 49)) (fun g hg => Nat.lt_of_lt_of_le (hsub3 g hg) (Nat.le_trans hY.1.size hbn'.size)) (hAk.below hbn') (Nat.le_trans hB3 (Nat.le_trans hY.1.size hbn'.size)) (by rw [List.length_append, List.length_take]; omega)
      rw [show (O ++ D.take k).length + 1 = O.length + (k + 1) from by rw [List.length_append, List.length_take]; omega, show O ++ D.take k ++ [D[k]] = O ++ D.take (k + 1) from by rw [List.take_succ_eq_append_getElem hkD, List.append_assoc]] at hy
      have hY1 : YStep ob vk vk wr (wr.alloc (.cells #[.string D[k].1, .string D[k].2] 49)) := YStep.below hbn'
      have Hy := Lib.hid hy; clear hy
      clear d1 d2
      by_cases hmo : ((O.length + (k + 1) : Nat) : Int) < most
      · have hmo' := decide_eq_true hmo
        have Hmo := Lib.hid hmo'; clear hmo'
        go_wp2_with ((refine Hy.out.mono ?_); rw [Hmo.out]; rintro e w4 ⟨rfl, v4, hA4, hY4⟩)
        go_roundw
        case rel => exact ⟨k + 1, v4, hlt, by go_num, hA4, hmo, (hY.trans hY1).trans hY4⟩
        case measure => simp [intOf]; omega
      · have hmo' := decide_eq_false hmo
        have Hmo := Lib.hid hmo'; clear hmo'
        go_wp2_with ((refine Hy.out.mono ?_); rw [Hmo.out]; rintro e w4 ⟨rfl, v4, hA4, hY4⟩)
        go_ret2
        have hDlen := HDl.out
        rw [HD.out]
        refine ⟨by rw [decide_eq_false (by omega)]; rfl, v4, ?_, HY0.trans ((hY.trans hY1).trans hY4)⟩
        rw [show (most - (O.length : Int)).toNat = k + 1 from by omega]
        exact hA4
    · obtain rfl : k = nd.pairs.length - P := by omega
      go_wp2_with fail
      go_ret2
      have hDlen := HDl.out
      rw [HD.out]
      refine ⟨by rw [decide_eq_true (by omega)]; rfl, vk, ?_, HY0.trans hY⟩
      rw [List.take_of_length_le (by omega)]
      rw [List.take_of_length_le (by omega)] at hAk
      exact hAk
end Go.Proofs.Ytbldcbakhpdigaa
