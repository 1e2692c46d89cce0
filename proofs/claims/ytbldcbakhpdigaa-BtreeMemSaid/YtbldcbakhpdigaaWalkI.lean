/- walk: on an inner node, and on any. -/
import Derived.Test.YtbldcbakhpdigaaWalk
namespace Go.Proofs.Ytbldcbakhpdigaa
open Go.RowKit

def WalkIH (t mp B ob mb : Nat) (root err : Int) (σ : MSt) (S : Nat → Prop) (key : ByteArray) (most : Int) (m : Nat) : Prop :=
  ∀ (b : Int) (L : List Pr), WalkL σ key m b L → ∀ (deep : Int) (v : Value) (O : List Pr) (w : World), Inv σ S mp w → TreeAt w t mp root err → deep + m ≤ 40 → 0 ≤ deep → Acc w S B ob mb v O most → B ≤ w.heap.size → (O.length : Int) < most → O.length + L.length ≤ 999999 →
    Calls Try.prog 42 #[.pointer (some ⟨t, 0, none⟩), .int .i64 b, .int .i64 deep, .string key, .func (.func 43) #[] #[.pointer (some ⟨ob, 0, none⟩), .pointer (some ⟨mb, 0, none⟩)]] w (WalkPost S B ob mb v O L most w)

theorem flat_take (Ls : List (List Pr)) (j : Nat) (h : j < Ls.length) : (Ls.take (j + 1)).flatten = (Ls.take j).flatten ++ Ls[j] := by
  rw [List.take_succ_eq_append_getElem h, List.flatten_append, List.flatten_cons, List.flatten_nil, List.append_nil]
theorem flat_len (Ls : List (List Pr)) (j : Nat) : (Ls.take j).flatten.length ≤ Ls.flatten.length := by
  have := congrArg (fun l => (List.flatten l).length) (List.take_append_drop j Ls)
  simp only [List.flatten_append, List.length_append] at this
  omega
theorem flat_cut (Ls : List (List Pr)) (j m : Nat) (h : j < Ls.length) (h1 : (Ls.take j).flatten.length ≤ m) (h2 : m ≤ (Ls.take (j + 1)).flatten.length) : Ls.flatten.take m = (Ls.take j).flatten ++ Ls[j].take (m - (Ls.take j).flatten.length) := by
  have e : Ls.flatten = (Ls.take (j + 1)).flatten ++ (Ls.drop (j + 1)).flatten := by rw [← List.flatten_append, List.take_append_drop]
  rw [e, List.take_append_of_le_length h2, flat_take _ _ h, List.take_append, List.take_of_length_le h1]

set_option maxRecDepth 100000 in
set_option maxHeartbeats 4000000 in
theorem walk_inner (t mp B ob mb : Nat) (root err b deep : Int) (σ : MSt) (S : Nat → Prop) (key : ByteArray) (v : Value) (O : List Pr) (most : Int) (m : Nat) (IH : WalkIH t mp B ob mb root err σ S key most m) (nd : Nd) (Ls : List (List Pr)) (w : World) (h : Inv σ S mp w) (ht : TreeAt w t mp root err) (hb : Blk σ b nd) (hk : nd.kids ≠ []) (hr : Rising nd.keys)
    (hLs : Ls.length = (nd.kids.drop (kidAt nd.keys key)).length) (hW : ∀ i (h : i < (nd.kids.drop (kidAt nd.keys key)).length) (h' : i < Ls.length), WalkL σ key m (nd.kids.drop (kidAt nd.keys key))[i] Ls[i]) (hd : deep + (m + 1 : Nat) ≤ 40) (hd0 : 0 ≤ deep)
    (hA : Acc w S B ob mb v O most) (hB : B ≤ w.heap.size) (hO : (O.length : Int) < most) (hl : O.length + Ls.flatten.length ≤ 999999) :
    Calls Try.prog 42 #[.pointer (some ⟨t, 0, none⟩), .int .i64 b, .int .i64 deep, .string key, .func (.func 43) #[] #[.pointer (some ⟨ob, 0, none⟩), .pointer (some ⟨mb, 0, none⟩)]] w (WalkPost S B ob mb v O Ls.flatten most w) := by
  have hke : nd.kids.isEmpty = false := by cases hq : nd.kids with | nil => exact absurd hq hk | cons a b => rfl
  have hnk := hb.fits.nk
  have hkk := hb.fits.kk
  have hp : kidAt nd.keys key ≤ nd.kids.length := by have := kidAt_le nd.keys key; omega
  generalize hP : kidAt nd.keys key = P at hp hW hLs
  have HP := Lib.hid hP; clear hP
  have HKK := Lib.hid hkk; clear hkk
  have hsub := h.sub
  have hd40 : deep ≤ 40 := by omega
  have HIH := Lib.hid IH; clear IH
  have HW := Lib.hid hW; clear hW
  have HO := Lib.hid hO; clear hO
  go_enter Try.func42, Try.ntmps42
  go_wp2_with (first
    | (go_at_call 47; go_must ((refine (load_any t mp root err b deep σ S nd _ h ht hb hd40).mono ?_); rintro e w1 ⟨nb, rfl, hn1, hb1⟩))
    | (go_at_call 48; go_must ((refine (leaf_any nb nd _ S hn1.isNode).mono ?_); rintro e w2 ⟨rfl, hw⟩; subst w2; rw [hke])))
  have hn1' := hn1
  obtain ⟨_, hnB, x0, x1, x2, hbn, _, _, hx2⟩ := hn1'
  obtain ⟨_, _, e2, _, _, _, hlt1⟩ := cells3 hbn
  obtain ⟨ao0, cp0, rfl, m0, m1, _, _⟩ := IsSl.form hx2.isSl
  obtain ⟨ao', ha1, ha2⟩ := after_ex hx2.isSl P hp
  simp only [Nat.mul_one] at ha1
  have hblk : ∀ g o, ao' = some ⟨g, o, none⟩ → w.heap.size ≤ g := by
    intro g o e
    have : ∃ o', ao0 = some ⟨g, o', none⟩ := by
      rw [e] at ha1
      split at ha1
      · exact ⟨o, ha1⟩
      · rcases hx2.1.2 with ⟨e1, _⟩ | ⟨g', cap, cur, e1, _⟩
        · have e2 : ao0 = none := by injection e1
          rw [e2] at ha1; cases ha1
        · have e2 : ao0 = some ⟨g', 0, none⟩ := by injection e1
          rw [e2, Option.map_some, Addr.add_lit] at ha1; cases ha1; exact ⟨_, e2⟩
    obtain ⟨o', rfl⟩ := this
    exact hx2.lo g rfl
  have hD0 : (nd.kids.drop P).length = nd.kids.length - P := List.length_drop
  have hDs1 : IsInts w1 S (.slice ao' (nd.kids.length - P) (cp0 - P)) (nd.kids.drop P) := by
    unfold IsInts; rw [hD0, List.map_drop]; rw [Nat.mul_one] at ha2; exact ha2
  have HDl := Lib.hid hD0; clear hD0 ha2
  have HLs := Lib.hid hLs; clear hLs
  have HDs1 := Lib.hid hDs1; clear hDs1
  have hKid := (kid_any nb nd key w1.drew S (hn1.isNode.below ((Below.refl _ w1).drew)) hr (by rw [HKK.out]; omega))
  rw [HP.out] at hKid
  have HKid := Lib.hid hKid; clear hKid
  have hPi : (P : Int) ≤ (nd.kids.length : Int) := by omega
  refine wp_region_ord (fun W => Below w1.heap.size w1 W) (fun i => !([6].contains i)) [0, 1, 2, 3, 4, 5, 9, 6, 7, 8] rfl (by kernel_rfl) ((Below.refl _ w1).drew) ?_
  repeat ((refine ord_q (v := ?_) rfl rfl (fun _ _ _ h => h) rfl (fun W hW => ?_) ?_); rotate_left; (focus ((try dsimp only at hW); have q0 := (hW.cell (p := ⟨nb, 2, none⟩) hlt1).trans e2; have q1 := Nat.lt_of_lt_of_le hlt1 hW.size; first | (go_simp; first | done | with_reducible rfl))); (try simp only [Act.put, List.setIfInBounds_toArray, List.set_cons_zero, List.set_cons_succ]))
  refine ord_e rfl rfl rfl ?_; intro K hK; go_simp
  refine HKid.out.mono ?_; rintro e w4 ⟨rfl, hb4⟩
  have hb4' : Below w1.heap.size w1 w4 := ((Below.refl _ w1).drew).trans hb4
  refine hK.out _ _ hb4' ?_
  repeat ((refine ord_q (v := ?_) rfl rfl (fun _ _ _ h => h) rfl (fun W hW => ?_) ?_); rotate_left; (focus ((try dsimp only at hW); have q0 := (hW.cell (p := ⟨nb, 2, none⟩) hlt1).trans e2; have q1 := Nat.lt_of_lt_of_le hlt1 hW.size; first | (go_simp; first | done | with_reducible rfl))); (try simp only [Act.put, List.setIfInBounds_toArray, List.set_cons_zero, List.set_cons_succ]))
  refine ord_nil ?_
  have hb4w : Below w.heap.size w w4 := hb1.trans (hb4'.mono hb1.size)
  have hDs : IsInts w4 S (.slice ao' (nd.kids.length - P) (cp0 - P)) (nd.kids.drop P) := IsSl.below HDs1.out hb4'
  have HDs := Lib.hid hDs; clear hDs
  have hvl : ∀ g, v.ownBlock = some g → g < w.heap.size := fun g hg => Nat.not_le.1 (fun hh => hA.own.lt' hh hg)
  have hvS : ∀ g, v.ownBlock = some g → ¬ S g := hA.own.2
  have hobS := hA.nob
  have hobl : ob < w.heap.size := (Array.getElem?_eq_some_iff.1 hA.out).1
  have hI4 := h.below hb4w
  have htl : t < w.heap.size := (Array.getElem?_eq_some_iff.1 ht).1
  have ht4 : TreeAt w4 t mp root err := (hb4w.block t htl).trans ht
  have hto : t ≠ ob := fun e => by have h1 := hA.out; rw [← e, ht] at h1; cases h1
  have htv : v.ownBlock ≠ some t := hA.own.ne ht (by decide)
  have HA4 := Lib.hid (hA.below hb4w)
  have HY0 : YStep ob v v w w4 := YStep.below hb4w
  have hB4 : B ≤ w4.heap.size := Nat.le_trans hB hb4w.size
  have hfl := flat_len Ls
  have Hfl := Lib.hid hfl; clear hfl
  have hdw : IntKind.i64.wrap (deep + 1) = deep + 1 := IntWalk.i64_in _ (by omega)
  clear hb4 hA hPi
  go_wp2_with fail
  go_loopw [19, 20, 21, 65] (fun _ _ _ i wr => ∃ (k : Nat) (vk : Value), k ≤ nd.kids.length - P ∧ i = .int .i64 k ∧ Acc wr S B ob mb vk (O ++ (Ls.take k).flatten) most ∧ ((O.length + (Ls.take k).flatten.length : Nat) : Int) < most ∧ YStep ob v vk w4 wr) (fun _ _ _ i _ => (nd.kids.length - P) - (intOf i).toNat)
  case atStart => exact ⟨0, v, Nat.zero_le _, rfl, by simpa using HA4.out, by simpa using HO.out, YStep.refl _ _ _⟩
  case round =>
    obtain ⟨k, vk, hkn, rfl, hAk, hOk, hY⟩ := hrel
    have hIr : Inv σ S mp wr := hI4.keepM hY.1 (fun g hg x => x.elim (fun e => hobS (by rw [← e]; exact hg)) (fun e => hvS g e hg))
    have htr : TreeAt wr t mp root err := (hY.1.block t (Nat.lt_of_lt_of_le htl hb4w.size) (fun x => x.elim hto htv)).trans ht4
    have hBr : B ≤ wr.heap.size := Nat.le_trans hB4 hY.1.size
    by_cases hlt : k < nd.kids.length - P
    · have hkD : k < (nd.kids.drop P).length := by rw [HDl.out]; exact hlt
      have hkL : k < Ls.length := by rw [HLs.out]; exact hkD
      obtain ⟨pb, po, rfl, d1⟩ := HDs.out.at rfl k hkD
      have hpw : w.heap.size ≤ pb := hblk pb po rfl
      have hpb4 := World.block_lt_of_cell? w4 _ d1
      have hnM : ¬ (pb = ob ∨ v.ownBlock = some pb) := fun x => x.elim (fun e => by omega) (fun e => by have := hvl _ e; omega)
      have g1 := (hY.1.cell (p := ⟨pb, po + k, none⟩) hpb4 hnM).trans d1
      have hpbr := Nat.lt_of_lt_of_le hpb4 hY.1.size
      have hft := flat_take Ls k hkL
      have hlen : (Ls.take (k + 1)).flatten.length = (Ls.take k).flatten.length + Ls[k].length := by rw [hft, List.length_append]
      have hmax := Hfl.out (k + 1)
      have hy := HIH.out _ _ (HW.out k hkD hkL) (deep + 1) vk (O ++ (Ls.take k).flatten) wr hIr htr (by omega) (by omega) hAk hBr (by rw [List.length_append]; exact hOk) (by rw [List.length_append]; omega)
      have Hft := Lib.hid hft; clear hft
      have Hlen := Lib.hid hlen; clear hlen
      have Hmax := Lib.hid hmax; clear hmax
      have Hy := Lib.hid hy; clear hy
      generalize hkid : (nd.kids.drop P)[k] = kd at *
      have Hkid := Lib.hid hkid; clear hkid d1
      by_cases hmo : (((O ++ (Ls.take k).flatten).length + Ls[k].length : Nat) : Int) < most
      · have Hmo := Lib.hid (decide_eq_true hmo)
        have Hmo2 := Lib.hid hmo; clear hmo
        go_wp2_with ((refine Hy.out.mono ?_); unfold WalkPost; rw [Hmo.out]; rintro e w5 ⟨rfl, v5, hA5, hY5⟩)
        go_roundw
        case rel =>
          have hmo := Hmo2.out
          have hlen := Hlen.out
          rw [List.length_append] at hmo
          refine ⟨k + 1, v5, hlt, by go_num, ?_, by omega, hY.trans hY5⟩
          rw [List.length_append, List.take_of_length_le (l := Ls[k]) (by omega), List.append_assoc, ← Hft.out] at hA5
          exact hA5
        case measure => simp [intOf]; omega
      · have Hmo := Lib.hid (decide_eq_false hmo)
        have Hmo2 := Lib.hid hmo; clear hmo
        go_wp2_with ((refine Hy.out.mono ?_); unfold WalkPost; rw [Hmo.out]; rintro e w5 ⟨rfl, v5, hA5, hY5⟩)
        go_ret2
        have hmo := Hmo2.out
        have hlen := Hlen.out
        have hmax := Hmax.out
        rw [List.length_append] at hmo
        refine ⟨by rw [decide_eq_false (by omega)]; rfl, v5, ?_, HY0.trans (hY.trans hY5)⟩
        rw [flat_cut Ls k _ hkL (by omega) (by omega), ← List.append_assoc]
        rw [show (most - (O.length : Int)).toNat - (Ls.take k).flatten.length = (most - ((O ++ (Ls.take k).flatten).length : Nat)).toNat from by rw [List.length_append]; omega]
        exact hA5
    · obtain rfl : k = nd.kids.length - P := by omega
      go_wp2_with fail
      go_ret2
      have hall : Ls.take (nd.kids.length - P) = Ls := List.take_of_length_le (by rw [HLs.out, HDl.out]; exact Nat.le_refl _)
      rw [hall] at hAk hOk
      refine ⟨by rw [decide_eq_true hOk]; rfl, vk, ?_, HY0.trans hY⟩
      rw [List.take_of_length_le (l := Ls.flatten) (by omega)]
      exact hAk

theorem walk_any (t mp B ob mb : Nat) (root err : Int) (σ : MSt) (S : Nat → Prop) (key : ByteArray) (most : Int) : ∀ m, WalkIH t mp B ob mb root err σ S key most m := by
  intro m
  induction m with
  | zero =>
    intro b L hL deep v O w h ht hd hd0 hA hB hO hl
    cases hL with
    | leaf hb hk hr => exact walk_leaf t mp B ob mb root err b deep σ S key v O most _ w h ht hb hk hr (by omega) hA hB hO hl
  | succ m ih =>
    intro b L hL deep v O w h ht hd hd0 hA hB hO hl
    cases hL with
    | leaf hb hk hr => exact walk_leaf t mp B ob mb root err b deep σ S key v O most _ w h ht hb hk hr (by omega) hA hB hO hl
    | inner Ls hb hk hr hLs hW => exact walk_inner t mp B ob mb root err b deep σ S key v O most m ih _ Ls w h ht hb hk hr hLs hW hd hd0 hA hB hO hl
end Go.Proofs.Ytbldcbakhpdigaa
