/- WalkI, ScanS, Del, Via, New, Bad, Tiny, Tree, Chg, SprC -/
import Derived.Test.YtbldcbakhpdigaaGreatJ5
/- walk: on an inner node, and on any. -/
namespace Go.Proofs.YtbldcbakhpdigaaGreat
open Go.RowKit

def WalkIH (t mp B ob mb : Nat) (root err : Int) (σ : MSt) (S : Nat → Prop) (key : ByteArray) (most : Int) (m : Nat) : Prop :=
  ∀ (b : Int) (L : List Pr), WalkL σ key m b L → ∀ (deep : Int) (v : Value) (O : List Pr) (w : World), Inv σ S mp w → TreeAt w t mp root err → deep + m ≤ 40 → 0 ≤ deep → Acc w S B ob mb v O most → B ≤ w.heap.size → (O.length : Int) < most → O.length + L.length ≤ 999999 →
    Calls Tryz.prog 27 #[.pointer (some ⟨t, 0, none⟩), .int .i64 b, .int .i64 deep, .string key, .func (.func 28) #[] #[.pointer (some ⟨ob, 0, none⟩), .pointer (some ⟨mb, 0, none⟩)]] w (WalkPost S B ob mb v O L most w)

theorem flat_take (Ls : List (List Pr)) (j : Nat) (h : j < Ls.length) : (Ls.take (j + 1)).flatten = (Ls.take j).flatten ++ Ls[j] := by
  rw [List.take_succ_eq_append_getElem h, List.flatten_append, List.flatten_cons, List.flatten_nil, List.append_nil]
theorem flat_len (Ls : List (List Pr)) (j : Nat) : (Ls.take j).flatten.length ≤ Ls.flatten.length := by
  have := congrArg (fun l => (List.flatten l).length) (List.take_append_drop j Ls)
  simp only [List.flatten_append, List.length_append] at this
  omega
theorem flat_cut (Ls : List (List Pr)) (j m : Nat) (h : j < Ls.length) (h1 : (Ls.take j).flatten.length ≤ m) (h2 : m ≤ (Ls.take (j + 1)).flatten.length) : Ls.flatten.take m = (Ls.take j).flatten ++ Ls[j].take (m - (Ls.take j).flatten.length) := by
  have e : Ls.flatten = (Ls.take (j + 1)).flatten ++ (Ls.drop (j + 1)).flatten := by rw [← List.flatten_append, List.take_append_drop]
  rw [e, List.take_append_of_le_length h2, flat_take _ _ h, List.take_append, List.take_of_length_le h1]

set_option maxRecDepth 100000 in
set_option maxHeartbeats 4000000 in
theorem walk_inner (t mp B ob mb : Nat) (root err b deep : Int) (σ : MSt) (S : Nat → Prop) (key : ByteArray) (v : Value) (O : List Pr) (most : Int) (m : Nat) (IH : WalkIH t mp B ob mb root err σ S key most m) (nd : Nd) (Ls : List (List Pr)) (w : World) (h : Inv σ S mp w) (ht : TreeAt w t mp root err) (hb : Blk σ b nd) (hk : nd.kids ≠ []) (hr : Rising nd.keys)
    (hLs : Ls.length = (nd.kids.drop (kidAt nd.keys key)).length) (hW : ∀ i (h : i < (nd.kids.drop (kidAt nd.keys key)).length) (h' : i < Ls.length), WalkL σ key m (nd.kids.drop (kidAt nd.keys key))[i] Ls[i]) (hd : deep + (m + 1 : Nat) ≤ 40) (hd0 : 0 ≤ deep)
    (hA : Acc w S B ob mb v O most) (hB : B ≤ w.heap.size) (hO : (O.length : Int) < most) (hl : O.length + Ls.flatten.length ≤ 999999) :
    Calls Tryz.prog 27 #[.pointer (some ⟨t, 0, none⟩), .int .i64 b, .int .i64 deep, .string key, .func (.func 28) #[] #[.pointer (some ⟨ob, 0, none⟩), .pointer (some ⟨mb, 0, none⟩)]] w (WalkPost S B ob mb v O Ls.flatten most w) := by
  have hke : nd.kids.isEmpty = false := by cases hq : nd.kids with | nil => exact absurd hq hk | cons a b => rfl
  have hnk := hb.fits.nk
  have hkk := hb.fits.kk
  have hp : kidAt nd.keys key ≤ nd.kids.length := by have := kidAt_le nd.keys key; omega
  generalize hP : kidAt nd.keys key = P at hp hW hLs
  have HP := Lib.hid hP; clear hP
  have HKK := Lib.hid hkk; clear hkk
  have hsub := h.sub
  have hd40 : deep ≤ 40 := by omega
  have HIH := Lib.hid IH; clear IH
  have HW := Lib.hid hW; clear hW
  have HO := Lib.hid hO; clear hO
  go_enter Tryz.func27, Tryz.ntmps27
  go_wp2_with (first
    | (go_at_call 23; go_must ((refine (load_any t mp root err b deep σ S nd _ h ht hb hd40).mono ?_); rintro e w1 ⟨nb, rfl, hn1, hb1⟩))
    | (go_at_call 37; go_must ((refine (leaf_any nb nd _ S hn1.isNode).mono ?_); rintro e w2 ⟨rfl, hw⟩; subst w2; rw [hke])))
  have hn1' := hn1
  obtain ⟨_, hnB, x0, x1, x2, hbn, _, _, hx2⟩ := hn1'
  obtain ⟨_, _, e2, _, _, _, hlt1⟩ := cells3 hbn
  obtain ⟨ao0, cp0, rfl, m0, m1, _, _⟩ := IsSl.form hx2.isSl
  obtain ⟨ao', ha1, ha2⟩ := after_ex hx2.isSl P hp
  simp only [Nat.mul_one] at ha1
  have hblk : ∀ g o, ao' = some ⟨g, o, none⟩ → w.heap.size ≤ g := by
    intro g o e
    have : ∃ o', ao0 = some ⟨g, o', none⟩ := by
      rw [e] at ha1
      split at ha1
      · exact ⟨o, ha1⟩
      · rcases hx2.1.2 with ⟨e1, _⟩ | ⟨g', cap, cur, e1, _⟩
        · have e2 : ao0 = none := by injection e1
          rw [e2] at ha1; cases ha1
        · have e2 : ao0 = some ⟨g', 0, none⟩ := by injection e1
          rw [e2, Option.map_some, Addr.add_lit] at ha1; cases ha1; exact ⟨_, e2⟩
    obtain ⟨o', rfl⟩ := this
    exact hx2.lo g rfl
  have hD0 : (nd.kids.drop P).length = nd.kids.length - P := List.length_drop
  have hDs1 : IsInts w1 S (.slice ao' (nd.kids.length - P) (cp0 - P)) (nd.kids.drop P) := by
    unfold IsInts; rw [hD0, List.map_drop]; rw [Nat.mul_one] at ha2; exact ha2
  have HDl := Lib.hid hD0; clear hD0 ha2
  have HLs := Lib.hid hLs; clear hLs
  have HDs1 := Lib.hid hDs1; clear hDs1
  have hKid := (kid_any nb nd key w1.drew S (hn1.isNode.below ((Below.refl _ w1).drew)) hr (by rw [HKK.out]; omega))
  rw [HP.out] at hKid
  have HKid := Lib.hid hKid; clear hKid
  have hPi : (P : Int) ≤ (nd.kids.length : Int) := by omega
  refine wp_region_ord (fun W => Below w1.heap.size w1 W) (fun i => !([6].contains i)) [0, 1, 2, 3, 4, 5, 9, 6, 7, 8] rfl (by kernel_rfl) ((Below.refl _ w1).drew) ?_
  repeat ((refine ord_q (v := ?_) rfl rfl (fun _ _ _ h => h) rfl (fun W hW => ?_) ?_); rotate_left; (focus ((try dsimp only at hW); have q0 := (hW.cell (p := ⟨nb, 2, none⟩) hlt1).trans e2; have q1 := Nat.lt_of_lt_of_le hlt1 hW.size; first | (go_simp; first | done | with_reducible rfl))); (try simp only [Act.put, List.setIfInBounds_toArray, List.set_cons_zero, List.set_cons_succ]))
  refine ord_e rfl rfl rfl ?_; intro K hK; go_simp
  refine HKid.out.mono ?_; rintro e w4 ⟨rfl, hb4⟩
  have hb4' : Below w1.heap.size w1 w4 := ((Below.refl _ w1).drew).trans hb4
  refine hK.out _ _ hb4' ?_
  repeat ((refine ord_q (v := ?_) rfl rfl (fun _ _ _ h => h) rfl (fun W hW => ?_) ?_); rotate_left; (focus ((try dsimp only at hW); have q0 := (hW.cell (p := ⟨nb, 2, none⟩) hlt1).trans e2; have q1 := Nat.lt_of_lt_of_le hlt1 hW.size; first | (go_simp; first | done | with_reducible rfl))); (try simp only [Act.put, List.setIfInBounds_toArray, List.set_cons_zero, List.set_cons_succ]))
  refine ord_nil ?_
  have hb4w : Below w.heap.size w w4 := hb1.trans (hb4'.mono hb1.size)
  have hDs : IsInts w4 S (.slice ao' (nd.kids.length - P) (cp0 - P)) (nd.kids.drop P) := IsSl.below HDs1.out hb4'
  have HDs := Lib.hid hDs; clear hDs
  have hvl : ∀ g, v.ownBlock = some g → g < w.heap.size := fun g hg => Nat.not_le.1 (fun hh => hA.own.lt' hh hg)
  have hvS : ∀ g, v.ownBlock = some g → ¬ S g := hA.own.2
  have hobS := hA.nob
  have hobl : ob < w.heap.size := (Array.getElem?_eq_some_iff.1 hA.out).1
  have hI4 := h.below hb4w
  have htl : t < w.heap.size := (Array.getElem?_eq_some_iff.1 ht).1
  have ht4 : TreeAt w4 t mp root err := (hb4w.block t htl).trans ht
  have hto : t ≠ ob := fun e => by have h1 := hA.out; rw [← e, ht] at h1; cases h1
  have htv : v.ownBlock ≠ some t := hA.own.ne ht (by decide)
  have HA4 := Lib.hid (hA.below hb4w)
  have HY0 : YStep ob v v w w4 := YStep.below hb4w
  have hB4 : B ≤ w4.heap.size := Nat.le_trans hB hb4w.size
  have hfl := flat_len Ls
  have Hfl := Lib.hid hfl; clear hfl
  have hdw : IntKind.i64.wrap (deep + 1) = deep + 1 := IntWalk.i64_in _ (by omega)
  clear hb4 hA hPi
  go_wp2_with fail
  go_loopw [19, 20, 21, 65] (fun _ _ _ i wr => ∃ (k : Nat) (vk : Value), k ≤ nd.kids.length - P ∧ i = .int .i64 k ∧ Acc wr S B ob mb vk (O ++ (Ls.take k).flatten) most ∧ ((O.length + (Ls.take k).flatten.length : Nat) : Int) < most ∧ YStep ob v vk w4 wr) (fun _ _ _ i _ => (nd.kids.length - P) - (intOf i).toNat)
  case atStart => exact ⟨0, v, Nat.zero_le _, rfl, by simpa using HA4.out, by simpa using HO.out, YStep.refl _ _ _⟩
  case round =>
    obtain ⟨k, vk, hkn, rfl, hAk, hOk, hY⟩ := hrel
    have hIr : Inv σ S mp wr := hI4.keepM hY.1 (fun g hg x => x.elim (fun e => hobS (by rw [← e]; exact hg)) (fun e => hvS g e hg))
    have htr : TreeAt wr t mp root err := (hY.1.block t (Nat.lt_of_lt_of_le htl hb4w.size) (fun x => x.elim hto htv)).trans ht4
    have hBr : B ≤ wr.heap.size := Nat.le_trans hB4 hY.1.size
    by_cases hlt : k < nd.kids.length - P
    · have hkD : k < (nd.kids.drop P).length := by rw [HDl.out]; exact hlt
      have hkL : k < Ls.length := by rw [HLs.out]; exact hkD
      obtain ⟨pb, po, rfl, d1⟩ := HDs.out.at rfl k hkD
      have hpw : w.heap.size ≤ pb := hblk pb po rfl
      have hpb4 := World.block_lt_of_cell? w4 _ d1
      have hnM : ¬ (pb = ob ∨ v.ownBlock = some pb) := fun x => x.elim (fun e => by omega) (fun e => by have := hvl _ e; omega)
      have g1 := (hY.1.cell (p := ⟨pb, po + k, none⟩) hpb4 hnM).trans d1
      have hpbr := Nat.lt_of_lt_of_le hpb4 hY.1.size
      have hft := flat_take Ls k hkL
      have hlen : (Ls.take (k + 1)).flatten.length = (Ls.take k).flatten.length + Ls[k].length := by rw [hft, List.length_append]
      have hmax := Hfl.out (k + 1)
      have hy := HIH.out _ _ (HW.out k hkD hkL) (deep + 1) vk (O ++ (Ls.take k).flatten) wr hIr htr (by omega) (by omega) hAk hBr (by rw [List.length_append]; exact hOk) (by rw [List.length_append]; omega)
      have Hft := Lib.hid hft; clear hft
      have Hlen := Lib.hid hlen; clear hlen
      have Hmax := Lib.hid hmax; clear hmax
      have Hy := Lib.hid hy; clear hy
      generalize hkid : (nd.kids.drop P)[k] = kd at *
      have Hkid := Lib.hid hkid; clear hkid d1
      by_cases hmo : (((O ++ (Ls.take k).flatten).length + Ls[k].length : Nat) : Int) < most
      · have Hmo := Lib.hid (decide_eq_true hmo)
        have Hmo2 := Lib.hid hmo; clear hmo
        go_wp2_with ((refine Hy.out.mono ?_); unfold WalkPost; rw [Hmo.out]; rintro e w5 ⟨rfl, v5, hA5, hY5⟩)
        go_roundw
        case rel =>
          have hmo := Hmo2.out
          have hlen := Hlen.out
          rw [List.length_append] at hmo
          refine ⟨k + 1, v5, hlt, by go_num, ?_, by omega, hY.trans hY5⟩
          rw [List.length_append, List.take_of_length_le (l := Ls[k]) (by omega), List.append_assoc, ← Hft.out] at hA5
          exact hA5
        case measure => simp [intOf]; omega
      · have Hmo := Lib.hid (decide_eq_false hmo)
        have Hmo2 := Lib.hid hmo; clear hmo
        go_wp2_with ((refine Hy.out.mono ?_); unfold WalkPost; rw [Hmo.out]; rintro e w5 ⟨rfl, v5, hA5, hY5⟩)
        go_ret2
        have hmo := Hmo2.out
        have hlen := Hlen.out
        have hmax := Hmax.out
        rw [List.length_append] at hmo
        refine ⟨by rw [decide_eq_false (by omega)]; rfl, v5, ?_, HY0.trans (hY.trans hY5)⟩
        rw [flat_cut Ls k _ hkL (by omega) (by omega), ← List.append_assoc]
        rw [show (most - (O.length : Int)).toNat - (Ls.take k).flatten.length = (most - ((O ++ (Ls.take k).flatten).length : Nat)).toNat from by rw [List.length_append]; omega]
        exact hA5
    · obtain rfl : k = nd.kids.length - P := by omega
      go_wp2_with fail
      go_ret2
      have hall : Ls.take (nd.kids.length - P) = Ls := List.take_of_length_le (by rw [HLs.out, HDl.out]; exact Nat.le_refl _)
      rw [hall] at hAk hOk
      refine ⟨by rw [decide_eq_true hOk]; rfl, vk, ?_, HY0.trans hY⟩
      rw [List.take_of_length_le (l := Ls.flatten) (by omega)]
      exact hAk

theorem walk_any (t mp B ob mb : Nat) (root err : Int) (σ : MSt) (S : Nat → Prop) (key : ByteArray) (most : Int) : ∀ m, WalkIH t mp B ob mb root err σ S key most m := by
  intro m
  induction m with
  | zero =>
    intro b L hL deep v O w h ht hd hd0 hA hB hO hl
    cases hL with
    | leaf hb hk hr => exact walk_leaf t mp B ob mb root err b deep σ S key v O most _ w h ht hb hk hr (by omega) hA hB hO hl
  | succ m ih =>
    intro b L hL deep v O w h ht hd hd0 hA hB hO hl
    cases hL with
    | leaf hb hk hr => exact walk_leaf t mp B ob mb root err b deep σ S key v O most _ w h ht hb hk hr (by omega) hA hB hO hl
    | inner Ls hb hk hr hLs hW => exact walk_inner t mp B ob mb root err b deep σ S key v O most m ih _ Ls w h ht hb hk hr hLs hW hd hd0 hA hB hO hl
end Go.Proofs.YtbldcbakhpdigaaGreat

/- Scan. -/
namespace Go.Proofs.YtbldcbakhpdigaaGreat
open Go.RowKit

set_option maxRecDepth 100000 in
set_option maxHeartbeats 4000000 in
/-- nothing is there, or nothing is wanted -/
theorem scan_none (t mp : Nat) (root : Int) (key : ByteArray) (most : Int) (w : World) (ht : TreeAt w t mp root 0) (h0 : root = 0 ∨ most ≤ 0) :
    Calls Tryz.prog 12 #[.pointer (some ⟨t, 0, none⟩), .string key, .int .i64 most] w fun e w' => e = .returned (.tuple #[.slice none 0 0, .int .i64 0]) ∧ Below w.heap.size w w' := by
  have hbm := below_one w (.cells #[.int .i64 most] 3)
  have htl : t < w.heap.size := (Array.getElem?_eq_some_iff.1 ht).1
  have ht1 := (hbm.block t htl).trans ht
  have hb2 := below_two w (.cells #[.int .i64 most] 3) (.cells #[.slice none 0 0] 29)
  obtain ⟨_, c1, _, _, _, _, hl2⟩ := cells3 ((hb2.block t htl).trans ht)
  have d1 := (below_one (w.alloc (.cells #[.int .i64 most] 3)) (.cells #[.slice none 0 0] 29)).cell (p := ⟨w.heap.size, 0, none⟩) (by simp)
  rw [show (w.alloc (.cells #[.int .i64 most] 3)).cell? ⟨w.heap.size, 0, none⟩ = some (.int .i64 most) from by rw [World.cell?_alloc_new]; rfl] at d1
  go_enter Tryz.func12, Tryz.ntmps12
  by_cases hr : root = 0
  · subst hr
    go_wp2_with (first
      | (go_at_call 22; go_must ((refine (usable_any t mp 0 0 _ ht1).mono ?_); rintro e w1 ⟨rfl, hw⟩; subst w1)))
    go_ret2
    exact ⟨rfl, hb2⟩
  · have hm : most ≤ 0 := h0.resolve_left hr
    have hr2 : (root == 0) = false := by simpa using hr
    go_wp2_with (first
      | (go_at_call 22; go_must ((refine (usable_any t mp root 0 _ ht1).mono ?_); rintro e w1 ⟨rfl, hw⟩; subst w1)))
    go_ret2
    exact ⟨rfl, hb2⟩

set_option maxRecDepth 100000 in
set_option maxHeartbeats 4000000 in
theorem scan_any (t mp : Nat) (root : Int) (σ : MSt) (S : Nat → Prop) (key : ByteArray) (most : Int) (L : List Pr) (n : Nat) (w : World) (h : Inv σ S mp w) (ht : TreeAt w t mp root 0) (hr : root ≠ 0) (hm : 0 < most) (hn : n ≤ 40) (hL : WalkL σ key n root L) (hl : L.length ≤ 999999) :
    Calls Tryz.prog 12 #[.pointer (some ⟨t, 0, none⟩), .string key, .int .i64 most] w fun e w' => ∃ v, e = .returned (.tuple #[v, .int .i64 0]) ∧ IsPrs w' S v (L.take most.toNat) ∧ Below w.heap.size w w' := by
  have hbm := below_one w (.cells #[.int .i64 most] 3)
  have htl : t < w.heap.size := (Array.getElem?_eq_some_iff.1 ht).1
  have hsub := h.sub
  have ht1 := (hbm.block t htl).trans ht
  have hb2 := below_two w (.cells #[.int .i64 most] 3) (.cells #[.slice none 0 0] 29)
  obtain ⟨_, c1, _, _, _, _, hl2⟩ := cells3 ((hb2.block t htl).trans ht)
  have d1 := (below_one (w.alloc (.cells #[.int .i64 most] 3)) (.cells #[.slice none 0 0] 29)).cell (p := ⟨w.heap.size, 0, none⟩) (by simp)
  rw [show (w.alloc (.cells #[.int .i64 most] 3)).cell? ⟨w.heap.size, 0, none⟩ = some (.int .i64 most) from by rw [World.cell?_alloc_new]; rfl] at d1
  have hr2 : (root == 0) = false := by simpa using hr
  have hm2 : ¬ most ≤ 0 := by omega
  have hmf : ∀ (fn : Fn) (first cap : Array Value) (w : World), (Instr.makeFunc fn first cap).run Tryz.prog w = .ok (.func fn first cap) w := fun _ _ _ _ => rfl
  have hA : Acc ((w.alloc (.cells #[.int .i64 most] 3)).alloc (.cells #[.slice none 0 0] 29)) S w.heap.size (w.heap.size + 1) w.heap.size (.slice none 0 0) [] most := by
    refine ⟨?_, OwnSl.nil _ _ _ _ _, ?_, fun x => absurd (hsub _ x) (by omega), fun x => absurd (hsub _ x) (Nat.lt_irrefl _)⟩
    · have := heap_alloc_new (w.alloc (.cells #[.int .i64 most] 3)) (.cells #[.slice none 0 0] 29); rwa [World.size_alloc] at this
    · exact ((below_one (w.alloc (.cells #[.int .i64 most] 3)) (.cells #[.slice none 0 0] 29)).block _ (by simp)).trans (heap_alloc_new _ _)
  have hw := walk_any t mp w.heap.size (w.heap.size + 1) w.heap.size root 0 σ S key most n root L hL 0 (.slice none 0 0) [] _ (h.below hb2) ((hb2.block t htl).trans ht) (by omega) (by omega) hA hb2.size (by simpa using hm) (by simpa using hl)
  have HW := Lib.hid hw; clear hw hA
  go_enter Tryz.func12, Tryz.ntmps12
  go_wp2_with (first
    | (go_at_call 22; go_must ((refine (usable_any t mp root 0 _ ht1).mono ?_); rintro e w1 ⟨rfl, hw⟩; subst w1))
    | (go_at_call 27; go_must (refine HW.out.mono ?_; rintro e w5 ⟨rfl, v, hA5, hY5⟩; have c5 : w5.cell? ⟨w.heap.size + 1, 0, none⟩ = some v := (by simp [World.cell?, hA5.out]); have c6 := (Array.getElem?_eq_some_iff.1 hA5.out).1)))
  go_ret2
  refine ⟨v, rfl, ?_, ?_⟩
  · have := hA5.own.isSl
    rw [List.nil_append, show (most - (([] : List Pr).length : Int)).toNat = most.toNat from by simp] at this
    exact this
  · exact hb2.trans (hY5.1.toBelow hb2.size (fun i hi x => x.elim (fun e => by omega) (fun e => by simp [Value.ownBlock] at e)))
end Go.Proofs.YtbldcbakhpdigaaGreat

/- Delete: what it does around the change. -/
namespace Go.Proofs.YtbldcbakhpdigaaGreat
open Go.RowKit

set_option maxRecDepth 100000 in
set_option maxHeartbeats 2000000 in
/-- the key is not there -/
theorem delete_none (t mp : Nat) (root : Int) (σ : MSt) (S : Nat → Prop) (key : ByteArray) (w : World) (h : Inv σ S mp w) (ht : TreeAt w t mp root 0) (hk1 : 1 ≤ key.size) (hk2 : key.size ≤ 128) (n : Nat) (hn : n ≤ 40) (hl : Look σ key n root none) :
    Calls Tryz.prog 16 #[.pointer (some ⟨t, 0, none⟩), .string key] w fun e w' => e = .returned (.tuple #[.bool false, .int .i64 0]) ∧ Below w.heap.size w w' := by
  have hb2 := below_two w (.cells #[.pointer (some ⟨t, 0, none⟩)] 26) (.cells #[.string key] 9)
  have htl : t < w.heap.size := (Array.getElem?_eq_some_iff.1 ht).1
  have hg := get_any t mp root σ S key none _ (h.below hb2) ((hb2.block t htl).trans ht) hk1 hk2 n hn hl
  have HG := Lib.hid hg; clear hg
  go_enter Tryz.func16, Tryz.ntmps16
  go_wp2_with (first
    | (go_at_call 15; go_must ((refine HG.out.mono ?_); rintro e w1 ⟨rfl, hb1⟩)))
  go_ret2
  exact ⟨rfl, hb2.trans (hb1.mono hb2.size)⟩

set_option maxRecDepth 100000 in
set_option maxHeartbeats 2000000 in
theorem delete_of (t mp : Nat) (root : Int) (σ : MSt) (S : Nat → Prop) (key x : ByteArray) (w : World) (R : World → Int → World → Prop) (h : Inv σ S mp w) (ht : TreeAt w t mp root 0) (hk1 : 1 ≤ key.size) (hk2 : key.size ≤ 128) (n : Nat) (hn : n ≤ 40) (hl : Look σ key n root (some x))
    (hE : ∀ (W : World) (tb kb : Nat), Below w.heap.size w W → w.heap.size ≤ tb → w.heap.size ≤ kb → SB t mp root 0 tb kb key W →
      Calls Tryz.prog 33 #[.pointer (some ⟨t, 0, none⟩), .int .i64 root, .int .i64 0, .string key, .string ⟨#[]⟩, .func (.func 40) #[] #[.pointer (some ⟨kb, 0, none⟩)]] W fun e w1 => ∃ v, e = .returned v ∧ SB t mp root 0 tb kb key w1 ∧
        Calls Tryz.prog 32 #[.pointer (some ⟨t, 0, none⟩), v] w1 fun e2 w2 => ∃ b, e2 = .returned (.int .i64 b) ∧ SB t mp root 0 tb kb key w2 ∧ (∀ g, w.heap.size ≤ g → g < W.heap.size → w2.heap[g]? = W.heap[g]?) ∧ W.heap.size ≤ w2.heap.size ∧ R W b w2) :
    Calls Tryz.prog 16 #[.pointer (some ⟨t, 0, none⟩), .string key] w fun e w' => e = .returned (.tuple #[.bool true, .int .i64 0]) ∧
      ∃ W b w2 rb, Below w.heap.size w W ∧ R W b w2 ∧ w.heap.size ≤ rb ∧ rb < W.heap.size ∧ W.heap.size ≤ w2.heap.size ∧ Keep (fun g => g = rb ∨ g = t) w2 w' ∧ TreeAt w' t mp b 0 := by
  have HE := Lib.hid hE; clear hE
  have hmf : ∀ (fn : Fn) (first cap : Array Value) (w : World), (Instr.makeFunc fn first cap).run Tryz.prog w = .ok (.func fn first cap) w := fun _ _ _ _ => rfl
  have hb2 := below_two w (.cells #[.pointer (some ⟨t, 0, none⟩)] 26) (.cells #[.string key] 9)
  have htl : t < w.heap.size := (Array.getElem?_eq_some_iff.1 ht).1
  have hg := get_any t mp root σ S key (some x) _ (h.below hb2) ((hb2.block t htl).trans ht) hk1 hk2 n hn hl
  have HG := Lib.hid hg; clear hg
  have hb20 : ((w.alloc (.cells #[.pointer (some ⟨t, 0, none⟩)] 26)).alloc (.cells #[.string key] 9)).heap[w.heap.size]? = some (.cells #[.pointer (some ⟨t, 0, none⟩)] 26 (0, 0)) := ((below_one (w.alloc _) _).block _ (by simp)).trans (heap_alloc_new w _)
  have hb21 : ((w.alloc (.cells #[.pointer (some ⟨t, 0, none⟩)] 26)).alloc (.cells #[.string key] 9)).heap[w.heap.size + 1]? = some (.cells #[.string key] 9 (0, 0)) := by
    have := heap_alloc_new (w.alloc (.cells #[.pointer (some ⟨t, 0, none⟩)] 26)) (.cells #[.string key] 9); rwa [World.size_alloc] at this
  have hs2 : ((w.alloc (.cells #[.pointer (some ⟨t, 0, none⟩)] 26)).alloc (.cells #[.string key] 9)).heap.size = w.heap.size + 2 := by simp
  have HB20 := Lib.hid hb20
  have HB21 := Lib.hid hb21
  have HS2 := Lib.hid hs2
  clear hb20 hb21 hs2
  go_enter Tryz.func16, Tryz.ntmps16
  go_wp2_with (first
    | (go_at_call 15; go_must ((refine HG.out.mono ?_); rintro e W3 ⟨rfl, hb1⟩; have f0 : W3.cell? ⟨w.heap.size, 0, none⟩ = some (.pointer (some ⟨t, 0, none⟩)) := (by have h5 := (hb1.block w.heap.size (by rw [HS2.out]; omega)).trans HB20.out; simp [World.cell?, h5]); have fl : w.heap.size < W3.heap.size := Nat.lt_of_lt_of_le (by rw [HS2.out]; omega) hb1.size))
    | (go_at_call 30; refine Stop.of ?_))
  have hcb : Calls Tryz.prog 30 #[.pointer (some ⟨t, 0, none⟩), .func (.func 39) #[] #[.pointer (some ⟨w.heap.size, 0, none⟩), .pointer (some ⟨w.heap.size + 1, 0, none⟩)]] W3 fun e w' => e = .returned (.int .i64 0) ∧
        ∃ W b w2 rb, Below w.heap.size w W ∧ R W b w2 ∧ w.heap.size ≤ rb ∧ rb < W.heap.size ∧ W.heap.size ≤ w2.heap.size ∧ Keep (fun g => g = rb ∨ g = t) w2 w' ∧ TreeAt w' t mp b 0 := by
    have hbW3 : Below w.heap.size w W3 := hb2.trans (hb1.mono hb2.size)
    have hs3 : w.heap.size + 2 ≤ W3.heap.size := by rw [← HS2.out]; exact hb1.size
    have b0 : W3.heap[w.heap.size]? = some (.cells #[.pointer (some ⟨t, 0, none⟩)] 26 (0, 0)) := (hb1.block _ (by rw [HS2.out]; omega)).trans HB20.out
    have b1 : W3.heap[w.heap.size + 1]? = some (.cells #[.string key] 9 (0, 0)) := (hb1.block _ (by rw [HS2.out]; omega)).trans HB21.out
    have hbV := below_two W3 (.cells #[.pointer (some ⟨t, 0, none⟩)] 26) (.cells #[.int .i64 0] 37)
    have hsV : ((W3.alloc (.cells #[.pointer (some ⟨t, 0, none⟩)] 26)).alloc (.cells #[.int .i64 0] 37)).heap.size = W3.heap.size + 2 := by simp
    have hbwV := hbW3.trans (hbV.mono (by omega))
    have c0 := (hbV.block _ (by omega)).trans b0
    have c1 := (hbV.block _ (by omega)).trans b1
    have ctr : TreeAt ((W3.alloc (.cells #[.pointer (some ⟨t, 0, none⟩)] 26)).alloc (.cells #[.int .i64 0] 37)) t mp root 0 := (hbwV.block t htl).trans ht
    have crb : ((W3.alloc (.cells #[.pointer (some ⟨t, 0, none⟩)] 26)).alloc (.cells #[.int .i64 0] 37)).heap[W3.heap.size + 1]? = some (.cells #[.int .i64 0] 37 (0, 0)) := by
      have := heap_alloc_new (W3.alloc (.cells #[.pointer (some ⟨t, 0, none⟩)] 26)) (.cells #[.int .i64 0] 37); rwa [World.size_alloc] at this
    have hch := change_any t 39 #[.pointer (some ⟨w.heap.size, 0, none⟩), .pointer (some ⟨w.heap.size + 1, 0, none⟩)] W3
      (fun w' => ∃ W b w2, Below w.heap.size w W ∧ R W b w2 ∧ W3.heap.size + 1 < W.heap.size ∧ W.heap.size ≤ w2.heap.size ∧ SB t mp root 0 w.heap.size (w.heap.size + 1) key w2 ∧ w' = w2.setCell ⟨t, 1, none⟩ (.int .i64 b)) (fun _ _ => by kernel_rfl)
    generalize (W3.alloc (.cells #[.pointer (some ⟨t, 0, none⟩)] 26)).alloc (.cells #[.int .i64 0] 37) = V at *
    have hp1 := delete1_of t mp w.heap.size (w.heap.size + 1) root 0 key V (fun b w2 => (∀ g, w.heap.size ≤ g → g < V.drew.heap.size → w2.heap[g]? = V.drew.heap[g]?) ∧ V.drew.heap.size ≤ w2.heap.size ∧ R V.drew b w2) ⟨ctr, c0, c1⟩ ((HE.out V.drew w.heap.size (w.heap.size + 1) hbwV.drew (Nat.le_refl _) (by omega) ⟨ctr, c0, c1⟩).mono fun e w1 ⟨v, h1, h2, h3⟩ => ⟨v, h1, h2, h3.mono fun e2 w2 ⟨b, k1, k2, k3, k4, k5⟩ => ⟨b, k1, k2, k3, k4, k5⟩⟩)
    refine (hch (hp1.mono ?_)).mono ?_
    · rintro e w' ⟨rfl, b, w2, ⟨k3, k4, k5⟩, hS2, rfl⟩
      refine ⟨rfl, ⟨V.drew, b, w2, hbwV.drew, k5, (by show _ < V.heap.size; omega), k4, hS2, rfl⟩, ?_⟩
      rw [Below.heap_setCell _ _ _ _ (by simp; omega)]
      exact (k3 _ (by omega) (by show _ < V.heap.size; omega)).trans crb
    · rintro e w' ⟨rfl, w1, ⟨W, b, w2, q1, q2, q3, q4, q5, rfl⟩, hk⟩
      have hk5 : Keep (· = t) w2 (w2.setCell ⟨t, 1, none⟩ (.int .i64 b)) := Keep.setCell (M := (· = t)) (p := ⟨t, 1, none⟩) (Keep.refl _ _) (.inr rfl) _
      refine ⟨rfl, W, b, w2, W3.heap.size + 1, q1, q2, by omega, q3, q4, (hk5.mono (fun _ _ h => .inr h)).trans hk (fun _ _ h => .inl h), ?_⟩
      have h5 : (w2.setCell ⟨t, 1, none⟩ (.int .i64 b)).heap[t]? = some (.cells #[.iface 24 (.pointer (some ⟨mp, 0, none⟩)), .int .i64 b, .int .i64 0] 61 (0, 0)) := by
        have := q5.tr; unfold TreeAt at this
        simp [World.setCell, Array.getElem?_modify, this]
      exact (hk.block t (Array.getElem?_eq_some_iff.1 h5).1 (by omega)).trans h5
  have hC := Lib.hid hcb; clear hcb
  refine Stop.on ?_
  refine hC.out.mono ?_
  rintro e w9 ⟨rfl, hres⟩
  go_wp2_with fail
  go_ret2
  exact ⟨rfl, hres⟩
end Go.Proofs.YtbldcbakhpdigaaGreat

/- Put and Delete, over what edit and grow do. -/
namespace Go.Proofs.YtbldcbakhpdigaaGreat
open Go.RowKit

/-- what edit and grow do to the store -/
def EG (t mp : Nat) (root : Int) (key : ByteArray) (g : Nat) (cb : Array Value) (S : Nat → Prop) (P : MSt → Int → Prop) (W : World) : Prop :=
  Calls Tryz.prog 33 #[.pointer (some ⟨t, 0, none⟩), .int .i64 root, .int .i64 0, .string key, .string ⟨#[]⟩, .func (.func g) #[] cb] W fun e w1 => ∃ v S1, e = .returned v ∧ Step S S1 W w1 ∧
    Calls Tryz.prog 32 #[.pointer (some ⟨t, 0, none⟩), v] w1 fun e2 w2 => ∃ b σ' S', e2 = .returned (.int .i64 b) ∧ Inv σ' S' mp w2 ∧ Step S1 S' w1 w2 ∧ P σ' b

/-- what Put and Delete leave -/
def ChgPost (t mp : Nat) (S : Nat → Prop) (P : MSt → Int → Prop) (w w' : World) : Prop :=
  ∃ σ' S' b, Inv σ' S' mp w' ∧ TreeAt w' t mp b 0 ∧ ¬ S' t ∧ P σ' b ∧ Keep (fun g => S g ∨ g = t) w w' ∧ ∀ g, S' g → S g ∨ w.heap.size ≤ g

theorem SB.step {t mp tb kb : Nat} {root err : Int} {key : ByteArray} {S S' : Nat → Prop} {W W' : World} (h : SB t mp root err tb kb key W) (hs : Step S S' W W') (h1 : ¬ S t) (h2 : ¬ S tb) (h3 : ¬ S kb) : SB t mp root err tb kb key W' :=
  ⟨(hs.1.block _ (Array.getElem?_eq_some_iff.1 h.tr).1 h1).trans h.tr, (hs.1.block _ (Array.getElem?_eq_some_iff.1 h.bx).1 h2).trans h.bx, (hs.1.block _ (Array.getElem?_eq_some_iff.1 h.ky).1 h3).trans h.ky⟩

theorem eg_use {t mp tb kb g : Nat} {root : Int} {key : ByteArray} {cb : Array Value} {S : Nat → Prop} {P : MSt → Int → Prop} {w W : World} (hEG : EG t mp root key g cb S P W) (hsub : ∀ g, S g → g < w.heap.size) (hst : ¬ S t) (_hbW : Below w.heap.size w W) (htb : w.heap.size ≤ tb) (hkb : w.heap.size ≤ kb) (hSB : SB t mp root 0 tb kb key W) :
    Calls Tryz.prog 33 #[.pointer (some ⟨t, 0, none⟩), .int .i64 root, .int .i64 0, .string key, .string ⟨#[]⟩, .func (.func g) #[] cb] W fun e w1 => ∃ v, e = .returned v ∧ SB t mp root 0 tb kb key w1 ∧
      Calls Tryz.prog 32 #[.pointer (some ⟨t, 0, none⟩), v] w1 fun e2 w2 => ∃ b, e2 = .returned (.int .i64 b) ∧ SB t mp root 0 tb kb key w2 ∧ (∀ g, w.heap.size ≤ g → g < W.heap.size → w2.heap[g]? = W.heap[g]?) ∧ W.heap.size ≤ w2.heap.size ∧ (∃ σ' S', Inv σ' S' mp w2 ∧ Step S S' W w2 ∧ P σ' b) := by
  have hn : ∀ x, w.heap.size ≤ x → ¬ S x := fun x hx hs => absurd (hsub x hs) (Nat.not_lt.2 hx)
  refine hEG.mono ?_
  rintro e w1 ⟨v, S1, rfl, hs1, hG⟩
  have hS1 : ∀ x, x < W.heap.size → ¬ S x → ¬ S1 x := fun x hx hs h1 => (hs1.2 x h1).elim hs (fun y => absurd hx (Nat.not_lt.2 y))
  have hl1 := (Array.getElem?_eq_some_iff.1 hSB.tr).1
  have hl2 := (Array.getElem?_eq_some_iff.1 hSB.bx).1
  have hl3 := (Array.getElem?_eq_some_iff.1 hSB.ky).1
  refine ⟨v, rfl, hSB.step hs1 hst (hn _ htb) (hn _ hkb), hG.mono ?_⟩
  rintro e2 w2 ⟨b, σ', S', rfl, hI, hs2, hP⟩
  refine ⟨b, rfl, (hSB.step hs1 hst (hn _ htb) (hn _ hkb)).step hs2 (hS1 _ hl1 hst) (hS1 _ hl2 (hn _ htb)) (hS1 _ hl3 (hn _ hkb)), fun g hg hl => ?_, Nat.le_trans hs1.1.size hs2.1.size, σ', S', hI, hs1.trans hs2, hP⟩
  exact (hs2.1.block g (Nat.lt_of_lt_of_le hl hs1.1.size) (hS1 g hl (hn g hg))).trans (hs1.1.block g hl (hn g hg))

theorem chg_end {t mp : Nat} {S : Nat → Prop} {P : MSt → Int → Prop} {w w' : World} (hsub : ∀ g, S g → g < w.heap.size) (hst : ¬ S t) (htl : t < w.heap.size)
    (h : ∃ W b w2 rb, Below w.heap.size w W ∧ (∃ σ' S', Inv σ' S' mp w2 ∧ Step S S' W w2 ∧ P σ' b) ∧ w.heap.size ≤ rb ∧ rb < W.heap.size ∧ W.heap.size ≤ w2.heap.size ∧ Keep (fun g => g = rb ∨ g = t) w2 w' ∧ TreeAt w' t mp b 0) : ChgPost t mp S P w w' := by
  obtain ⟨W, b, w2, rb, hbW, ⟨σ', S', hI, hs, hP⟩, h1, h2, h3, hk, ht⟩ := h
  have hn : ∀ x, w.heap.size ≤ x → ¬ S x := fun x hx hs => absurd (hsub x hs) (Nat.not_lt.2 hx)
  have hS' : ∀ x, x < W.heap.size → ¬ S x → ¬ S' x := fun x hx hs1 h1 => (hs.2 x h1).elim hs1 (fun y => absurd hx (Nat.not_lt.2 y))
  have htW : t < W.heap.size := Nat.lt_of_lt_of_le htl hbW.size
  refine ⟨σ', S', b, hI.keepM hk (fun g hg x => x.elim (fun e => hS' rb h2 (hn rb h1) (by rw [← e]; exact hg)) (fun e => hS' t htW hst (by rw [← e]; exact hg))), ht, hS' t htW hst, hP, ?_, fun g hg => (hs.2 g hg).imp id (fun y => Nat.le_trans hbW.size y)⟩
  refine (((Step.of_below (S := S) hbW).trans hs).1.mono (fun _ _ h => .inl h)).trans hk (fun i hi x => x.elim (fun e => absurd hi (by rw [e]; exact Nat.not_lt.2 h1)) .inr)

theorem put_via (t mp : Nat) (root : Int) (S : Nat → Prop) (P : MSt → Int → Prop) (key value : ByteArray) (w : World) (hsub : ∀ g, S g → g < w.heap.size) (ht : TreeAt w t mp root 0) (hst : ¬ S t) (hk1 : 1 ≤ key.size) (hk2 : key.size ≤ 128) (hv : value.size ≤ 64)
    (hE : ∀ (W : World) (kb vb : Nat), Below w.heap.size w W → Boxes W S [(kb, key), (vb, value)] → EG t mp root key 34 #[.pointer (some ⟨kb, 0, none⟩), .pointer (some ⟨vb, 0, none⟩)] S P W) :
    Calls Tryz.prog 14 #[.pointer (some ⟨t, 0, none⟩), .string key, .string value] w fun e w' => e = .returned (.int .i64 0) ∧ ChgPost t mp S P w w' := by
  have hn : ∀ x, w.heap.size ≤ x → ¬ S x := fun x hx hs => absurd (hsub x hs) (Nat.not_lt.2 hx)
  refine (put_of t mp root key value w (fun W b w2 => ∃ σ' S', Inv σ' S' mp w2 ∧ Step S S' W w2 ∧ P σ' b) ht hk1 hk2 hv ?_).mono ?_
  · intro W tb kb vb hbW htb hkb hvb hSB hvB
    refine eg_use (hE W kb vb hbW ?_) hsub hst hbW htb hkb hSB
    intro p hp
    simp at hp
    rcases hp with rfl | rfl
    · exact ⟨hSB.ky, hn _ hkb⟩
    · exact ⟨hvB, hn _ hvb⟩
  · rintro e w' ⟨rfl, h⟩
    exact ⟨rfl, chg_end hsub hst (Array.getElem?_eq_some_iff.1 ht).1 h⟩

theorem delete_via (t mp : Nat) (root : Int) (σ : MSt) (S : Nat → Prop) (P : MSt → Int → Prop) (key x : ByteArray) (w : World) (h : Inv σ S mp w) (ht : TreeAt w t mp root 0) (hst : ¬ S t) (hk1 : 1 ≤ key.size) (hk2 : key.size ≤ 128) (n : Nat) (hn : n ≤ 40) (hl : Look σ key n root (some x))
    (hE : ∀ (W : World) (kb : Nat), Below w.heap.size w W → Boxes W S [(kb, key)] → EG t mp root key 40 #[.pointer (some ⟨kb, 0, none⟩)] S P W) :
    Calls Tryz.prog 16 #[.pointer (some ⟨t, 0, none⟩), .string key] w fun e w' => e = .returned (.tuple #[.bool true, .int .i64 0]) ∧ ChgPost t mp S P w w' := by
  have hsub := h.sub
  have hn' : ∀ x, w.heap.size ≤ x → ¬ S x := fun x hx hs => absurd (hsub x hs) (Nat.not_lt.2 hx)
  refine (delete_of t mp root σ S key x w (fun W b w2 => ∃ σ' S', Inv σ' S' mp w2 ∧ Step S S' W w2 ∧ P σ' b) h ht hk1 hk2 n hn hl ?_).mono ?_
  · intro W tb kb hbW htb hkb hSB
    refine eg_use (hE W kb hbW ?_) hsub hst hbW htb hkb hSB
    intro p hp
    simp at hp
    subst hp
    exact ⟨hSB.ky, hn' _ hkb⟩
  · rintro e w' ⟨rfl, h⟩
    exact ⟨rfl, chg_end hsub hst (Array.getElem?_eq_some_iff.1 ht).1 h⟩
end Go.Proofs.YtbldcbakhpdigaaGreat

/- NewMem, Used, Open, Root; Put of a bad key. -/
namespace Go.Proofs.YtbldcbakhpdigaaGreat
open Go.RowKit

def MSt.new (n : Int) (b : Nat) : MSt := ⟨(min (max n 0) 4096).toNat, b, b + 1, .map [], .map [], fun _ => []⟩

theorem inv_new (n m : Int) (w : World) (hm : m = min (max n 0) 4096) :
    Inv (MSt.new n w.heap.size) (fun g => w.heap.size ≤ g ∧ g < w.heap.size + 3) (w.heap.size + 2) (((w.alloc (.map #[] 0)).alloc (.map #[] 0)).alloc (.cells #[.int .i64 m, .map (some w.heap.size), .map (some (w.heap.size + 1))] 57)) := by
  have h1 : (w.alloc (.map #[] 0)).ownsMap Tryz.prog 3 rB w.heap.size 0 (.map [] : DataW Unit) := World.ownsMap_made w _ _ _
  have h2 : ((w.alloc (.map #[] 0)).alloc (.map #[] 0)).ownsMap Tryz.prog 3 (plainElem Tryz.prog 3) (w.heap.size + 1) 0 (.map [] : DataW Unit) := by
    have := World.ownsMap_made (H := Unit) (w.alloc (.map #[] 0)) Tryz.prog 3 (plainElem Tryz.prog 3)
    rwa [World.size_alloc] at this
  refine ⟨fun g hg => by simp; omega, by omega, by simp [MSt.new], by simp [MSt.new], by simp [MSt.new], ?_, ((h1.alloc _).alloc _).mono (by omega), (h2.alloc _).mono (by omega), by simp [MSt.new, Maps.size_eq], by simp [MSt.new]; omega, fun b _ => by simp [MSt.new, DataW.atKey], fun b z hb => by simp [MSt.new, Maps.has_eq] at hb⟩
  have := heap_alloc_new ((w.alloc (.map #[] 0)).alloc (.map #[] 0)) (.cells #[.int .i64 m, .map (some w.heap.size), .map (some (w.heap.size + 1))] 57)
  rw [World.size_alloc, World.size_alloc] at this
  rw [this]
  have e : ((MSt.new n w.heap.size).most : Int) = m := by simp [MSt.new]; omega
  rw [e]
  rfl

set_option maxRecDepth 100000 in
theorem newmem_any (n : Int) (w : World) :
    Calls Tryz.prog 5 #[.int .i64 n] w fun e w' => e = .returned (.pointer (some ⟨w.heap.size + 2, 0, none⟩)) ∧ Inv (MSt.new n w.heap.size) (fun g => w.heap.size ≤ g ∧ g < w.heap.size + 3) (w.heap.size + 2) w' ∧ w'.heap.size = w.heap.size + 3 ∧ Below w.heap.size w w' := by
  have hmk : ∀ w : World, (Instr.makeMap 54 none).run Tryz.prog w = .ok (.map (some w.heap.size)) (w.alloc (.map #[] 0)) := fun w => run_makeMap _ w
  have hmk2 : ∀ w : World, (Instr.makeMap 55 none).run Tryz.prog w = .ok (.map (some w.heap.size)) (w.alloc (.map #[] 0)) := fun w => run_makeMap _ w
  go_enter Tryz.func5, Tryz.ntmps5
  go_wp2_with fail
  all_goals
    go_ret
    exact ⟨rfl, inv_new n _ w (by omega), by simp, below_three w _ _ _⟩

theorem used_any (mp : Nat) (σ : MSt) (S : Nat → Prop) (w : World) (h : Inv σ S mp w) :
    Calls Tryz.prog 8 #[.pointer (some ⟨mp, 0, none⟩)] w fun e w' => e = .returned (.int .i64 (Maps.size σ.D)) ∧ w' = w := by
  have hlen := h.own.len (t := 54) Tryz.underlying54
  have c1 : w.cell? ⟨mp, 1, none⟩ = some (.map (some σ.bb)) := by simp [World.cell?, h.blk]
  have hlt : mp < w.heap.size := h.sub _ h.smp
  go_enter Tryz.func8, Tryz.ntmps8
  go_wp2_with fail
  go_ret
  exact ⟨rfl, rfl⟩

theorem open_any (mp : Nat) (root : Int) (w : World) (hr : 0 ≤ root) :
    Calls Tryz.prog 6 #[.iface 24 (.pointer (some ⟨mp, 0, none⟩)), .int .i64 root] w fun e w' => e = .returned (.pointer (some ⟨w.heap.size, 0, none⟩)) ∧ TreeAt w' w.heap.size mp root 0 ∧ w'.heap.size = w.heap.size + 1 ∧ Below w.heap.size w w' := by
  have hr2 : ¬ root < 0 := by omega
  have heq : ∀ w : World, (binOp BinOp.eql 59 (.iface 24 (.pointer (some ⟨mp, 0, none⟩))) .nilIface).run Tryz.prog w = .ok (.bool false) w := fun _ => by kernel_rfl
  go_enter Tryz.func6, Tryz.ntmps6
  go_wp2_with fail
  go_ret
  exact ⟨rfl, heap_alloc_new _ _, by simp, below_one _ _⟩

theorem root_any (t mp : Nat) (root err : Int) (w : World) (h : TreeAt w t mp root err) :
    Calls Tryz.prog 10 #[.pointer (some ⟨t, 0, none⟩)] w fun e w' => e = .returned (.int .i64 root) ∧ w' = w := by
  obtain ⟨_, c1, _, _, _, _, hlt⟩ := cells3 h
  go_enter Tryz.func10, Tryz.ntmps10
  go_wp2
  go_ret
  exact ⟨rfl, rfl⟩
end Go.Proofs.YtbldcbakhpdigaaGreat

/- Put, Get, Delete of what is not a good key or value. -/
namespace Go.Proofs.YtbldcbakhpdigaaGreat
open Go.RowKit

def GoodKV (key value : ByteArray) : Prop := (1 ≤ key.size ∧ key.size ≤ 128) ∧ value.size ≤ 64

set_option maxRecDepth 100000 in
theorem put_bad (t mp : Nat) (root : Int) (key value : ByteArray) (w : World) (ht : TreeAt w t mp root 0) (hb : ¬ GoodKV key value) :
    Calls Tryz.prog 14 #[.pointer (some ⟨t, 0, none⟩), .string key, .string value] w fun e w' => e = .returned (.int .i64 1) ∧ Below w.heap.size w w' := by
  have hb3 := below_three w (.cells #[.pointer (some ⟨t, 0, none⟩)] 26) (.cells #[.string key] 9) (.cells #[.string value] 9)
  have htl : t < w.heap.size := (Array.getElem?_eq_some_iff.1 ht).1
  have ht3 := (hb3.block t htl).trans ht
  go_enter Tryz.func14, Tryz.ntmps14
  by_cases hk : 1 ≤ key.size ∧ key.size ≤ 128
  · have hv : (64 : Int) < (value.size : Int) := by have : ¬ value.size ≤ 64 := fun x => hb ⟨hk, x⟩; omega
    have Hk := Lib.hid hk; clear hk
    go_wp2_with (first
      | (go_at_call 22; go_must ((refine (usable_any t mp root 0 _ ht3).mono ?_); rintro e w1 ⟨rfl, hw⟩; subst w1))
      | (go_at_call 29; go_must ((refine (goodKey_yes key _ Hk.out.1 Hk.out.2).mono ?_); rintro e w1 ⟨rfl, hw⟩; subst w1)))
    go_ret
    exact ⟨rfl, hb3⟩
  · have Hk := Lib.hid hk; clear hk
    go_wp2_with (first
      | (go_at_call 22; go_must ((refine (usable_any t mp root 0 _ ht3).mono ?_); rintro e w1 ⟨rfl, hw⟩; subst w1))
      | (go_at_call 29; go_must ((refine (goodKey_no key _ Hk.out).mono ?_); rintro e w1 ⟨rfl, hw⟩; subst w1)))
    go_ret
    exact ⟨rfl, hb3⟩

set_option maxRecDepth 100000 in
theorem get_bad (t mp : Nat) (root : Int) (key : ByteArray) (w : World) (ht : TreeAt w t mp root 0) (hb : ¬ (1 ≤ key.size ∧ key.size ≤ 128)) :
    Calls Tryz.prog 15 #[.pointer (some ⟨t, 0, none⟩), .string key] w fun e w' => e = .returned (.tuple #[.string ⟨#[]⟩, .bool false, .int .i64 1]) ∧ w' = w := by
  go_enter Tryz.func15, Tryz.ntmps15
  have Hk := Lib.hid hb; clear hb
  go_wp2_with (first
      | (go_at_call 22; go_must ((refine (usable_any t mp root 0 _ ht).mono ?_); rintro e w1 ⟨rfl, hw⟩; subst w1))
      | (go_at_call 29; go_must ((refine (goodKey_no key _ Hk.out).mono ?_); rintro e w1 ⟨rfl, hw⟩; subst w1)))
  go_ret3
  exact ⟨rfl, rfl⟩

set_option maxRecDepth 100000 in
theorem delete_bad (t mp : Nat) (root : Int) (key : ByteArray) (w : World) (ht : TreeAt w t mp root 0) (hb : ¬ (1 ≤ key.size ∧ key.size ≤ 128)) :
    Calls Tryz.prog 16 #[.pointer (some ⟨t, 0, none⟩), .string key] w fun e w' => e = .returned (.tuple #[.bool false, .int .i64 1]) ∧ Below w.heap.size w w' := by
  have hb2 := below_two w (.cells #[.pointer (some ⟨t, 0, none⟩)] 26) (.cells #[.string key] 9)
  have htl : t < w.heap.size := (Array.getElem?_eq_some_iff.1 ht).1
  have hg := get_bad t mp root key _ ((hb2.block t htl).trans ht) hb
  have HG := Lib.hid hg; clear hg
  go_enter Tryz.func16, Tryz.ntmps16
  go_wp2_with (first
    | (go_at_call 15; go_must ((refine HG.out.mono ?_); rintro e w1 ⟨rfl, hw⟩; subst w1)))
  go_ret2
  exact ⟨rfl, hb2⟩
end Go.Proofs.YtbldcbakhpdigaaGreat

/- A tree of at most one leaf: Put, Delete. -/
namespace Go.Proofs.YtbldcbakhpdigaaGreat
open Go.RowKit

/-- the store's state bears a tree of at most one leaf, and nothing else; nothing is held -/
structure Tiny (σ : MSt) (root : Int) (ps : List Pr) : Prop where
  nil : ps = [] → root = 0 ∧ Maps.size σ.D = 0
  one : ps ≠ [] → Maps.size σ.D = 1 ∧ Blk σ root ⟨ps, [], []⟩
  held : σ.H = .map []

theorem held_none {σ : MSt} (h : σ.H = .map []) (b : Int) : σ.held b = false := by
  simp [MSt.held, h, DataW.atKey]

theorem Tiny.look {σ : MSt} {root : Int} {ps : List Pr} (h : Tiny σ root ps) (hr : RisingP ps) (key : ByteArray) : Look σ key 0 root (lookP ps key) := by
  by_cases hp : ps = []
  · obtain ⟨rfl, _⟩ := h.nil hp
    subst hp
    exact .nil
  · exact .leaf (h.one hp).2 rfl hr
theorem Tiny.walk {σ : MSt} {root : Int} {ps : List Pr} (h : Tiny σ root ps) (hp : ps ≠ []) (hr : RisingP ps) (key : ByteArray) : WalkL σ key 0 root (ps.drop (posAt ps key)) := .leaf (h.one hp).2 rfl hr

/-- what spread makes of a leaf that fits -/
theorem Spr.fits {nd : Nd} {l : ByteArray} {zs : List (ByteArray × Nd)} (h : Spr nd l zs) (hs : nd.size ≤ 512) (hne : nd.pairs ≠ []) : zs = [(leastOf nd l, nd)] := by
  cases h with
  | none h1 h2 => exact absurd h2 hne
  | one _ _ => rfl
  | leaf _ _ _ h2 => omega
  | inner _ _ _ h2 => omega
theorem Spr.nothing {l : ByteArray} {zs : List (ByteArray × Nd)} (h : Spr ⟨[], [], []⟩ l zs) : zs = [] := by
  cases h with
  | none h1 h2 => rfl
  | one h _ => exact absurd h (by simp)
  | leaf i hi => simp at hi
  | inner _ _ h => exact absurd rfl h

theorem tiny_eg {σ : MSt} {root : Int} {ps : List Pr} (hT : Tiny σ root ps) (t mp : Nat) (S : Nat → Prop) (key : ByteArray) (g : Nat) (cb : Array Value) (F : List Pr → List Pr) (bs : List (Nat × ByteArray)) (hent : ∀ args w, (callFunc g args).run Tryz.prog w = .ok (.enter g args) w) (hf : EditC g cb F bs)
    (W : World) (h : Inv σ S mp W) (ht : TreeAt W t mp root 0) (hst : ¬ S t) (hbx : Boxes W S bs) (hr : RisingP ps) (ok : Nd.Ok ⟨F ps, [], []⟩) (hs : Nd.size ⟨F ps, [], []⟩ ≤ 512) (hm : (F ps).length + 1 ≤ σ.most) :
    EG t mp root key g cb S (fun σ' b => Tiny σ' b (F ps) ∧ σ'.most = σ.most) W := by
  have fin : ∀ (σ0 : MSt) (least : ByteArray) (e : Ending) (w1 : World), Maps.size σ0.D = 0 → σ0.H = .map [] → σ0.most = σ.most → SprPost mp σ0 S ⟨F ps, [], []⟩ least W e w1 →
      ∃ v S1, e = .returned v ∧ Step S S1 W w1 ∧ Calls Tryz.prog 32 #[.pointer (some ⟨t, 0, none⟩), v] w1 fun e2 w2 => ∃ b σ' S', e2 = .returned (.int .i64 b) ∧ Inv σ' S' mp w2 ∧ Step S1 S' w1 w2 ∧ Tiny σ' b (F ps) ∧ σ'.most = σ.most := by
    rintro σ0 least e w1 h0 hH0 hm0 ⟨v, qs, zs, σ', S', rfl, p2, p3, p4, p5, p6⟩
    refine ⟨v, S', rfl, p6, ?_⟩
    have ht1 := ht.step hst p6
    by_cases hp : F ps = []
    · rw [hp] at p3
      obtain rfl := p3.nothing
      cases qs with
      | cons _ _ => exact absurd p4 id
      | nil =>
        obtain rfl : σ' = σ0 := p4
        refine (grow_nil t v S' w1 p2.isSl).mono ?_
        rintro e2 w2 ⟨rfl, rfl⟩
        exact ⟨0, σ', S', rfl, p5, Step.refl _ _, ⟨fun _ => ⟨rfl, h0⟩, fun x => absurd hp x, hH0⟩, hm0⟩
    · obtain rfl := p3.fits hs hp
      cases qs with
      | nil => exact absurd p4 id
      | cons q qs =>
        cases qs with
        | cons _ _ => obtain ⟨_, _, _, x⟩ := p4; exact absurd x id
        | nil =>
          obtain ⟨b, k⟩ := q
          obtain ⟨τ, _, hw, rfl⟩ := p4
          refine (grow_leaf t mp root 0 σ' v b k ⟨F ps, [], []⟩ S' w1 p5 ht1.1 ht1.2 p2.isSl hw.blk rfl).mono ?_
          rintro e2 w2 ⟨rfl, hb⟩
          exact ⟨b, σ', S', rfl, p5.below hb, Step.of_below hb, ⟨fun x => absurd x hp, fun _ => ⟨by rw [hw.size, h0], hw.blk⟩, hw.held.trans hH0⟩, hw.most.trans hm0⟩
  by_cases hp : ps = []
  · obtain ⟨rfl, hsz⟩ := hT.nil hp
    subst hp
    refine (edit_zero t mp 0 0 0 σ S key ⟨#[]⟩ g cb F bs hent hf W h ht hst hbx ok (by rw [hsz]; unfold Nd.room; simp; omega)).mono ?_
    intro e w1 hpost
    exact fin σ key e w1 hsz hT.held rfl hpost
  · obtain ⟨hsz, hblk⟩ := hT.one hp
    have hgone : σ.gone root = σ.free root := by simp [MSt.gone, held_none hT.held]
    have hsz0 : Maps.size (σ.free root).D = 0 := by
      have := Maps.size_del (k := kI root) (h.own.tidy keyed_int)
      rw [hblk.has, if_pos rfl, hsz] at this
      show Maps.size (σ.D.del (kI root)) = 0
      omega
    refine (edit_leaf t mp root 0 root 0 σ S key ⟨#[]⟩ ⟨ps, [], []⟩ g cb F bs hent hf W h ht hst hbx hblk rfl (by omega) hr ok (by rw [hgone, hsz0]; unfold Nd.room; show _ ≤ σ.most; simp; omega)).mono ?_
    intro e w1 hpost
    rw [hgone] at hpost
    exact fin (σ.free root) ⟨#[]⟩ e w1 hsz0 hT.held rfl hpost

theorem put_editC (kb vb : Nat) (key value : ByteArray) : EditC 34 #[.pointer (some ⟨kb, 0, none⟩), .pointer (some ⟨vb, 0, none⟩)] (fun ps => insP ps key value) [(kb, key), (vb, value)] := by
  intro nb B nd S w hsub hbx hn hr hl
  exact put11_any kb vb nb B key value nd S w hsub (hbx (kb, key) (by simp)).1 (hbx (vb, value) (by simp)).1 (hbx (kb, key) (by simp)).2 (hbx (vb, value) (by simp)).2 hn hr hl
theorem delete_editC (kb : Nat) (key : ByteArray) : EditC 40 #[.pointer (some ⟨kb, 0, none⟩)] (fun ps => delP ps key) [(kb, key)] := by
  intro nb B nd S w hsub hbx hn hr hl
  exact delete11_any kb nb B key nd S w (hbx (kb, key) (by simp)).1 hn hr (by omega)

theorem put_tiny (t mp : Nat) (root : Int) (σ : MSt) (S : Nat → Prop) (ps : List Pr) (key value : ByteArray) (w : World) (h : Inv σ S mp w) (ht : TreeAt w t mp root 0) (hst : ¬ S t) (hT : Tiny σ root ps) (hr : RisingP ps) (hg : GoodKV key value) (ok : Nd.Ok ⟨insP ps key value, [], []⟩) (hs : Nd.size ⟨insP ps key value, [], []⟩ ≤ 512) (hm : (insP ps key value).length + 1 ≤ σ.most) :
    Calls Tryz.prog 14 #[.pointer (some ⟨t, 0, none⟩), .string key, .string value] w fun e w' => e = .returned (.int .i64 0) ∧ ChgPost t mp S (fun σ' b => Tiny σ' b (insP ps key value) ∧ σ'.most = σ.most) w w' := by
  refine put_via t mp root S _ key value w h.sub ht hst hg.1.1 hg.1.2 hg.2 fun W kb vb hbW hbx => ?_
  exact tiny_eg hT t mp S key _ _ (fun ps => insP ps key value) [(kb, key), (vb, value)] (fun _ _ => by kernel_rfl) (put_editC kb vb key value) W (h.below hbW) ((hbW.block t (Array.getElem?_eq_some_iff.1 ht).1).trans ht) hst hbx hr ok hs hm

theorem delete_tiny (t mp : Nat) (root : Int) (σ : MSt) (S : Nat → Prop) (ps : List Pr) (key x : ByteArray) (w : World) (h : Inv σ S mp w) (ht : TreeAt w t mp root 0) (hst : ¬ S t) (hT : Tiny σ root ps) (hr : RisingP ps) (hg : 1 ≤ key.size ∧ key.size ≤ 128) (hx : lookP ps key = some x) (ok : Nd.Ok ⟨delP ps key, [], []⟩) (hs : Nd.size ⟨delP ps key, [], []⟩ ≤ 512) (hm : (delP ps key).length + 1 ≤ σ.most) :
    Calls Tryz.prog 16 #[.pointer (some ⟨t, 0, none⟩), .string key] w fun e w' => e = .returned (.tuple #[.bool true, .int .i64 0]) ∧ ChgPost t mp S (fun σ' b => Tiny σ' b (delP ps key) ∧ σ'.most = σ.most) w w' := by
  refine delete_via t mp root σ S _ key x w h ht hst hg.1 hg.2 0 (by omega) (by rw [← hx]; exact hT.look hr key) fun W kb hbW hbx => ?_
  exact tiny_eg hT t mp S key _ _ (fun ps => delP ps key) [(kb, key)] (fun _ _ => by kernel_rfl) (delete_editC kb key) W (h.below hbW) ((hbW.block t (Array.getElem?_eq_some_iff.1 ht).1).trans ht) hst hbx hr ok hs hm
end Go.Proofs.YtbldcbakhpdigaaGreat

/- The tree's content over the store's blocks. Plain. -/
namespace Go.Proofs.YtbldcbakhpdigaaGreat
open Go.RowKit

/-- the kids of a row: each with its low key; the next one's low key is its bound -/
def nextLo (l : List (ByteArray × Int)) (hi : Option ByteArray) : Option ByteArray := match l with | [] => hi | (k, _) :: _ => some k
theorem nextLo_append (l m : List (ByteArray × Int)) (hi : Option ByteArray) : nextLo (l ++ m) hi = nextLo l (nextLo m hi) := by
  cases l with
  | nil => rfl
  | cons p l => rfl

/-- contents and blocks of a row of kids -/
def RowL (T : ByteArray → Option ByteArray → Int → List Pr → List Int → Prop) (hi : Option ByteArray) : List (ByteArray × Int) → List Pr → List Int → Prop
  | [], cs, bs => cs = [] ∧ bs = []
  | (k, b) :: l, cs, bs => ∃ c cs' x bs', T k (nextLo l hi) b c x ∧ RowL T hi l cs' bs' ∧ cs = c ++ cs' ∧ bs = x ++ bs'

theorem RowL.append {T : ByteArray → Option ByteArray → Int → List Pr → List Int → Prop} {hi : Option ByteArray} {m : List (ByteArray × Int)} {cm : List Pr} {bm : List Int} (hm : RowL T hi m cm bm) : ∀ {l : List (ByteArray × Int)} {cl : List Pr} {bl : List Int}, RowL T (nextLo m hi) l cl bl → RowL T hi (l ++ m) (cl ++ cm) (bl ++ bm)
  | [], _, _, h => by obtain ⟨rfl, rfl⟩ := h; exact hm
  | (k, b) :: l, _, _, h => by
    obtain ⟨c, cs', x, bs', h1, h2, rfl, rfl⟩ := h
    exact ⟨c, cs' ++ cm, x, bs' ++ bm, by show T k (nextLo (l ++ m) hi) b c x; rw [nextLo_append]; exact h1, RowL.append hm h2, List.append_assoc _ _ _, List.append_assoc _ _ _⟩
theorem RowL.split {T : ByteArray → Option ByteArray → Int → List Pr → List Int → Prop} {hi : Option ByteArray} {m : List (ByteArray × Int)} : ∀ {l : List (ByteArray × Int)} {cs : List Pr} {bs : List Int}, RowL T hi (l ++ m) cs bs → ∃ cl cm bl bm, RowL T (nextLo m hi) l cl bl ∧ RowL T hi m cm bm ∧ cs = cl ++ cm ∧ bs = bl ++ bm
  | [], cs, bs, h => ⟨[], cs, [], bs, ⟨rfl, rfl⟩, h, rfl, rfl⟩
  | (k, b) :: l, _, _, h => by
    obtain ⟨c, cs', x, bs', h1, h2, rfl, rfl⟩ := h
    obtain ⟨cl, cm, bl, bm, g1, g2, rfl, rfl⟩ := RowL.split h2
    exact ⟨c ++ cl, cm, x ++ bl, bm, ⟨c, cl, x, bl, by have h3 : T k (nextLo (l ++ m) hi) b c x := h1; rwa [nextLo_append] at h3, g1, rfl, rfl⟩, g2, (List.append_assoc _ _ _).symm, (List.append_assoc _ _ _).symm⟩

/-- a key lies at lo or behind, and ahead of hi -/
def Within (lo : ByteArray) (hi : Option ByteArray) (k : ByteArray) : Prop := lt k lo = false ∧ ∀ h, hi = some h → lt k h = true

/-- an inner node's kids with their low keys -/
def Nd.row (nd : Nd) (lo : ByteArray) : List (ByteArray × Int) := (lo :: nd.keys).zip nd.kids

/-- the tree of height h below a block: its pairs and its blocks; m: how many kids the topmost node has at least -/
def TrM (σ : MSt) : Nat → Nat → ByteArray → Option ByteArray → Int → List Pr → List Int → Prop
  | 0, _, lo, hi, b, cs, bs => ∃ nd, Blk σ b nd ∧ nd.Ok ∧ nd.kids = [] ∧ cs = nd.pairs ∧ cs ≠ [] ∧ RisingP cs ∧ (∀ p ∈ cs, Within lo hi p.1) ∧ bs = [b]
  | h + 1, m, lo, hi, b, cs, bs => ∃ nd bs', Blk σ b nd ∧ nd.Ok ∧ nd.kids ≠ [] ∧ m ≤ nd.kids.length ∧ bs = b :: bs' ∧ RowL (TrM σ h 2) hi (nd.row lo) cs bs'

theorem Within.weaken {lo lo' : ByteArray} {hi hi' : Option ByteArray} {k : ByteArray} (h : Within lo hi k) (hlo : lt lo lo' = false) (hhi : ∀ y, hi' = some y → ∃ x, hi = some x ∧ lt y x = false) : Within lo' hi' k := by
  refine ⟨le_le hlo h.1, fun y hy => ?_⟩
  obtain ⟨x, hx, hxy⟩ := hhi y hy
  exact lt_le (h.2 x hx) hxy

/-- the last kid's bound may rise -/
theorem RowL.weakenHi {T : ByteArray → Option ByteArray → Int → List Pr → List Int → Prop} {hi hi' : Option ByteArray} (hT : ∀ k b c x, T k hi b c x → T k hi' b c x) : ∀ {l : List (ByteArray × Int)} {cs : List Pr} {bs : List Int}, RowL T hi l cs bs → RowL T hi' l cs bs
  | [], _, _, h => h
  | [(k, b)], _, _, h => by
    obtain ⟨c, cs', x, bs', h1, h2, h3, h4⟩ := h
    exact ⟨c, cs', x, bs', hT _ _ _ _ h1, h2, h3, h4⟩
  | (k, b) :: (k', b') :: l, _, _, h => by
    obtain ⟨c, cs', x, bs', h1, h2, h3, h4⟩ := h
    exact ⟨c, cs', x, bs', h1, RowL.weakenHi hT h2, h3, h4⟩
/-- the first kid's low key may fall -/
theorem RowL.weakenLo {T : ByteArray → Option ByteArray → Int → List Pr → List Int → Prop} {hi : Option ByteArray} {k k' : ByteArray} {b : Int} {l : List (ByteArray × Int)} {cs : List Pr} {bs : List Int} (hT : ∀ z b c x, T k z b c x → T k' z b c x) (h : RowL T hi ((k, b) :: l) cs bs) : RowL T hi ((k', b) :: l) cs bs := by
  obtain ⟨c, cs', x, bs', h1, h2, h3, h4⟩ := h
  exact ⟨c, cs', x, bs', hT _ _ _ _ h1, h2, h3, h4⟩

theorem TrM.weaken {σ : MSt} : ∀ {h m : Nat} {lo lo' : ByteArray} {hi hi' : Option ByteArray} {b : Int} {cs : List Pr} {bs : List Int}, TrM σ h m lo hi b cs bs → lt lo lo' = false → (∀ y, hi' = some y → ∃ x, hi = some x ∧ lt y x = false) → TrM σ h m lo' hi' b cs bs
  | 0, _, _, _, _, _, _, _, _, ⟨nd, h1, h2, h3, h4, h5, h6, h7, h8⟩, hlo, hhi => ⟨nd, h1, h2, h3, h4, h5, h6, fun p hp => (h7 p hp).weaken hlo hhi, h8⟩
  | h + 1, _, lo, lo', hi, hi', b, cs, bs, ⟨nd, bs', h1, h2, h3, h4, h5, h6⟩, hlo, hhi => by
    refine ⟨nd, bs', h1, h2, h3, h4, h5, ?_⟩
    have h7 : RowL (TrM σ h 2) hi' (nd.row lo) cs bs' := RowL.weakenHi (fun k b c x ht => TrM.weaken ht (lt_irrefl k) hhi) h6
    unfold Nd.row at h7 ⊢
    cases hk : nd.kids with
    | nil => exact absurd hk h3
    | cons a r =>
      rw [hk] at h7
      exact RowL.weakenLo (fun z b c x ht => TrM.weaken ht hlo (fun y hy => ⟨y, hy, lt_irrefl y⟩)) h7
/-- a node may be told to have fewer kids than it has -/
theorem TrM.less {σ : MSt} : ∀ {h m m' : Nat} {lo : ByteArray} {hi : Option ByteArray} {b : Int} {cs : List Pr} {bs : List Int}, TrM σ h m lo hi b cs bs → m' ≤ m → TrM σ h m' lo hi b cs bs
  | 0, _, _, _, _, _, _, _, ht, _ => ht
  | _ + 1, _, _, _, _, _, _, _, ⟨nd, bs', h1, h2, h3, h4, h5, h6⟩, hm => ⟨nd, bs', h1, h2, h3, Nat.le_trans hm h4, h5, h6⟩

theorem Within.lo_lt {lo k : ByteArray} {hi : ByteArray} (h : Within lo (some hi) k) : lt lo hi = true := le_lt h.1 (h.2 hi rfl)

/-- what a tree's content is: not empty, rising, within its bounds -/
structure Content (lo : ByteArray) (hi : Option ByteArray) (cs : List Pr) : Prop where
  ne : cs ≠ []
  rise : RisingP cs
  within : ∀ p ∈ cs, Within lo hi p.1

/-- two neighbours' contents -/
theorem Content.append {lo k : ByteArray} {hi : Option ByteArray} {a b : List Pr} (ha : Content lo (some k) a) (hb : Content k hi b) : Content lo hi (a ++ b) := by
  have hlk : lt lo k = true := by
    obtain ⟨p, r, rfl⟩ := List.exists_cons_of_ne_nil ha.ne
    exact (ha.within p (by simp)).lo_lt
  refine ⟨by simp [ha.ne], ?_, fun p hp => ?_⟩
  · refine List.pairwise_append.2 ⟨ha.rise, hb.rise, fun p hp q hq => ?_⟩
    exact lt_le ((ha.within p hp).2 k rfl) (hb.within q hq).1
  · rcases List.mem_append.1 hp with h | h
    · refine ⟨(ha.within p h).1, fun y hy => ?_⟩
      obtain ⟨q, r, rfl⟩ := List.exists_cons_of_ne_nil hb.ne
      have hq := hb.within q (by simp)
      exact lt_trans ((ha.within p h).2 k rfl) (le_lt hq.1 (hq.2 y hy))
    · exact ⟨le_le (lt_asymm hlk) (hb.within p h).1, (hb.within p h).2⟩

theorem RowL.content {T : ByteArray → Option ByteArray → Int → List Pr → List Int → Prop} (hT : ∀ k z b c x, T k z b c x → Content k z c) {hi : Option ByteArray} : ∀ {k : ByteArray} {b : Int} {l : List (ByteArray × Int)} {cs : List Pr} {bs : List Int}, RowL T hi ((k, b) :: l) cs bs → Content k hi cs
  | k, b, [], _, _, h => by
    obtain ⟨c, cs', x, bs', h1, ⟨rfl, rfl⟩, rfl, rfl⟩ := h
    rw [List.append_nil]
    exact hT _ _ _ _ _ h1
  | k, b, (k', b') :: l, _, _, h => by
    obtain ⟨c, cs', x, bs', h1, h2, rfl, rfl⟩ := h
    exact (hT _ _ _ _ _ h1).append (RowL.content hT h2)

theorem TrM.content {σ : MSt} : ∀ {h m : Nat} {lo : ByteArray} {hi : Option ByteArray} {b : Int} {cs : List Pr} {bs : List Int}, TrM σ h m lo hi b cs bs → Content lo hi cs
  | 0, _, _, _, _, _, _, ⟨_, _, _, _, _, h5, h6, h7, _⟩ => ⟨h5, h6, h7⟩
  | h + 1, _, lo, hi, b, cs, bs, ⟨nd, bs', _, _, h3, _, _, h6⟩ => by
    unfold Nd.row at h6
    cases hk : nd.kids with
    | nil => exact absurd hk h3
    | cons a r =>
      rw [hk] at h6
      exact RowL.content (fun k z b c x ht => TrM.content ht) h6

/-- a leaf's value at a key: the pair that is there -/
theorem lookP_some {ps : List Pr} (hr : RisingP ps) {key v : ByteArray} : lookP ps key = some v ↔ (key, v) ∈ ps := by
  obtain ⟨f1, f2⟩ := posAt_facts key ps hr
  constructor
  · intro h
    unfold lookP at h
    split at h
    · rename_i hat
      obtain ⟨hp, hk⟩ := isAt_lt hat
      rw [List.getElem?_eq_getElem hp] at h
      simp at h
      have := List.getElem_mem hp
      rw [show ps[posAt ps key] = (key, v) from Prod.ext hk h] at this
      exact this
    · cases h
  · intro h
    obtain ⟨i, hi, e⟩ := List.getElem_of_mem h
    have hle : ¬ i < posAt ps key := fun hh => by
      have := f1 i hi hh
      rw [e] at this
      rw [lt_irrefl] at this; cases this
    have hge : ¬ posAt ps key < i := fun hh => by
      have h1 := f2 (posAt ps key) (by omega) (Nat.le_refl _)
      have h2 := List.pairwise_iff_getElem.1 hr (posAt ps key) i (by omega) hi hh
      rw [e] at h2
      rw [h1] at h2; cases h2
    have hpi : posAt ps key = i := by omega
    unfold lookP isAt
    rw [hpi, List.getElem?_eq_getElem hi, e]
    simp

/-- the low keys rise -/
theorem RowL.lows {T : ByteArray → Option ByteArray → Int → List Pr → List Int → Prop} (hT : ∀ k z b c x, T k z b c x → Content k z c) {hi : Option ByteArray} : ∀ {k : ByteArray} {b : Int} {l : List (ByteArray × Int)} {cs : List Pr} {bs : List Int}, RowL T hi ((k, b) :: l) cs bs → Rising (k :: l.map (·.1))
  | k, b, [], _, _, _ => List.pairwise_singleton _ _
  | k, b, (k', b') :: l, _, _, h => by
    obtain ⟨c, cs', x, bs', h1, h2, rfl, rfl⟩ := h
    have ih := RowL.lows hT h2
    have hc := hT _ _ _ _ _ h1
    obtain ⟨p, r, rfl⟩ := List.exists_cons_of_ne_nil hc.ne
    have hlt : lt k k' = true := (hc.within p (by simp)).lo_lt
    refine List.pairwise_cons.2 ⟨fun y hy => ?_, ih⟩
    rcases List.mem_cons.1 hy with rfl | hy
    · exact hlt
    · exact lt_trans hlt ((List.pairwise_cons.1 ih).1 y hy)

theorem zip_lows {keys : List ByteArray} {kids : List Int} (h : keys.length = kids.length - 1) (hk : kids ≠ []) (lo : ByteArray) : ∃ b l, (lo :: keys).zip kids = (lo, b) :: l ∧ l.map (·.1) = keys ∧ kids = b :: l.map (·.2) := by
  cases kids with
  | nil => exact absurd rfl hk
  | cons b r =>
    refine ⟨b, keys.zip r, rfl, ?_, ?_⟩
    · rw [List.map_fst_zip]; simp at h; omega
    · rw [List.map_snd_zip]; simp at h; omega

/-- an inner node's keys rise -/
theorem TrM.rising {σ : MSt} {h m : Nat} {lo : ByteArray} {hi : Option ByteArray} {nd : Nd} {cs : List Pr} {bs : List Int} (ok : nd.Ok) (hk : nd.kids ≠ []) (hr : RowL (TrM σ h m) hi (nd.row lo) cs bs) : Rising nd.keys := by
  obtain ⟨b, l, e, e2, _⟩ := zip_lows ok.kk hk lo
  unfold Nd.row at hr
  rw [e] at hr
  have := RowL.lows (fun k z b c x ht => TrM.content ht) hr
  rw [e2] at this
  exact (List.pairwise_cons.1 this).2

/-- the kid in which a key lies has all the pairs at it -/
theorem RowL.find {T : ByteArray → Option ByteArray → Int → List Pr → List Int → Prop} (hT : ∀ k z b c x, T k z b c x → Content k z c) {hi : Option ByteArray} {key : ByteArray} (hhi : ∀ y, hi = some y → lt key y = true) : ∀ {k : ByteArray} {b : Int} {l : List (ByteArray × Int)} {cs : List Pr} {bs : List Int}, RowL T hi ((k, b) :: l) cs bs → lt key k = false →
    ∃ (hP : kidAt (l.map (·.1)) key < (b :: l.map (·.2)).length) (k' : ByteArray) (z : Option ByteArray) (c : List Pr) (x : List Int), T k' z (b :: l.map (·.2))[kidAt (l.map (·.1)) key] c x ∧ Within k' z key ∧ ∀ v, (key, v) ∈ cs ↔ (key, v) ∈ c
  | k, b, [], _, _, h, hk => by
    obtain ⟨c, cs', x, bs', h1, ⟨rfl, rfl⟩, rfl, rfl⟩ := h
    exact ⟨by simp [kidAt], k, hi, c, x, h1, ⟨hk, hhi⟩, fun v => by simp⟩
  | k, b, (k', b') :: l, _, _, h, hk => by
    obtain ⟨c, cs', x, bs', h1, h2, rfl, rfl⟩ := h
    cases hlt : lt key k' with
    | true =>
      have e : kidAt (((k', b') :: l).map (·.1)) key = 0 := by simp [kidAt, hlt]
      have hc := RowL.content hT h2
      refine ⟨by rw [e]; simp, k, some k', c, x, ?_, ⟨hk, fun y hy => by cases hy; exact hlt⟩, fun v => ?_⟩
      · simp only [e]; exact h1
      · rw [List.mem_append]
        constructor
        · rintro (h | h)
          · exact h
          · have := (hc.within _ h).1
            rw [hlt] at this; cases this
        · exact .inl
    | false =>
      have e : kidAt (((k', b') :: l).map (·.1)) key = kidAt (l.map (·.1)) key + 1 := by simp [kidAt, hlt]
      obtain ⟨hP, k2, z, c2, x2, g1, g2, g3⟩ := RowL.find hT hhi h2 hlt
      refine ⟨by rw [e]; simpa using hP, k2, z, c2, x2, ?_, g2, fun v => ?_⟩
      · simp only [e]; exact g1
      · rw [List.mem_append, ← g3]
        constructor
        · rintro (h | h)
          · have := ((hT _ _ _ _ _ h1).within _ h).2 k' rfl
            have h3 : lt key k' = true := this
            rw [hlt] at h3; cases h3
          · exact h
        · exact .inr

theorem lookP_eq {a b : List Pr} (ha : RisingP a) (hb : RisingP b) {key : ByteArray} (h : ∀ v, (key, v) ∈ a ↔ (key, v) ∈ b) : lookP a key = lookP b key := by
  cases h1 : lookP a key with
  | some v => exact ((lookP_some hb).2 ((h v).1 ((lookP_some ha).1 h1))).symm
  | none =>
    cases h2 : lookP b key with
    | none => rfl
    | some v =>
      have := (lookP_some ha).2 ((h v).2 ((lookP_some hb).1 h2))
      rw [h1] at this; cases this

/-- what Get finds is what the content has -/
theorem TrM.look {σ : MSt} {key : ByteArray} : ∀ {h m : Nat} {lo : ByteArray} {hi : Option ByteArray} {b : Int} {cs : List Pr} {bs : List Int}, TrM σ h m lo hi b cs bs → Within lo hi key → Look σ key h b (lookP cs key)
  | 0, _, _, _, _, _, _, ⟨nd, h1, _, h3, h4, _, h6, _, _⟩, _ => by
    subst h4
    exact .leaf h1 h3 h6
  | h + 1, m, lo, hi, b, cs, bs, ht@⟨nd, bs', h1, h2, h3, _, _, h6⟩, hw => by
    have hkeys := TrM.rising h2 h3 h6
    have hcs := ht.content
    obtain ⟨b0, l, e, e2, e3⟩ := zip_lows h2.kk h3 lo
    unfold Nd.row at h6
    rw [e] at h6
    obtain ⟨hP, k', z, c, x, g1, g2, g3⟩ := RowL.find (fun k z b c x ht => TrM.content ht) (fun y hy => hw.2 y hy) h6 hw.1
    have hl := TrM.look g1 g2
    rw [← lookP_eq hcs.rise g1.content.rise g3] at hl
    have e4 : (l.map (·.1)) = nd.keys := e2
    simp only [e4] at hP hl
    have e5 : b0 :: l.map (·.2) = nd.kids := e3.symm
    simp only [e5] at hP hl
    exact .inner hP h1 hkeys hl
end Go.Proofs.YtbldcbakhpdigaaGreat

/- What a change of the store is: it owns some blocks, and leaves the others. Plain. -/
namespace Go.Proofs.YtbldcbakhpdigaaGreat
open Go.RowKit

/-- how many of these blocks are not held -/
def nh (σ : MSt) (bs : List Int) : Nat := (bs.filter fun b => !σ.held b).length
theorem nh_append (σ : MSt) (a b : List Int) : nh σ (a ++ b) = nh σ a + nh σ b := by simp [nh]
theorem nh_le (σ : MSt) (a : List Int) : nh σ a ≤ a.length := List.length_filter_le _ _
theorem nh_perm {σ : MSt} {a b : List Int} (h : a.Perm b) : nh σ a = nh σ b := (h.filter _).length_eq
theorem held_eq {σ σ' : MSt} (h : σ'.H = σ.H) (x : Int) : σ'.held x = σ.held x := by unfold MSt.held; rw [h]
theorem nh_eq {σ σ' : MSt} (h : σ'.H = σ.H) (a : List Int) : nh σ' a = nh σ a := by
  unfold nh; congr 2; funext x; rw [held_eq h]

/-- a block is taken -/
def MSt.hasB (σ : MSt) (b : Int) : Bool := Maps.has σ.D (kI b)
/-- a block that is not taken is not held -/
def Cln (σ : MSt) : Prop := ∀ x, σ.hasB x = false → σ.held x = false

structure Chg (σ σ' : MSt) (us bs : List Int) : Prop where
  H : σ'.H = σ.H
  most : σ'.most = σ.most
  frame : ∀ x, σ.hasB x = true → (x ∉ us ∨ σ.held x = true) → σ'.hasB x = true ∧ σ'.mem x = σ.mem x
  new : ∀ x ∈ bs, σ'.hasB x = true ∧ (x ∈ us ∨ σ.hasB x = false)
  nd : us.Nodup → bs.Nodup
  size : Maps.size σ'.D + nh σ us = Maps.size σ.D + nh σ bs

theorem Chg.refl {σ : MSt} {us : List Int} (h : ∀ x ∈ us, σ.hasB x = true) : Chg σ σ us us :=
  ⟨rfl, rfl, fun _ h _ => ⟨h, rfl⟩, fun x hx => ⟨h x hx, .inl hx⟩, id, rfl⟩

theorem Chg.trans {σ σ1 σ2 : MSt} {us bs cs : List Int} (h : Chg σ σ1 us bs) (k : Chg σ1 σ2 bs cs) : Chg σ σ2 us cs := by
  refine ⟨k.H.trans h.H, k.most.trans h.most, fun x hx hn => ?_, fun x hx => ?_, fun hn => k.nd (h.nd hn), ?_⟩
  · obtain ⟨a, b⟩ := h.frame x hx hn
    have hb : x ∉ bs ∨ σ1.held x = true := by
      rcases hn with hn | hn
      · refine .inl fun hb => ?_
        rcases (h.new x hb).2 with y | y
        · exact hn y
        · rw [hx] at y; cases y
      · exact .inr ((held_eq h.H x).trans hn)
    obtain ⟨c, d⟩ := k.frame x a hb
    exact ⟨c, d.trans b⟩
  · obtain ⟨a, b⟩ := k.new x hx
    refine ⟨a, ?_⟩
    rcases b with b | b
    · exact (h.new x b).2
    · cases hh : σ.hasB x with
      | false => exact .inr rfl
      | true =>
        refine .inl (Classical.byContradiction fun hn => ?_)
        have := (h.frame x hh (.inl hn)).1
        rw [b] at this; cases this
  · have a := h.size
    have b := k.size
    rw [nh_eq h.H, nh_eq h.H] at b
    omega

theorem Chg.perm {σ σ' : MSt} {us bs us' bs' : List Int} (h : Chg σ σ' us bs) (ha : us.Perm us') (hb : bs.Perm bs') : Chg σ σ' us' bs' :=
  ⟨h.H, h.most, fun x hx hn => h.frame x hx (hn.imp (fun y z => y (ha.mem_iff.1 z)) id), fun x hx => (h.new x (hb.mem_iff.2 hx)).imp id (fun y => y.imp ha.mem_iff.1 id), fun hn => (hb.nodup_iff).1 (h.nd (ha.nodup_iff.2 hn)), by rw [← nh_perm ha, ← nh_perm hb]; exact h.size⟩

/-- what a change does not own stays -/
theorem Chg.left {σ σ' : MSt} {us bs rs : List Int} (h : Chg σ σ' us bs) (hn : (us ++ rs).Nodup) (hr : ∀ x ∈ rs, σ.hasB x = true) : Chg σ σ' (us ++ rs) (bs ++ rs) := by
  obtain ⟨n1, n2, n3⟩ := List.nodup_append.1 hn
  have hfr : ∀ x ∈ rs, x ∉ us := fun x hx ha => n3 x ha x hx rfl
  refine ⟨h.H, h.most, fun x hx hm => h.frame x hx (hm.imp (fun y z => y (List.mem_append_left _ z)) id), fun x hx => ?_, fun _ => ?_, ?_⟩
  · rcases List.mem_append.1 hx with hx | hx
    · exact (h.new x hx).imp id (fun y => y.imp (List.mem_append_left _) id)
    · exact ⟨(h.frame x (hr x hx) (.inl (hfr x hx))).1, .inl (List.mem_append_right _ hx)⟩
  · refine List.nodup_append.2 ⟨h.nd n1, n2, fun x hx y hy e => ?_⟩
    subst e
    rcases (h.new x hx).2 with z | z
    · exact hfr x hy z
    · rw [hr x hy] at z; cases z
  · have := h.size
    rw [nh_append, nh_append]; omega

theorem Chg.mid {σ σ' : MSt} {us bs ls rs : List Int} (h : Chg σ σ' us bs) (hn : (ls ++ us ++ rs).Nodup) (hl : ∀ x ∈ ls, σ.hasB x = true) (hr : ∀ x ∈ rs, σ.hasB x = true) : Chg σ σ' (ls ++ us ++ rs) (ls ++ bs ++ rs) := by
  have p : ∀ l : List Int, (l ++ (ls ++ rs)).Perm (ls ++ l ++ rs) := fun l => by
    rw [← List.append_assoc]; exact List.Perm.append_right _ List.perm_append_comm
  refine (h.left (rs := ls ++ rs) ((p us).nodup_iff.2 hn) fun x hx => ?_).perm (p us) (p bs)
  rcases List.mem_append.1 hx with hx | hx
  · exact hl x hx
  · exact hr x hx

theorem Chg.cln {σ σ' : MSt} {us bs : List Int} (h : Chg σ σ' us bs) (hc : Cln σ) : Cln σ' := by
  intro x hx
  rw [held_eq h.H]
  cases hh : σ.hasB x with
  | false => exact hc x hh
  | true =>
    cases hd : σ.held x with
    | false => rfl
    | true => have := (h.frame x hh (.inr hd)).1; rw [hx] at this; cases this

theorem chg_wrote {σ σ' : MSt} {b : Int} {nd : Nd} (h : Wrote σ b nd σ') (hc : Cln σ) : Chg σ σ' [] [b] := by
  have hne : ∀ x, σ.hasB x = true → x ≠ b := fun x hx e => by subst e; have := h.new; unfold MSt.hasB at hx; rw [hx] at this; cases this
  refine ⟨h.held, h.most, fun x hx _ => ⟨(h.other x (hne x hx)).1.trans hx, (h.other x (hne x hx)).2⟩, fun x hx => ?_, fun _ => by simp, ?_⟩
  · obtain rfl : x = b := by simpa using hx
    exact ⟨h.blk.has, .inr h.new⟩
  · rw [h.size]
    have : σ.held b = false := hc b h.new
    simp [nh, this]

theorem Inv.cln {σ : MSt} {S : Nat → Prop} {mp : Nat} {w : World} (h : Inv σ S mp w) : Cln σ := fun x hx => by
  have := h.hold x hx
  simp [MSt.held, this]

theorem MSt.gone_fields (σ : MSt) (b : Int) : (σ.gone b).H = σ.H ∧ (σ.gone b).most = σ.most ∧ (σ.gone b).mem = σ.mem := by
  unfold MSt.gone MSt.free; split <;> exact ⟨rfl, rfl, rfl⟩

theorem chg_goneT {σ : MSt} (hT : Maps.Tidy σ.D) {b : Int} (hb : σ.hasB b = true) : Chg σ (σ.gone b) [b] [] := by
  obtain ⟨f1, f2, f3⟩ := σ.gone_fields b
  refine ⟨f1, f2, fun x hx hn => ⟨?_, by rw [f3]⟩, (fun x hx => by cases hx), (fun _ => List.nodup_nil), ?_⟩
  · unfold MSt.gone
    split
    · exact hx
    · rename_i hd
      rcases hn with hn | hn
      · have hne : kI x ≠ kI b := fun e => hn (by injection e; simpa)
        exact (Maps.has_del_other hne).trans hx
      · have hne : kI x ≠ kI b := fun e => by
          have : x = b := by injection e
          subst this
          exact hd hn
        exact (Maps.has_del_other hne).trans hx
  · cases hd : σ.held b with
    | true =>
      have : σ.gone b = σ := by unfold MSt.gone; rw [if_pos hd]
      rw [this]; simp [nh, hd]
    | false =>
      have e : σ.gone b = σ.free b := by unfold MSt.gone; rw [if_neg (by rw [hd]; simp)]
      have := Maps.size_del (k := kI b) hT
      have h2 : Maps.has σ.D (kI b) = true := hb
      rw [h2, if_pos rfl] at this
      rw [e]
      show Maps.size (σ.D.del (kI b)) + _ = _
      simp only [nh, List.filter_cons, hd, Bool.not_false, if_true, List.filter_nil, List.length_singleton, List.length_nil]
      omega

theorem chg_gone {σ : MSt} {S : Nat → Prop} {mp : Nat} {w : World} (h : Inv σ S mp w) {b : Int} (hb : σ.hasB b = true) : Chg σ (σ.gone b) [b] [] := chg_goneT (h.own.tidy keyed_int) hb
theorem tidy_gone {σ : MSt} (hT : Maps.Tidy σ.D) (b : Int) : Maps.Tidy (σ.gone b).D := by
  unfold MSt.gone
  split
  · exact hT
  · exact hT.del _
/-- two blocks are given back -/
theorem chg_gone2 {σ : MSt} {S : Nat → Prop} {mp : Nat} {w : World} (h : Inv σ S mp w) {b1 b2 : Int} (h1 : σ.hasB b1 = true) (h2 : σ.hasB b2 = true) (hne : b1 ≠ b2) : Chg σ ((σ.gone b1).gone b2) [b1, b2] [] ∧ (σ.gone b1).hasB b2 = true := by
  have hT := h.own.tidy keyed_int
  have c1 := chg_goneT hT h1
  have hb := (c1.frame b2 h2 (.inl (by simpa using fun e => hne e.symm))).1
  have c2 := chg_goneT (tidy_gone hT b1) hb
  have c1' := c1.left (rs := [b2]) (by simpa using hne) (fun x hx => by rw [List.mem_singleton.1 hx]; exact h2)
  exact ⟨c1'.trans c2, hb⟩

theorem Blk.move {σ σ' : MSt} {b : Int} {nd : Nd} (h : Blk σ b nd) (h1 : σ'.hasB b = true) (h2 : σ'.mem b = σ.mem b) : Blk σ' b nd :=
  ⟨h1, h.lo, h.hi, by rw [h2]; exact h.mem, h.fits⟩

theorem RowL.change {T T' : ByteArray → Option ByteArray → Int → List Pr → List Int → Prop} {hi : Option ByteArray} : ∀ {l : List (ByteArray × Int)} {cs : List Pr} {bs : List Int}, RowL T hi l cs bs → (∀ k z b c x, (∀ y ∈ x, y ∈ bs) → T k z b c x → T' k z b c x) → RowL T' hi l cs bs
  | [], _, _, h, _ => h
  | (k, b) :: l, _, _, h, hT => by
    obtain ⟨c, cs', x, bs', h1, h2, rfl, rfl⟩ := h
    exact ⟨c, cs', x, bs', hT _ _ _ _ _ (fun y hy => List.mem_append_left _ hy) h1, RowL.change h2 (fun k z b c x hx => hT k z b c x (fun y hy => List.mem_append_right _ (hx y hy))), rfl, rfl⟩

/-- the content of blocks that are as they were -/
theorem TrM.move {σ σ' : MSt} : ∀ {h m : Nat} {lo : ByteArray} {hi : Option ByteArray} {b : Int} {cs : List Pr} {bs : List Int}, TrM σ h m lo hi b cs bs → (∀ x ∈ bs, σ'.hasB x = true ∧ σ'.mem x = σ.mem x) → TrM σ' h m lo hi b cs bs
  | 0, _, _, _, _, _, _, ⟨nd, h1, h2, h3, h4, h5, h6, h7, h8⟩, hx => by
    have := hx _ (by rw [h8]; exact List.mem_singleton.2 rfl)
    exact ⟨nd, h1.move this.1 this.2, h2, h3, h4, h5, h6, h7, h8⟩
  | h + 1, _, _, _, _, _, _, ⟨nd, bs', h1, h2, h3, h4, h5, h6⟩, hx => by
    subst h5
    have := hx _ (List.mem_cons_self ..)
    exact ⟨nd, bs', h1.move this.1 this.2, h2, h3, h4, rfl, h6.change fun k z b c x hb ht => TrM.move ht fun y hy => hx y (List.mem_cons_of_mem _ (hb y hy))⟩

theorem RowL.has {T : ByteArray → Option ByteArray → Int → List Pr → List Int → Prop} {p : Int → Prop} (hT : ∀ k z b c x, T k z b c x → ∀ y ∈ x, p y) {hi : Option ByteArray} : ∀ {l : List (ByteArray × Int)} {cs : List Pr} {bs : List Int}, RowL T hi l cs bs → ∀ y ∈ bs, p y
  | [], _, _, ⟨_, e⟩ => by subst e; simp
  | (k, b) :: l, _, _, h => by
    obtain ⟨c, cs', x, bs', h1, h2, rfl, rfl⟩ := h
    intro y hy
    rcases List.mem_append.1 hy with hy | hy
    · exact hT _ _ _ _ _ h1 y hy
    · exact RowL.has hT h2 y hy
theorem TrM.has {σ : MSt} : ∀ {h m : Nat} {lo : ByteArray} {hi : Option ByteArray} {b : Int} {cs : List Pr} {bs : List Int}, TrM σ h m lo hi b cs bs → ∀ x ∈ bs, σ.hasB x = true
  | 0, _, _, _, _, _, _, ⟨nd, h1, _, _, _, _, _, _, h8⟩ => by
    intro x hx
    rw [h8] at hx
    rw [List.mem_singleton.1 hx]
    exact h1.has
  | h + 1, _, _, _, _, _, _, ⟨nd, bs', h1, _, _, _, h5, h6⟩ => by
    subst h5
    intro x hx
    rcases List.mem_cons.1 hx with rfl | hx
    · exact h1.has
    · exact RowL.has (fun _ _ _ _ _ ht => TrM.has ht) h6 x hx

theorem RowL.count {T : ByteArray → Option ByteArray → Int → List Pr → List Int → Prop} (hT : ∀ k z b c x, T k z b c x → x.length + 1 ≤ 2 * c.length) {hi : Option ByteArray} : ∀ {l : List (ByteArray × Int)} {cs : List Pr} {bs : List Int}, RowL T hi l cs bs → bs.length + l.length ≤ 2 * cs.length
  | [], _, _, ⟨e, e2⟩ => by subst e e2; simp
  | (k, b) :: l, _, _, h => by
    obtain ⟨c, cs', x, bs', h1, h2, rfl, rfl⟩ := h
    have a := hT _ _ _ _ _ h1
    have b := RowL.count hT h2
    simp only [List.length_append, List.length_cons]; omega
theorem Nd.row_length (nd : Nd) (ok : nd.Ok) (hk : nd.kids ≠ []) (lo : ByteArray) : (nd.row lo).length = nd.kids.length := by
  have := ok.kk
  have := List.length_pos_iff.2 hk
  unfold Nd.row; simp; omega
/-- no waste: fewer than two blocks for each key -/
theorem TrM.count {σ : MSt} : ∀ {h m : Nat} {lo : ByteArray} {hi : Option ByteArray} {b : Int} {cs : List Pr} {bs : List Int}, TrM σ h m lo hi b cs bs → 2 ≤ m → bs.length + 1 ≤ 2 * cs.length
  | 0, _, _, _, _, _, _, ⟨_, _, _, _, _, h5, _, _, h8⟩, _ => by
    subst h8
    have := List.length_pos_iff.2 h5
    simp; omega
  | h + 1, _, _, _, _, _, _, ⟨nd, bs', _, h2, h3, h4, h5, h6⟩, hm => by
    subst h5
    have := RowL.count (fun _ _ _ _ _ ht => TrM.count ht (Nat.le_refl 2)) h6
    rw [nd.row_length h2 h3] at this
    simp; omega
/-- of a node with one kid, too -/
theorem TrM.count1 {σ : MSt} : ∀ {h m : Nat} {lo : ByteArray} {hi : Option ByteArray} {b : Int} {cs : List Pr} {bs : List Int}, TrM σ h m lo hi b cs bs → bs.length ≤ 2 * cs.length
  | 0, _, _, _, _, _, _, ⟨_, _, _, _, _, h5, _, _, h8⟩ => by
    subst h8
    have := List.length_pos_iff.2 h5
    simp; omega
  | h + 1, _, _, _, _, _, _, ⟨nd, bs', _, h2, h3, h4, h5, h6⟩ => by
    subst h5
    have := RowL.count (fun _ _ _ _ _ ht => TrM.count ht (Nat.le_refl 2)) h6
    rw [nd.row_length h2 h3] at this
    have := List.length_pos_iff.2 h3
    simp; omega
end Go.Proofs.YtbldcbakhpdigaaGreat

/- What spread leaves, as content. Plain. -/
namespace Go.Proofs.YtbldcbakhpdigaaGreat
open Go.RowKit

/-- pieces as a row of kids: the first one's low key is told -/
def pcRow (lo : ByteArray) : List Pc → List (ByteArray × Int)
  | [] => []
  | p :: r => (lo, p.1) :: r.map fun q => (q.2, q.1)
theorem pcRow_zip (lo : ByteArray) (ps : List Pc) : (moreL lo ps).zip (ps.map (·.1)) = pcRow lo ps := by
  cases ps with
  | nil => rfl
  | cons p r => simp [moreL, pcRow, List.zip_map']
theorem pcRow_length (lo : ByteArray) (ps : List Pc) : (pcRow lo ps).length = ps.length := by cases ps <;> simp [pcRow]
theorem pcRow_append (lo : ByteArray) (ps : List Pc) (q : Pc) (qs : List Pc) (hp : ps ≠ []) : pcRow lo (ps ++ q :: qs) = pcRow lo ps ++ pcRow q.2 (q :: qs) := by
  cases ps with
  | nil => exact absurd rfl hp
  | cons p r => simp [pcRow]

theorem Spr.head {nd : Nd} {l : ByteArray} {zs : List (ByteArray × Nd)} (h : Spr nd l zs) (ok : nd.Ok) (hne : nd.kids ≠ [] ∨ nd.pairs ≠ []) : ∃ z r, zs = z :: r ∧ z.1 = leastOf nd l := by
  induction h with
  | none h1 h2 => rcases hne with h | h; exact absurd h1 h; exact absurd h2 h
  | @one nd l h1 h2 => exact ⟨_, _, rfl, rfl⟩
  | @leaf nd l i hi A B hk hs hi1 _ _ iha ihb =>
    have hp : nd.pairs.take i ≠ [] := fun e => by have := congrArg List.length e; simp only [List.length_take, List.length_nil] at this; omega
    obtain ⟨z, r, rfl, hz⟩ := iha (ok.left i hk) (.inr hp)
    refine ⟨z, r ++ B, rfl, hz.trans ?_⟩
    unfold leastOf
    rw [hk]
    cases hq : nd.pairs with
    | nil => rw [hq] at hi; simp at hi
    | cons p ps =>
      obtain ⟨i, rfl⟩ : ∃ d, i = d + 1 := ⟨i - 1, by omega⟩
      rfl
  | @inner nd l i hi A B hk hs hi1 _ _ iha ihb =>
    have h5 := (ok.big hs).2 hk
    have hp : nd.kids.take i ≠ [] := fun e => by have := congrArg List.length e; simp only [List.length_take, List.length_nil] at this; omega
    obtain ⟨z, r, rfl, hz⟩ := iha (ok.leftI i (by omega)) (.inl hp)
    refine ⟨z, r ++ B, rfl, hz.trans ?_⟩
    unfold leastOf
    cases hq : nd.kids with
    | nil => exact absurd hq hk
    | cons k ks =>
      obtain ⟨i, rfl⟩ : ∃ d, i = d + 1 := ⟨i - 1, by omega⟩
      rfl

theorem Puts.split : ∀ {A : List (ByteArray × Nd)} {σ σ' : MSt} {ps : List Pc} {B : List (ByteArray × Nd)}, Puts σ ps (A ++ B) σ' → ∃ ps1 ps2 σ1, ps = ps1 ++ ps2 ∧ Puts σ ps1 A σ1 ∧ Puts σ1 ps2 B σ'
  | [], σ, σ', ps, B, h => ⟨[], ps, σ, rfl, rfl, h⟩
  | z :: A, σ, σ', ps, B, h => by
    cases ps with
    | nil => exact absurd h id
    | cons p ps =>
      obtain ⟨τ, h1, h2, h3⟩ := h
      obtain ⟨ps1, ps2, σ1, rfl, g1, g2⟩ := Puts.split h3
      exact ⟨p :: ps1, ps2, σ1, rfl, ⟨τ, h1, h2, g1⟩, g2⟩

theorem Puts.chg : ∀ {zs : List (ByteArray × Nd)} {σ σ' : MSt} {ps : List Pc}, Puts σ ps zs σ' → Cln σ → Chg σ σ' [] (ps.map (·.1))
  | [], σ, σ', ps, h, _ => by
    cases ps with
    | nil => cases h; exact Chg.refl (by simp)
    | cons p ps => exact absurd h id
  | z :: zs, σ, σ', ps, h, hc => by
    cases ps with
    | nil => exact absurd h id
    | cons p ps =>
      obtain ⟨τ, h1, h2, h3⟩ := h
      have c1 := chg_wrote h2 hc
      have c2 := (Puts.chg h3 (c1.cln hc)).left (rs := [p.1]) (by simp) (fun x hx => by rw [List.mem_singleton.1 hx]; exact h2.blk.has)
      exact c1.trans (c2.perm (List.Perm.refl _) (List.perm_append_comm (l₁ := ps.map (·.1)) (l₂ := [p.1])))

/-- what a change does not own: the content over it -/
theorem TrM.keep {σ σ' : MSt} {us bs' : List Int} (hc : Chg σ σ' us bs') {h m : Nat} {lo : ByteArray} {hi : Option ByteArray} {b : Int} {cs : List Pr} {bs : List Int} (ht : TrM σ h m lo hi b cs bs) (hd : ∀ x ∈ bs, x ∉ us) : TrM σ' h m lo hi b cs bs :=
  ht.move fun x hx => hc.frame x (ht.has x hx) (.inl (hd x hx))
theorem RowL.keep {σ σ' : MSt} {us bs' : List Int} (hc : Chg σ σ' us bs') {h m : Nat} {hi : Option ByteArray} {l : List (ByteArray × Int)} {cs : List Pr} {bs : List Int} (ht : RowL (TrM σ h m) hi l cs bs) (hd : ∀ x ∈ bs, x ∉ us) : RowL (TrM σ' h m) hi l cs bs :=
  ht.change fun _ _ _ _ _ hx ht => ht.keep hc fun y hy => hd y (hx y hy)

theorem puts_head {σ σ' : MSt} {ps : List Pc} {z : ByteArray × Nd} {r : List (ByteArray × Nd)} (h : Puts σ ps (z :: r) σ') : ∃ q qs, ps = q :: qs ∧ q.2 = z.1 := by
  cases ps with
  | nil => exact absurd h id
  | cons q qs => obtain ⟨_, h1, _⟩ := h; exact ⟨q, qs, rfl, h1⟩

theorem Spr.leafRow {nd : Nd} {l : ByteArray} {zs : List (ByteArray × Nd)} (h : Spr nd l zs) : ∀ {σ σ' : MSt} {ps : List Pc} {lo : ByteArray} {hi : Option ByteArray}, nd.Ok → nd.kids = [] → RisingP nd.pairs → (∀ p ∈ nd.pairs, Within lo hi p.1) → Puts σ ps zs σ' → Cln σ → ∀ m, RowL (TrM σ' 0 m) hi (pcRow lo ps) nd.pairs (ps.map (·.1)) := by
  induction h with
  | @none nd l h1 h2 =>
    intro σ σ' ps lo hi ok hk hr hw hp hc m
    cases ps with
    | nil => rw [h2]; exact ⟨rfl, rfl⟩
    | cons p ps => exact absurd hp id
  | @one nd l h1 h2 =>
    intro σ σ' ps lo hi ok hk hr hw hp hc m
    cases ps with
    | nil => exact absurd hp id
    | cons p ps =>
      cases ps with
      | cons _ _ => obtain ⟨_, _, _, x⟩ := hp; exact absurd x id
      | nil =>
        obtain ⟨τ, h3, h4, rfl⟩ := hp
        exact ⟨nd.pairs, [], [p.1], [], ⟨nd, h4.blk, ok, hk, rfl, h1.resolve_left (fun x => x hk), hr, hw, rfl⟩, ⟨rfl, rfl⟩, by simp, rfl⟩
  | @leaf nd l i hi A B hk hs hi1 sa sb iha ihb =>
    intro σ σ' ps lo hib ok _ hr hw hp hc m
    obtain ⟨ps1, ps2, σ1, rfl, g1, g2⟩ := hp.split
    have okA := ok.left i hk
    have okB := ok.right i hk
    have neA : nd.pairs.take i ≠ [] := fun e => by have := congrArg List.length e; simp only [List.length_take, List.length_nil] at this; omega
    have neB : nd.pairs.drop i ≠ [] := fun e => by have := congrArg List.length e; simp only [List.length_drop, List.length_nil] at this; omega
    obtain ⟨za, ra, rfl, _⟩ := sa.head okA (.inr neA)
    obtain ⟨zb, rb, rfl, hzb⟩ := sb.head okB (.inr neB)
    obtain ⟨q1, qs1, rfl, _⟩ := puts_head g1
    obtain ⟨q, qs, rfl, hq⟩ := puts_head g2
    have hk2 : q.2 = nd.pairs[i].1 := by
      rw [hq, hzb]
      show leastOf _ _ = _
      unfold leastOf
      rw [List.drop_eq_getElem_cons hi]
      rfl
    have hri : ∀ j (hj : j < nd.pairs.length), j < i → lt nd.pairs[j].1 nd.pairs[i].1 = true := fun j hj hji => List.pairwise_iff_getElem.1 hr j i hj hi hji
    have c2 := g2.chg ((g1.chg hc).cln hc)
    have ra' := iha (lo := lo) (hi := some nd.pairs[i].1) okA rfl (hr.sublist (List.take_sublist _ _)) (fun p hp => by
      obtain ⟨j, hj, rfl⟩ := List.getElem_of_mem hp
      simp only [List.length_take] at hj
      refine ⟨?_, fun y hy => ?_⟩
      · have := (hw _ (List.mem_of_mem_take hp)).1
        exact this
      · cases hy
        rw [List.getElem_take]
        exact hri j (by omega) (by omega)) g1 hc m
    have rb' := ihb (lo := nd.pairs[i].1) (hi := hib) okB rfl (hr.sublist (List.drop_sublist _ _)) (fun p hp => by
      obtain ⟨j, hj, e⟩ := List.getElem_of_mem hp
      refine ⟨?_, (hw p (List.mem_of_mem_drop hp)).2⟩
      rw [List.getElem_drop] at e
      rw [← e]
      cases j with
      | zero => exact lt_irrefl _
      | succ j =>
        exact lt_asymm (List.pairwise_iff_getElem.1 hr i (i + (j + 1)) hi (by simp only [List.length_drop] at hj; omega) (by omega))) g2 ((g1.chg hc).cln hc) m
    rw [pcRow_append _ _ _ _ (by simp), hk2, List.map_append]
    have ra2 : RowL (TrM σ' 0 m) (nextLo (pcRow nd.pairs[i].1 (q :: qs)) hib) (pcRow lo (q1 :: qs1)) (nd.pairs.take i) ((q1 :: qs1).map (·.1)) := ra'.keep c2 (by simp)
    have := RowL.append rb' ra2
    rw [show Nd.pairs ⟨nd.pairs.drop i, [], []⟩ = nd.pairs.drop i from rfl, List.take_append_drop] at this
    exact this
  | @inner nd l i hi A B hk hs hi1 sa sb iha ihb =>
    intro σ σ' ps lo hi ok hk2
    exact absurd hk2 hk

theorem row_take (nd : Nd) (lo : ByteArray) (i : Nat) (hi : 1 ≤ i) : Nd.row ⟨[], nd.keys.take (i - 1), nd.kids.take i⟩ lo = (nd.row lo).take i := by
  obtain ⟨i, rfl⟩ : ∃ d, i = d + 1 := ⟨i - 1, by omega⟩
  unfold Nd.row
  rw [List.zip_eq_zipWith, List.zip_eq_zipWith, List.take_zipWith]
  rfl
theorem row_drop (nd : Nd) (lo : ByteArray) (i : Nat) (hi : i - 1 < nd.keys.length) (h1 : 1 ≤ i) : Nd.row ⟨[], nd.keys.drop i, nd.kids.drop i⟩ nd.keys[i - 1] = (nd.row lo).drop i := by
  obtain ⟨i, rfl⟩ : ∃ d, i = d + 1 := ⟨i - 1, by omega⟩
  unfold Nd.row
  rw [List.zip_eq_zipWith, List.zip_eq_zipWith, List.drop_zipWith, List.drop_succ_cons]
  simp only [Nat.add_sub_cancel] at hi ⊢
  rw [List.drop_eq_getElem_cons hi]

theorem Spr.innerRow {nd : Nd} {l : ByteArray} {zs : List (ByteArray × Nd)} (h : Spr nd l zs) : ∀ {σ σ' : MSt} {ps : List Pc} {lo : ByteArray} {hi : Option ByteArray} {h m : Nat} {cs : List Pr} {bs : List Int}, nd.Ok → nd.kids ≠ [] → RowL (TrM σ h 2) hi (nd.row lo) cs bs → Puts σ ps zs σ' → Cln σ → m ≤ 2 → m ≤ nd.kids.length →
    ∃ bs', RowL (TrM σ' (h + 1) m) hi (pcRow lo ps) cs bs' ∧ bs'.Perm (ps.map (·.1) ++ bs) := by
  induction h with
  | @none nd l h1 h2 => intro σ σ' ps lo hi h m cs bs ok hk; exact absurd h1 hk
  | @one nd l h1 h2 =>
    intro σ σ' ps lo hi h m cs bs ok hk hr hp hc hm hm2
    have hc2 := hp.chg hc
    cases ps with
    | nil => exact absurd hp id
    | cons p ps =>
      cases ps with
      | cons _ _ => obtain ⟨_, _, _, x⟩ := hp; exact absurd x id
      | nil =>
        obtain ⟨τ, h3, h4, rfl⟩ := hp
        exact ⟨p.1 :: bs, ⟨cs, [], p.1 :: bs, [], ⟨nd, bs, h4.blk, ok, hk, hm2, rfl, hr.keep hc2 (by simp)⟩, ⟨rfl, rfl⟩, by simp, by simp⟩, List.Perm.refl _⟩
  | @leaf nd l i hi A B hk hs hi1 sa sb iha ihb => intro σ σ' ps lo hi h m cs bs ok hk2; exact absurd hk hk2
  | @inner nd l i hi A B hk hs hi1 sa sb iha ihb =>
    intro σ σ' ps lo hib h m cs bs ok _ hr hp hc hm hm2
    have h5 := (ok.big hs).2 hk
    obtain ⟨ps1, ps2, σ1, rfl, g1, g2⟩ := hp.split
    have okA := ok.leftI i (by omega)
    have okB := ok.rightI i
    have neA : nd.kids.take i ≠ [] := fun e => by have := congrArg List.length e; simp only [List.length_take, List.length_nil] at this; omega
    have neB : nd.kids.drop i ≠ [] := fun e => by have := congrArg List.length e; simp only [List.length_drop, List.length_nil] at this; omega
    obtain ⟨za, ra, rfl, _⟩ := sa.head okA (.inl neA)
    obtain ⟨zb, rb, rfl, hzb⟩ := sb.head okB (.inl neB)
    obtain ⟨q1, qs1, rfl, _⟩ := puts_head g1
    obtain ⟨q, qs, rfl, hq⟩ := puts_head g2
    have hk2 : q.2 = nd.keys[i - 1] := by
      rw [hq, hzb]
      show leastOf _ _ = _
      have : leastOf ⟨[], nd.keys.drop i, nd.kids.drop i⟩ nd.keys[i - 1] = nd.keys[i - 1] := by
        unfold leastOf
        cases hq : nd.kids.drop i with
        | nil => exact absurd hq neB
        | cons a r => rfl
      rw [this, this]
    have c1 := g1.chg hc
    have c2 := g2.chg (c1.cln hc)
    have er : nd.row lo = (nd.row lo).take i ++ (nd.row lo).drop i := (List.take_append_drop _ _).symm
    rw [er] at hr
    obtain ⟨cl, cm, bl, bm, r1, r2, rfl, rfl⟩ := hr.split
    rw [← row_drop nd lo i hi (by omega)] at r1 r2
    rw [← row_take nd lo i (by omega)] at r1
    have hnl : ∀ z, nextLo (Nd.row ⟨[], nd.keys.drop i, nd.kids.drop i⟩ nd.keys[i - 1]) z = some nd.keys[i - 1] := by
      intro z
      unfold Nd.row
      cases hq : nd.kids.drop i with
      | nil => exact absurd hq neB
      | cons a r => rfl
    rw [hnl] at r1
    obtain ⟨bs1, x1, y1⟩ := iha (m := m) okA neA r1 g1 hc hm (by simp only [List.length_take]; omega)
    obtain ⟨bs2, x2, y2⟩ := ihb (m := m) okB neB (r2.keep c1 (by simp)) g2 (c1.cln hc) hm (by simp only [List.length_drop]; omega)
    rw [pcRow_append _ _ _ _ (by simp), hk2, List.map_append]
    refine ⟨bs1 ++ bs2, RowL.append x2 (l := pcRow lo (q1 :: qs1)) (x1.keep c2 (by simp)), ?_⟩
    refine (y1.append y2).trans ?_
    generalize (q1 :: qs1).map (·.1) = A at *
    generalize (q :: qs).map (·.1) = B at *
    have : (A ++ bl ++ (B ++ bm)).Perm (A ++ B ++ (bl ++ bm)) := by
      rw [List.append_assoc, List.append_assoc]
      refine List.Perm.append_left A ?_
      rw [← List.append_assoc, ← List.append_assoc]
      exact List.Perm.append_right bm List.perm_append_comm
    exact this

/-- a node in hand: its content, over its kids' blocks -/
def NdRow (σ : MSt) (h : Nat) (lo : ByteArray) (hi : Option ByteArray) (nd : Nd) (cs : List Pr) (bs : List Int) : Prop :=
  match h with
  | 0 => nd.kids = [] ∧ nd.pairs = cs ∧ RisingP cs ∧ (∀ p ∈ cs, Within lo hi p.1) ∧ bs = []
  | h + 1 => nd.kids ≠ [] ∧ RowL (TrM σ h 2) hi (nd.row lo) cs bs

/-- the topmost node has m kids, if it is an inner one -/
def Kids (h m : Nat) (nd : Nd) : Prop := h = 0 ∨ m ≤ nd.kids.length

theorem trM_iff {σ : MSt} {h m : Nat} {lo : ByteArray} {hi : Option ByteArray} {b : Int} {cs : List Pr} {bs : List Int} : TrM σ h m lo hi b cs bs ↔ ∃ nd bs', Blk σ b nd ∧ nd.Ok ∧ NdRow σ h lo hi nd cs bs' ∧ Kids h m nd ∧ cs ≠ [] ∧ bs = b :: bs' := by
  cases h with
  | zero =>
    constructor
    · rintro ⟨nd, h1, h2, h3, h4, h5, h6, h7, h8⟩
      exact ⟨nd, [], h1, h2, ⟨h3, h4.symm, h6, h7, rfl⟩, .inl rfl, h5, h8⟩
    · rintro ⟨nd, bs', h1, h2, ⟨h3, h4, h5, h6, rfl⟩, _, h7, h8⟩
      exact ⟨nd, h1, h2, h3, h4.symm, h7, h5, h6, h8⟩
  | succ h =>
    constructor
    · intro ht
      have hc := ht.content.ne
      obtain ⟨nd, bs', h1, h2, h3, h4, h5, h6⟩ := ht
      exact ⟨nd, bs', h1, h2, ⟨h3, h6⟩, .inr h4, hc, h5⟩
    · rintro ⟨nd, bs', h1, h2, ⟨h3, h6⟩, h4, _, h5⟩
      exact ⟨nd, bs', h1, h2, h3, h4.resolve_left (by omega), h5, h6⟩

/-- what spread leaves -/
theorem spread_row {nd : Nd} {l : ByteArray} {zs : List (ByteArray × Nd)} (hs : Spr nd l zs) {σ σ' : MSt} {ps : List Pc} {lo : ByteArray} {hi : Option ByteArray} {h m : Nat} {cs : List Pr} {bs : List Int} (ok : nd.Ok) (hr : NdRow σ h lo hi nd cs bs) (hp : Puts σ ps zs σ') (hc : Cln σ) (hm : m ≤ 2) (hk : Kids h m nd) (hn : bs.Nodup) (hb : ∀ x ∈ bs, σ.hasB x = true) :
    ∃ bs', RowL (TrM σ' h m) hi (pcRow lo ps) cs bs' ∧ Chg σ σ' bs bs' := by
  have c := hp.chg hc
  cases h with
  | zero =>
    obtain ⟨h1, rfl, h3, h4, rfl⟩ := hr
    exact ⟨_, hs.leafRow ok h1 h3 h4 hp hc m, c⟩
  | succ h =>
    obtain ⟨h1, h2⟩ := hr
    obtain ⟨bs', x, y⟩ := hs.innerRow ok h1 h2 hp hc hm (hk.resolve_left (by omega))
    exact ⟨bs', x, (c.left (rs := bs) (by simpa using hn) hb).perm (by simp) y.symm⟩
end Go.Proofs.YtbldcbakhpdigaaGreat

