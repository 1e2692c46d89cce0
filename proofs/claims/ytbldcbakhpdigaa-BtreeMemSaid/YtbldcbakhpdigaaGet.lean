/- Get: down the tree to a key. -/
import Derived.Test.YtbldcbakhpdigaaPut
namespace Go.Proofs.Ytbldcbakhpdigaa
open Go.RowKit

/-- a leaf's value at a key -/
def lookP (ps : List Pr) (key : ByteArray) : Option ByteArray := if isAt ps key then (ps[posAt ps key]?).map (·.2) else none

/-- what lies at a key below a block; at most n levels of inner nodes -/
inductive Look (σ : MSt) (key : ByteArray) : Nat → Int → Option ByteArray → Prop
  | nil {n} : Look σ key n 0 none
  | leaf {n b nd} : Blk σ b nd → nd.kids = [] → RisingP nd.pairs → Look σ key n b (lookP nd.pairs key)
  | inner {n b nd r} (h : kidAt nd.keys key < nd.kids.length) : Blk σ b nd → Rising nd.keys → Look σ key n nd.kids[kidAt nd.keys key] r → Look σ key (n + 1) b r

set_option maxRecDepth 100000 in
set_option maxHeartbeats 4000000 in
theorem get_any (t mp : Nat) (root : Int) (σ : MSt) (S : Nat → Prop) (key : ByteArray) (r : Option ByteArray) (w : World) (h : Inv σ S mp w) (ht : TreeAt w t mp root 0) (hk1 : 1 ≤ key.size) (hk2 : key.size ≤ 128) (n : Nat) (hn : n ≤ 40) (hl : Look σ key n root r) :
    Calls Try.prog 28 #[.pointer (some ⟨t, 0, none⟩), .string key] w fun e w' => e = .returned (.tuple #[.string (r.getD ⟨#[]⟩), .bool r.isSome, .int .i64 0]) ∧ Below w.heap.size w w' := by
  obtain ⟨_, c1, _, _, _, _, hlt⟩ := cells3 ht
  have HL := Lib.hid hl; clear hl
  go_enter Try.func28, Try.ntmps28
  go_wp2_with (first
    | (go_at_call 33; go_must ((refine (usable_any t mp root 0 _ ht).mono ?_); rintro e w1 ⟨rfl, hw⟩; subst w1))
    | (go_at_call 34; go_must ((refine (goodKey_yes key _ hk1 hk2).mono ?_); rintro e w1 ⟨rfl, hw⟩; subst w1)))
  go_loopw [8, 9, 10, 11, 12, 13] (fun x y _ _ _ _ wr => ∃ (b : Int) (d m : Nat), x = .int .i64 b ∧ y = .int .i64 d ∧ Look σ key m b r ∧ d + m ≤ 40 ∧ Below w.heap.size w wr) (fun _ y _ _ _ _ _ => 41 - (intOf y).toNat)
  case atStart => exact ⟨root, 0, n, rfl, rfl, HL.out, by omega, Below.refl _ _⟩
  case round =>
    obtain ⟨b, d, m, rfl, rfl, hl, hdm, hbel⟩ := hrel
    have hIr := h.below hbel
    have htr : TreeAt wr t mp root 0 := (hbel.block t hlt).trans ht
    cases hl with
    | nil =>
      go_wp2_with fail
      go_ret3
      exact ⟨rfl, hbel⟩
    | @leaf _ _ nd hb hk hr =>
      have hb0 : (b == 0) = false := by have := hb.lo; simp; omega
      have hb00 : ¬ b = 0 := by have := hb.lo; omega
      have hke : nd.kids.isEmpty = true := by rw [hk]; rfl
      have hnp := hb.fits.np
      have hd40 : (d : Int) ≤ 40 := by omega
      cases hat : isAt nd.pairs key with
      | false =>
        have hlk : lookP nd.pairs key = none := by unfold lookP; rw [hat]; rfl
        have HLK := Lib.hid hlk; clear hlk
        go_wp2_with (first
          | (go_at_call 47; go_must ((refine (load_any t mp root 0 b d σ S nd _ hIr htr hb hd40).mono ?_); rintro e w1 ⟨nb, rfl, hn1, hb1⟩))
          | (go_at_call 48; go_must ((refine (leaf_any nb nd _ S hn1.isNode).mono ?_); rintro e w2 ⟨rfl, hw⟩; subst w2; rw [hke]))
          | (go_at_call 40; go_must ((refine (find_any nb nd key _ S hn1.isNode hr (by omega)).mono ?_); rw [hat]; rintro e w3 ⟨rfl, hb3⟩)))
        go_ret3
        rw [HLK.out]
        exact ⟨rfl, hbel.trans ((hb1.mono hbel.size).trans (hb3.mono (Nat.le_trans hbel.size hb1.size)))⟩
      | true =>
        obtain ⟨hp, hkey⟩ := isAt_lt hat
        have hlk : lookP nd.pairs key = some nd.pairs[posAt nd.pairs key].2 := by unfold lookP; rw [hat, if_pos rfl, List.getElem?_eq_getElem hp]; rfl
        have HLK := Lib.hid hlk; clear hlk
        generalize hP : posAt nd.pairs key = P at hp hkey HLK
        have HP := Lib.hid hP; clear hP
        go_wp2_with (first
          | (go_at_call 47; go_must ((refine (load_any t mp root 0 b d σ S nd _ hIr htr hb hd40).mono ?_); rintro e w1 ⟨nb, rfl, hn1, hb1⟩))
          | (go_at_call 48; go_must ((refine (leaf_any nb nd _ S hn1.isNode).mono ?_); rintro e w2 ⟨rfl, hw⟩; subst w2; rw [hke]))
          | (go_at_call 40; go_must ((refine (find_any nb nd key _ S hn1.isNode hr (by omega)).mono ?_); rw [hat, HP.out]; rintro e w3 ⟨rfl, hb3⟩; refine Stop.of ?_)))
        refine Stop.on ?_
        obtain ⟨_, x0, x1, x2, hbn, hx0, _, _⟩ := hn1.isNode.below hb3
        obtain ⟨e0, _, _, _, _, _, hlt3⟩ := cells3 hbn
        obtain ⟨ao0, cp0, rfl, m0, m1, _, _⟩ := IsSl.form hx0
        obtain ⟨pb, po, rfl, d1, d2⟩ := hx0.at rfl P hp
        have hpb := World.block_lt_of_cell? w3 _ d2
        go_wp2_with fail
        go_ret3
        rw [HLK.out]
        exact ⟨rfl, hbel.trans ((hb1.mono hbel.size).trans (hb3.mono (Nat.le_trans hbel.size hb1.size)))⟩
    | @inner m _ nd _ hki hb hrs hl2 =>
      have hb0 : (b == 0) = false := by have := hb.lo; simp; omega
      have hb00 : ¬ b = 0 := by have := hb.lo; omega
      have hke : nd.kids.isEmpty = false := by cases hq : nd.kids with | nil => rw [hq] at hki; simp at hki | cons a b => rfl
      have hnk := hb.fits.nk
      have hkk := hb.fits.kk
      have hd40 : (d : Int) ≤ 40 := by omega
      have HL2 := Lib.hid hl2; clear hl2
      generalize hP : kidAt nd.keys key = P at hki HL2
      have HP := Lib.hid hP; clear hP
      have hpw : IntKind.i64.wrap ((d : Int) + 1) = (d : Int) + 1 := IntWalk.i64_in _ (by omega)
      have HKK := Lib.hid hkk; clear hkk
      go_wp2_with (first
        | (go_at_call 47; go_must ((refine (load_any t mp root 0 b d σ S nd _ hIr htr hb hd40).mono ?_); rintro e w1 ⟨nb, rfl, hn1, hb1⟩))
        | (go_at_call 48; go_must ((refine (leaf_any nb nd _ S hn1.isNode).mono ?_); rintro e w2 ⟨rfl, hw⟩; subst w2; rw [hke])))
      have hN1 := hn1.isNode
      obtain ⟨_, x0, x1, x2, hbn, _, _, hx2⟩ := hN1
      obtain ⟨_, _, e2, _, _, _, hlt3⟩ := cells3 hbn
      obtain ⟨ao2, cp2, rfl, m0, m1, _, _⟩ := IsSl.form hx2
      obtain ⟨pb, po, rfl, d2⟩ := hx2.at rfl P hki
      have hpb := World.block_lt_of_cell? w1 _ d2
      have hPi : (P : Int) < (nd.kids.length : Int) := by omega
      have hKid := (kid_any nb nd key w1.drew S (hn1.isNode.below ((Below.refl _ w1).drew)) hrs (by rw [HKK.out]; omega))
      rw [HP.out] at hKid
      have HKid := Lib.hid hKid; clear hKid
      refine wp_region_ord (fun W => Below w1.heap.size w1 W) (fun i => !([6].contains i)) [0, 1, 2, 3, 4, 5, 6, 7, 8, 9] rfl (by kernel_rfl) ((Below.refl _ w1).drew) ?_
      repeat ((refine ord_q (v := ?_) rfl rfl (fun _ _ _ h => h) rfl (fun W hW => ?_) ?_); rotate_left; (focus ((try dsimp only at hW); have q0 := (hW.cell (p := ⟨nb, 2, none⟩) hlt3).trans e2; have q1 := Nat.lt_of_lt_of_le hlt3 hW.size; have q2 := (hW.cell (p := ⟨pb, po + P, none⟩) hpb).trans d2; have q3 := Nat.lt_of_lt_of_le hpb hW.size; first | (go_simp; first | done | with_reducible rfl))); (try simp only [Act.put, List.setIfInBounds_toArray, List.set_cons_zero, List.set_cons_succ]))
      refine ord_e rfl rfl rfl ?_; intro K hK; go_simp
      refine HKid.out.mono ?_; rintro e w4 ⟨rfl, hb4⟩
      have hb4' : Below w1.heap.size w1 w4 := ((Below.refl _ w1).drew).trans hb4
      refine hK.out _ _ hb4' ?_
      repeat ((refine ord_q (v := ?_) rfl rfl (fun _ _ _ h => h) rfl (fun W hW => ?_) ?_); rotate_left; (focus ((try dsimp only at hW); have q0 := (hW.cell (p := ⟨nb, 2, none⟩) hlt3).trans e2; have q1 := Nat.lt_of_lt_of_le hlt3 hW.size; have q2 := (hW.cell (p := ⟨pb, po + P, none⟩) hpb).trans d2; have q3 := Nat.lt_of_lt_of_le hpb hW.size; first | (go_simp; first | done | with_reducible rfl))); (try simp only [Act.put, List.setIfInBounds_toArray, List.set_cons_zero, List.set_cons_succ]))
      refine ord_nil ?_
      go_wp2_with fail
      go_roundw
      case rel => exact ⟨nd.kids[P], d + 1, m, rfl, by go_num, HL2.out, by omega, hbel.trans ((hb1.mono hbel.size).trans (hb4'.mono (Nat.le_trans hbel.size hb1.size)))⟩
      case measure => simp [intOf]; omega
end Go.Proofs.Ytbldcbakhpdigaa
