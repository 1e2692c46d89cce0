/- edit: on nothing, and on a leaf. -/
import Derived.Test.YtbldcbakhpdigaaSpreadR
import Derived.Test.YtbldcbakhpdigaaClosP
namespace Go.Proofs.Ytbldcbakhpdigaa
open Go.RowKit

/-- a closure that changes a leaf's pairs -/
def EditC (g : Nat) (cb : Array Value) (F : List Pr → List Pr) (bs : List (Nat × ByteArray)) : Prop :=
  ∀ (nb B : Nat) (nd : Nd) (S : Nat → Prop) (w : World), (∀ g, S g → g < w.heap.size) → (∀ p ∈ bs, BoxS w p.1 p.2 ∧ p.1 < B) → OwnNode w S B nb nd → RisingP nd.pairs → nd.pairs.length ≤ 999999 →
    Calls Try.prog g (#[.pointer (some ⟨nb, 0, none⟩)] ++ cb) w fun e w' => e = .returned (.tuple #[]) ∧ OwnNode w' S B nb ⟨F nd.pairs, nd.keys, nd.kids⟩ ∧ Below B w w'

/-- the variables that the closure holds are as they were -/
def Boxes (w : World) (S : Nat → Prop) (bs : List (Nat × ByteArray)) : Prop := ∀ p ∈ bs, BoxS w p.1 p.2 ∧ ¬ S p.1
theorem Boxes.step {w w' : World} {S S' : Nat → Prop} {bs : List (Nat × ByteArray)} (h : Boxes w S bs) (hs : Step S S' w w') : Boxes w' S' bs := fun p hp => by
  obtain ⟨h1, h2⟩ := h p hp
  have hl := (cells1 h1).2
  exact ⟨(hs.1.block _ hl h2).trans h1, fun x => (hs.2 _ x).elim h2 (fun y => absurd hl (Nat.not_lt.2 y))⟩
theorem Boxes.to {w w' : World} {S : Nat → Prop} {bs : List (Nat × ByteArray)} (h : Boxes w S bs) {S' : Nat → Prop} (hs : Step S S' w w') : ∀ p ∈ bs, BoxS w' p.1 p.2 ∧ p.1 < w.heap.size := fun p hp => ⟨((h.step hs) p hp).1, (cells1 (h p hp).1).2⟩

/-- a step in which no block below B changes: B is above the store's blocks -/
theorem Inv.keepB {σ : MSt} {S : Nat → Prop} {mp B : Nat} {w w' : World} (h : Inv σ S mp w) (hb : Below B w w') (hS : ∀ g, S g → g < B) : Inv σ S mp w' :=
  h.keepM (M := fun g => B ≤ g) ⟨hb.os, hb.tape, hb.output, hb.size, fun k _ hn => hb.block k (Nat.not_le.1 hn)⟩ (fun g hg => Nat.not_le.2 (hS g hg))
theorem TreeAt.stepB {w0 w w' : World} {t mp : Nat} {root err root' err' : Int} (h : TreeAt w t mp root err) (hb : Below w0.heap.size w w') (h0 : TreeAt w0 t mp root' err') : TreeAt w' t mp root err :=
  (hb.block t (Array.getElem?_eq_some_iff.1 h0).1).trans h
theorem Step.thenB {S S' : Nat → Prop} {w w1 w2 : World} (h : Step S S' w w1) (hb : Below w.heap.size w1 w2) : Step S S' w w2 :=
  ⟨⟨hb.os.trans h.1.os, hb.tape.trans h.1.tape, hb.output.trans h.1.output, Nat.le_trans h.1.size hb.size, fun k hk hn => (hb.block k hk).trans (h.1.block k hk hn)⟩, h.2⟩

theorem SprPost.mono {mp : Nat} {σ : MSt} {S0 S : Nat → Prop} {nd : Nd} {least : ByteArray} {w0 w : World} {e : Ending} {w' : World} (h : SprPost mp σ S nd least w e w') (hs : Step S0 S w0 w) : SprPost mp σ S0 nd least w0 e w' := by
  obtain ⟨v, ps, zs, σ', S', h1, h2, h3, h4, h5, h6⟩ := h
  exact ⟨v, ps, zs, σ', S', h1, h2.base hs.1.size, h3, h4, h5, hs.trans h6⟩

set_option maxRecDepth 100000 in
set_option maxHeartbeats 4000000 in
theorem edit_zero (t mp : Nat) (root err deep : Int) (σ : MSt) (S : Nat → Prop) (key least : ByteArray) (g : Nat) (cb : Array Value) (F : List Pr → List Pr) (bs : List (Nat × ByteArray)) (hent : ∀ args w, (callFunc g args).run Try.prog w = .ok (.enter g args) w) (hf : EditC g cb F bs)
    (w : World) (h : Inv σ S mp w) (ht : TreeAt w t mp root err) (hst : ¬ S t) (hbx : Boxes w S bs) (ok : Nd.Ok ⟨F [], [], []⟩) (hroom : Maps.size σ.D + Nd.room ⟨F [], [], []⟩ ≤ σ.most) :
    Calls Try.prog 38 #[.pointer (some ⟨t, 0, none⟩), .int .i64 0, .int .i64 deep, .string key, .string least, .func (.func g) #[] cb] w (SprPost mp σ S ⟨F [], [], []⟩ key w) := by
  have HR := Lib.hid hroom; clear hroom
  have Hf := Lib.hid hf; clear hf
  have hsub := h.sub
  go_enter Try.func38, Try.ntmps38
  have hb0 := below_one w (.cells #[.slice none 0 0, .slice none 0 0, .slice none 0 0] 91)
  have hs0 : Step S S w (w.alloc (.cells #[.slice none 0 0, .slice none 0 0, .slice none 0 0] 91)) := Step.of_below hb0
  have hn0 : OwnNode (w.alloc (.cells #[.slice none 0 0, .slice none 0 0, .slice none 0 0] 91)) S w.heap.size w.heap.size ⟨[], [], []⟩ :=
    ⟨fun x => absurd (hsub _ x) (Nat.lt_irrefl _), Nat.le_refl _, _, _, _, heap_alloc_new w _, OwnSl.nil _ _ _ _ _, OwnSl.nil _ _ _ _ _, OwnSl.nil _ _ _ _ _⟩
  go_wp2_with (first
    | ((refine (Hf.out w.heap.size w.heap.size ⟨[], [], []⟩ S _ (fun g hg => Nat.lt_of_lt_of_le (hsub g hg) hb0.size) (hbx.to hs0) hn0 List.Pairwise.nil (Nat.zero_le _)).mono ?_); rintro e w1 ⟨rfl, hn1, hb1⟩)
    | (go_at_call 52; go_must ((refine (spread_any t mp root err _ σ S w.heap.size ⟨F [], [], []⟩ key w1 (h.below (hb0.trans hb1)) (ht.step hst (Step.of_below (hb0.trans hb1))).1 hst hn1.isNode ok (Nat.lt_succ_self _) HR.out).mono ?_); rintro e w2 ⟨v, ps, zs, σ', S', rfl, p2, p3, p4, p5, p6⟩)))
  go_ret
  exact SprPost.mono ⟨v, ps, zs, σ', S', rfl, p2, p3, p4, p5, p6⟩ (Step.of_below (hb0.trans hb1))

set_option maxRecDepth 100000 in
set_option maxHeartbeats 4000000 in
theorem edit_leaf (t mp : Nat) (root err b deep : Int) (σ : MSt) (S : Nat → Prop) (key least : ByteArray) (nd : Nd) (g : Nat) (cb : Array Value) (F : List Pr → List Pr) (bs : List (Nat × ByteArray)) (hent : ∀ args w, (callFunc g args).run Try.prog w = .ok (.enter g args) w) (hf : EditC g cb F bs)
    (w : World) (h : Inv σ S mp w) (ht : TreeAt w t mp root err) (hst : ¬ S t) (hbx : Boxes w S bs) (hb : Blk σ b nd) (hk : nd.kids = []) (hd : deep ≤ 40) (hr : RisingP nd.pairs) (ok : Nd.Ok ⟨F nd.pairs, [], []⟩) (hroom : Maps.size (σ.gone b).D + Nd.room ⟨F nd.pairs, [], []⟩ ≤ (σ.gone b).most) :
    Calls Try.prog 38 #[.pointer (some ⟨t, 0, none⟩), .int .i64 b, .int .i64 deep, .string key, .string least, .func (.func g) #[] cb] w (SprPost mp (σ.gone b) S ⟨F nd.pairs, [], []⟩ least w) := by
  have HR := Lib.hid hroom; clear hroom
  have Hf := Lib.hid hf; clear hf
  have hsub := h.sub
  have hb0 : (b == 0) = false := by have := hb.lo; simp; omega
  have hke : nd.kids.isEmpty = true := by rw [hk]; rfl
  have hnp := hb.fits.np
  have hkk := hb.fits.kk
  rw [hk] at hkk
  have hkey : nd.keys = [] := List.eq_nil_of_length_eq_zero (by simpa using hkk)
  have Hkey := Lib.hid hkey; clear hkey hkk
  go_enter Try.func38, Try.ntmps38
  go_wp2_with (first
    | (go_at_call 54; go_must ((refine (take_any t mp root err b deep σ S nd w h ht hst hb hd).mono ?_); rintro e w1 ⟨nb, rfl, hn1, hI1, hs1⟩))
    | (go_at_call 48; go_must ((refine (leaf_any nb nd _ S hn1.isNode).mono ?_); rintro e w2 ⟨rfl, hw⟩; subst w2; rw [hke]))
    | ((refine (Hf.out nb w.heap.size nd S _ hI1.sub (hbx.to hs1) hn1 hr (by omega)).mono ?_); rw [Hkey.out, hk]; rintro e w2 ⟨rfl, hn2, hb2⟩)
    | (go_at_call 52; go_must ((refine (spread_any t mp root err _ (σ.gone b) S nb ⟨F nd.pairs, [], []⟩ least w2 (hI1.keepB hb2 hsub) ((ht.step hst hs1).1.stepB hb2 ht) hst hn2.isNode ok (Nat.lt_succ_self _) HR.out).mono ?_); rintro e w3 ⟨v, ps, zs, σ', S', rfl, p2, p3, p4, p5, p6⟩)))
  go_ret
  exact SprPost.mono ⟨v, ps, zs, σ', S', rfl, p2, p3, p4, p5, p6⟩ (hs1.thenB hb2)
end Go.Proofs.Ytbldcbakhpdigaa
