/- load: a node of the tree, out of the store. -/
import Derived.Test.YtbldcbakhpdigaaRepl
import Derived.Test.YtbldcbakhpdigaaHalves
import Derived.Test.YtbldcbakhpdigaaDecode
import Derived.Test.YtbldcbakhpdigaaStoT
namespace Go.Proofs.Ytbldcbakhpdigaa
open Go.RowKit

/-- block b of the store bears the node -/
structure Blk (σ : MSt) (b : Int) (nd : Nd) : Prop where
  has : Maps.has σ.D (kI b) = true
  lo : 1 ≤ b
  hi : b ≤ 4096
  mem : ∃ rest, σ.mem b = nd.enc ++ rest
  fits : nd.Fits

/-- the tree's own block -/
def TreeAt (w : World) (t mp : Nat) (root err : Int) : Prop := w.heap[t]? = some (.cells #[.iface 24 (.pointer (some ⟨mp, 0, none⟩)), .int .i64 root, .int .i64 err] 79 (0, 0))

set_option maxRecDepth 100000 in
set_option maxHeartbeats 2000000 in
theorem load_any (t mp : Nat) (root err b deep : Int) (σ : MSt) (S : Nat → Prop) (nd : Nd) (w : World) (h : Inv σ S mp w) (ht : TreeAt w t mp root err) (hb : Blk σ b nd) (hd : deep ≤ 40) :
    Calls Try.prog 47 #[.pointer (some ⟨t, 0, none⟩), .int .i64 b, .int .i64 deep] w fun e w' => ∃ nb, e = .returned (.tuple #[.pointer (some ⟨nb, 0, none⟩), .int .i64 0]) ∧ OwnNode w' S w.heap.size nb nd ∧ Below w.heap.size w w' := by
  obtain ⟨c0, c1, c2, _, _, _, hlt⟩ := cells3 ht
  obtain ⟨rest, hmem⟩ := hb.mem
  have hrd := read_has mp σ S w b h (wf_nat b (by have := hb.lo; omega) (by have := hb.hi; omega)) hb.has
  have hfit := hb.fits
  have hsub := h.sub
  have hl5 : (nd.enc ++ rest).length = 512 := by
    rw [← hmem]; obtain ⟨_, _, _, hl, _⟩ := h.rows b (.lit (.int .i64 0)) hb.has; exact hl
  rw [hmem] at hrd
  have hd2 : ¬ ((40 : Int) < deep) := by omega
  go_enter Try.func47, Try.ntmps47
  have hm : ∀ w, (method 283 24 (.pointer (some ⟨mp, 0, none⟩)) "Read").run Try.prog w = .ok (15, .pointer (some ⟨mp, 0, none⟩)) w := fun _ => by kernel_rfl
  have HRd := Lib.hid hrd; clear hrd hmem
  go_wp2_with (first
    | (refine HRd.out.mono ?_; rintro e w1 ⟨v, rfl, hv, hbel1⟩)
    | (go_at_call 62; go_must ((refine (decode_any _ nd rest w1 S (fun g hg => Nat.lt_of_lt_of_le (hsub g hg) hbel1.size) (by unfold IsBytes; rw [hl5]; exact hv.isSl) hfit (by rw [hl5]; omega)).mono ?_); rintro e w2 ⟨nb, rfl, hn, hbel2⟩)))
  go_ret2
  refine ⟨nb, rfl, ?_, hbel1.trans (hbel2.mono hbel1.size)⟩
  obtain ⟨q0, q1, v0, v1, v2, q2, q3, q4, q5⟩ := hn
  exact ⟨q0, Nat.le_trans hbel1.size q1, v0, v1, v2, q2, q3.base hbel1.size, q4.base hbel1.size, q5.base hbel1.size⟩

theorem TreeAt.step {w w' : World} {t mp : Nat} {root err : Int} {S S' : Nat → Prop} (h : TreeAt w t mp root err) (hS : ¬ S t) (hs : Step S S' w w') : TreeAt w' t mp root err ∧ ¬ S' t := by
  have hl := (Array.getElem?_eq_some_iff.1 h).1
  exact ⟨(hs.1.block t hl hS).trans h, fun x => (hs.2 t x).elim hS (fun y => absurd hl (Nat.not_lt.2 y))⟩

set_option maxRecDepth 100000 in
set_option maxHeartbeats 2000000 in
theorem take_any (t mp : Nat) (root err b deep : Int) (σ : MSt) (S : Nat → Prop) (nd : Nd) (w : World) (h : Inv σ S mp w) (ht : TreeAt w t mp root err) (_hst : ¬ S t) (hb : Blk σ b nd) (hd : deep ≤ 40) :
    Calls Try.prog 54 #[.pointer (some ⟨t, 0, none⟩), .int .i64 b, .int .i64 deep] w fun e w' => ∃ nb, e = .returned (.pointer (some ⟨nb, 0, none⟩)) ∧ OwnNode w' S w.heap.size nb nd ∧ Inv (σ.gone b) S mp w' ∧ Step S S w w' := by
  have hwf := wf_nat b (by have := hb.lo; omega) (by have := hb.hi; omega)
  have hlt : t < w.heap.size := (Array.getElem?_eq_some_iff.1 ht).1
  go_enter Try.func54, Try.ntmps54
  have hm : ∀ w, (method 283 24 (.pointer (some ⟨mp, 0, none⟩)) "Free").run Try.prog w = .ok (13, .pointer (some ⟨mp, 0, none⟩)) w := fun _ => by kernel_rfl
  go_wp2_with (first
    | (go_at_call 47; go_must ((refine (load_any t mp root err b deep σ S nd w h ht hb hd).mono ?_); rintro e w1 ⟨nb, rfl, hn, hbel1⟩))
    | (go_at_call 53; go_must ((refine (must_ok _).mono ?_); rintro e w1 ⟨rfl, rfl⟩; refine Stop.of ?_)))
  refine Stop.on ?_
  obtain ⟨c0, _, _, _, _, _, hlt1⟩ := cells3 ((hbel1.block t hlt).trans ht)
  go_wp2_with (first
    | (go_at_call 13; go_must ((refine (free_any mp σ S _ b (h.below hbel1) hwf hb.has).mono ?_); rintro e w2 ⟨rfl, hI, hs⟩))
    | (go_at_call 53; go_must ((refine (must_ok _).mono ?_); rintro e w1 ⟨rfl, rfl⟩; refine Stop.of ?_)))
  refine Stop.on ?_
  go_wp2_with fail
  go_ret
  exact ⟨nb, rfl, hn.step hs, hI, (Step.of_below hbel1).trans hs⟩

/-- a new block of the store bears the node; all else is as it was -/
structure Wrote (σ : MSt) (b : Int) (nd : Nd) (σ' : MSt) : Prop where
  new : Maps.has σ.D (kI b) = false
  blk : Blk σ' b nd
  other : ∀ x, x ≠ b → Maps.has σ'.D (kI x) = Maps.has σ.D (kI x) ∧ σ'.mem x = σ.mem x
  size : Maps.size σ'.D = Maps.size σ.D + 1
  held : σ'.H = σ.H
  most : σ'.most = σ.most
end Go.Proofs.Ytbldcbakhpdigaa
