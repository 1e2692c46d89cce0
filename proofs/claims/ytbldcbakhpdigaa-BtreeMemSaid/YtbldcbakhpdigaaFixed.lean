/- fixed: the document's examples. -/
import Derived.Test.YtbldcbakhpdigaaTiny
namespace Go.Proofs.Ytbldcbakhpdigaa
open Go.RowKit

abbrev sA : ByteArray := ⟨#[97]⟩
abbrev sB : ByteArray := ⟨#[98]⟩
abbrev s1 : ByteArray := ⟨#[49]⟩
abbrev s2 : ByteArray := ⟨#[50]⟩
theorem ins1 : insP [] sA s1 = [(sA, s1)] := by kernel_rfl
theorem ins2 : insP [(sA, s1)] sB s2 = [(sA, s1), (sB, s2)] := by kernel_rfl
theorem look1 : lookP [(sA, s1), (sB, s2)] sA = some s1 := by kernel_rfl
theorem del1 : delP [(sA, s1), (sB, s2)] sA = [(sB, s2)] := by kernel_rfl
theorem drop1 : [(sB, s2)].drop (posAt [(sB, s2)] ⟨#[]⟩) = [(sB, s2)] := by kernel_rfl
theorem rise2 : RisingP [(sA, s1), (sB, s2)] := by
  have h : lt sA sB = true := by kernel_rfl
  simp [RisingP, h]

/-- a tree of at most one leaf, and its store, all of it new since w0 -/
def TinyAt (w0 : World) (t mp : Nat) (ps : List Pr) (most : Nat) (w : World) : Prop :=
  ∃ σ S root, Inv σ S mp w ∧ TreeAt w t mp root 0 ∧ ¬ S t ∧ Tiny σ root ps ∧ σ.most = most ∧ Below w0.heap.size w0 w ∧ (∀ g, S g → w0.heap.size ≤ g) ∧ w0.heap.size ≤ t

theorem TinyAt.below {w0 w w' : World} {t mp m : Nat} {ps : List Pr} (h : TinyAt w0 t mp ps m w) (hb : Below w.heap.size w w') : TinyAt w0 t mp ps m w' := by
  obtain ⟨σ, S, root, h1, h2, h3, h4, h5, h6, h7, h8⟩ := h
  exact ⟨σ, S, root, h1.below hb, (hb.block t (Array.getElem?_eq_some_iff.1 h2).1).trans h2, h3, h4, h5, h6.trans (hb.mono h6.size), h7, h8⟩
theorem TinyAt.chg {w0 w w' : World} {t mp m : Nat} {ps : List Pr} {S : Nat → Prop} (hb : Below w0.heap.size w0 w) (hS : ∀ g, S g → w0.heap.size ≤ g) (ht : w0.heap.size ≤ t) (h : ChgPost t mp S (fun σ' b => Tiny σ' b ps ∧ σ'.most = m) w w') : TinyAt w0 t mp ps m w' := by
  obtain ⟨σ', S', b, h1, h2, h3, ⟨h4, h5⟩, h6, h7⟩ := h
  exact ⟨σ', S', b, h1, h2, h3, h4, h5, hb.trans (h6.toBelow hb.size (fun i hi x => x.elim (fun y => absurd hi (Nat.not_lt.2 (hS i y))) (fun y => absurd hi (by rw [y]; exact Nat.not_lt.2 ht)))), fun g hg => (h7 g hg).elim (hS g) (fun y => Nat.le_trans hb.size y), ht⟩

theorem TinyAt.put {w0 w : World} {t mp m : Nat} {ps qs : List Pr} (h : TinyAt w0 t mp ps m w) (key value : ByteArray) (hr : RisingP ps) (hg : GoodKV key value) (hq : insP ps key value = qs) (ok : Nd.Ok ⟨qs, [], []⟩) (hs : Nd.size ⟨qs, [], []⟩ ≤ 512) (hm : qs.length + 1 ≤ m) :
    Calls Try.prog 20 #[.pointer (some ⟨t, 0, none⟩), .string key, .string value] w fun e w' => e = .returned (.int .i64 0) ∧ TinyAt w0 t mp qs m w' := by
  obtain ⟨σ, S, root, h1, h2, h3, h4, rfl, h6, h7, h8⟩ := h
  subst hq
  refine (put_tiny t mp root σ S ps key value w h1 h2 h3 h4 hr hg ok hs hm).mono ?_
  rintro e w' ⟨rfl, hc⟩
  exact ⟨rfl, TinyAt.chg h6 h7 h8 hc⟩
theorem TinyAt.delete {w0 w : World} {t mp m : Nat} {ps qs : List Pr} (h : TinyAt w0 t mp ps m w) (key x : ByteArray) (hr : RisingP ps) (hg : 1 ≤ key.size ∧ key.size ≤ 128) (hx : lookP ps key = some x) (hq : delP ps key = qs) (ok : Nd.Ok ⟨qs, [], []⟩) (hs : Nd.size ⟨qs, [], []⟩ ≤ 512) (hm : qs.length + 1 ≤ m) :
    Calls Try.prog 23 #[.pointer (some ⟨t, 0, none⟩), .string key] w fun e w' => e = .returned (.tuple #[.bool true, .int .i64 0]) ∧ TinyAt w0 t mp qs m w' := by
  obtain ⟨σ, S, root, h1, h2, h3, h4, rfl, h6, h7, h8⟩ := h
  subst hq
  refine (delete_tiny t mp root σ S ps key x w h1 h2 h3 h4 hr hg hx ok hs hm).mono ?_
  rintro e w' ⟨rfl, hc⟩
  exact ⟨rfl, TinyAt.chg h6 h7 h8 hc⟩
theorem TinyAt.get {w0 w : World} {t mp m : Nat} {ps : List Pr} (h : TinyAt w0 t mp ps m w) (key : ByteArray) (r : Option ByteArray) (hr : RisingP ps) (hg : 1 ≤ key.size ∧ key.size ≤ 128) (hx : lookP ps key = r) :
    Calls Try.prog 28 #[.pointer (some ⟨t, 0, none⟩), .string key] w fun e w' => e = .returned (.tuple #[.string (r.getD ⟨#[]⟩), .bool r.isSome, .int .i64 0]) ∧ TinyAt w0 t mp ps m w' := by
  have h0 := h
  obtain ⟨σ, S, root, h1, h2, h3, h4, h5, h6, h7, h8⟩ := h
  refine (get_any t mp root σ S key r w h1 h2 hg.1 hg.2 0 (by omega) (by rw [← hx]; exact h4.look hr key)).mono ?_
  rintro e w' ⟨rfl, hb⟩
  exact ⟨rfl, h0.below hb⟩
theorem TinyAt.scan {w0 w : World} {t mp m : Nat} {ps L : List Pr} (h : TinyAt w0 t mp ps m w) (key : ByteArray) (most : Int) (hne : ps ≠ []) (hr : RisingP ps) (hm : 0 < most) (hx : ps.drop (posAt ps key) = L) (hl : ps.length ≤ 1000) :
    Calls Try.prog 21 #[.pointer (some ⟨t, 0, none⟩), .string key, .int .i64 most] w fun e w' => ∃ v, e = .returned (.tuple #[v, .int .i64 0]) ∧ IsPrs w' NoS v (L.take most.toNat) ∧ TinyAt w0 t mp ps m w' := by
  have h0 := h
  obtain ⟨σ, S, root, h1, h2, h3, h4, h5, h6, h7, h8⟩ := h
  subst hx
  refine (scan_any t mp root σ S key most _ 0 w h1 h2 (by have := (h4.one hne).2.lo; omega) hm (by omega) (h4.walk hne hr key) (by rw [List.length_drop]; omega)).mono ?_
  rintro e w' ⟨v, rfl, hv, hb⟩
  refine ⟨v, rfl, ?_, h0.below hb⟩
  obtain ⟨ao, c, e1, e2, e3, e4, e5, e6, e7⟩ := hv
  exact ⟨ao, c, e1, e2, e3, e4, e5, fun ad had => ⟨(e6 ad had).1, (e6 ad had).2.1, id⟩, e7⟩
theorem TinyAt.used {w0 w : World} {t mp m : Nat} {ps : List Pr} (h : TinyAt w0 t mp ps m w) (hne : ps ≠ []) :
    Calls Try.prog 12 #[.pointer (some ⟨mp, 0, none⟩)] w fun e w' => e = .returned (.int .i64 1) ∧ TinyAt w0 t mp ps m w' := by
  have h0 := h
  obtain ⟨σ, S, root, h1, h2, h3, h4, h5, h6, h7, h8⟩ := h
  refine (used_any mp σ S w h1).mono ?_
  rintro e w' ⟨rfl, rfl⟩
  exact ⟨by rw [(h4.one hne).1]; rfl, h0⟩
theorem TinyAt.bad {w0 w : World} {t mp m : Nat} {ps : List Pr} (h : TinyAt w0 t mp ps m w) (key value : ByteArray) (hb : ¬ GoodKV key value) :
    Calls Try.prog 20 #[.pointer (some ⟨t, 0, none⟩), .string key, .string value] w fun e w' => e = .returned (.int .i64 1) ∧ TinyAt w0 t mp ps m w' := by
  have h0 := h
  obtain ⟨σ, S, root, h1, h2, h3, h4, h5, h6, h7, h8⟩ := h
  refine (put_bad t mp root key value w h2 hb).mono ?_
  rintro e w' ⟨rfl, hb⟩
  exact ⟨rfl, h0.below hb⟩
theorem TinyAt.start (w0 w1 w2 : World) (n : Int) (h1 : Inv (MSt.new n w0.heap.size) (fun g => w0.heap.size ≤ g ∧ g < w0.heap.size + 3) (w0.heap.size + 2) w1) (hs : w1.heap.size = w0.heap.size + 3) (hb1 : Below w0.heap.size w0 w1) (ht : TreeAt w2 w1.heap.size (w0.heap.size + 2) 0 0) (hb2 : Below w1.heap.size w1 w2) :
    TinyAt w0 w1.heap.size (w0.heap.size + 2) [] (min (max n 0) 4096).toNat w2 :=
  ⟨_, _, 0, h1.below hb2, ht, by omega, ⟨fun _ => ⟨rfl, rfl⟩, fun h => absurd rfl h, rfl⟩, rfl, hb1.trans (hb2.mono hb1.size), fun g hg => hg.1, hb1.size⟩

theorem okL (ps : List Pr) (h : ∀ p ∈ ps, p.1.size ≤ 128 ∧ p.2.size ≤ 64) (hl : ps.length ≤ 2000) : Nd.Ok ⟨ps, [], []⟩ := ⟨h, by simp, by simp, rfl, by simp, hl, by simp⟩
theorem rise1 : RisingP [(sA, s1)] := by simp [RisingP]
theorem rise1' : RisingP [(sB, s2)] := by simp [RisingP]

set_option maxRecDepth 100000 in
set_option maxHeartbeats 4000000 in
theorem fixed_any (w : World) : Calls Try.prog 9 #[] w fun e w' => e = .returned (.bool true) ∧ Below w.heap.size w w' := by
  go_enter Try.func9, Try.ntmps9
  have ok1 := Lib.hid (okL [(sA, s1)] (by simp; decide) (by simp))
  have ok2 := Lib.hid (okL [(sA, s1), (sB, s2)] (by simp; decide) (by simp))
  have ok3 := Lib.hid (okL [(sB, s2)] (by simp; decide) (by simp))
  go_wp2_with (first
    | (go_at_call 10; go_must ((refine (newmem_any 9 w).mono ?_); rintro e w1 ⟨rfl, hI1, hs1, hb1⟩; have HS1 := Lib.hid hs1; clear hs1))
    | (go_at_call 16; go_must ((refine (open_any (w.heap.size + 2) 0 w1 (Int.le_refl _)).mono ?_); rintro e w2 ⟨rfl, ht2, hs2, hb2⟩; have hT := (TinyAt.start w w1 w2 9 hI1 HS1.out hb1 ht2 hb2); clear hI1 hb1 ht2 hs2 hb2))
    | (go_at_call 20; refine (hT.put sA s1 List.Pairwise.nil ?_ ins1 ok1.out ?_ ?_).mono ?_; (focus (exact ⟨⟨by decide, by decide⟩, by decide⟩)); (focus (decide)); (focus (decide)); clear hT; rintro e w3 ⟨rfl, hT3⟩)
    | (go_at_call 20; refine (hT3.put sB s2 rise1 ?_ ins2 ok2.out ?_ ?_).mono ?_; (focus (exact ⟨⟨by decide, by decide⟩, by decide⟩)); (focus (decide)); (focus (decide)); clear hT3; rintro e w4 ⟨rfl, hT4⟩)
    | (go_at_call 12; go_must (refine (hT4.used (by simp)).mono ?_; clear hT4; rintro e w5 ⟨rfl, hT5⟩))
    | (go_at_call 28; go_must (refine (hT5.get sA (some s1) rise2 ⟨by decide, by decide⟩ look1).mono ?_; clear hT5; rintro e w6 ⟨rfl, hT6⟩))
    | (go_at_call 23; go_must (refine (hT6.delete sA s1 rise2 ⟨by decide, by decide⟩ look1 del1 ok3.out ?_ ?_).mono ?_; (focus (decide)); (focus (decide)); clear hT6; rintro e w7 ⟨rfl, hT7⟩))
    | (go_at_call 21; go_must (refine (hT7.scan ⟨#[]⟩ 9 (by simp) rise1' (by decide) drop1 (by decide)).mono ?_; clear hT7; rintro e w8 ⟨v, rfl, hv, hT8⟩; refine Stop.of ?_)))
  have hv' : IsPrs w8 NoS v [(sB, s2)] := hv
  obtain ⟨ao, c, rfl, g1, g2, _, _⟩ := IsSl.form hv'
  obtain ⟨pb, po, rfl, d1, d2⟩ := hv'.at rfl 0 (by decide)
  have d1' : w8.cell? ⟨pb, po, none⟩ = some (.string sB) := d1
  have hpl : pb < w8.heap.size := World.block_lt_of_cell? w8 _ d1
  clear d1 d2 hv hv'
  refine Stop.on ?_
  go_wp2_with (first
    | (go_at_call 20; refine (hT8.bad ⟨#[]⟩ ⟨#[120]⟩ (fun h => absurd h.1.1 (by decide))).mono ?_; rintro e w9 ⟨rfl, hT9⟩))
  go_ret
  obtain ⟨σ, S, root, _, _, _, _, _, h6, _, _⟩ := hT9
  exact ⟨rfl, h6⟩
end Go.Proofs.Ytbldcbakhpdigaa
