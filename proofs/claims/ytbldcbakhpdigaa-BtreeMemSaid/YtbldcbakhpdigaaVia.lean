/- Put and Delete, over what edit and grow do. -/
import Derived.Test.YtbldcbakhpdigaaDel
namespace Go.Proofs.Ytbldcbakhpdigaa
open Go.RowKit

/-- what edit and grow do to the store -/
def EG (t mp : Nat) (root : Int) (key : ByteArray) (g : Nat) (cb : Array Value) (S : Nat → Prop) (P : MSt → Int → Prop) (W : World) : Prop :=
  Calls Try.prog 38 #[.pointer (some ⟨t, 0, none⟩), .int .i64 root, .int .i64 0, .string key, .string ⟨#[]⟩, .func (.func g) #[] cb] W fun e w1 => ∃ v S1, e = .returned v ∧ Step S S1 W w1 ∧
    Calls Try.prog 37 #[.pointer (some ⟨t, 0, none⟩), v] w1 fun e2 w2 => ∃ b σ' S', e2 = .returned (.int .i64 b) ∧ Inv σ' S' mp w2 ∧ Step S1 S' w1 w2 ∧ P σ' b

/-- what Put and Delete leave -/
def ChgPost (t mp : Nat) (S : Nat → Prop) (P : MSt → Int → Prop) (w w' : World) : Prop :=
  ∃ σ' S' b, Inv σ' S' mp w' ∧ TreeAt w' t mp b 0 ∧ ¬ S' t ∧ P σ' b ∧ Keep (fun g => S g ∨ g = t) w w' ∧ ∀ g, S' g → S g ∨ w.heap.size ≤ g

theorem SB.step {t mp tb kb : Nat} {root err : Int} {key : ByteArray} {S S' : Nat → Prop} {W W' : World} (h : SB t mp root err tb kb key W) (hs : Step S S' W W') (h1 : ¬ S t) (h2 : ¬ S tb) (h3 : ¬ S kb) : SB t mp root err tb kb key W' :=
  ⟨(hs.1.block _ (Array.getElem?_eq_some_iff.1 h.tr).1 h1).trans h.tr, (hs.1.block _ (Array.getElem?_eq_some_iff.1 h.bx).1 h2).trans h.bx, (hs.1.block _ (Array.getElem?_eq_some_iff.1 h.ky).1 h3).trans h.ky⟩

theorem eg_use {t mp tb kb g : Nat} {root : Int} {key : ByteArray} {cb : Array Value} {S : Nat → Prop} {P : MSt → Int → Prop} {w W : World} (hEG : EG t mp root key g cb S P W) (hsub : ∀ g, S g → g < w.heap.size) (hst : ¬ S t) (_hbW : Below w.heap.size w W) (htb : w.heap.size ≤ tb) (hkb : w.heap.size ≤ kb) (hSB : SB t mp root 0 tb kb key W) :
    Calls Try.prog 38 #[.pointer (some ⟨t, 0, none⟩), .int .i64 root, .int .i64 0, .string key, .string ⟨#[]⟩, .func (.func g) #[] cb] W fun e w1 => ∃ v, e = .returned v ∧ SB t mp root 0 tb kb key w1 ∧
      Calls Try.prog 37 #[.pointer (some ⟨t, 0, none⟩), v] w1 fun e2 w2 => ∃ b, e2 = .returned (.int .i64 b) ∧ SB t mp root 0 tb kb key w2 ∧ (∀ g, w.heap.size ≤ g → g < W.heap.size → w2.heap[g]? = W.heap[g]?) ∧ W.heap.size ≤ w2.heap.size ∧ (∃ σ' S', Inv σ' S' mp w2 ∧ Step S S' W w2 ∧ P σ' b) := by
  have hn : ∀ x, w.heap.size ≤ x → ¬ S x := fun x hx hs => absurd (hsub x hs) (Nat.not_lt.2 hx)
  refine hEG.mono ?_
  rintro e w1 ⟨v, S1, rfl, hs1, hG⟩
  have hS1 : ∀ x, x < W.heap.size → ¬ S x → ¬ S1 x := fun x hx hs h1 => (hs1.2 x h1).elim hs (fun y => absurd hx (Nat.not_lt.2 y))
  have hl1 := (Array.getElem?_eq_some_iff.1 hSB.tr).1
  have hl2 := (Array.getElem?_eq_some_iff.1 hSB.bx).1
  have hl3 := (Array.getElem?_eq_some_iff.1 hSB.ky).1
  refine ⟨v, rfl, hSB.step hs1 hst (hn _ htb) (hn _ hkb), hG.mono ?_⟩
  rintro e2 w2 ⟨b, σ', S', rfl, hI, hs2, hP⟩
  refine ⟨b, rfl, (hSB.step hs1 hst (hn _ htb) (hn _ hkb)).step hs2 (hS1 _ hl1 hst) (hS1 _ hl2 (hn _ htb)) (hS1 _ hl3 (hn _ hkb)), fun g hg hl => ?_, Nat.le_trans hs1.1.size hs2.1.size, σ', S', hI, hs1.trans hs2, hP⟩
  exact (hs2.1.block g (Nat.lt_of_lt_of_le hl hs1.1.size) (hS1 g hl (hn g hg))).trans (hs1.1.block g hl (hn g hg))

theorem chg_end {t mp : Nat} {S : Nat → Prop} {P : MSt → Int → Prop} {w w' : World} (hsub : ∀ g, S g → g < w.heap.size) (hst : ¬ S t) (htl : t < w.heap.size)
    (h : ∃ W b w2 rb, Below w.heap.size w W ∧ (∃ σ' S', Inv σ' S' mp w2 ∧ Step S S' W w2 ∧ P σ' b) ∧ w.heap.size ≤ rb ∧ rb < W.heap.size ∧ W.heap.size ≤ w2.heap.size ∧ Keep (fun g => g = rb ∨ g = t) w2 w' ∧ TreeAt w' t mp b 0) : ChgPost t mp S P w w' := by
  obtain ⟨W, b, w2, rb, hbW, ⟨σ', S', hI, hs, hP⟩, h1, h2, h3, hk, ht⟩ := h
  have hn : ∀ x, w.heap.size ≤ x → ¬ S x := fun x hx hs => absurd (hsub x hs) (Nat.not_lt.2 hx)
  have hS' : ∀ x, x < W.heap.size → ¬ S x → ¬ S' x := fun x hx hs1 h1 => (hs.2 x h1).elim hs1 (fun y => absurd hx (Nat.not_lt.2 y))
  have htW : t < W.heap.size := Nat.lt_of_lt_of_le htl hbW.size
  refine ⟨σ', S', b, hI.keepM hk (fun g hg x => x.elim (fun e => hS' rb h2 (hn rb h1) (by rw [← e]; exact hg)) (fun e => hS' t htW hst (by rw [← e]; exact hg))), ht, hS' t htW hst, hP, ?_, fun g hg => (hs.2 g hg).imp id (fun y => Nat.le_trans hbW.size y)⟩
  refine (((Step.of_below (S := S) hbW).trans hs).1.mono (fun _ _ h => .inl h)).trans hk (fun i hi x => x.elim (fun e => absurd hi (by rw [e]; exact Nat.not_lt.2 h1)) .inr)

theorem put_via (t mp : Nat) (root : Int) (S : Nat → Prop) (P : MSt → Int → Prop) (key value : ByteArray) (w : World) (hsub : ∀ g, S g → g < w.heap.size) (ht : TreeAt w t mp root 0) (hst : ¬ S t) (hk1 : 1 ≤ key.size) (hk2 : key.size ≤ 128) (hv : value.size ≤ 64)
    (hE : ∀ (W : World) (kb vb : Nat), Below w.heap.size w W → Boxes W S [(kb, key), (vb, value)] → EG t mp root key 39 #[.pointer (some ⟨kb, 0, none⟩), .pointer (some ⟨vb, 0, none⟩)] S P W) :
    Calls Try.prog 20 #[.pointer (some ⟨t, 0, none⟩), .string key, .string value] w fun e w' => e = .returned (.int .i64 0) ∧ ChgPost t mp S P w w' := by
  have hn : ∀ x, w.heap.size ≤ x → ¬ S x := fun x hx hs => absurd (hsub x hs) (Nat.not_lt.2 hx)
  refine (put_of t mp root key value w (fun W b w2 => ∃ σ' S', Inv σ' S' mp w2 ∧ Step S S' W w2 ∧ P σ' b) ht hk1 hk2 hv ?_).mono ?_
  · intro W tb kb vb hbW htb hkb hvb hSB hvB
    refine eg_use (hE W kb vb hbW ?_) hsub hst hbW htb hkb hSB
    intro p hp
    simp at hp
    rcases hp with rfl | rfl
    · exact ⟨hSB.ky, hn _ hkb⟩
    · exact ⟨hvB, hn _ hvb⟩
  · rintro e w' ⟨rfl, h⟩
    exact ⟨rfl, chg_end hsub hst (Array.getElem?_eq_some_iff.1 ht).1 h⟩

theorem delete_via (t mp : Nat) (root : Int) (σ : MSt) (S : Nat → Prop) (P : MSt → Int → Prop) (key x : ByteArray) (w : World) (h : Inv σ S mp w) (ht : TreeAt w t mp root 0) (hst : ¬ S t) (hk1 : 1 ≤ key.size) (hk2 : key.size ≤ 128) (n : Nat) (hn : n ≤ 40) (hl : Look σ key n root (some x))
    (hE : ∀ (W : World) (kb : Nat), Below w.heap.size w W → Boxes W S [(kb, key)] → EG t mp root key 45 #[.pointer (some ⟨kb, 0, none⟩)] S P W) :
    Calls Try.prog 23 #[.pointer (some ⟨t, 0, none⟩), .string key] w fun e w' => e = .returned (.tuple #[.bool true, .int .i64 0]) ∧ ChgPost t mp S P w w' := by
  have hsub := h.sub
  have hn' : ∀ x, w.heap.size ≤ x → ¬ S x := fun x hx hs => absurd (hsub x hs) (Nat.not_lt.2 hx)
  refine (delete_of t mp root σ S key x w (fun W b w2 => ∃ σ' S', Inv σ' S' mp w2 ∧ Step S S' W w2 ∧ P σ' b) h ht hk1 hk2 n hn hl ?_).mono ?_
  · intro W tb kb hbW htb hkb hSB
    refine eg_use (hE W kb hbW ?_) hsub hst hbW htb hkb hSB
    intro p hp
    simp at hp
    subst hp
    exact ⟨hSB.ky, hn' _ hkb⟩
  · rintro e w' ⟨rfl, h⟩
    exact ⟨rfl, chg_end hsub hst (Array.getElem?_eq_some_iff.1 ht).1 h⟩
end Go.Proofs.Ytbldcbakhpdigaa
