/- parts -/
import Derived.WalkKit
import Derived.WalkLawsBesides
import Derived.WalkSpells
import Derived.Lib.Hide
import Derived.Deep.AppendSrc
import Derived.OrdersHeld
import Derived.Deep.RegionHeld
namespace Go.Proofs.YtfgpefcphnpabaaGreat
open Go.RowKit
set_option maxRecDepth 100000
set_option maxHeartbeats 8000000
def Stop (p : Prop) : Prop := p
theorem Stop.of {p : Prop} (h : Stop p) : p := h
theorem Stop.on {p : Prop} (h : p) : Stop p := h
structure Keep (M : Nat → Prop) (w w' : World) : Prop where
 os : w'.os = w.os
 tape : w'.tape = w.tape
 output : w'.output = w.output
 size : w.heap.size ≤ w'.heap.size
 block : ∀ k, k < w.heap.size → ¬ M k → w'.heap[k]? = w.heap[k]?
theorem Keep.refl (M : Nat → Prop) (w : World) : Keep M w w := ⟨rfl, rfl, rfl, Nat.le_refl _, fun _ _ _ => rfl⟩
theorem Keep.trans {M M' : Nat → Prop} {a b c : World} (h : Keep M a b) (k : Keep M' b c) (hm : ∀ i, i < a.heap.size → M' i → M i) : Keep M a c :=
 ⟨k.os.trans h.os, k.tape.trans h.tape, k.output.trans h.output, Nat.le_trans h.size k.size,
  fun i hi hn => (k.block i (Nat.lt_of_lt_of_le hi h.size) (fun x => hn (hm i hi x))).trans (h.block i hi hn)⟩
theorem Keep.mono {M M' : Nat → Prop} {a b : World} (h : Keep M a b) (hm : ∀ i, i < a.heap.size → M i → M' i) : Keep M' a b :=
 ⟨h.os, h.tape, h.output, h.size, fun i hi hn => h.block i hi (fun x => hn (hm i hi x))⟩
theorem Keep.alloc {M : Nat → Prop} {a w : World} (h : Keep M a w) (o : Obj) : Keep M a (w.alloc o) :=
 ⟨h.os, h.tape, h.output, Nat.le_trans h.size (by simp), fun k hk hn => (Below.heap_alloc w o k (Nat.lt_of_lt_of_le hk h.size)).trans (h.block k hk hn)⟩
theorem Keep.drew {M : Nat → Prop} {a w : World} (h : Keep M a w) : Keep M a w.drew := ⟨h.os, h.tape, h.output, h.size, h.block⟩
theorem Keep.setCell {M : Nat → Prop} {a w : World} (h : Keep M a w) {p : Addr} (hp : a.heap.size ≤ p.block ∨ M p.block) (u : Value) : Keep M a (w.setCell p u) :=
 ⟨h.os, h.tape, h.output, Nat.le_trans h.size (by simp), fun k hk hn => (Below.heap_setCell w p u k (by rintro rfl; exact hp.elim (fun x => absurd hk (Nat.not_lt.2 x)) hn)).trans (h.block k hk hn)⟩
theorem Keep.of_below {w w' : World} (h : Below w.heap.size w w') (M : Nat → Prop) : Keep M w w' :=
 ⟨h.os, h.tape, h.output, h.size, fun k hk _ => h.block k hk⟩
theorem Keep.below {w w' : World} (h : Keep (fun _ => False) w w') : Below w.heap.size w w' :=
 ⟨h.os, h.tape, h.output, h.size, fun k hk => h.block k hk id⟩
theorem Keep.toBelow {M : Nat → Prop} {a b : World} (h : Keep M a b) {B : Nat} (hB : B ≤ a.heap.size) (hM : ∀ i, i < B → ¬ M i) : Below B a b :=
 ⟨h.os, h.tape, h.output, h.size, fun k hk => h.block k (Nat.lt_of_lt_of_le hk hB) (hM k hk)⟩
theorem Keep.grown {M : Nat → Prop} {a w w' : World} {row : Option Nat} (h : Keep M a w) (hg : w.grownBy w' row) (hr : ∀ k, row = some k → a.heap.size ≤ k ∨ M k) : Keep M a w' :=
 ⟨hg.os.trans h.os, hg.tape.trans h.tape, hg.output.trans h.output, Nat.le_trans h.size hg.size,
  fun k hk hn => (hg.block k (Nat.lt_of_lt_of_le hk h.size) (fun e => (hr k e.symm).elim (fun x => absurd hk (Nat.not_lt.2 x)) hn)).trans (h.block k hk hn)⟩
theorem Keep.cell {M : Nat → Prop} {w w' : World} (h : Keep M w w') {p : Addr} (hp : p.block < w.heap.size) (hn : ¬ M p.block) : w'.cell? p = w.cell? p :=
 World.cell?_of_block (w := w) (h.block p.block hp hn)
theorem Keep.frozen {M : Nat → Prop} {w w' : World} (h : Keep M w w') {p : Addr} (hp : p.block < w.heap.size) (hn : ¬ M p.block) : w'.frozen? p = w.frozen? p :=
 World.frozen?_of_block (w := w) (h.block p.block hp hn)
def NoS : Nat → Prop := fun _ => False
def Step (S S' : Nat → Prop) (w w' : World) : Prop := Keep S w w' ∧ ∀ g, S' g → S g ∨ w.heap.size ≤ g
theorem Step.refl (S : Nat → Prop) (w : World) : Step S S w w := ⟨Keep.refl _ _, fun _ h => .inl h⟩
theorem Step.trans {S S' S'' : Nat → Prop} {a b c : World} (h : Step S S' a b) (k : Step S' S'' b c) : Step S S'' a c :=
 ⟨h.1.trans k.1 fun i hi hs => (h.2 i hs).elim id (fun x => absurd hi (Nat.not_lt.2 x)),
  fun g hg => (k.2 g hg).elim (fun x => h.2 g x) (fun x => .inr (Nat.le_trans h.1.size x))⟩
theorem Step.of_below {S : Nat → Prop} {w w' : World} (h : Below w.heap.size w w') : Step S S w w' := ⟨Keep.of_below h S, fun _ h => .inl h⟩
def IsSl (w : World) (S : Nat → Prop) (k : Nat) (v : Value) (n : Nat) (xs : List Value) : Prop :=
 ∃ ao c, v = .slice ao n c ∧ n ≤ c ∧ c ≤ maxLen ∧ xs.length = n * k ∧ (ao = none → n = 0 ∧ c = 0) ∧ (∀ ad, ao = some ad → ad.spot = none ∧ ad.block < w.heap.size ∧ ¬ S ad.block) ∧
  ∀ j u, xs[j]? = some u → ∃ b o, ao = some ⟨b, o, none⟩ ∧ w.cell? ⟨b, o + j, none⟩ = some u
theorem IsSl.keep {w w' : World} {S S' : Nat → Prop} {k n : Nat} {v : Value} {xs : List Value} (h : IsSl w S k v n xs)
  (hb : ∀ g, v.ownBlock = some g → g < w.heap.size → ¬ S g → w'.heap[g]? = w.heap[g]? ∧ ¬ S' g) : IsSl w' S' k v n xs := by
 obtain ⟨ao, c, rfl, h1, h2, h3, h4, h5, h6⟩ := h
 refine ⟨ao, c, rfl, h1, h2, h3, h4, fun ad had => ?_, fun j u hu => ?_⟩
 ·have := h5 ad had
  have hq := hb ad.block (by rw [had]; rfl) this.2.1 this.2.2
  refine ⟨this.1, ?_, hq.2⟩
  exact (Array.getElem?_eq_some_iff.1 (hq.1.trans (Array.getElem?_eq_getElem this.2.1))).1
 ·obtain ⟨b, o, rfl, hc⟩ := h6 j u hu
  have := h5 _ rfl
  exact ⟨b, o, rfl, (World.cell?_of_block (w := w) (a := ⟨b, o + j, none⟩) (hb b rfl this.2.1 this.2.2).1).trans hc⟩
theorem IsSl.step {w w' : World} {S S' : Nat → Prop} {k n : Nat} {v : Value} {xs : List Value} (h : IsSl w S k v n xs) (hs : Step S S' w w') : IsSl w' S' k v n xs :=
 h.keep fun g _ hl hn => ⟨hs.1.block g hl hn, fun x => (hs.2 g x).elim hn (fun y => absurd hl (Nat.not_lt.2 y))⟩
theorem IsSl.below {w w' : World} {S : Nat → Prop} {k n : Nat} {v : Value} {xs : List Value} (h : IsSl w S k v n xs) (hs : Below w.heap.size w w') : IsSl w' S k v n xs :=
 h.step (Step.of_below hs)
theorem IsSl.nil (w : World) (S : Nat → Prop) (k : Nat) : IsSl w S k (.slice none 0 0) 0 [] :=
 ⟨none, 0, rfl, Nat.le_refl _, Nat.zero_le _, by simp, fun _ => ⟨rfl, rfl⟩, (fun _ h => by cases h), (fun j u h => by simp at h)⟩
theorem IsSl.form {w : World} {S : Nat → Prop} {k n : Nat} {v : Value} {xs : List Value} (h : IsSl w S k v n xs) :
  ∃ ao c, v = .slice ao n c ∧ n ≤ c ∧ c ≤ 9223372036854775807 ∧ (n = 0 ∨ ∃ b o, ao = some ⟨b, o, none⟩) ∧ (ao = none → c = 0) := by
 obtain ⟨ao, c, rfl, h1, h2, h3, h4, h5, h6⟩ := h
 refine ⟨ao, c, rfl, h1, by simpa [maxLen] using h2, ?_, fun h => (h4 h).2⟩
 rcases ao with _ | ⟨b, o, sp⟩
 ·exact .inl (h4 rfl).1
 ·obtain rfl : sp = none := (h5 _ rfl).1
  exact .inr ⟨b, o, rfl⟩
theorem IsSl.upto {w : World} {S : Nat → Prop} {k n c : Nat} {ao : Option Addr} {xs : List Value} (h : IsSl w S k (.slice ao n c) n xs) (j : Nat) (hj : j ≤ n) : IsSl w S k (.slice ao j c) j (xs.take (j * k)) := by
 obtain ⟨ao', c', hv, h1, h2, h3, h4, h5, h6⟩ := h
 cases hv
 refine ⟨ao, c, rfl, by omega, h2, by rw [List.length_take, h3]; exact Nat.min_eq_left (Nat.mul_le_mul_right _ hj), fun e => ⟨by have := (h4 e).1; omega, (h4 e).2⟩, h5, fun i u hu => ?_⟩
 rw [List.getElem?_take] at hu
 split at hu
 ·exact h6 i u hu
 ·cases hu
theorem IsSl.after {w : World} {S : Nat → Prop} {k n c : Nat} {ao : Option Addr} {xs : List Value} (h : IsSl w S k (.slice ao n c) n xs) (i : Nat) (hi : i ≤ n) :
  IsSl w S k (.slice (if c = i then ao else ao.map fun x => x.add (i * k)) (n - i) (c - i)) (n - i) (xs.drop (i * k)) := by
 obtain ⟨ao', c', hv, h1, h2, h3, h4, h5, h6⟩ := h
 cases hv
 have hlen : (xs.drop (i * k)).length = (n - i) * k := by rw [List.length_drop, h3, Nat.sub_mul]
 by_cases hc : c = i
 ·rw [if_pos hc]
  have e : xs.drop (i * k) = [] := List.eq_nil_of_length_eq_zero (by rw [hlen, show n - i = 0 by omega, Nat.zero_mul])
  refine ⟨ao, c - i, rfl, by omega, by omega, hlen, fun e => ⟨by have := (h4 e).1; omega, by have := (h4 e).2; omega⟩, h5, fun j u hu => ?_⟩
  rw [e] at hu; simp at hu
 ·rw [if_neg hc]
  refine ⟨_, c - i, rfl, by omega, by omega, hlen, fun e => ?_, fun ad had => ?_, fun j u hu => ?_⟩
  ·cases ao with
   | none => have := h4 rfl; omega
   | some ad => cases e
  ·cases ao with
   | none => cases had
   | some a0 =>
    have := h5 a0 rfl
    obtain ⟨b, o, sp⟩ := a0
    cases had
    have hs : sp = none := this.1
    subst hs
    simp only [Addr.add_lit]
    exact ⟨trivial, this.2⟩
  ·rw [List.getElem?_drop] at hu
   obtain ⟨b, o, e, hc⟩ := h6 _ u hu
   subst e
   refine ⟨b, o + i * k, by simp [Addr.add_lit], ?_⟩
   rw [Nat.add_assoc]; exact hc
theorem IsSl.at1 {w : World} {S : Nat → Prop} {v : Value} {n : Nat} {xs : List Value} (h : IsSl w S 1 v n xs) {ao : Option Addr} {n' c : Nat} (hv : v = .slice ao n' c) (i : Nat) (u : Value) (hu : xs[i]? = some u) :
  ∃ b o, ao = some ⟨b, o, none⟩ ∧ w.cell? ⟨b, o + i, none⟩ = some u := by
 obtain ⟨ao', c', rfl, _, _, _, _, _, h6⟩ := h
 cases hv
 exact h6 _ _ hu
def OwnSl (w : World) (S : Nat → Prop) (B e k : Nat) (v : Value) (n : Nat) (xs : List Value) : Prop :=
 w.ownsRow B e k v n xs ∧ ∀ g, v.ownBlock = some g → ¬ S g
theorem OwnSl.isSl {w : World} {S : Nat → Prop} {B e k n : Nat} {v : Value} {xs : List Value} (h : OwnSl w S B e k v n xs) : IsSl w S k v n xs := by
 obtain ⟨⟨hl, hr⟩, hn⟩ := h
 rcases hr with ⟨rfl, rfl⟩ | ⟨g, cap, cur, rfl, _, hg, h1, h2, h3, h4⟩
 ·have : xs = [] := List.eq_nil_of_length_eq_zero (by simpa using hl)
  subst this; exact IsSl.nil _ _ _
 ·refine ⟨_, cap, rfl, h1, h2, hl, by simp, fun ad had => ?_, fun j u hu => ⟨g, 0, rfl, ?_⟩⟩
  ·cases had; exact ⟨rfl, (Array.getElem?_eq_some_iff.1 hg).1, hn g rfl⟩
  ·have hj := (List.getElem?_eq_some_iff.1 hu).1
   rw [Nat.zero_add]
   rw [cell_of_row w g j cur e (0, 0) hg]
   rw [← h4, List.getElem?_take] at hu
   split at hu
   ·simpa using hu
   ·cases hu
theorem OwnSl.nil (w : World) (S : Nat → Prop) (B e k : Nat) : OwnSl w S B e k (.slice none 0 0) 0 [] := ⟨World.ownsRow_nil w B e k, by simp [Value.ownBlock]⟩
theorem OwnSl.keep {w w' : World} {S S' : Nat → Prop} {B e k n : Nat} {v : Value} {xs : List Value} (h : OwnSl w S B e k v n xs)
  (hb : ∀ g, v.ownBlock = some g → g < w.heap.size → ¬ S g → w'.heap[g]? = w.heap[g]? ∧ ¬ S' g) : OwnSl w' S' B e k v n xs := by
 obtain ⟨⟨hl, hr⟩, hn⟩ := h
 rcases hr with ⟨rfl, rfl⟩ | ⟨g, cap, cur, rfl, h0, hg, h1⟩
 ·exact ⟨⟨hl, .inl ⟨rfl, rfl⟩⟩, by simp [Value.ownBlock]⟩
 ·have := hb g rfl (Array.getElem?_eq_some_iff.1 hg).1 (hn g rfl)
  exact ⟨⟨hl, .inr ⟨g, cap, cur, rfl, h0, this.1.trans hg, h1⟩⟩, fun g' hg' => by cases hg'; exact this.2⟩
theorem OwnSl.lt {w : World} {S : Nat → Prop} {B e k n : Nat} {v : Value} {xs : List Value} (h : OwnSl w S B e k v n xs) : v.ownBlock ≠ some w.heap.size := fun e => absurd (h.1.lt _ e).2 (Nat.lt_irrefl _)
theorem OwnSl.lt' {w : World} {S : Nat → Prop} {B e k n : Nat} {v : Value} {xs : List Value} (h : OwnSl w S B e k v n xs) {g : Nat} (hg : w.heap.size ≤ g) : v.ownBlock ≠ some g := fun e => absurd (h.1.lt _ e).2 (Nat.not_lt.2 hg)
theorem OwnSl.drew {w : World} {S : Nat → Prop} {B e k n : Nat} {v : Value} {xs : List Value} (h : OwnSl w S B e k v n xs) : OwnSl w.drew S B e k v n xs := h
theorem OwnSl.step {w w' : World} {S S' : Nat → Prop} {B e k n : Nat} {v : Value} {xs : List Value} (h : OwnSl w S B e k v n xs) (hs : Step S S' w w') : OwnSl w' S' B e k v n xs :=
 h.keep fun g _ hl hn => ⟨hs.1.block g hl hn, fun x => (hs.2 g x).elim hn (fun y => absurd hl (Nat.not_lt.2 y))⟩
theorem OwnSl.below {w w' : World} {S : Nat → Prop} {B e k n : Nat} {v : Value} {xs : List Value} (h : OwnSl w S B e k v n xs) (hs : Below w.heap.size w w') : OwnSl w' S B e k v n xs :=
 h.step (Step.of_below hs)
theorem IsSl.src {P : Program} {w : World} {S : Nat → Prop} {k n : Nat} {v : Value} {xs : List Value} (h : IsSl w S k v n xs) {tx e' : TypeId} (hk : P.underlying tx = some (.slice e')) (h1 : ∀ u ∈ xs, u.oneCell' = true) : Src P k tx v n xs w := by
 obtain ⟨ao, c, rfl, _, _, h3, h4, h5, h6⟩ := h
 cases ao with
 | none =>
  obtain ⟨rfl, rfl⟩ := h4 rfl
  have : xs = [] := List.eq_nil_of_length_eq_zero (by simpa using h3)
  subst this
  exact Src.ofNil w hk 0
 | some ad =>
  obtain ⟨b, o, sp⟩ := ad
  obtain rfl : sp = none := (h5 _ rfl).1
  refine Src.ofSlice w hk ⟨b, o, none⟩ n c xs h3 (fun j u hu => ?_) h1
  obtain ⟨b', o', e, hc⟩ := h6 j u hu
  cases e
  rw [Addr.add_lit]; exact hc
theorem src_new {P : Program} {w : World} (cs : List Value) (T k n c : Nat) {tx e' : TypeId} {g : Nat} (hg : w.heap.size = g) (hk : P.underlying tx = some (.slice e')) (hl : cs.length = n * k) (h1 : ∀ u ∈ cs, u.oneCell' = true) :
  Src P k tx (.slice (some ⟨g, 0, none⟩) n c) n cs (w.alloc (.cells cs.toArray T)) := by
 subst hg
 refine Src.ofSlice _ hk _ n c cs hl (fun j u hu => ?_) h1
 rw [Addr.add_lit, Nat.zero_add, World.cell?_alloc_new]
 simpa using hu
theorem own_new {w : World} {S : Nat → Prop} {B e k : Nat} (cs : List Value) (n c : Nat) {g : Nat} (hg : w.heap.size = g) (hl : cs.length = c * k) (hnc : n ≤ c) (hc : c ≤ maxLen) (hB : B ≤ w.heap.size) (hS : ∀ g, S g → g < w.heap.size) :
  OwnSl (w.alloc (.cells cs.toArray e)) S B e k (.slice (some ⟨g, 0, none⟩) n c) n (cs.take (n * k)) := by
 subst hg
 refine ⟨⟨?_, .inr ⟨_, c, _, rfl, hB, heap_alloc_new w _, hnc, hc, by simpa using hl, rfl⟩⟩, fun g hg hs => ?_⟩
 ·rw [List.length_take, hl]; exact Nat.min_eq_left (Nat.mul_le_mul_right _ hnc)
 ·cases hg; exact absurd (hS _ hs) (Nat.lt_irrefl _)
theorem sub_alloc {S : Nat → Prop} {w : World} (h : ∀ g, S g → g < w.heap.size) (o : Obj) : ∀ g, S g → g < (w.alloc o).heap.size := fun g hg => by
 rw [World.size_alloc]; exact Nat.lt_succ_of_lt (h g hg)
theorem sub_below {S : Nat → Prop} {w w' : World} {B : Nat} (h : ∀ g, S g → g < w.heap.size) (hb : Below B w w') : ∀ g, S g → g < w'.heap.size := fun g hg => Nat.lt_of_lt_of_le (h g hg) hb.size
theorem below_one (w : World) (o : Obj) : Below w.heap.size w (w.alloc o) := (Below.refl _ _).alloc (Nat.le_refl _) _
theorem below_two (w : World) (o o' : Obj) : Below w.heap.size w ((w.alloc o).alloc o') := (below_one w o).alloc (by simp) _
theorem below_three (w : World) (o o' o'' : Obj) : Below w.heap.size w (((w.alloc o).alloc o').alloc o'') := (below_two w o o').alloc (by simp; omega) _
section
variable {P : Program}
theorem run_app (w : World) (S : Nat → Prop) (B : Nat) (t tx ty e : TypeId) (i : TypeInfo) (z : Value) (k bytes : Nat) (ht : P.underlying t = some (.slice e)) (hi : P.info? e = some i) (hz : i.zero = some z)
  (hsize : i.size = k) (hby : i.bytes = bytes) (hzs : z.cells.size = k)
  (v : Value) (n : Nat) (xs : List Value) (hown : OwnSl w S B e k v n xs) (x : Value) (m : Nat) (news : List Value) (hs : Src P k tx x m news w)
  (hS : ∀ g, S g → g < w.heap.size) (hbase : B ≤ w.heap.size) (h63 : n + m ≤ maxLen) (hbytes : (n + m) * bytes ≤ 140737488355328) :
  ∃ ao c w', (Builtin.append_ #[t, tx] ty #[v, x]).run P w = .ok (.slice ao (n + m) c) w' ∧ OwnSl w' S B e k (.slice ao (n + m) c) (n + m) (xs ++ news) ∧ Keep (fun g => v.ownBlock = some g) w w' ∧ Below B w w' ∧
   (∀ g, g < w.heap.size → v.ownBlock ≠ some g → (Value.slice ao (n + m) c).ownBlock ≠ some g) := by
 suffices hsuf : ∃ ao c w', (Builtin.append_ #[t, tx] ty #[v, x]).run P w = .ok (.slice ao (n + m) c) w' ∧ OwnSl w' S B e k (.slice ao (n + m) c) (n + m) (xs ++ news) ∧ Keep (fun g => v.ownBlock = some g) w w' ∧
   ((Value.slice ao (n + m) c).ownBlock = v.ownBlock ∨ ∃ g, ao = some ⟨g, 0, none⟩ ∧ w.heap.size ≤ g) by
  obtain ⟨ao, c, w', h1, h2, h3, h4⟩ := hsuf
  exact ⟨ao, c, w', h1, h2, h3, ⟨h3.os, h3.tape, h3.output, h3.size, fun g hg => h3.block g (Nat.lt_of_lt_of_le hg hbase) (fun e => absurd (hown.1.lt g e).1 (Nat.not_le.2 hg))⟩, fun g hg hne => h4.elim (fun e => e ▸ hne) (fun ⟨g', e, hge⟩ => by rw [e]; intro e'; cases e'; exact absurd hg (Nat.not_lt.2 hge))⟩
 subst hsize
 subst hby
 have hsmall : n + m ≤ 9223372036854775807 := by simp only [maxLen] at h63; omega
 have hlen : (xs ++ news).length = (n + m) * i.size := by rw [List.length_append, hown.1.1, hs.newsLen, Nat.add_mul]
 have grown : ∀ (old : Nat), old < n + m →
   OwnSl (w.drew.alloc (.cells ((xs ++ news).toArray ++ Builtin.zeroCells z.cells (grownCap w (n + m) old e - (n + m))) e)) S B e i.size
    (.slice (some ⟨w.heap.size, 0, none⟩) (n + m) (grownCap w (n + m) old e)) (n + m) (xs ++ news) ∧
   Keep (fun g => v.ownBlock = some g) w (w.drew.alloc (.cells ((xs ++ news).toArray ++ Builtin.zeroCells z.cells (grownCap w (n + m) old e - (n + m))) e)) := by
  intro old ho
  have hge := grownCap_ge w (n + m) old e
  have hcm : grownCap w (n + m) old e ≤ maxLen := grownCap_le_maxLen w (n + m) old e h63
  refine ⟨⟨⟨hlen, .inr ⟨w.heap.size, _, _, rfl, hbase, heap_alloc_new w.drew _, hge, hcm, ?_, ?_⟩⟩, fun g hg hh => ?_⟩, (Keep.refl _ w).drew.alloc _⟩
  ·simp only [Array.size_append, List.size_toArray, hlen, size_zeroCells, hzs, ← Nat.add_mul]
   congr 1
   omega
  ·simp only [Array.toList_append]
   rw [← hlen]
   exact List.take_left
  ·cases hg; exact absurd (hS _ hh) (Nat.lt_irrefl _)
 rcases hown.1.2 with ⟨rfl, rfl⟩ | ⟨g, cap, cur, rfl, hbg, hg, hnc, hcm, hcs, htake⟩
 ·have hx : xs = [] := List.eq_nil_of_length_eq_zero (by simpa using hown.1.1)
  subst hx
  by_cases hm : m = 0
  ·subst hm
   have hn : news = [] := List.eq_nil_of_length_eq_zero (by simpa using hs.newsLen)
   subst hn
   refine ⟨none, 0, w, ?_, OwnSl.nil w S B e i.size, Keep.refl _ _, .inl rfl⟩
   rcases hs.kind with ⟨e', hk⟩ | hk <;> simp [Builtin.append_, run_underlying ht, run_underlying hk, sizeOf, typeInfo, hi, hs.len, hs.cells]
  ·have hr := run_append_grow_src (P := P) w t tx ty e i z ht hi hz none 0 0 [] (run_firstCells_none w.drew i.size 0 0 0) x m news hs (by omega) (by omega) (growslice_fits (by omega) hbytes)
   have hgr := grown 0 (by omega)
   exact ⟨_, _, _, hr, hgr.1, hgr.2, .inr ⟨_, rfl, Nat.le_refl _⟩⟩
 ·by_cases hroom : n + m ≤ cap
  ·have hfit : n * i.size + news.length ≤ cur.size := by rw [hs.newsLen, hcs, ← Nat.add_mul]; exact Nat.mul_le_mul_right _ hroom
   have hst := run_storeCells_at P g (n * i.size) e news 0 cur w hg (by simpa using hfit) hs.one
   simp only [Nat.add_zero] at hst
   refine ⟨some ⟨g, 0, none⟩, cap, w.setRow g (cur.toList.take (n * i.size) ++ news ++ cur.toList.drop (n * i.size + news.length)).toArray, ?_, ⟨⟨hlen, .inr ⟨g, cap, _, rfl, hbg, setRow_heap w g cur _ e _ hg, hroom, hcm, ?_, ?_⟩⟩, hown.2⟩,
    ⟨rfl, rfl, rfl, by simp, fun k' _ hk => setRow_other w g k' _ (fun e => hk (by simp [Value.ownBlock, e]))⟩, .inl rfl⟩
   ·rcases hs.kind with ⟨e', hk⟩ | hk <;> simp [Builtin.append_, run_underlying ht, run_underlying hk, sizeOf, typeInfo, hi, hs.len, hroom, hs.cells, Addr.add_lit, hst]
   ·simp only [List.size_toArray, List.length_append, List.length_take, List.length_drop, Array.length_toList]
    omega
   ·rw [htake, ← hlen]
    exact List.take_left
  ·have hold : (Builtin.firstCells i.size n (.slice (some ⟨g, 0, none⟩) n cap)).run P w.drew = .ok xs.toArray w.drew :=
    run_firstCells_some w.drew i.size n ⟨g, 0, none⟩ n cap xs hown.1.1 (fun j u hu => by simpa using hown.1.cells (g := g) rfl j u hu)
   have hr := run_append_grow_src (P := P) w t tx ty e i z ht hi hz (some ⟨g, 0, none⟩) n cap xs hold x m news hs (by omega) (by omega) (growslice_fits (by omega) hbytes)
   have hgr := grown cap (by omega)
   exact ⟨_, _, _, hr, hgr.1, hgr.2, .inr ⟨_, rfl, Nat.le_refl _⟩⟩
theorem wp_app {o : Oper} {a : Act} {w : World} {K : Act → World → Prop} {Q : Exit → Act → World → Prop} (s y : Operand) (t tx : TypeId) (ho : o.op = .call { callee := .builtin .append, args := #[s, y], argTypes := #[t, tx] })
  (S : Nat → Prop) (B : Nat) (e : TypeId) (k bytes : Nat) (z : Value) (ht : P.underlying t = some (.slice e)) (hinfo : (P.info? e).map (fun i => (i.zero, i.size, i.bytes)) = some (some z, k, bytes)) (hzs : z.cells.size = k)
  (v : Value) (n : Nat) (xs : List Value) (hv : a.eval s = v) (hown : OwnSl w S B e k v n xs) (x : Value) (m : Nat) (news : List Value) (hx : a.eval y = x) (hs : Src P k tx x m news w)
  (hS : ∀ g, S g → g < w.heap.size) (hbase : B ≤ w.heap.size) (h63 : n + m ≤ maxLen) (hbytes : (n + m) * bytes ≤ 140737488355328)
  (h : ∀ ao c w', OwnSl w' S B e k (.slice ao (n + m) c) (n + m) (xs ++ news) → Keep (fun g => v.ownBlock = some g) w w' → Below B w w' →
   (∀ g, g < w.heap.size → v.ownBlock ≠ some g → (Value.slice ao (n + m) c).ownBlock ≠ some g) → K (a.put o.dst (.slice ao (n + m) c)) w') : o.wp P a w K Q := by
 obtain ⟨i, hi, hz, hsize, hby⟩ := info_parts hinfo
 obtain ⟨ao, c, w', hr, h2, h3, h3b, h4⟩ := run_app (P := P) w S B t tx o.type e i z k bytes ht hi hz hsize hby hzs v n xs hown x m news hs hS hbase h63 hbytes
 unfold Oper.wp execOp
 simp only [ho, resolve, invoke, builtin, Sem.run_bind, Sem.run_pure, Result.andThen_ok, List.map_toArray, List.map_cons, List.map_nil, hv, hx, hr]
 exact h ao c w' h2 h3 h3b h4
theorem wpList_app {ops : Array Oper} {rest : List Oper} {o : Oper} {a : Act} {w : World} {Q : Exit → Act → World → Prop} (hgd : o.guard = none) (s y : Operand) (t tx : TypeId) (ho : o.op = .call { callee := .builtin .append, args := #[s, y], argTypes := #[t, tx] })
  (S : Nat → Prop) (B : Nat) (e : TypeId) (k bytes : Nat) (z : Value) (ht : P.underlying t = some (.slice e)) (hinfo : (P.info? e).map (fun i => (i.zero, i.size, i.bytes)) = some (some z, k, bytes)) (hzs : z.cells.size = k)
  (v : Value) (n : Nat) (xs : List Value) (hv : a.eval s = v) (hown : OwnSl w S B e k v n xs) (x : Value) (m : Nat) (news : List Value) (hx : a.eval y = x) (hs : Src P k tx x m news w)
  (hS : ∀ g, S g → g < w.heap.size) (hbase : B ≤ w.heap.size) (h63 : n + m ≤ maxLen) (hbytes : (n + m) * bytes ≤ 140737488355328)
  (h : ∀ ao c w', OwnSl w' S B e k (.slice ao (n + m) c) (n + m) (xs ++ news) → Keep (fun g => v.ownBlock = some g) w w' → Below B w w' →
   (∀ g, g < w.heap.size → v.ownBlock ≠ some g → (Value.slice ao (n + m) c).ownBlock ≠ some g) → wpList P ops Q rest (a.put o.dst (.slice ao (n + m) c)) w') : wpList P ops Q (o :: rest) a w :=
 wpList_plain hgd fun _ hK => wp_app s y t tx ho S B e k bytes z ht hinfo hzs v n xs hv hown x m news hx hs hS hbase h63 hbytes fun ao c w' h2 h3 h3b h4 => hK _ _ (h ao c w' h2 h3 h3b h4)
theorem step_app {ops : Array Oper} {o : Oper} {a : Act} {w : World} {K : Act → World → Prop} {Q : Exit → Act → World → Prop} {E : Prop} (hgd : o.guard = none) (s y : Operand) (t tx : TypeId) (ho : o.op = .call { callee := .builtin .append, args := #[s, y], argTypes := #[t, tx] })
  (S : Nat → Prop) (B : Nat) (e : TypeId) (k bytes : Nat) (z : Value) (ht : P.underlying t = some (.slice e)) (hinfo : (P.info? e).map (fun i => (i.zero, i.size, i.bytes)) = some (some z, k, bytes)) (hzs : z.cells.size = k)
  (v : Value) (n : Nat) (xs : List Value) (hv : a.eval s = v) (hown : OwnSl w S B e k v n xs) (x : Value) (m : Nat) (news : List Value) (hx : a.eval y = x) (hs : Src P k tx x m news w)
  (hS : ∀ g, S g → g < w.heap.size) (hbase : B ≤ w.heap.size) (h63 : n + m ≤ maxLen) (hbytes : (n + m) * bytes ≤ 140737488355328)
  (h : ∀ ao c w', OwnSl w' S B e k (.slice ao (n + m) c) (n + m) (xs ++ news) → Keep (fun g => v.ownBlock = some g) w w' → Below B w w' →
   (∀ g, g < w.heap.size → v.ownBlock ≠ some g → (Value.slice ao (n + m) c).ownBlock ≠ some g) → K (a.put o.dst (.slice ao (n + m) c)) w') :
  if Region.wanted o (yielded ops a.tmps) = true then Oper.wp P o a w K Q else E := by
 have hw : Region.wanted o (yielded ops a.tmps) = true := by simp [Region.wanted, hgd]
 rw [if_pos hw]
 exact wp_app s y t tx ho S B e k bytes z ht hinfo hzs v n xs hv hown x m news hx hs hS hbase h63 hbytes h
end
def prCells (ps : List (ByteArray × ByteArray)) : List Value := ps.flatMap fun p => [.string p.1, .string p.2]
theorem prCells_cons (p : ByteArray × ByteArray) (ps : List (ByteArray × ByteArray)) : prCells (p :: ps) = .string p.1 :: .string p.2 :: prCells ps := rfl
theorem prCells_get (ps : List (ByteArray × ByteArray)) : ∀ i (h : i < ps.length), (prCells ps)[i * 2]? = some (.string ps[i].1) ∧ (prCells ps)[i * 2 + 1]? = some (.string ps[i].2) := by
 induction ps with
 | nil => intro i h; exact absurd h (by simp)
 | cons p ps ih =>
  intro i h
  cases i with
  | zero => simp [prCells_cons]
  | succ i =>
   have := ih i (by simpa using h)
   rw [prCells_cons]
   refine ⟨?_, ?_⟩
   ·have e : (i + 1) * 2 = i * 2 + 1 + 1 := by omega
    rw [e, List.getElem?_cons_succ, List.getElem?_cons_succ]; exact this.1
   ·have e : (i + 1) * 2 + 1 = (i * 2 + 1) + 1 + 1 := by omega
    rw [e, List.getElem?_cons_succ, List.getElem?_cons_succ]; exact this.2
theorem prCells_append (a b : List (ByteArray × ByteArray)) : prCells (a ++ b) = prCells a ++ prCells b := by simp [prCells]
def bCells (l : List UInt8) : List Value := l.map fun b => .int .u8 (b.toNat : Int)
theorem bCells_append (a b : List UInt8) : bCells (a ++ b) = bCells a ++ bCells b := by simp [bCells]
theorem bCells_length (l : List UInt8) : (bCells l).length = l.length := by simp [bCells]
theorem byteCells_eq (s : ByteArray) : byteCells s = bCells s.data.toList := rfl
def IsPrs (w : World) (S : Nat → Prop) (v : Value) (ps : List (ByteArray × ByteArray)) : Prop := IsSl w S 2 v ps.length (prCells ps)
def IsStrs (w : World) (S : Nat → Prop) (v : Value) (ss : List ByteArray) : Prop := IsSl w S 1 v ss.length (ss.map .string)
def IsInts (w : World) (S : Nat → Prop) (v : Value) (zs : List Int) : Prop := IsSl w S 1 v zs.length (zs.map (.int .i64))
def IsBytes (w : World) (S : Nat → Prop) (v : Value) (l : List UInt8) : Prop := IsSl w S 1 v l.length (bCells l)
theorem IsInts.at {w : World} {S : Nat → Prop} {v : Value} {zs : List Int} {ao : Option Addr} {n c : Nat} (h : IsInts w S v zs) (hv : v = .slice ao n c) (i : Nat) (hi : i < zs.length) :
  ∃ b o, ao = some ⟨b, o, none⟩ ∧ w.cell? ⟨b, o + i, none⟩ = some (.int .i64 zs[i]) := IsSl.at1 h hv i _ (by simp [hi])
theorem IsStrs.at {w : World} {S : Nat → Prop} {v : Value} {ss : List ByteArray} {ao : Option Addr} {n c : Nat} (h : IsStrs w S v ss) (hv : v = .slice ao n c) (i : Nat) (hi : i < ss.length) :
  ∃ b o, ao = some ⟨b, o, none⟩ ∧ w.cell? ⟨b, o + i, none⟩ = some (.string ss[i]) := IsSl.at1 h hv i _ (by simp [hi])
theorem IsBytes.at {w : World} {S : Nat → Prop} {v : Value} {l : List UInt8} {ao : Option Addr} {n c : Nat} (h : IsBytes w S v l) (hv : v = .slice ao n c) (i : Nat) (hi : i < l.length) :
  ∃ b o, ao = some ⟨b, o, none⟩ ∧ w.cell? ⟨b, o + i, none⟩ = some (.int .u8 (l[i].toNat : Int)) := IsSl.at1 h hv i _ (by simp [bCells, hi])
theorem IsPrs.at {w : World} {S : Nat → Prop} {v : Value} {ps : List (ByteArray × ByteArray)} {ao : Option Addr} {n c : Nat} (h : IsPrs w S v ps) (hv : v = .slice ao n c) (i : Nat) (hi : i < ps.length) :
  ∃ b o, ao = some ⟨b, o, none⟩ ∧ w.cell? ⟨b, o + i * 2, none⟩ = some (.string ps[i].1) ∧ w.cell? ⟨b, o + i * 2 + 1, none⟩ = some (.string ps[i].2) := by
 obtain ⟨ao', c', rfl, _, _, _, _, _, h6⟩ := h
 cases hv
 have hg := prCells_get ps i hi
 obtain ⟨b, o, e, h1⟩ := h6 _ _ hg.1
 obtain ⟨b', o', e', h2⟩ := h6 _ _ hg.2
 rw [e] at e'; cases e'
 exact ⟨b, o, e, h1, h2⟩
theorem one_strs (ss : List ByteArray) : ∀ u ∈ ss.map Value.string, u.oneCell' = true := by
 intro u hu; obtain ⟨_, _, rfl⟩ := List.mem_map.1 hu; rfl
theorem one_bytes (l : List UInt8) : ∀ u ∈ bCells l, u.oneCell' = true := by
 intro u hu; obtain ⟨_, _, rfl⟩ := List.mem_map.1 hu; rfl
theorem one_prs (ps : List (ByteArray × ByteArray)) : ∀ u ∈ prCells ps, u.oneCell' = true := by
 intro u hu
 obtain ⟨p, _, hp⟩ := List.mem_flatMap.1 hu
 simp at hp; rcases hp with rfl | rfl <;> rfl
section
variable {P : Program} {ops : Array Oper} {Q : Exit → Act → World → Prop} {md : Region.Mode} {S : World → Prop}
def edges (md : Region.Mode) (ops : Array Oper) (j : Nat) : List Nat :=
 match ops[j]? with
 | none => []
 | some o => (o.after.toList.filter (Region.binds md)).map (·.on)
def marks (md : Region.Mode) (ops : Array Oper) : List Nat → List Nat → List Nat
 | [], l => l
 | i :: r, l => marks md ops r (if l.contains i then (edges md ops i).foldl (fun acc k => if acc.contains k then acc else k :: acc) l else l)
def waitsAll (md : Region.Mode) (ops : Array Oper) (j : Nat) : Bool :=
 let l := marks md ops (List.range ops.size).reverse (edges md ops j)
 (List.range ops.size).all fun i => i == j || l.contains i
def Shutd (md : Region.Mode) (ops : Array Oper) (listed : Array Bool) : Prop := ∀ i k, i < ops.size → k ∈ edges md ops i → listed.getD i true = true → listed.getD k false = true
theorem edges_of_ready {j k : Nat} {listed : Array Bool} (hj : j ∈ Region.ready md ops listed) (hk : k ∈ edges md ops j) : listed.getD k false = true := by
 obtain ⟨_, o, ho, hall⟩ := mem_ready.1 hj
 unfold edges at hk
 rw [ho] at hk
 simp only [List.mem_map, List.mem_filter, Array.mem_toList_iff] at hk
 obtain ⟨e, ⟨he, hb⟩, rfl⟩ := hk
 exact hall e he hb
theorem Shutd.set {j : Nat} {listed : Array Bool} (h : Shutd md ops listed) (hj : j ∈ Region.ready md ops listed) : Shutd md ops (listed.setIfInBounds j true) := by
 intro i k hi hk hl
 by_cases hij : j = i
 ·subst hij; exact getD_set_true (edges_of_ready hj hk)
 ·rw [getD_set_ne true hij] at hl; exact getD_set_true (h i k hi hk hl)
theorem Shutd.replicate : Shutd md ops (Array.replicate ops.size false) := by
 intro i k hi hk hl
 simp [hi] at hl
theorem mem_foldl_add {x : Nat} : ∀ (es : List Nat) (l : List Nat), x ∈ es.foldl (fun acc k => if acc.contains k then acc else k :: acc) l → x ∈ es ∨ x ∈ l
 | [], l, h => .inr h
 | e :: r, l, h => by
  rcases mem_foldl_add r _ h with h | h
  ·exact .inl (List.mem_cons_of_mem _ h)
  ·dsimp only at h
   split at h
   ·exact .inr h
   ·rcases List.mem_cons.1 h with rfl | h
    ·exact .inl (List.mem_cons_self ..)
    ·exact .inr h
theorem getD_true_of_false {listed : Array Bool} {i : Nat} (h : listed.getD i false = true) : listed.getD i true = true := by
 rcases Nat.lt_or_ge i listed.size with h' | h'
 ·simpa [h'] using h
 ·simp [Array.getElem?_eq_none h'] at h
theorem marks_listed {listed : Array Bool} (h : Shutd md ops listed) : ∀ (r l : List Nat), (∀ i ∈ r, i < ops.size) → (∀ x ∈ l, listed.getD x false = true) → ∀ x ∈ marks md ops r l, listed.getD x false = true
 | [], _, _, hl => hl
 | i :: r, l, hr, hl => by
  refine marks_listed h r _ (fun k hk => hr k (List.mem_cons_of_mem _ hk)) ?_
  intro x hx
  split at hx
  ·rename_i hc
   rcases mem_foldl_add _ _ hx with hx | hx
   ·exact h i x (hr i (List.mem_cons_self ..)) hx (getD_true_of_false (hl i (by simpa using hc)))
   ·exact hl x hx
  ·exact hl x hx
theorem waitsAll_spec {i j : Nat} {listed : Array Bool} (h : waitsAll md ops j = true) (hs : Shutd md ops listed) (hj : j ∈ Region.ready md ops listed) (hi : i < ops.size) (hne : i ≠ j) : listed.getD i false = true := by
 unfold waitsAll at h
 have := List.all_eq_true.1 h i (List.mem_range.2 hi)
 simp only [Bool.or_eq_true, beq_iff_eq, hne, false_or] at this
 refine marks_listed hs (List.range ops.size).reverse _ (fun k hk => by simpa using hk) (fun x hx => edges_of_ready hj hx) i (by simpa using this)
def wpAnyG (P : Program) (md : Region.Mode) (ops : Array Oper) (Q : Exit → Act → World → Prop) (S : World → Prop) : Nat → Array Bool → Act → World → Prop
 | 0, listed, a, w => Region.ready md ops listed = [] ∧ Q .normal a w
 | fuel + 1, listed, a, w =>
  (Region.ready md ops listed = [] → Q .normal a w) ∧
  ∀ i ∈ Region.ready md ops listed, wpOp P ops Q i (fun a' w' => (waitsAll md ops i = true ∨ S w') ∧ wpAnyG P md ops Q S fuel (listed.setIfInBounds i true) a' w') a w
theorem wpAny_of_G : ∀ (fuel : Nat) (listed : Array Bool) (a : Act) (w : World), wpAnyG P md ops Q S fuel listed a w → wpAny P md ops Q fuel listed a w
 | 0, _, _, _, h => h
 | fuel + 1, _, _, _, h => ⟨h.1, fun i hi => wpOp_mono (fun a' w' h' => wpAny_of_G fuel _ a' w' h'.2) (h.2 i hi)⟩
theorem lt_of_ready {i : Nat} {listed : Array Bool} (h : i ∈ Region.ready md ops listed) : i < ops.size := by
 obtain ⟨_, o, ho, _⟩ := mem_ready.1 h
 exact (Array.getElem?_eq_some_iff.1 ho).1
theorem not_waits {i j : Nat} {listed : Array Bool} (hs : Shutd md ops listed) (hi : i ∈ Region.ready md ops listed) (hj : j ∈ Region.ready md ops listed) (hne : i ≠ j) : waitsAll md ops j = false := by
 cases hw : waitsAll md ops j with
 | false => rfl
 | true =>
  have h1 := getD_true_of_false (waitsAll_spec hw hs hj (lt_of_ready hi) hne)
  rw [(mem_ready.1 hi).1] at h1
  cases h1
theorem wpAnyG_first {i : Nat} {oi : Oper} {v : Value} (hi : ops[i]? = some oi) (hsel : ∀ (j : Nat) (o : Oper) cs b, ops[j]? = some o → o.op ≠ .select cs b)
  (hQ : ∀ c a w, Q (.panic c) (a.put oi.dst v) w → Q (.panic c) a w) :
  ∀ (fuel : Nat) (listed : Array Bool) (a : Act) (w : World), Shutd md ops listed →
   (∀ j oj, ops[j]? = some oj → j ≠ i → listed.getD j true = false → (∀ e ∈ oj.after, Region.binds md e = true → e.on ≠ i) → oi.apart ops oj = true) →
   i ∈ Region.ready md ops listed → YieldsIf P ops S oi v a → S w →
   wpAnyG P md ops Q S fuel (listed.setIfInBounds i true) (a.put oi.dst v) w → wpAnyG P md ops Q S (fuel + 1) listed a w := by
 intro fuel
 induction fuel with
 | zero =>
  intro listed a w hsh _ hr hy hS H
  refine ⟨fun h => (by rw [h] at hr; cases hr), fun j hj => ?_⟩
  by_cases hji : j = i
  ·subst hji; exact hy.wpOp hi hS ⟨.inr hS, H⟩
  ·have := ready_mono hj hji
   rw [H.1] at this
   cases this
 | succ fuel ih =>
  intro listed a w hsh hfree hr hy hS H
  refine ⟨fun h => (by rw [h] at hr; cases hr), fun j hj => ?_⟩
  by_cases hji : j = i
  ·subst hji; exact hy.wpOp hi hS ⟨.inr hS, H⟩
  ·have h1 := H.2 j (ready_mono hj hji)
   have hnw := not_waits hsh hr hj (Ne.symm hji)
   obtain ⟨hjun, oj, hoj, hall⟩ := mem_ready.1 hj
   have hnot : ∀ e ∈ oj.after, Region.binds md e = true → e.on ≠ i := fun e he hb heq => by
    have q1 := hall e he hb
    have q0 := (mem_ready.1 hr).1
    rw [heq] at q1
    rcases Nat.lt_or_ge i listed.size with h' | h'
    ·simp [h'] at q0 q1; rw [q0] at q1; cases q1
    ·simp [Array.getElem?_eq_none h'] at q1
   have h2 := wpOp_putIf hoj (hfree j oj hoj hji hjun hnot) (fun cs b => hsel i oi cs b hi) (fun cs b => hsel j oj cs b hoj) hQ hy h1
   have hfree' : ∀ k ok, ops[k]? = some ok → k ≠ i → (listed.setIfInBounds j true).getD k true = false →
     (∀ e ∈ ok.after, Region.binds md e = true → e.on ≠ i) → oi.apart ops ok = true := fun k ok hk hki hun hno => by
    refine hfree k ok hk hki ?_ hno
    by_cases hjk : j = k
    ·subst hjk; exact hjun
    ·rw [getD_set_ne true hjk] at hun; exact hun
   refine wpOp_mono (fun a' w' h3 => ?_) h2
   have hS' : S w' := h3.2.1.resolve_left (by rw [hnw]; simp)
   refine ⟨.inr hS', ih (listed.setIfInBounds j true) a' w' (hsh.set hj) hfree' (ready_mono hr (Ne.symm hji)) h3.1 hS' ?_⟩
   rw [Array.setIfInBounds_comm _ _ hji]
   exact h3.2.2
def ordOk (md : Region.Mode) (ops : Array Oper) (q : Nat → Bool) : List Nat → Array Bool → Bool
 | [], listed => (Region.ready md ops listed).isEmpty
 | i :: rest, listed =>
  (if q i then (Region.ready md ops listed).contains i && Region.free md ops listed i
   else (Region.ready md ops listed == [i]) && (!waitsAll md ops i || rest.isEmpty)) && ordOk md ops q rest (listed.setIfInBounds i true)
def wpOrd (P : Program) (md : Region.Mode) (ops : Array Oper) (Q : Exit → Act → World → Prop) (S : World → Prop) (q : Nat → Bool) : List Nat → Act → World → Prop
 | [], a, w => Q .normal a w
 | i :: rest, a, w =>
  if q i then ∃ o v, ops[i]? = some o ∧ (∀ c a w, Q (.panic c) (a.put o.dst v) w → Q (.panic c) a w) ∧ YieldsIf P ops S o v a ∧ wpOrd P md ops Q S q rest (a.put o.dst v) w
  else wpOp P ops Q i (fun a' w' => (waitsAll md ops i = true ∨ S w') ∧ wpOrd P md ops Q S q rest a' w') a w
theorem wpAnyG_of_ord (hs : Region.noSelect ops = true) {q : Nat → Bool} : ∀ (order : List Nat) (fuel : Nat) (listed : Array Bool) (a : Act) (w : World), Shutd md ops listed →
  ordOk md ops q order listed = true → order.length ≤ fuel → (order = [] ∨ S w) → wpOrd P md ops Q S q order a w → wpAnyG P md ops Q S fuel listed a w
 | [], fuel, listed, a, w, _, hok, _, _, h => by
  have h0 : Region.ready md ops listed = [] := by simpa [ordOk] using hok
  cases fuel with
  | zero => exact ⟨h0, h⟩
  | succ fuel => exact ⟨fun _ => h, fun i hi => by rw [h0] at hi; cases hi⟩
 | i :: rest, 0, _, _, _, _, _, hf, _, _ => absurd hf (by simp)
 | i :: rest, fuel + 1, listed, a, w, hsh, hok, hf, hSw, h => by
  have hS : S w := hSw.resolve_left (by simp)
  simp only [ordOk, Bool.and_eq_true] at hok
  obtain ⟨hi, hrest⟩ := hok
  by_cases hq : q i = true
  ·simp only [hq, if_true, Bool.and_eq_true] at hi
   simp only [wpOrd, hq, if_true] at h
   obtain ⟨o, v, ho, hQ, hy, h⟩ := h
   exact wpAnyG_first ho (Region.noSelect_spec hs) hQ fuel listed a w hsh (Region.free_spec ho hi.2) (by simpa using hi.1) hy hS
    (wpAnyG_of_ord hs rest fuel _ _ _ (hsh.set (by simpa using hi.1)) hrest (by simpa using hf) (.inr hS) h)
  ·rw [if_neg hq, Bool.and_eq_true, beq_iff_eq] at hi
   simp only [wpOrd] at h
   rw [if_neg hq] at h
   have hr : Region.ready md ops listed = [i] := by simpa using hi.1
   refine ⟨fun h0 => (by rw [hr] at h0; cases h0), fun j hj => ?_⟩
   rw [hr] at hj
   obtain rfl : j = i := by simpa using hj
   refine wpOp_mono (fun a' w' h3 => ⟨h3.1, wpAnyG_of_ord hs rest fuel _ _ _ (hsh.set (by rw [hr]; exact List.mem_singleton.2 rfl)) hrest (by simpa using hf) ?_ h3.2⟩) h
   rcases h3.1 with hw | hS'
   ·have := hi.2
    simp only [hw] at this
    exact .inl (by simpa using this)
   ·exact .inr hS'
theorem wp_region_ord {id : Nat} {a : Act} {w : World} (S : World → Prop) (q : Nat → Bool) (order : List Nat) (hm : P.follows .mixedOrders = true) (hok : (Region.noSelect ops && decide (order.length ≤ ops.size) && ordOk .any ops q order (Array.replicate ops.size false)) = true)
  (hS : S w.drew) (h : wpOrd P .any ops Q S q order a w.drew) : (Code.region id ops true).wp P Q a w := by
 simp only [Bool.and_eq_true, decide_eq_true_eq] at hok
 exact wp_region_any hm (wpAny_of_G _ _ _ _ (wpAnyG_of_ord hok.1.1 order _ _ _ _ Shutd.replicate hok.2 hok.1.2 (.inr hS) h))
theorem ord_nil {q : Nat → Bool} {a : Act} {w : World} (h : Q .normal a w) : wpOrd P md ops Q S q [] a w := h
theorem ord_q {q : Nat → Bool} {i : Nat} {rest : List Nat} {a : Act} {w : World} {o : Oper} {v : Value} (hq : q i = true) (hi' : ops.toList[i]? = some o) (hQ : ∀ c a w, Q (.panic c) (a.put o.dst v) w → Q (.panic c) a w)
  (hw : Region.wanted o (yielded ops a.tmps) = true) (hy : ∀ W, S W → (execOp a.eval o).run P W = .ok (.value v) W) (h : wpOrd P md ops Q S q rest (a.put o.dst v) w) : wpOrd P md ops Q S q (i :: rest) a w := by
 have hi : ops[i]? = some o := by rw [← Array.getElem?_toList]; exact hi'
 simp only [wpOrd, hq, if_true]; exact ⟨o, v, hi, hQ, .inl ⟨hw, hy⟩, h⟩
theorem ord_skip {q : Nat → Bool} {i : Nat} {rest : List Nat} {a : Act} {w : World} {o : Oper} (hq : q i = true) (hi' : ops.toList[i]? = some o) (hQ : ∀ c a w, Q (.panic c) (a.put o.dst undef) w → Q (.panic c) a w)
  (hw : Region.wanted o (yielded ops a.tmps) = false) (h : wpOrd P md ops Q S q rest (a.put o.dst undef) w) : wpOrd P md ops Q S q (i :: rest) a w := by
 have hi : ops[i]? = some o := by rw [← Array.getElem?_toList]; exact hi'
 simp only [wpOrd, hq, if_true]; exact ⟨o, undef, hi, hQ, .inr ⟨hw, rfl⟩, h⟩
theorem ord_e {q : Nat → Bool} {i : Nat} {rest : List Nat} {a : Act} {w : World} {o : Oper} (hq : q i = false) (hi' : ops.toList[i]? = some o) (hw : Region.wanted o (yielded ops a.tmps) = true)
  (h : ∀ K : Act → World → Prop, Shut (∀ a w, S w → wpOrd P md ops Q S q rest a w → K a w) → o.wp P a w K Q) : wpOrd P md ops Q S q (i :: rest) a w := by
 have hi : ops[i]? = some o := by rw [← Array.getElem?_toList]; exact hi'
 simp only [wpOrd, hq, wpOp, hi, hw, if_true]
 exact .inl (h _ (fun a w hS hW => ⟨.inr hS, hW⟩))
theorem ord_l {q : Nat → Bool} {i : Nat} {rest : List Nat} {a : Act} {w : World} {o : Oper} (hq : q i = false) (hi' : ops.toList[i]? = some o) (hw : Region.wanted o (yielded ops a.tmps) = true) (hl : waitsAll md ops i = true)
  (h : ∀ K : Act → World → Prop, Shut (∀ a w, wpOrd P md ops Q S q rest a w → K a w) → o.wp P a w K Q) : wpOrd P md ops Q S q (i :: rest) a w := by
 have hi : ops[i]? = some o := by rw [← Array.getElem?_toList]; exact hi'
 simp only [wpOrd, hq, wpOp, hi, hw, if_true]
 exact .inl (h _ (fun a w hW => ⟨.inl hl, hW⟩))
end
end Go.Proofs.YtfgpefcphnpabaaGreat
