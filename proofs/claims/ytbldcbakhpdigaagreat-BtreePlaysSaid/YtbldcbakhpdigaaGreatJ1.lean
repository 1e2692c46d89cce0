/- Mem, Defs, Node, Row, SlDel, SlIns, Region -/
import Derived.WalkKit
import Derived.WalkLawsBesides
import Derived.WalkSpells
import Derived.Lib.Hide
import Derived.Deep.AppendSrc
import Derived.Test.YtbldcbakhpdigaaGreatRows
import Derived.Laws.CopyOwn
import Derived.Deep.RegionLaw
import Derived.Deep.RegionHeld3
import Derived.Lib.Overlaps
import Derived.OrdersHeld
import Derived.Deep.RegionHeld
/- What the walks say of memory: 'Keep M w w'' (only the blocks of M have changed), 'IsSl' (a slice's cells, read only). No program in sight. -/
namespace Go.Proofs.YtbldcbakhpdigaaGreat
open Go.RowKit

/-- where a walk is to stand still: an arm ends in 'refine Stop.of ?_'; one goes on by 'refine Stop.on ?_' -/
def Stop (p : Prop) : Prop := p
theorem Stop.of {p : Prop} (h : Stop p) : p := h
theorem Stop.on {p : Prop} (h : p) : Stop p := h

/-- Of the blocks that were there only those of M may have changed. -/
structure Keep (M : Nat → Prop) (w w' : World) : Prop where
  os : w'.os = w.os
  tape : w'.tape = w.tape
  output : w'.output = w.output
  size : w.heap.size ≤ w'.heap.size
  block : ∀ k, k < w.heap.size → ¬ M k → w'.heap[k]? = w.heap[k]?

theorem Keep.refl (M : Nat → Prop) (w : World) : Keep M w w := ⟨rfl, rfl, rfl, Nat.le_refl _, fun _ _ _ => rfl⟩

theorem Keep.trans {M M' : Nat → Prop} {a b c : World} (h : Keep M a b) (k : Keep M' b c) (hm : ∀ i, i < a.heap.size → M' i → M i) : Keep M a c :=
  ⟨k.os.trans h.os, k.tape.trans h.tape, k.output.trans h.output, Nat.le_trans h.size k.size,
    fun i hi hn => (k.block i (Nat.lt_of_lt_of_le hi h.size) (fun x => hn (hm i hi x))).trans (h.block i hi hn)⟩

theorem Keep.mono {M M' : Nat → Prop} {a b : World} (h : Keep M a b) (hm : ∀ i, i < a.heap.size → M i → M' i) : Keep M' a b :=
  ⟨h.os, h.tape, h.output, h.size, fun i hi hn => h.block i hi (fun x => hn (hm i hi x))⟩

theorem Keep.alloc {M : Nat → Prop} {a w : World} (h : Keep M a w) (o : Obj) : Keep M a (w.alloc o) :=
  ⟨h.os, h.tape, h.output, Nat.le_trans h.size (by simp), fun k hk hn => (Below.heap_alloc w o k (Nat.lt_of_lt_of_le hk h.size)).trans (h.block k hk hn)⟩

theorem Keep.drew {M : Nat → Prop} {a w : World} (h : Keep M a w) : Keep M a w.drew := ⟨h.os, h.tape, h.output, h.size, h.block⟩

theorem Keep.setCell {M : Nat → Prop} {a w : World} (h : Keep M a w) {p : Addr} (hp : a.heap.size ≤ p.block ∨ M p.block) (u : Value) : Keep M a (w.setCell p u) :=
  ⟨h.os, h.tape, h.output, Nat.le_trans h.size (by simp), fun k hk hn => (Below.heap_setCell w p u k (by rintro rfl; exact hp.elim (fun x => absurd hk (Nat.not_lt.2 x)) hn)).trans (h.block k hk hn)⟩

theorem Keep.of_below {w w' : World} (h : Below w.heap.size w w') (M : Nat → Prop) : Keep M w w' :=
  ⟨h.os, h.tape, h.output, h.size, fun k hk _ => h.block k hk⟩

theorem Keep.below {w w' : World} (h : Keep (fun _ => False) w w') : Below w.heap.size w w' :=
  ⟨h.os, h.tape, h.output, h.size, fun k hk => h.block k hk id⟩

theorem Keep.toBelow {M : Nat → Prop} {a b : World} (h : Keep M a b) {B : Nat} (hB : B ≤ a.heap.size) (hM : ∀ i, i < B → ¬ M i) : Below B a b :=
  ⟨h.os, h.tape, h.output, h.size, fun k hk => h.block k (Nat.lt_of_lt_of_le hk hB) (hM k hk)⟩

theorem Keep.grown {M : Nat → Prop} {a w w' : World} {row : Option Nat} (h : Keep M a w) (hg : w.grownBy w' row) (hr : ∀ k, row = some k → a.heap.size ≤ k ∨ M k) : Keep M a w' :=
  ⟨hg.os.trans h.os, hg.tape.trans h.tape, hg.output.trans h.output, Nat.le_trans h.size hg.size,
    fun k hk hn => (hg.block k (Nat.lt_of_lt_of_le hk h.size) (fun e => (hr k e.symm).elim (fun x => absurd hk (Nat.not_lt.2 x)) hn)).trans (h.block k hk hn)⟩

theorem Keep.cell {M : Nat → Prop} {w w' : World} (h : Keep M w w') {p : Addr} (hp : p.block < w.heap.size) (hn : ¬ M p.block) : w'.cell? p = w.cell? p :=
  World.cell?_of_block (w := w) (h.block p.block hp hn)

theorem Keep.frozen {M : Nat → Prop} {w w' : World} (h : Keep M w w') {p : Addr} (hp : p.block < w.heap.size) (hn : ¬ M p.block) : w'.frozen? p = w.frozen? p :=
  World.frozen?_of_block (w := w) (h.block p.block hp hn)

/-- No blocks: where there is no store. -/
def NoS : Nat → Prop := fun _ => False

/-- w' is behind w: of the old blocks only those of S may have changed; S' is S and, it may be, new ones. -/
def Step (S S' : Nat → Prop) (w w' : World) : Prop := Keep S w w' ∧ ∀ g, S' g → S g ∨ w.heap.size ≤ g

theorem Step.refl (S : Nat → Prop) (w : World) : Step S S w w := ⟨Keep.refl _ _, fun _ h => .inl h⟩

theorem Step.trans {S S' S'' : Nat → Prop} {a b c : World} (h : Step S S' a b) (k : Step S' S'' b c) : Step S S'' a c :=
  ⟨h.1.trans k.1 fun i hi hs => (h.2 i hs).elim id (fun x => absurd hi (Nat.not_lt.2 x)),
   fun g hg => (k.2 g hg).elim (fun x => h.2 g x) (fun x => .inr (Nat.le_trans h.1.size x))⟩

theorem Step.of_below {S : Nat → Prop} {w w' : World} (h : Below w.heap.size w w') : Step S S w w' := ⟨Keep.of_below h S, fun _ h => .inl h⟩

/-- v is a slice (nil, too) of n elements of k cells each: the cells xs, as w has them; it lies in no block of S. -/
def IsSl (w : World) (S : Nat → Prop) (k : Nat) (v : Value) (n : Nat) (xs : List Value) : Prop :=
  ∃ ao c, v = .slice ao n c ∧ n ≤ c ∧ c ≤ maxLen ∧ xs.length = n * k ∧ (ao = none → n = 0 ∧ c = 0) ∧ (∀ ad, ao = some ad → ad.spot = none ∧ ad.block < w.heap.size ∧ ¬ S ad.block) ∧
    ∀ j u, xs[j]? = some u → ∃ b o, ao = some ⟨b, o, none⟩ ∧ w.cell? ⟨b, o + j, none⟩ = some u

theorem IsSl.keep {w w' : World} {S S' : Nat → Prop} {k n : Nat} {v : Value} {xs : List Value} (h : IsSl w S k v n xs)
    (hb : ∀ g, v.ownBlock = some g → g < w.heap.size → ¬ S g → w'.heap[g]? = w.heap[g]? ∧ ¬ S' g) : IsSl w' S' k v n xs := by
  obtain ⟨ao, c, rfl, h1, h2, h3, h4, h5, h6⟩ := h
  refine ⟨ao, c, rfl, h1, h2, h3, h4, fun ad had => ?_, fun j u hu => ?_⟩
  · have := h5 ad had
    have hq := hb ad.block (by rw [had]; rfl) this.2.1 this.2.2
    refine ⟨this.1, ?_, hq.2⟩
    exact (Array.getElem?_eq_some_iff.1 (hq.1.trans (Array.getElem?_eq_getElem this.2.1))).1
  · obtain ⟨b, o, rfl, hc⟩ := h6 j u hu
    have := h5 _ rfl
    exact ⟨b, o, rfl, (World.cell?_of_block (w := w) (a := ⟨b, o + j, none⟩) (hb b rfl this.2.1 this.2.2).1).trans hc⟩

theorem IsSl.step {w w' : World} {S S' : Nat → Prop} {k n : Nat} {v : Value} {xs : List Value} (h : IsSl w S k v n xs) (hs : Step S S' w w') : IsSl w' S' k v n xs :=
  h.keep fun g _ hl hn => ⟨hs.1.block g hl hn, fun x => (hs.2 g x).elim hn (fun y => absurd hl (Nat.not_lt.2 y))⟩

theorem IsSl.below {w w' : World} {S : Nat → Prop} {k n : Nat} {v : Value} {xs : List Value} (h : IsSl w S k v n xs) (hs : Below w.heap.size w w') : IsSl w' S k v n xs :=
  h.step (Step.of_below hs)

theorem IsSl.nil (w : World) (S : Nat → Prop) (k : Nat) : IsSl w S k (.slice none 0 0) 0 [] :=
  ⟨none, 0, rfl, Nat.le_refl _, Nat.zero_le _, by simp, fun _ => ⟨rfl, rfl⟩, (fun _ h => by cases h), (fun j u h => by simp at h)⟩

theorem IsSl.form {w : World} {S : Nat → Prop} {k n : Nat} {v : Value} {xs : List Value} (h : IsSl w S k v n xs) :
    ∃ ao c, v = .slice ao n c ∧ n ≤ c ∧ c ≤ 9223372036854775807 ∧ (n = 0 ∨ ∃ b o, ao = some ⟨b, o, none⟩) ∧ (ao = none → c = 0) := by
  obtain ⟨ao, c, rfl, h1, h2, h3, h4, h5, h6⟩ := h
  refine ⟨ao, c, rfl, h1, by simpa [maxLen] using h2, ?_, fun h => (h4 h).2⟩
  rcases ao with _ | ⟨b, o, sp⟩
  · exact .inl (h4 rfl).1
  · obtain rfl : sp = none := (h5 _ rfl).1
    exact .inr ⟨b, o, rfl⟩

/-- s[:j] -/
theorem IsSl.upto {w : World} {S : Nat → Prop} {k n c : Nat} {ao : Option Addr} {xs : List Value} (h : IsSl w S k (.slice ao n c) n xs) (j : Nat) (hj : j ≤ n) : IsSl w S k (.slice ao j c) j (xs.take (j * k)) := by
  obtain ⟨ao', c', hv, h1, h2, h3, h4, h5, h6⟩ := h
  cases hv
  refine ⟨ao, c, rfl, by omega, h2, by rw [List.length_take, h3]; exact Nat.min_eq_left (Nat.mul_le_mul_right _ hj), fun e => ⟨by have := (h4 e).1; omega, (h4 e).2⟩, h5, fun i u hu => ?_⟩
  rw [List.getElem?_take] at hu
  split at hu
  · exact h6 i u hu
  · cases hu

/-- s[i:] -/
theorem IsSl.after {w : World} {S : Nat → Prop} {k n c : Nat} {ao : Option Addr} {xs : List Value} (h : IsSl w S k (.slice ao n c) n xs) (i : Nat) (hi : i ≤ n) :
    IsSl w S k (.slice (if c = i then ao else ao.map fun x => x.add (i * k)) (n - i) (c - i)) (n - i) (xs.drop (i * k)) := by
  obtain ⟨ao', c', hv, h1, h2, h3, h4, h5, h6⟩ := h
  cases hv
  have hlen : (xs.drop (i * k)).length = (n - i) * k := by rw [List.length_drop, h3, Nat.sub_mul]
  by_cases hc : c = i
  · rw [if_pos hc]
    have e : xs.drop (i * k) = [] := List.eq_nil_of_length_eq_zero (by rw [hlen, show n - i = 0 by omega, Nat.zero_mul])
    refine ⟨ao, c - i, rfl, by omega, by omega, hlen, fun e => ⟨by have := (h4 e).1; omega, by have := (h4 e).2; omega⟩, h5, fun j u hu => ?_⟩
    rw [e] at hu; simp at hu
  · rw [if_neg hc]
    refine ⟨_, c - i, rfl, by omega, by omega, hlen, fun e => ?_, fun ad had => ?_, fun j u hu => ?_⟩
    · cases ao with
      | none => have := h4 rfl; omega
      | some ad => cases e
    · cases ao with
      | none => cases had
      | some a0 =>
        have := h5 a0 rfl
        obtain ⟨b, o, sp⟩ := a0
        cases had
        have hs : sp = none := this.1
        subst hs
        simp only [Addr.add_lit]
        exact ⟨trivial, this.2⟩
    · rw [List.getElem?_drop] at hu
      obtain ⟨b, o, e, hc⟩ := h6 _ u hu
      subst e
      refine ⟨b, o + i * k, by simp [Addr.add_lit], ?_⟩
      rw [Nat.add_assoc]; exact hc

/-- the cell of element i of a slice whose elements are of one cell -/
theorem IsSl.at1 {w : World} {S : Nat → Prop} {v : Value} {n : Nat} {xs : List Value} (h : IsSl w S 1 v n xs) {ao : Option Addr} {n' c : Nat} (hv : v = .slice ao n' c) (i : Nat) (u : Value) (hu : xs[i]? = some u) :
    ∃ b o, ao = some ⟨b, o, none⟩ ∧ w.cell? ⟨b, o + i, none⟩ = some u := by
  obtain ⟨ao', c', rfl, _, _, _, _, _, h6⟩ := h
  cases hv
  exact h6 _ _ hu

/-- v is a slice (nil, too) of n elements that the call's own block holds from its head on: it may be written and appended to. -/
def OwnSl (w : World) (S : Nat → Prop) (B e k : Nat) (v : Value) (n : Nat) (xs : List Value) : Prop :=
  w.ownsRow B e k v n xs ∧ ∀ g, v.ownBlock = some g → ¬ S g

theorem OwnSl.isSl {w : World} {S : Nat → Prop} {B e k n : Nat} {v : Value} {xs : List Value} (h : OwnSl w S B e k v n xs) : IsSl w S k v n xs := by
  obtain ⟨⟨hl, hr⟩, hn⟩ := h
  rcases hr with ⟨rfl, rfl⟩ | ⟨g, cap, cur, rfl, _, hg, h1, h2, h3, h4⟩
  · have : xs = [] := List.eq_nil_of_length_eq_zero (by simpa using hl)
    subst this; exact IsSl.nil _ _ _
  · refine ⟨_, cap, rfl, h1, h2, hl, by simp, fun ad had => ?_, fun j u hu => ⟨g, 0, rfl, ?_⟩⟩
    · cases had; exact ⟨rfl, (Array.getElem?_eq_some_iff.1 hg).1, hn g rfl⟩
    · have hj := (List.getElem?_eq_some_iff.1 hu).1
      rw [Nat.zero_add]
      rw [cell_of_row w g j cur e (0, 0) hg]
      rw [← h4, List.getElem?_take] at hu
      split at hu
      · simpa using hu
      · cases hu

theorem OwnSl.nil (w : World) (S : Nat → Prop) (B e k : Nat) : OwnSl w S B e k (.slice none 0 0) 0 [] := ⟨World.ownsRow_nil w B e k, by simp [Value.ownBlock]⟩

theorem OwnSl.keep {w w' : World} {S S' : Nat → Prop} {B e k n : Nat} {v : Value} {xs : List Value} (h : OwnSl w S B e k v n xs)
    (hb : ∀ g, v.ownBlock = some g → g < w.heap.size → ¬ S g → w'.heap[g]? = w.heap[g]? ∧ ¬ S' g) : OwnSl w' S' B e k v n xs := by
  obtain ⟨⟨hl, hr⟩, hn⟩ := h
  rcases hr with ⟨rfl, rfl⟩ | ⟨g, cap, cur, rfl, h0, hg, h1⟩
  · exact ⟨⟨hl, .inl ⟨rfl, rfl⟩⟩, by simp [Value.ownBlock]⟩
  · have := hb g rfl (Array.getElem?_eq_some_iff.1 hg).1 (hn g rfl)
    exact ⟨⟨hl, .inr ⟨g, cap, cur, rfl, h0, this.1.trans hg, h1⟩⟩, fun g' hg' => by cases hg'; exact this.2⟩

theorem OwnSl.lt {w : World} {S : Nat → Prop} {B e k n : Nat} {v : Value} {xs : List Value} (h : OwnSl w S B e k v n xs) : v.ownBlock ≠ some w.heap.size := fun e => absurd (h.1.lt _ e).2 (Nat.lt_irrefl _)
theorem OwnSl.lt' {w : World} {S : Nat → Prop} {B e k n : Nat} {v : Value} {xs : List Value} (h : OwnSl w S B e k v n xs) {g : Nat} (hg : w.heap.size ≤ g) : v.ownBlock ≠ some g := fun e => absurd (h.1.lt _ e).2 (Nat.not_lt.2 hg)
theorem OwnSl.drew {w : World} {S : Nat → Prop} {B e k n : Nat} {v : Value} {xs : List Value} (h : OwnSl w S B e k v n xs) : OwnSl w.drew S B e k v n xs := h

theorem OwnSl.step {w w' : World} {S S' : Nat → Prop} {B e k n : Nat} {v : Value} {xs : List Value} (h : OwnSl w S B e k v n xs) (hs : Step S S' w w') : OwnSl w' S' B e k v n xs :=
  h.keep fun g _ hl hn => ⟨hs.1.block g hl hn, fun x => (hs.2 g x).elim hn (fun y => absurd hl (Nat.not_lt.2 y))⟩

theorem OwnSl.below {w w' : World} {S : Nat → Prop} {B e k n : Nat} {v : Value} {xs : List Value} (h : OwnSl w S B e k v n xs) (hs : Below w.heap.size w w') : OwnSl w' S B e k v n xs :=
  h.step (Step.of_below hs)

/-- what an append's second argument yields: a slice, nil too -/
theorem IsSl.src {P : Program} {w : World} {S : Nat → Prop} {k n : Nat} {v : Value} {xs : List Value} (h : IsSl w S k v n xs) {tx e' : TypeId} (hk : P.underlying tx = some (.slice e')) (h1 : ∀ u ∈ xs, u.oneCell' = true) : Src P k tx v n xs w := by
  obtain ⟨ao, c, rfl, _, _, h3, h4, h5, h6⟩ := h
  cases ao with
  | none =>
    obtain ⟨rfl, rfl⟩ := h4 rfl
    have : xs = [] := List.eq_nil_of_length_eq_zero (by simpa using h3)
    subst this
    exact Src.ofNil w hk 0
  | some ad =>
    obtain ⟨b, o, sp⟩ := ad
    obtain rfl : sp = none := (h5 _ rfl).1
    refine Src.ofSlice w hk ⟨b, o, none⟩ n c xs h3 (fun j u hu => ?_) h1
    obtain ⟨b', o', e, hc⟩ := h6 j u hu
    cases e
    rw [Addr.add_lit]; exact hc

/-- what an append's second argument yields: a block that has just been laid -/
theorem src_new {P : Program} {w : World} (cs : List Value) (T k n c : Nat) {tx e' : TypeId} {g : Nat} (hg : w.heap.size = g) (hk : P.underlying tx = some (.slice e')) (hl : cs.length = n * k) (h1 : ∀ u ∈ cs, u.oneCell' = true) :
    Src P k tx (.slice (some ⟨g, 0, none⟩) n c) n cs (w.alloc (.cells cs.toArray T)) := by
  subst hg
  refine Src.ofSlice _ hk _ n c cs hl (fun j u hu => ?_) h1
  rw [Addr.add_lit, Nat.zero_add, World.cell?_alloc_new]
  simpa using hu

theorem own_new {w : World} {S : Nat → Prop} {B e k : Nat} (cs : List Value) (n c : Nat) {g : Nat} (hg : w.heap.size = g) (hl : cs.length = c * k) (hnc : n ≤ c) (hc : c ≤ maxLen) (hB : B ≤ w.heap.size) (hS : ∀ g, S g → g < w.heap.size) :
    OwnSl (w.alloc (.cells cs.toArray e)) S B e k (.slice (some ⟨g, 0, none⟩) n c) n (cs.take (n * k)) := by
  subst hg
  refine ⟨⟨?_, .inr ⟨_, c, _, rfl, hB, heap_alloc_new w _, hnc, hc, by simpa using hl, rfl⟩⟩, fun g hg hs => ?_⟩
  · rw [List.length_take, hl]; exact Nat.min_eq_left (Nat.mul_le_mul_right _ hnc)
  · cases hg; exact absurd (hS _ hs) (Nat.lt_irrefl _)

theorem sub_alloc {S : Nat → Prop} {w : World} (h : ∀ g, S g → g < w.heap.size) (o : Obj) : ∀ g, S g → g < (w.alloc o).heap.size := fun g hg => by
  rw [World.size_alloc]; exact Nat.lt_succ_of_lt (h g hg)
theorem sub_below {S : Nat → Prop} {w w' : World} {B : Nat} (h : ∀ g, S g → g < w.heap.size) (hb : Below B w w') : ∀ g, S g → g < w'.heap.size := fun g hg => Nat.lt_of_lt_of_le (h g hg) hb.size
theorem below_one (w : World) (o : Obj) : Below w.heap.size w (w.alloc o) := (Below.refl _ _).alloc (Nat.le_refl _) _
theorem below_two (w : World) (o o' : Obj) : Below w.heap.size w ((w.alloc o).alloc o') := (below_one w o).alloc (by simp) _
theorem below_three (w : World) (o o' o'' : Obj) : Below w.heap.size w (((w.alloc o).alloc o').alloc o'') := (below_two w o o').alloc (by simp; omega) _

section
variable {P : Program}

theorem run_app (w : World) (S : Nat → Prop) (B : Nat) (t tx ty e : TypeId) (i : TypeInfo) (z : Value) (k bytes : Nat) (ht : P.underlying t = some (.slice e)) (hi : P.info? e = some i) (hz : i.zero = some z)
    (hsize : i.size = k) (hby : i.bytes = bytes) (hzs : z.cells.size = k)
    (v : Value) (n : Nat) (xs : List Value) (hown : OwnSl w S B e k v n xs) (x : Value) (m : Nat) (news : List Value) (hs : Src P k tx x m news w)
    (hS : ∀ g, S g → g < w.heap.size) (hbase : B ≤ w.heap.size) (h63 : n + m ≤ maxLen) (hbytes : (n + m) * bytes ≤ 140737488355328) :
    ∃ ao c w', (Builtin.append_ #[t, tx] ty #[v, x]).run P w = .ok (.slice ao (n + m) c) w' ∧ OwnSl w' S B e k (.slice ao (n + m) c) (n + m) (xs ++ news) ∧ Keep (fun g => v.ownBlock = some g) w w' ∧ Below B w w' ∧
      (∀ g, g < w.heap.size → v.ownBlock ≠ some g → (Value.slice ao (n + m) c).ownBlock ≠ some g) := by
  suffices hsuf : ∃ ao c w', (Builtin.append_ #[t, tx] ty #[v, x]).run P w = .ok (.slice ao (n + m) c) w' ∧ OwnSl w' S B e k (.slice ao (n + m) c) (n + m) (xs ++ news) ∧ Keep (fun g => v.ownBlock = some g) w w' ∧
      ((Value.slice ao (n + m) c).ownBlock = v.ownBlock ∨ ∃ g, ao = some ⟨g, 0, none⟩ ∧ w.heap.size ≤ g) by
    obtain ⟨ao, c, w', h1, h2, h3, h4⟩ := hsuf
    exact ⟨ao, c, w', h1, h2, h3, ⟨h3.os, h3.tape, h3.output, h3.size, fun g hg => h3.block g (Nat.lt_of_lt_of_le hg hbase) (fun e => absurd (hown.1.lt g e).1 (Nat.not_le.2 hg))⟩, fun g hg hne => h4.elim (fun e => e ▸ hne) (fun ⟨g', e, hge⟩ => by rw [e]; intro e'; cases e'; exact absurd hg (Nat.not_lt.2 hge))⟩
  subst hsize
  subst hby
  have hsmall : n + m ≤ 9223372036854775807 := by simp only [maxLen] at h63; omega
  have hlen : (xs ++ news).length = (n + m) * i.size := by rw [List.length_append, hown.1.1, hs.newsLen, Nat.add_mul]
  have grown : ∀ (old : Nat), old < n + m →
      OwnSl (w.drew.alloc (.cells ((xs ++ news).toArray ++ Builtin.zeroCells z.cells (grownCap w (n + m) old e - (n + m))) e)) S B e i.size
        (.slice (some ⟨w.heap.size, 0, none⟩) (n + m) (grownCap w (n + m) old e)) (n + m) (xs ++ news) ∧
      Keep (fun g => v.ownBlock = some g) w (w.drew.alloc (.cells ((xs ++ news).toArray ++ Builtin.zeroCells z.cells (grownCap w (n + m) old e - (n + m))) e)) := by
    intro old ho
    have hge := grownCap_ge w (n + m) old e
    have hcm : grownCap w (n + m) old e ≤ maxLen := grownCap_le_maxLen w (n + m) old e h63
    refine ⟨⟨⟨hlen, .inr ⟨w.heap.size, _, _, rfl, hbase, heap_alloc_new w.drew _, hge, hcm, ?_, ?_⟩⟩, fun g hg hh => ?_⟩, (Keep.refl _ w).drew.alloc _⟩
    · simp only [Array.size_append, List.size_toArray, hlen, size_zeroCells, hzs, ← Nat.add_mul]
      congr 1
      omega
    · simp only [Array.toList_append]
      rw [← hlen]
      exact List.take_left
    · cases hg; exact absurd (hS _ hh) (Nat.lt_irrefl _)
  rcases hown.1.2 with ⟨rfl, rfl⟩ | ⟨g, cap, cur, rfl, hbg, hg, hnc, hcm, hcs, htake⟩
  · have hx : xs = [] := List.eq_nil_of_length_eq_zero (by simpa using hown.1.1)
    subst hx
    by_cases hm : m = 0
    · subst hm
      have hn : news = [] := List.eq_nil_of_length_eq_zero (by simpa using hs.newsLen)
      subst hn
      refine ⟨none, 0, w, ?_, OwnSl.nil w S B e i.size, Keep.refl _ _, .inl rfl⟩
      rcases hs.kind with ⟨e', hk⟩ | hk <;> simp [Builtin.append_, run_underlying ht, run_underlying hk, sizeOf, typeInfo, hi, hs.len, hs.cells]
    · have hr := run_append_grow_src (P := P) w t tx ty e i z ht hi hz none 0 0 [] (run_firstCells_none w.drew i.size 0 0 0) x m news hs (by omega) (by omega) (growslice_fits (by omega) hbytes)
      have hgr := grown 0 (by omega)
      exact ⟨_, _, _, hr, hgr.1, hgr.2, .inr ⟨_, rfl, Nat.le_refl _⟩⟩
  · by_cases hroom : n + m ≤ cap
    · have hfit : n * i.size + news.length ≤ cur.size := by rw [hs.newsLen, hcs, ← Nat.add_mul]; exact Nat.mul_le_mul_right _ hroom
      have hst := run_storeCells_at P g (n * i.size) e news 0 cur w hg (by simpa using hfit) hs.one
      simp only [Nat.add_zero] at hst
      refine ⟨some ⟨g, 0, none⟩, cap, w.setRow g (cur.toList.take (n * i.size) ++ news ++ cur.toList.drop (n * i.size + news.length)).toArray, ?_, ⟨⟨hlen, .inr ⟨g, cap, _, rfl, hbg, setRow_heap w g cur _ e _ hg, hroom, hcm, ?_, ?_⟩⟩, hown.2⟩,
        ⟨rfl, rfl, rfl, by simp, fun k' _ hk => setRow_other w g k' _ (fun e => hk (by simp [Value.ownBlock, e]))⟩, .inl rfl⟩
      · rcases hs.kind with ⟨e', hk⟩ | hk <;> simp [Builtin.append_, run_underlying ht, run_underlying hk, sizeOf, typeInfo, hi, hs.len, hroom, hs.cells, Addr.add_lit, hst]
      · simp only [List.size_toArray, List.length_append, List.length_take, List.length_drop, Array.length_toList]
        omega
      · rw [htake, ← hlen]
        exact List.take_left
    · have hold : (Builtin.firstCells i.size n (.slice (some ⟨g, 0, none⟩) n cap)).run P w.drew = .ok xs.toArray w.drew :=
        run_firstCells_some w.drew i.size n ⟨g, 0, none⟩ n cap xs hown.1.1 (fun j u hu => by simpa using hown.1.cells (g := g) rfl j u hu)
      have hr := run_append_grow_src (P := P) w t tx ty e i z ht hi hz (some ⟨g, 0, none⟩) n cap xs hold x m news hs (by omega) (by omega) (growslice_fits (by omega) hbytes)
      have hgr := grown cap (by omega)
      exact ⟨_, _, _, hr, hgr.1, hgr.2, .inr ⟨_, rfl, Nat.le_refl _⟩⟩

/-- 'append' in the walk -/
theorem wp_app {o : Oper} {a : Act} {w : World} {K : Act → World → Prop} {Q : Exit → Act → World → Prop} (s y : Operand) (t tx : TypeId) (ho : o.op = .call { callee := .builtin .append, args := #[s, y], argTypes := #[t, tx] })
    (S : Nat → Prop) (B : Nat) (e : TypeId) (k bytes : Nat) (z : Value) (ht : P.underlying t = some (.slice e)) (hinfo : (P.info? e).map (fun i => (i.zero, i.size, i.bytes)) = some (some z, k, bytes)) (hzs : z.cells.size = k)
    (v : Value) (n : Nat) (xs : List Value) (hv : a.eval s = v) (hown : OwnSl w S B e k v n xs) (x : Value) (m : Nat) (news : List Value) (hx : a.eval y = x) (hs : Src P k tx x m news w)
    (hS : ∀ g, S g → g < w.heap.size) (hbase : B ≤ w.heap.size) (h63 : n + m ≤ maxLen) (hbytes : (n + m) * bytes ≤ 140737488355328)
    (h : ∀ ao c w', OwnSl w' S B e k (.slice ao (n + m) c) (n + m) (xs ++ news) → Keep (fun g => v.ownBlock = some g) w w' → Below B w w' →
      (∀ g, g < w.heap.size → v.ownBlock ≠ some g → (Value.slice ao (n + m) c).ownBlock ≠ some g) → K (a.put o.dst (.slice ao (n + m) c)) w') : o.wp P a w K Q := by
  obtain ⟨i, hi, hz, hsize, hby⟩ := info_parts hinfo
  obtain ⟨ao, c, w', hr, h2, h3, h3b, h4⟩ := run_app (P := P) w S B t tx o.type e i z k bytes ht hi hz hsize hby hzs v n xs hown x m news hs hS hbase h63 hbytes
  unfold Oper.wp execOp
  simp only [ho, resolve, invoke, builtin, Sem.run_bind, Sem.run_pure, Result.andThen_ok, List.map_toArray, List.map_cons, List.map_nil, hv, hx, hr]
  exact h ao c w' h2 h3 h3b h4

theorem wpList_app {ops : Array Oper} {rest : List Oper} {o : Oper} {a : Act} {w : World} {Q : Exit → Act → World → Prop} (hgd : o.guard = none) (s y : Operand) (t tx : TypeId) (ho : o.op = .call { callee := .builtin .append, args := #[s, y], argTypes := #[t, tx] })
    (S : Nat → Prop) (B : Nat) (e : TypeId) (k bytes : Nat) (z : Value) (ht : P.underlying t = some (.slice e)) (hinfo : (P.info? e).map (fun i => (i.zero, i.size, i.bytes)) = some (some z, k, bytes)) (hzs : z.cells.size = k)
    (v : Value) (n : Nat) (xs : List Value) (hv : a.eval s = v) (hown : OwnSl w S B e k v n xs) (x : Value) (m : Nat) (news : List Value) (hx : a.eval y = x) (hs : Src P k tx x m news w)
    (hS : ∀ g, S g → g < w.heap.size) (hbase : B ≤ w.heap.size) (h63 : n + m ≤ maxLen) (hbytes : (n + m) * bytes ≤ 140737488355328)
    (h : ∀ ao c w', OwnSl w' S B e k (.slice ao (n + m) c) (n + m) (xs ++ news) → Keep (fun g => v.ownBlock = some g) w w' → Below B w w' →
      (∀ g, g < w.heap.size → v.ownBlock ≠ some g → (Value.slice ao (n + m) c).ownBlock ≠ some g) → wpList P ops Q rest (a.put o.dst (.slice ao (n + m) c)) w') : wpList P ops Q (o :: rest) a w :=
  wpList_plain hgd fun _ hK => wp_app s y t tx ho S B e k bytes z ht hinfo hzs v n xs hv hown x m news hx hs hS hbase h63 hbytes fun ao c w' h2 h3 h3b h4 => hK _ _ (h ao c w' h2 h3 h3b h4)

theorem step_app {ops : Array Oper} {o : Oper} {a : Act} {w : World} {K : Act → World → Prop} {Q : Exit → Act → World → Prop} {E : Prop} (hgd : o.guard = none) (s y : Operand) (t tx : TypeId) (ho : o.op = .call { callee := .builtin .append, args := #[s, y], argTypes := #[t, tx] })
    (S : Nat → Prop) (B : Nat) (e : TypeId) (k bytes : Nat) (z : Value) (ht : P.underlying t = some (.slice e)) (hinfo : (P.info? e).map (fun i => (i.zero, i.size, i.bytes)) = some (some z, k, bytes)) (hzs : z.cells.size = k)
    (v : Value) (n : Nat) (xs : List Value) (hv : a.eval s = v) (hown : OwnSl w S B e k v n xs) (x : Value) (m : Nat) (news : List Value) (hx : a.eval y = x) (hs : Src P k tx x m news w)
    (hS : ∀ g, S g → g < w.heap.size) (hbase : B ≤ w.heap.size) (h63 : n + m ≤ maxLen) (hbytes : (n + m) * bytes ≤ 140737488355328)
    (h : ∀ ao c w', OwnSl w' S B e k (.slice ao (n + m) c) (n + m) (xs ++ news) → Keep (fun g => v.ownBlock = some g) w w' → Below B w w' →
      (∀ g, g < w.heap.size → v.ownBlock ≠ some g → (Value.slice ao (n + m) c).ownBlock ≠ some g) → K (a.put o.dst (.slice ao (n + m) c)) w') :
    if Region.wanted o (yielded ops a.tmps) = true then Oper.wp P o a w K Q else E := by
  have hw : Region.wanted o (yielded ops a.tmps) = true := by simp [Region.wanted, hgd]
  rw [if_pos hw]
  exact wp_app s y t tx ho S B e k bytes z ht hinfo hzs v n xs hv hown x m news hx hs hS hbase h63 hbytes h
end

/-- The cells of a list of pairs of strings. -/
def prCells (ps : List (ByteArray × ByteArray)) : List Value := ps.flatMap fun p => [.string p.1, .string p.2]

theorem prCells_length (ps : List (ByteArray × ByteArray)) : (prCells ps).length = ps.length * 2 := by
  induction ps with
  | nil => rfl
  | cons p ps ih => simp [prCells, List.flatMap_cons] at *; omega

theorem prCells_cons (p : ByteArray × ByteArray) (ps : List (ByteArray × ByteArray)) : prCells (p :: ps) = .string p.1 :: .string p.2 :: prCells ps := rfl

theorem prCells_get (ps : List (ByteArray × ByteArray)) : ∀ i (h : i < ps.length), (prCells ps)[i * 2]? = some (.string ps[i].1) ∧ (prCells ps)[i * 2 + 1]? = some (.string ps[i].2) := by
  induction ps with
  | nil => intro i h; exact absurd h (by simp)
  | cons p ps ih =>
    intro i h
    cases i with
    | zero => simp [prCells_cons]
    | succ i =>
      have := ih i (by simpa using h)
      rw [prCells_cons]
      refine ⟨?_, ?_⟩
      · have e : (i + 1) * 2 = i * 2 + 1 + 1 := by omega
        rw [e, List.getElem?_cons_succ, List.getElem?_cons_succ]; exact this.1
      · have e : (i + 1) * 2 + 1 = (i * 2 + 1) + 1 + 1 := by omega
        rw [e, List.getElem?_cons_succ, List.getElem?_cons_succ]; exact this.2

theorem prCells_append (a b : List (ByteArray × ByteArray)) : prCells (a ++ b) = prCells a ++ prCells b := by simp [prCells]

/-- the cells of bytes -/
def bCells (l : List UInt8) : List Value := l.map fun b => .int .u8 (b.toNat : Int)
theorem bCells_append (a b : List UInt8) : bCells (a ++ b) = bCells a ++ bCells b := by simp [bCells]
theorem bCells_length (l : List UInt8) : (bCells l).length = l.length := by simp [bCells]
theorem byteCells_eq (s : ByteArray) : byteCells s = bCells s.data.toList := rfl

/-- slices of pairs, of strings, of ints, of bytes -/
def IsPrs (w : World) (S : Nat → Prop) (v : Value) (ps : List (ByteArray × ByteArray)) : Prop := IsSl w S 2 v ps.length (prCells ps)
def IsStrs (w : World) (S : Nat → Prop) (v : Value) (ss : List ByteArray) : Prop := IsSl w S 1 v ss.length (ss.map .string)
def IsInts (w : World) (S : Nat → Prop) (v : Value) (zs : List Int) : Prop := IsSl w S 1 v zs.length (zs.map (.int .i64))
def IsBytes (w : World) (S : Nat → Prop) (v : Value) (l : List UInt8) : Prop := IsSl w S 1 v l.length (bCells l)

theorem IsInts.at {w : World} {S : Nat → Prop} {v : Value} {zs : List Int} {ao : Option Addr} {n c : Nat} (h : IsInts w S v zs) (hv : v = .slice ao n c) (i : Nat) (hi : i < zs.length) :
    ∃ b o, ao = some ⟨b, o, none⟩ ∧ w.cell? ⟨b, o + i, none⟩ = some (.int .i64 zs[i]) := IsSl.at1 h hv i _ (by simp [hi])
theorem IsStrs.at {w : World} {S : Nat → Prop} {v : Value} {ss : List ByteArray} {ao : Option Addr} {n c : Nat} (h : IsStrs w S v ss) (hv : v = .slice ao n c) (i : Nat) (hi : i < ss.length) :
    ∃ b o, ao = some ⟨b, o, none⟩ ∧ w.cell? ⟨b, o + i, none⟩ = some (.string ss[i]) := IsSl.at1 h hv i _ (by simp [hi])
theorem IsBytes.at {w : World} {S : Nat → Prop} {v : Value} {l : List UInt8} {ao : Option Addr} {n c : Nat} (h : IsBytes w S v l) (hv : v = .slice ao n c) (i : Nat) (hi : i < l.length) :
    ∃ b o, ao = some ⟨b, o, none⟩ ∧ w.cell? ⟨b, o + i, none⟩ = some (.int .u8 (l[i].toNat : Int)) := IsSl.at1 h hv i _ (by simp [bCells, hi])

theorem IsPrs.at {w : World} {S : Nat → Prop} {v : Value} {ps : List (ByteArray × ByteArray)} {ao : Option Addr} {n c : Nat} (h : IsPrs w S v ps) (hv : v = .slice ao n c) (i : Nat) (hi : i < ps.length) :
    ∃ b o, ao = some ⟨b, o, none⟩ ∧ w.cell? ⟨b, o + i * 2, none⟩ = some (.string ps[i].1) ∧ w.cell? ⟨b, o + i * 2 + 1, none⟩ = some (.string ps[i].2) := by
  obtain ⟨ao', c', rfl, _, _, _, _, _, h6⟩ := h
  cases hv
  have hg := prCells_get ps i hi
  obtain ⟨b, o, e, h1⟩ := h6 _ _ hg.1
  obtain ⟨b', o', e', h2⟩ := h6 _ _ hg.2
  rw [e] at e'; cases e'
  exact ⟨b, o, e, h1, h2⟩

theorem one_strs (ss : List ByteArray) : ∀ u ∈ ss.map Value.string, u.oneCell' = true := by
  intro u hu; obtain ⟨_, _, rfl⟩ := List.mem_map.1 hu; rfl
theorem one_bytes (l : List UInt8) : ∀ u ∈ bCells l, u.oneCell' = true := by
  intro u hu; obtain ⟨_, _, rfl⟩ := List.mem_map.1 hu; rfl
theorem one_prs (ps : List (ByteArray × ByteArray)) : ∀ u ∈ prCells ps, u.oneCell' = true := by
  intro u hu
  obtain ⟨p, _, hp⟩ := List.mem_flatMap.1 hu
  simp at hp; rcases hp with rfl | rfl <;> rfl

end Go.Proofs.YtbldcbakhpdigaaGreat

/- What the nodes of the tree are, in plain Lean. No program in sight. -/
namespace Go.Proofs.YtbldcbakhpdigaaGreat

abbrev Pr := ByteArray × ByteArray

/-- a node: a leaf has pairs, an inner one kids and keys -/
structure Nd where
  pairs : List Pr
  keys : List ByteArray
  kids : List Int

def prSize (ps : List Pr) : Nat := (ps.map fun p => 2 + p.1.size + p.2.size).sum
def keySize (ks : List ByteArray) : Nat := (ks.map fun k => 1 + k.size).sum
def Nd.size (n : Nd) : Nat := 2 + prSize n.pairs + keySize n.keys + 2 * n.kids.length

theorem prSize_cons (p : Pr) (ps : List Pr) : prSize (p :: ps) = 2 + p.1.size + p.2.size + prSize ps := by simp [prSize]
theorem keySize_cons (k : ByteArray) (ks : List ByteArray) : keySize (k :: ks) = 1 + k.size + keySize ks := by simp [keySize]
theorem prSize_append (a b : List Pr) : prSize (a ++ b) = prSize a + prSize b := by simp [prSize]
theorem keySize_append (a b : List ByteArray) : keySize (a ++ b) = keySize a + keySize b := by simp [keySize]
theorem prSize_take (ps : List Pr) (i : Nat) (h : i < ps.length) : prSize (ps.take (i + 1)) = prSize (ps.take i) + (2 + ps[i].1.size + ps[i].2.size) := by
  rw [List.take_succ_eq_append_getElem h, prSize_append]; simp [prSize]
theorem keySize_take (ps : List ByteArray) (i : Nat) (h : i < ps.length) : keySize (ps.take (i + 1)) = keySize (ps.take i) + (1 + ps[i].size) := by
  rw [List.take_succ_eq_append_getElem h, keySize_append]; simp [keySize]
theorem prSize_take_le (ps : List Pr) (i : Nat) : prSize (ps.take i) ≤ prSize ps := by
  have := prSize_append (ps.take i) (ps.drop i); rw [List.take_append_drop] at this; omega
theorem keySize_take_le (ps : List ByteArray) (i : Nat) : keySize (ps.take i) ≤ keySize ps := by
  have := keySize_append (ps.take i) (ps.drop i); rw [List.take_append_drop] at this; omega
theorem length_le_prSize (ps : List Pr) : 2 * ps.length ≤ prSize ps := by
  induction ps with
  | nil => simp [prSize]
  | cons p ps ih => rw [prSize_cons]; simp; omega
theorem length_le_keySize (ps : List ByteArray) : ps.length ≤ keySize ps := by
  induction ps with
  | nil => simp [keySize]
  | cons p ps ih => rw [keySize_cons]; simp; omega

/-- a byte, as Go's byte(n) has it -/
def b8 (n : Nat) : UInt8 := UInt8.ofNat n
def encPr (p : Pr) : List UInt8 := [b8 p.1.size, b8 p.2.size] ++ p.1.data.toList ++ p.2.data.toList
def encKid (k : Int) : List UInt8 := [b8 k.toNat, b8 (k.toNat / 256)]
def encKey (k : ByteArray) : List UInt8 := b8 k.size :: k.data.toList
def encPrs (ps : List Pr) : List UInt8 := ps.flatMap encPr
def encKids (ks : List Int) : List UInt8 := ks.flatMap encKid
def encKeys (ks : List ByteArray) : List UInt8 := ks.flatMap encKey
/-- a node, laid into bytes -/
def Nd.enc (n : Nd) : List UInt8 := [b8 n.pairs.length, b8 n.kids.length] ++ encPrs n.pairs ++ encKids n.kids ++ encKeys n.keys

theorem take_succ_flatMap {α β : Type} (f : α → List β) (l : List α) (i : Nat) (h : i < l.length) : (l.take (i + 1)).flatMap f = (l.take i).flatMap f ++ f l[i] := by
  rw [List.take_succ_eq_append_getElem h, List.flatMap_append, List.flatMap_cons, List.flatMap_nil, List.append_nil]
theorem length_bytes (s : ByteArray) : s.data.toList.length = s.size := by rw [Array.length_toList]; rfl
theorem encPr_length (p : Pr) : (encPr p).length = 2 + p.1.size + p.2.size := by
  simp only [encPr, List.length_append, length_bytes, List.length_cons, List.length_nil]
theorem encPrs_length (ps : List Pr) : (encPrs ps).length = prSize ps := by
  induction ps with
  | nil => rfl
  | cons p ps ih => rw [prSize_cons]; simp only [encPrs, List.flatMap_cons, List.length_append, encPr_length] at *; omega
theorem encKids_length (ks : List Int) : (encKids ks).length = 2 * ks.length := by
  induction ks with
  | nil => rfl
  | cons p ps ih => simp only [encKids, List.flatMap_cons, List.length_append, encKid, List.length_cons, List.length_nil] at *; omega
theorem encKeys_length (ks : List ByteArray) : (encKeys ks).length = keySize ks := by
  induction ks with
  | nil => rfl
  | cons p ps ih => rw [keySize_cons]; simp only [encKeys, List.flatMap_cons, List.length_append, encKey, List.length_cons, length_bytes] at *; omega
theorem Nd.enc_length (n : Nd) : n.enc.length = n.size := by
  simp only [Nd.enc, Nd.size, List.length_append, encPrs_length, encKids_length, encKeys_length, List.length_cons, List.length_nil]; omega

/-- a node that its bytes tell -/
structure Nd.Fits (n : Nd) : Prop where
  np : n.pairs.length < 256
  nk : n.kids.length < 256
  pr : ∀ p ∈ n.pairs, p.1.size < 256 ∧ p.2.size < 256
  ky : ∀ k ∈ n.keys, k.size < 256
  kd : ∀ k ∈ n.kids, 0 ≤ k ∧ k < 65536
  kk : n.keys.length = n.kids.length - 1
  one : n.pairs = [] ↔ n.kids ≠ []

theorem b8_toNat (n : Nat) (h : n < 256) : (b8 n).toNat = n := by simp [b8]; omega
theorem drop_flatMap {α β : Type} (f : α → List β) (l : List α) (i : Nat) (h : i < l.length) : (l.drop i).flatMap f = f l[i] ++ (l.drop (i + 1)).flatMap f := by
  rw [List.drop_eq_getElem_cons h, List.flatMap_cons]

end Go.Proofs.YtbldcbakhpdigaaGreat

/- The walks over a node: leaf, size. -/
namespace Go.Proofs.YtbldcbakhpdigaaGreat
open Go.RowKit

/-- block b is a node's struct; it reads as nd -/
def IsNode (w : World) (S : Nat → Prop) (b : Nat) (nd : Nd) : Prop :=
  ¬ S b ∧ ∃ v0 v1 v2, w.heap[b]? = some (.cells #[v0, v1, v2] 74 (0, 0)) ∧ IsPrs w S v0 nd.pairs ∧ IsStrs w S v1 nd.keys ∧ IsInts w S v2 nd.kids

theorem cells3 {w : World} {b t : Nat} {v0 v1 v2 : Value} (h : w.heap[b]? = some (.cells #[v0, v1, v2] t (0, 0))) :
    w.cell? ⟨b, 0, none⟩ = some v0 ∧ w.cell? ⟨b, 1, none⟩ = some v1 ∧ w.cell? ⟨b, 2, none⟩ = some v2 ∧
    w.frozen? ⟨b, 0, none⟩ = false ∧ w.frozen? ⟨b, 1, none⟩ = false ∧ w.frozen? ⟨b, 2, none⟩ = false ∧ b < w.heap.size := by
  refine ⟨?_, ?_, ?_, ?_, ?_, ?_, (Array.getElem?_eq_some_iff.1 h).1⟩ <;> simp [World.cell?, World.frozen?, h]

theorem IsNode.step {w w' : World} {S S' : Nat → Prop} {b : Nat} {nd : Nd} (h : IsNode w S b nd) (hs : Step S S' w w') : IsNode w' S' b nd := by
  obtain ⟨hS, v0, v1, v2, hb, h0, h1, h2⟩ := h
  have hl := (Array.getElem?_eq_some_iff.1 hb).1
  exact ⟨fun x => (hs.2 b x).elim hS (fun y => absurd hl (Nat.not_lt.2 y)), v0, v1, v2, (hs.1.block b hl hS).trans hb, IsSl.step h0 hs, IsSl.step h1 hs, IsSl.step h2 hs⟩
theorem IsNode.below {w w' : World} {S : Nat → Prop} {b : Nat} {nd : Nd} (h : IsNode w S b nd) (hs : Below w.heap.size w w') : IsNode w' S b nd := h.step (Step.of_below hs)

/-- a node of the call's own: its slices may be written and appended to -/
def OwnNode (w : World) (S : Nat → Prop) (B : Nat) (b : Nat) (nd : Nd) : Prop :=
  ¬ S b ∧ B ≤ b ∧ ∃ v0 v1 v2, w.heap[b]? = some (.cells #[v0, v1, v2] 74 (0, 0)) ∧ OwnSl w S B 53 2 v0 nd.pairs.length (prCells nd.pairs) ∧ OwnSl w S B 9 1 v1 nd.keys.length (nd.keys.map .string) ∧ OwnSl w S B 3 1 v2 nd.kids.length (nd.kids.map (.int .i64))

theorem OwnNode.isNode {w : World} {S : Nat → Prop} {B b : Nat} {nd : Nd} (h : OwnNode w S B b nd) : IsNode w S b nd := by
  obtain ⟨h1, _, v0, v1, v2, hb, h2, h3, h4⟩ := h
  exact ⟨h1, v0, v1, v2, hb, h2.isSl, h3.isSl, h4.isSl⟩
theorem OwnNode.step {w w' : World} {S S' : Nat → Prop} {B b : Nat} {nd : Nd} (h : OwnNode w S B b nd) (hs : Step S S' w w') : OwnNode w' S' B b nd := by
  obtain ⟨hS, hB, v0, v1, v2, hb, h0, h1, h2⟩ := h
  have hl := (Array.getElem?_eq_some_iff.1 hb).1
  exact ⟨fun x => (hs.2 b x).elim hS (fun y => absurd hl (Nat.not_lt.2 y)), hB, v0, v1, v2, (hs.1.block b hl hS).trans hb, h0.step hs, h1.step hs, h2.step hs⟩

theorem leaf_any (b : Nat) (nd : Nd) (w : World) (S : Nat → Prop) (h : IsNode w S b nd) :
    Calls Tryz.prog 37 #[.pointer (some ⟨b, 0, none⟩)] w fun e w' => e = .returned (.bool (nd.kids.isEmpty)) ∧ w = w' := by
  obtain ⟨_, v0, v1, v2, hb, h0, h1, ao, c, rfl, _, _, _, _, _, _⟩ := h
  obtain ⟨c0, c1, c2, f0, f1, f2, hlt⟩ := cells3 hb
  go_enter Tryz.func37, Tryz.ntmps37
  go_wp2
  go_ret
  exact ⟨by congr 2; cases nd.kids <;> simp; omega, rfl⟩

set_option maxHeartbeats 400000 in
theorem size_any (b : Nat) (nd : Nd) (w : World) (S : Nat → Prop) (h : IsNode w S b nd) (hs : nd.size ≤ 1000000) :
    Calls Tryz.prog 70 #[.pointer (some ⟨b, 0, none⟩)] w fun e w' => e = .returned (.int .i64 nd.size) ∧ Below w.heap.size w w' := by
  obtain ⟨_, v0, v1, v2, hb, h0, h1, h2⟩ := h
  obtain ⟨c0, c1, c2, _, _, _, hlt⟩ := cells3 hb
  obtain ⟨ao0, cp0, rfl, n0, m0, _, _⟩ := IsSl.form h0
  obtain ⟨ao1, cp1, rfl, n1, m1, _, _⟩ := IsSl.form h1
  obtain ⟨ao2, cp2, rfl, n2, m2, _, _⟩ := IsSl.form h2
  clear h2
  unfold Nd.size at hs
  have l0 := length_le_prSize nd.pairs
  have l1 := length_le_keySize nd.keys
  go_enter Tryz.func70, Tryz.ntmps70
  go_wp2
  go_loopw [3, 13] (fun s i wr => ∃ k : Nat, k ≤ nd.pairs.length ∧ i = .int .i64 k ∧ s = .int .i64 (2 + prSize (nd.pairs.take k) : Nat) ∧ Below w.heap.size w wr) (fun _ i _ => nd.pairs.length - (intOf i).toNat)
  case atStart => exact ⟨0, by omega, rfl, by simp [prSize], Below.refl _ _⟩
  case round =>
    obtain ⟨k, hk, rfl, rfl, hbel⟩ := hrel
    by_cases hlt2 : k < nd.pairs.length
    · obtain ⟨b', o', rfl, hc1, hc2⟩ := h0.at rfl k hlt2
      have d1 := (hbel.cell (p := ⟨b', o' + k * 2, none⟩) (World.block_lt_of_cell? w _ hc1)).trans hc1
      have d2 := (hbel.cell (p := ⟨b', o' + k * 2 + 1, none⟩) (World.block_lt_of_cell? w _ hc2)).trans hc2
      have H := Lib.hid (prSize_take nd.pairs k hlt2)
      have hle := prSize_take_le nd.pairs (k + 1)
      have hb1 : prSize (nd.pairs.take k) + (2 + nd.pairs[k].1.size + nd.pairs[k].2.size) ≤ 1000000 := by rw [← H.out]; omega
      clear hle hc1 hc2
      go_wp2
      go_roundw
      case rel => exact ⟨k + 1, by omega, by go_num, by rw [H.out]; go_num, hbel.alloc hbel.size _⟩
      case measure => simp [intOf]; omega
    · obtain rfl : k = nd.pairs.length := by omega
      rw [List.take_length]
      clear hlt2 h0 hk
      have c1' := (hbel.cell (p := ⟨b, 1, none⟩) hlt).trans c1
      have c2' := (hbel.cell (p := ⟨b, 2, none⟩) hlt).trans c2
      have hlt' : b < wr.heap.size := Nat.lt_of_lt_of_le hlt hbel.size
      obtain ⟨wo, rfl⟩ : ∃ wo : World, wo = wr := ⟨_, rfl⟩
      go_wp2
      go_loop [3, 33] (fun s i => ∃ k : Nat, k ≤ nd.keys.length ∧ i = .int .i64 k ∧ s = .int .i64 (2 + prSize nd.pairs + keySize (nd.keys.take k) : Nat)) (fun _ i => nd.keys.length - (intOf i).toNat)
      case atStart => exact ⟨0, by omega, rfl, by simp [keySize]⟩
      case round =>
        obtain ⟨k, hk, rfl, rfl⟩ := hrel
        by_cases hlt2 : k < nd.keys.length
        · obtain ⟨b', o', rfl, hc1⟩ := IsSl.at1 h1 rfl k (.string nd.keys[k]) (by simp [hlt2])
          have d1 := (hbel.cell (p := ⟨b', o' + k, none⟩) (World.block_lt_of_cell? w _ hc1)).trans hc1
          have H := Lib.hid (keySize_take nd.keys k hlt2)
          have hle := keySize_take_le nd.keys (k + 1)
          have hb1 : 2 + prSize nd.pairs + keySize (nd.keys.take k) + (1 + nd.keys[k].size) ≤ 1000000 := by rw [Nat.add_assoc (2 + _), ← H.out]; omega
          clear hle hc1
          go_wp2
          go_round
          case rel => exact ⟨k + 1, by omega, by go_num, by rw [H.out]; go_num⟩
          case measure => simp [intOf]; omega
        · obtain rfl : k = nd.keys.length := by omega
          rw [List.take_length]
          go_wp2
          go_ret
          exact ⟨by unfold Nd.size; go_num, hbel⟩
end Go.Proofs.YtbldcbakhpdigaaGreat

/- Laws on a whole row of cells: append where there is room, copy, clear; each as one step of a walk. No program in sight. -/
namespace Go.Proofs.YtbldcbakhpdigaaGreat
open Go.RowKit

/-- block g is a row of cells, none frozen -/
def Row (w : World) (g e : Nat) (cur : List Value) : Prop := w.heap[g]? = some (.cells cur.toArray e (0, 0))

theorem Row.lt {w : World} {g e : Nat} {cur : List Value} (h : Row w g e cur) : g < w.heap.size := (Array.getElem?_eq_some_iff.1 h).1
theorem Row.cell {w : World} {g e : Nat} {cur : List Value} (h : Row w g e cur) (j : Nat) : w.cell? ⟨g, j, none⟩ = cur[j]? := by
  have := cell_of_row w g j cur.toArray e (0, 0) h
  simpa using this
theorem Row.frozen {w : World} {g e : Nat} {cur : List Value} (h : Row w g e cur) (j : Nat) : w.frozen? ⟨g, j, none⟩ = false := by
  unfold Row at h; simp [World.frozen?, h]
theorem Row.keep {w w' : World} {g e : Nat} {cur : List Value} {M : Nat → Prop} (h : Row w g e cur) (k : Keep M w w') (hM : ¬ M g) : Row w' g e cur := (k.block g h.lt hM).trans h

theorem OwnSl.row {w : World} {S : Nat → Prop} {B e k n g cap : Nat} {xs : List Value} (h : OwnSl w S B e k (.slice (some ⟨g, 0, none⟩) n cap) n xs) :
    ∃ cur, Row w g e cur ∧ cur.length = cap * k ∧ cur.take (n * k) = xs ∧ B ≤ g ∧ ¬ S g ∧ n ≤ cap ∧ cap ≤ maxLen := by
  obtain ⟨⟨hl, hr⟩, hn⟩ := h
  rcases hr with ⟨h, _⟩ | ⟨g', cap', cur, hv, hB, hg, h1, h2, h3, h4⟩
  · cases h
  · cases hv
    exact ⟨cur.toList, hg, by simpa using h3, h4, hB, hn g rfl, h1, h2⟩

/-- an owned slice lies in no block of another element type -/
theorem OwnSl.ne {w : World} {S : Nat → Prop} {B e k n b t : Nat} {v : Value} {xs : List Value} {cs : Array Value} {fr : Nat × Nat} (h : OwnSl w S B e k v n xs) (hb : w.heap[b]? = some (.cells cs t fr)) (ht : t ≠ e) : v.ownBlock ≠ some b := by
  intro e1
  rcases h.1.2 with ⟨rfl, _⟩ | ⟨g, cap, cur, rfl, _, hg, _⟩
  · cases e1
  · cases e1
    rw [hg] at hb; cases hb; exact ht rfl

theorem Row.own {w : World} {S : Nat → Prop} {B e k g cap : Nat} {cur : List Value} (h : Row w g e cur) (n : Nat) (hl : cur.length = cap * k) (hB : B ≤ g) (hS : ¬ S g) (hn : n ≤ cap) (hc : cap ≤ maxLen) :
    OwnSl w S B e k (.slice (some ⟨g, 0, none⟩) n cap) n (cur.take (n * k)) := by
  refine ⟨⟨?_, .inr ⟨g, cap, cur.toArray, rfl, hB, h, hn, hc, by simpa using hl, rfl⟩⟩, fun g' hg => by cases hg; exact hS⟩
  rw [List.length_take, hl]; exact Nat.min_eq_left (Nat.mul_le_mul_right _ hn)

theorem Row.isSl {w : World} {S : Nat → Prop} {e k g off : Nat} {cur : List Value} (h : Row w g e cur) (n c : Nat) (hl : off + n * k ≤ cur.length) (hS : ¬ S g) (hn : n ≤ c) (hc : c ≤ maxLen) :
    IsSl w S k (.slice (some ⟨g, off, none⟩) n c) n ((cur.drop off).take (n * k)) := by
  refine ⟨_, c, rfl, hn, hc, ?_, by simp, fun ad had => by cases had; exact ⟨rfl, h.lt, hS⟩, fun j u hu => ⟨g, off, rfl, ?_⟩⟩
  · rw [List.length_take, List.length_drop]; omega
  · rw [h.cell]
    rw [List.getElem?_take] at hu
    split at hu
    · simpa using hu
    · cases hu

theorem splice_at {α : Type} (A Y T news : List α) (off : Nat) (hA : A.length = off) (hY : Y.length = news.length) : splice (A ++ (Y ++ T)) off news = A ++ (news ++ T) := by
  subst hA
  unfold splice
  rw [List.take_left, ← hY, ← List.append_assoc A Y T, ← List.length_append, List.drop_left]

section
variable {P : Program}

theorem run_storeRow {w : World} {g e off : Nat} {cur : List Value} (h : Row w g e cur) (cs : List Value) (hfit : off + cs.length ≤ cur.length) (h1 : ∀ v ∈ cs, v.oneCell' = true) :
    ∃ w', (storeCells ⟨g, off, none⟩ cs 0).run P w = .ok () w' ∧ Row w' g e (splice cur off cs) ∧ Keep (· = g) w w' := by
  have hst := run_storeCells_at P g off e cs 0 cur.toArray w h (by simpa using hfit) h1
  simp only [Nat.add_zero] at hst
  refine ⟨_, hst, ?_, ⟨rfl, rfl, rfl, by simp, fun k' _ hk => setRow_other w g k' _ hk⟩⟩
  have := setRow_heap w g cur.toArray (cur.toArray.toList.take off ++ cs ++ cur.toArray.toList.drop (off + cs.length)).toArray e (0, 0) h
  unfold Row
  rw [this]
  simp [splice]

/-- append where there is room -/
theorem run_room {w : World} (t tx ty e : TypeId) (i : TypeInfo) (k : Nat) (ht : P.underlying t = some (.slice e)) (hi : P.info? e = some i) (hk : i.size = k) {g n cap e' : Nat} {cur : List Value} (h : Row w g e' cur)
    (x : Value) (m : Nat) (news : List Value) (hs : Src P k tx x m news w) (hroom : n + m ≤ cap) (hfit : n * k + news.length ≤ cur.length) :
    ∃ w', (Builtin.append_ #[t, tx] ty #[.slice (some ⟨g, 0, none⟩) n cap, x]).run P w = .ok (.slice (some ⟨g, 0, none⟩) (n + m) cap) w' ∧ Row w' g e' (splice cur (n * k) news) ∧ Keep (· = g) w w' := by
  subst hk
  obtain ⟨w', hst, h2, h3⟩ := run_storeRow (P := P) h news hfit hs.one
  refine ⟨w', ?_, h2, h3⟩
  rcases hs.kind with ⟨e'', hk⟩ | hk <;> simp [Builtin.append_, run_underlying ht, run_underlying hk, sizeOf, typeInfo, hi, hs.len, hroom, hs.cells, Addr.add_lit, hst]

theorem wp_room {o : Oper} {a : Act} {w : World} {K : Act → World → Prop} {Q : Exit → Act → World → Prop} (s y : Operand) (t tx : TypeId) (ho : o.op = .call { callee := .builtin .append, args := #[s, y], argTypes := #[t, tx] })
    (e k bytes : Nat) (z : Value) (ht : P.underlying t = some (.slice e)) (hinfo : (P.info? e).map (fun i => (i.zero, i.size, i.bytes)) = some (some z, k, bytes))
    (g n cap e' : Nat) (cur : List Value) (hv : a.eval s = .slice (some ⟨g, 0, none⟩) n cap) (hr : Row w g e' cur) (x : Value) (m : Nat) (news : List Value) (hx : a.eval y = x) (hs : Src P k tx x m news w)
    (hroom : n + m ≤ cap) (hfit : n * k + news.length ≤ cur.length)
    (h : ∀ w', Row w' g e' (splice cur (n * k) news) → Keep (· = g) w w' → K (a.put o.dst (.slice (some ⟨g, 0, none⟩) (n + m) cap)) w') : o.wp P a w K Q := by
  obtain ⟨i, hi, hz, hsize, hby⟩ := info_parts hinfo
  obtain ⟨w', hrun, h2, h3⟩ := run_room (P := P) t tx o.type e i k ht hi hsize hr x m news hs hroom hfit
  unfold Oper.wp execOp
  simp only [ho, resolve, invoke, builtin, Sem.run_bind, Sem.run_pure, Result.andThen_ok, List.map_toArray, List.map_cons, List.map_nil, hv, hx, hrun]
  exact h w' h2 h3

/-- copy into a row -/
theorem run_copyRow {w : World} (t tx ty e : TypeId) (i : TypeInfo) (k : Nat) (ht : P.underlying t = some (.slice e)) (hi : P.info? e = some i) (hk : i.size = k) {g off e' n dLen dCap : Nat} {dp : Option Addr} {cur : List Value} (h : Row w g e' cur)
    (x : Value) (m : Nat) (hlen : (Builtin.lenOf x).run P w = .ok m w) (hn : n = Nat.min m dLen) (cs : List Value) (hcl : cs.length = n * k) (hcs : (Builtin.firstCells k n x).run P w = .ok cs.toArray w)
    (hd : 0 < cs.length → dp = some ⟨g, off, none⟩) (hfit : off + cs.length ≤ cur.length) (h1 : ∀ v ∈ cs, v.oneCell' = true) :
    ∃ w', (Builtin.copy_ #[t, tx] ty #[.slice dp dLen dCap, x]).run P w = .ok (goInt n) w' ∧ Row w' g e' (splice cur off cs) ∧ Keep (· = g) w w' := by
  subst hk
  subst hn
  by_cases h0 : 0 < cs.length
  · obtain rfl := hd h0
    obtain ⟨w', hst, h2, h3⟩ := run_storeRow (P := P) h cs hfit h1
    refine ⟨w', ?_, h2, h3⟩
    simp [Builtin.copy_, run_underlying ht, sizeOf, typeInfo, hi, hlen, hcs, hst]
  · obtain rfl : cs = [] := List.eq_nil_of_length_eq_zero (by omega)
    refine ⟨w, ?_, by unfold Row at *; simpa [splice] using h, Keep.refl _ _⟩
    cases dp with
    | none => simp [Builtin.copy_, run_underlying ht, sizeOf, typeInfo, hi, hlen, hcs]
    | some ad => simp [Builtin.copy_, run_underlying ht, sizeOf, typeInfo, hi, hlen, hcs, storeCells]

theorem wp_copyRow {o : Oper} {a : Act} {w : World} {K : Act → World → Prop} {Q : Exit → Act → World → Prop} (s y : Operand) (t tx : TypeId) (ho : o.op = .call { callee := .builtin .copy, args := #[s, y], argTypes := #[t, tx] })
    (e k bytes : Nat) (z : Value) (ht : P.underlying t = some (.slice e)) (hinfo : (P.info? e).map (fun i => (i.zero, i.size, i.bytes)) = some (some z, k, bytes))
    (g off e' n dLen dCap : Nat) (dp : Option Addr) (cur : List Value) (hv : a.eval s = .slice dp dLen dCap) (hr : Row w g e' cur) (x : Value) (hx : a.eval y = x) (m : Nat) (cs : List Value)
    (hlen : (Builtin.lenOf x).run P w = .ok m w) (hn : n = Nat.min m dLen) (hcl : cs.length = n * k) (hcs : (Builtin.firstCells k n x).run P w = .ok cs.toArray w)
    (hd : 0 < cs.length → dp = some ⟨g, off, none⟩) (hfit : off + cs.length ≤ cur.length) (h1 : ∀ v ∈ cs, v.oneCell' = true)
    (h : ∀ w', Row w' g e' (splice cur off cs) → Keep (· = g) w w' → K (a.put o.dst (goInt n)) w') : o.wp P a w K Q := by
  obtain ⟨i, hi, hz, hsize, hby⟩ := info_parts hinfo
  obtain ⟨w', hrun, h2, h3⟩ := run_copyRow (P := P) t tx o.type e i k ht hi hsize hr x m hlen hn cs hcl hcs hd hfit h1 (dCap := dCap)
  unfold Oper.wp execOp
  simp only [ho, resolve, invoke, builtin, Sem.run_bind, Sem.run_pure, Result.andThen_ok, List.map_toArray, List.map_cons, List.map_nil, hv, hx, hrun]
  exact h w' h2 h3

/-- the cells of a copy's source, a slice of which the first n elements are read -/
theorem IsSl.first {w : World} {S : Nat → Prop} {k n : Nat} {v : Value} {xs : List Value} (h : IsSl w S k v n xs) (m : Nat) (hm : m ≤ n) : (Builtin.firstCells k m v).run P w = .ok (xs.take (m * k)).toArray w := by
  obtain ⟨ao, c, rfl, _, _, h3, h4, h5, h6⟩ := h
  cases ao with
  | none =>
    obtain ⟨rfl, rfl⟩ := h4 rfl
    have : xs = [] := List.eq_nil_of_length_eq_zero (by simpa using h3)
    subst this
    simp [Builtin.firstCells]
  | some ad =>
    obtain ⟨b, o, sp⟩ := ad
    obtain rfl : sp = none := (h5 _ rfl).1
    refine run_firstCells_some w k m ⟨b, o, none⟩ n c _ (by rw [List.length_take, h3]; exact Nat.min_eq_left (Nat.mul_le_mul_right _ hm)) (fun j u hu => ?_)
    rw [List.getElem?_take] at hu
    split at hu
    · obtain ⟨b', o', e, hc⟩ := h6 j u hu
      cases e
      rw [Addr.add_lit]; exact hc
    · cases hu
theorem IsSl.lenOf {w : World} {S : Nat → Prop} {k n : Nat} {v : Value} {xs : List Value} (h : IsSl w S k v n xs) : (Builtin.lenOf v).run P w = .ok n w := by
  obtain ⟨ao, c, rfl, _⟩ := h; rfl

theorem zeroCells_one (z : Array Value) (n : Nat) (h : ∀ v ∈ z.toList, v.oneCell' = true) (h0 : 0 < z.size) : ∀ v ∈ (Builtin.zeroCells z n).toList, v.oneCell' = true := by
  intro v hv
  simp only [Builtin.zeroCells, Array.toList_map, List.mem_map] at hv
  obtain ⟨i, _, rfl⟩ := hv
  have hlt := Nat.mod_lt i h0
  rw [getElem!_pos z (i % z.size) hlt]
  exact h _ (by simp)

/-- clear, in a row -/
theorem run_clearRow {w : World} (t ty e : TypeId) (i : TypeInfo) (z : Value) (k : Nat) (ht : P.underlying t = some (.slice e)) (hi : P.info? e = some i) (hz : i.zero = some z) (hzk : z.cells.size = k) {g off e' n c : Nat} {dp : Option Addr} {cur : List Value} (h : Row w g e' cur)
    (hd : 0 < n → dp = some ⟨g, off, none⟩) (hfit : off + n * k ≤ cur.length) (h1 : ∀ v ∈ (Builtin.zeroCells z.cells n).toList, v.oneCell' = true) :
    ∃ w' zs, (Builtin.clear_ #[t] ty #[.slice dp n c]).run P w = .ok (.tuple #[]) w' ∧ zs.length = n * k ∧ Row w' g e' (splice cur off zs) ∧ Keep (· = g) w w' := by
  cases n with
  | zero =>
    refine ⟨w, [], ?_, by simp, by unfold Row at *; simpa [splice] using h, Keep.refl _ _⟩
    cases dp <;> simp [Builtin.clear_, run_underlying ht]
  | succ n =>
    obtain rfl := hd (by omega)
    have hlz : (Builtin.zeroCells z.cells (n + 1)).toList.length = (n + 1) * k := by rw [Array.length_toList, size_zeroCells, hzk]
    obtain ⟨w', hst, h2, h3⟩ := run_storeRow (P := P) h (Builtin.zeroCells z.cells (n + 1)).toList (by rw [hlz]; exact hfit) h1
    refine ⟨w', _, ?_, hlz, h2, h3⟩
    simp [Builtin.clear_, run_underlying ht, zeroValue, typeInfo, hi, hz, hst]

theorem wp_clearRow {o : Oper} {a : Act} {w : World} {K : Act → World → Prop} {Q : Exit → Act → World → Prop} (s : Operand) (t : TypeId) (ho : o.op = .call { callee := .builtin .clear, args := #[s], argTypes := #[t] })
    (e k bytes : Nat) (z : Value) (ht : P.underlying t = some (.slice e)) (hinfo : (P.info? e).map (fun i => (i.zero, i.size, i.bytes)) = some (some z, k, bytes)) (hzk : z.cells.size = k)
    (g off e' n c : Nat) (dp : Option Addr) (cur : List Value) (hv : a.eval s = .slice dp n c) (hr : Row w g e' cur)
    (hd : 0 < n → dp = some ⟨g, off, none⟩) (hfit : off + n * k ≤ cur.length) (h1 : ∀ v ∈ (Builtin.zeroCells z.cells n).toList, v.oneCell' = true)
    (h : ∀ w' zs, zs.length = n * k → Row w' g e' (splice cur off zs) → Keep (· = g) w w' → K (a.put o.dst (.tuple #[])) w') : o.wp P a w K Q := by
  obtain ⟨i, hi, hz, hsize, hby⟩ := info_parts hinfo
  obtain ⟨w', zs, hrun, hl, h2, h3⟩ := run_clearRow (P := P) t o.type e i z k ht hi hz hzk hr hd hfit h1 (c := c)
  unfold Oper.wp execOp
  simp only [ho, resolve, invoke, builtin, Sem.run_bind, Sem.run_pure, Result.andThen_ok, List.map_toArray, List.map_cons, List.map_nil, hv, hrun]
  exact h w' zs hl h2 h3

/-- append(s[:i], make(S, m)...) where there is no room: a new row -/
theorem run_growZeros (w : World) (t tn ty e : TypeId) (i : TypeInfo) (z : Value) (k bytes : Nat) (ht : P.underlying t = some (.slice e)) (htn : P.underlying tn = some (.int .i64)) (hi : P.info? e = some i) (hz : i.zero = some z)
    (hsize : i.size = k) (hby : i.bytes = bytes) (hzs : z.cells.size = k) (hk0 : 0 < k) {g n cap m : Nat} {cur : List Value} (h : Row w g e cur) (hn : n * k ≤ cur.length) (hgrow : cap < n + m) (hm : 0 < m) (h63 : n + m ≤ maxLen) (hbytes : (n + m) * bytes ≤ 140737488355328) :
    ∃ c w' rest, (Builtin.append_ #[t, tn] ty #[.slice (some ⟨g, 0, none⟩) n cap, .int .i64 m]).run P w = .ok (.slice (some ⟨w.heap.size, 0, none⟩) (n + m) c) w' ∧ Row w' w.heap.size e (cur.take (n * k) ++ rest) ∧ (cur.take (n * k) ++ rest).length = c * k ∧ n + m ≤ c ∧ c ≤ maxLen ∧
      Keep NoS w w' := by
  subst hsize
  subst hby
  have hsmall : n + m ≤ 9223372036854775807 := by simp only [maxLen] at h63; omega
  have hge := grownCap_ge w (n + m) cap e
  have hcm : grownCap w (n + m) cap e ≤ maxLen := grownCap_le_maxLen w (n + m) cap e h63
  have hfit := growslice_fits hgrow hbytes
  have hold := (h.isSl (w := w.drew) (S := NoS) (k := i.size) (off := 0) n n (by omega) id (Nat.le_refl _) (by simp only [maxLen] at *; omega)).first (P := P) n (Nat.le_refl _)
  rw [List.drop_zero, List.take_take, Nat.min_self] at hold
  have hold' : (loadCells ⟨g, 0, none⟩ (n * i.size)).run P w.drew = .ok (cur.take (n * i.size)).toArray w.drew := hold
  have hw : IntKind.i64.wrap (m : Int) = m := by rw [IntKind.wrap_i64]; omega
  have h1 : ¬ ((m : Int) < 0) := by omega
  have h2 : ¬ (281474976710656 < (m : Int) * (i.bytes : Int)) := by
    have : m * i.bytes ≤ (n + m) * i.bytes := Nat.mul_le_mul_right _ (by omega)
    rw [← Int.natCast_mul]; omega
  have h3 : ¬ (n + m ≤ cap) := by omega
  have h4 : ¬ (9223372036854775807 < ((n : Int) + (m : Int))) := by omega
  have h5 : ¬ (281474976710656 < Builtin.nextslicecap (n + m) cap * i.bytes) := by omega
  have h6 : ¬ (m * i.size = 0) := Nat.mul_ne_zero (by omega) (by omega)
  refine ⟨grownCap w (n + m) cap e, w.drew.alloc (.cells ((cur.take (n * i.size)).toArray ++ Builtin.zeroCells z.cells m ++ Builtin.zeroCells z.cells (grownCap w (n + m) cap e - (n + m))) e),
    (Builtin.zeroCells z.cells m).toList ++ (Builtin.zeroCells z.cells (grownCap w (n + m) cap e - (n + m))).toList, ?_, ?_, ?_, hge, hcm, (Keep.refl NoS w).drew.alloc _⟩
  · simp [Builtin.append_, run_underlying ht, run_underlying htn, sizeOf, typeInfo, zeroValue, hi, hz, asInt, asIntOf, hw, h1, h2, h3, h4, h5, h6, Question.forced, newRow, grownCap, Builtin.firstCells, hold']
  · unfold Row
    rw [show w.heap.size = w.drew.heap.size from rfl, heap_alloc_new]
    congr 2
    apply Array.ext'
    simp
  · simp only [List.length_append, List.length_take, Array.length_toList, size_zeroCells, hzs]
    rw [Nat.min_eq_left hn, ← Nat.add_mul, ← Nat.add_mul]
    congr 1; omega

theorem wp_growZeros {o : Oper} {a : Act} {w : World} {K : Act → World → Prop} {Q : Exit → Act → World → Prop} (s y : Operand) (t tn : TypeId) (ho : o.op = .call { callee := .builtin .append, args := #[s, y], argTypes := #[t, tn] })
    (e k bytes : Nat) (z : Value) (ht : P.underlying t = some (.slice e)) (htn : P.underlying tn = some (.int .i64)) (hinfo : (P.info? e).map (fun i => (i.zero, i.size, i.bytes)) = some (some z, k, bytes)) (hzs : z.cells.size = k) (hk0 : 0 < k)
    (g n cap m : Nat) (cur : List Value) (hv : a.eval s = .slice (some ⟨g, 0, none⟩) n cap) (hx : a.eval y = .int .i64 m) (h : Row w g e cur) (hn : n * k ≤ cur.length) (hgrow : cap < n + m) (hm : 0 < m) (h63 : n + m ≤ maxLen) (hbytes : (n + m) * bytes ≤ 140737488355328)
    (hK : ∀ c w' rest, Row w' w.heap.size e (cur.take (n * k) ++ rest) → (cur.take (n * k) ++ rest).length = c * k → n + m ≤ c → c ≤ maxLen → Keep NoS w w' → K (a.put o.dst (.slice (some ⟨w.heap.size, 0, none⟩) (n + m) c)) w') : o.wp P a w K Q := by
  obtain ⟨i, hi, hz, hsize, hby⟩ := info_parts hinfo
  obtain ⟨c, w', rest, hrun, q1, q2, q3, q4, q5⟩ := run_growZeros (P := P) w t tn o.type e i z k bytes ht htn hi hz hsize hby hzs hk0 h hn hgrow hm h63 hbytes
  unfold Oper.wp execOp
  simp only [ho, resolve, invoke, builtin, Sem.run_bind, Sem.run_pure, Result.andThen_ok, List.map_toArray, List.map_cons, List.map_nil, hv, hx, hrun]
  exact hK c w' rest q1 q2 q3 q4 q5

/-- a law on one operation, in the walk and in a region that draws -/
theorem in_list {ops : Array Oper} {rest : List Oper} {o : Oper} {a : Act} {w : World} {Q : Exit → Act → World → Prop} (hgd : o.guard = none)
    (h : ∀ K : Act → World → Prop, (∀ a w, wpList P ops Q rest a w → K a w) → o.wp P a w K Q) : wpList P ops Q (o :: rest) a w := wpList_plain hgd h
theorem in_step {ops : Array Oper} {o : Oper} {a : Act} {w : World} {K : Act → World → Prop} {Q : Exit → Act → World → Prop} {E : Prop} (hgd : o.guard = none) (h : o.wp P a w K Q) :
    if Region.wanted o (yielded ops a.tmps) = true then Oper.wp P o a w K Q else E := by
  rw [if_pos (by simp [Region.wanted, hgd])]; exact h
end

end Go.Proofs.YtbldcbakhpdigaaGreat

/- slices.Delete(s, i, i+1) at pairs, ints, strings. (Printed by gen/del.py.) -/
namespace Go.Proofs.YtbldcbakhpdigaaGreat
open Go.RowKit

theorem info_pair : (Tryz.prog.info? 53).map (fun i => (i.zero, i.size, i.bytes)) = some (some (.agg #[.string ⟨#[]⟩, .string ⟨#[]⟩]), 2, 32) := by kernel_rfl
theorem info_int : (Tryz.prog.info? 3).map (fun i => (i.zero, i.size, i.bytes)) = some (some (.int .i64 0), 1, 8) := by kernel_rfl
theorem info_str : (Tryz.prog.info? 9).map (fun i => (i.zero, i.size, i.bytes)) = some (some (.string ⟨#[]⟩), 1, 16) := by kernel_rfl

theorem del_list {α : Type} (cur xs zs : List α) (i n cap k : Nat) (hi : i < n) (hn : n ≤ cap) (hl : cur.length = cap * k) (hx : cur.take (n * k) = xs) (hxl : xs.length = n * k) (hz : zs.length = k) :
    (splice cur (i * k) (xs.drop ((i + 1) * k))).length = cap * k ∧ (splice (splice cur (i * k) (xs.drop ((i + 1) * k))) ((n - 1) * k) zs).length = cap * k ∧
    (splice (splice cur (i * k) (xs.drop ((i + 1) * k))) ((n - 1) * k) zs).take ((n - 1) * k) = xs.take (i * k) ++ xs.drop ((i + 1) * k) := by
  obtain ⟨d, rfl⟩ : ∃ d, n = i + 1 + d := ⟨n - (i + 1), by omega⟩
  obtain ⟨c, rfl⟩ : ∃ c, cap = i + 1 + d + c := ⟨cap - (i + 1 + d), by omega⟩
  have e0 : i + 1 + d - 1 = i + d := by omega
  rw [e0]
  simp only [Nat.add_mul, Nat.one_mul] at *
  have e1 : (cur.take (i * k)).length = i * k := by rw [List.length_take]; omega
  have e2 : (xs.drop (i * k + k)).length = d * k := by rw [List.length_drop]; omega
  have hl1 : (splice cur (i * k) (xs.drop (i * k + k))).length = i * k + k + d * k + c * k := by rw [length_splice _ _ _ (by rw [e2]; omega)]; exact hl
  refine ⟨hl1, by rw [length_splice _ _ _ (by rw [hl1]; omega)]; exact hl1, ?_⟩
  unfold splice
  rw [List.take_append_of_le_length (by rw [List.length_take]; simp only [List.length_append, List.length_take, List.length_drop]; omega), List.take_take, Nat.min_self, ← List.append_assoc,
    List.take_append_of_le_length (by rw [List.length_append, e1, e2]; omega), List.take_of_length_le (by rw [List.length_append, e1, e2]; omega), ← hx, List.take_take, Nat.min_eq_left (by omega)]

set_option maxRecDepth 100000 in
set_option maxHeartbeats 1000000 in
theorem delPair_any (g cap n i : Nat) (xs : List Value) (w : World) (S : Nat → Prop) (B : Nat) (h : OwnSl w S B 53 2 (.slice (some ⟨g, 0, none⟩) n cap) n xs) (hone : ∀ u ∈ xs, u.oneCell' = true) (hi : i < n) (hn : n ≤ 1000000) :
    Calls Tryz.prog 41 #[.slice (some ⟨g, 0, none⟩) n cap, .int .i64 i, .int .i64 ((i : Int) + 1)] w fun e w' => ∃ c, e = .returned (.slice (some ⟨g, 0, none⟩) (n - 1) c) ∧ OwnSl w' S B 53 2 (.slice (some ⟨g, 0, none⟩) (n - 1) c) (n - 1) (xs.take (i * 2) ++ xs.drop ((i + 1) * 2)) ∧ Keep (· = g) w w' := by
  obtain ⟨cur, hr, hl, hx, hB, hSg, hc, hc2⟩ := h.row
  have hxl := h.1.1
  have hc3 : cap ≤ 9223372036854775807 := by simpa [maxLen] using hc2
  clear h
  have k1 : (0 : Int) ≤ (i : Int) := by omega
  have k2 : (i : Int) ≤ (cap : Int) := by omega
  have k3 : (0 : Int) ≤ (i : Int) + 1 := by omega
  have k4 : (i : Int) + 1 ≤ (n : Int) := by omega
  have k5 : ((i : Int) + 1).toNat = i + 1 := by omega
  have hsrc : Src Tryz.prog 2 29 (.slice (if cap = i + 1 then some ⟨g, 0, none⟩ else some ⟨g, (i + 1) * 2, none⟩) (n - (i + 1)) (cap - (i + 1))) (n - (i + 1)) (xs.drop ((i + 1) * 2)) w.drew := by
    split
    · obtain rfl : n = i + 1 := by omega
      rw [show cap - (i + 1) = 0 by omega, show i + 1 - (i + 1) = 0 by omega, List.drop_of_length_le (by omega)]
      exact Src.ofSlice _ Tryz.underlying29 _ 0 0 [] rfl (by simp) (by simp)
    · have := (Row.isSl (w := w.drew) (S := NoS) (k := 2) (off := (i + 1) * 2) hr (n - (i + 1)) (cap - (i + 1)) (by omega) id (by omega) (by unfold maxLen at *; omega)).src Tryz.underlying29
      rw [show (cur.drop ((i + 1) * 2)).take ((n - (i + 1)) * 2) = xs.drop ((i + 1) * 2) by rw [← hx, List.drop_take, show (i + 1) * 2 = (i + 1) * 2 by omega]; congr 1; omega] at this
      exact this fun u hu => hone u (List.mem_of_mem_drop hu)
  have hm : i + (n - (i + 1)) = n - 1 := by omega
  generalize hao : (if cap = i + 1 then some (⟨g, 0, none⟩ : Addr) else some ⟨g, (i + 1) * 2, none⟩) = ao at hsrc
  have Hao := Lib.hid hao
  clear hao
  have k6 : ¬ cap = n - 1 := by omega
  have k7 : n - (n - 1) = 1 := by omega
  have hl1 : (splice cur (i * 2) (xs.drop ((i + 1) * 2))).length = cap * 2 := by rw [length_splice _ _ _ (by rw [List.length_drop]; omega)]; exact hl
  have Hl := Lib.hid hl; clear hl
  have Hx := Lib.hid hx; clear hx
  have Hxl := Lib.hid hxl; clear hxl
  have Hl1 := Lib.hid hl1; clear hl1
  go_enter Tryz.func41, Tryz.ntmps41
  go_wp2
  go_region_held3 (fun _ => True) (trivial) (first | (rw [Hao.out]; (refine in_step rfl (wp_room (.tmp 22) (.tmp 25) 29 29 rfl 53 2 32 _ Tryz.underlying29 info_pair g i cap _ cur rfl hr (.slice ao (n - (i + 1)) (cap - (i + 1))) (n - (i + 1)) _ rfl hsrc ?_ ?_ ?_)); (focus omega); (focus (have := Hxl.out; have := Hl.out; rw [List.length_drop]; omega)); intro w1 hr1 hk1))
  go_wp2_with (first | (refine in_list rfl ?_; intro K hK; (refine wp_clearRow (.tmp 31) 29 rfl 53 2 32 _ Tryz.underlying29 info_pair rfl g ((n - 1) * 2) 53 1 _ (some ⟨g, (n - 1) * 2, none⟩) _ rfl hr1 (fun _ => rfl) ?_ ?_ ?_); (focus (rw [Hl1.out]; omega)); (focus (exact zeroCells_one _ _ (by simp [Value.cells, Value.oneCell']) (by simp [Value.cells]))); intro w2 zs hz hr2 hk2; refine hK _ _ ?_))
  go_ret
  obtain ⟨_, q2, q3⟩ := del_list cur xs zs i n cap 2 hi hc Hl.out Hx.out Hxl.out (by rw [hz])
  refine ⟨cap, rfl, ?_, ((Keep.refl (· = g) w).drew.trans hk1 (fun _ _ h => h)).trans hk2 (fun _ _ h => h)⟩
  rw [← q3]
  exact Row.own (cur := splice _ ((n - 1) * 2) zs) (hr2) (n - 1) q2 hB hSg (by omega) hc2

set_option maxRecDepth 100000 in
set_option maxHeartbeats 1000000 in
theorem delInt_any (g cap n i : Nat) (xs : List Value) (w : World) (S : Nat → Prop) (B : Nat) (h : OwnSl w S B 3 1 (.slice (some ⟨g, 0, none⟩) n cap) n xs) (hone : ∀ u ∈ xs, u.oneCell' = true) (hi : i < n) (hn : n ≤ 1000000) :
    Calls Tryz.prog 79 #[.slice (some ⟨g, 0, none⟩) n cap, .int .i64 i, .int .i64 ((i : Int) + 1)] w fun e w' => ∃ c, e = .returned (.slice (some ⟨g, 0, none⟩) (n - 1) c) ∧ OwnSl w' S B 3 1 (.slice (some ⟨g, 0, none⟩) (n - 1) c) (n - 1) (xs.take (i * 1) ++ xs.drop ((i + 1) * 1)) ∧ Keep (· = g) w w' := by
  obtain ⟨cur, hr, hl, hx, hB, hSg, hc, hc2⟩ := h.row
  have hxl := h.1.1
  have hc3 : cap ≤ 9223372036854775807 := by simpa [maxLen] using hc2
  clear h
  have k1 : (0 : Int) ≤ (i : Int) := by omega
  have k2 : (i : Int) ≤ (cap : Int) := by omega
  have k3 : (0 : Int) ≤ (i : Int) + 1 := by omega
  have k4 : (i : Int) + 1 ≤ (n : Int) := by omega
  have k5 : ((i : Int) + 1).toNat = i + 1 := by omega
  have hsrc : Src Tryz.prog 1 36 (.slice (if cap = i + 1 then some ⟨g, 0, none⟩ else some ⟨g, i + 1, none⟩) (n - (i + 1)) (cap - (i + 1))) (n - (i + 1)) (xs.drop ((i + 1) * 1)) w.drew := by
    split
    · obtain rfl : n = i + 1 := by omega
      rw [show cap - (i + 1) = 0 by omega, show i + 1 - (i + 1) = 0 by omega, List.drop_of_length_le (by omega)]
      exact Src.ofSlice _ Tryz.underlying36 _ 0 0 [] rfl (by simp) (by simp)
    · have := (Row.isSl (w := w.drew) (S := NoS) (k := 1) (off := i + 1) hr (n - (i + 1)) (cap - (i + 1)) (by omega) id (by omega) (by unfold maxLen at *; omega)).src Tryz.underlying36
      rw [show (cur.drop (i + 1)).take ((n - (i + 1)) * 1) = xs.drop ((i + 1) * 1) by rw [← hx, List.drop_take, show (i + 1) * 1 = i + 1 by omega]; congr 1; omega] at this
      exact this fun u hu => hone u (List.mem_of_mem_drop hu)
  have hm : i + (n - (i + 1)) = n - 1 := by omega
  generalize hao : (if cap = i + 1 then some (⟨g, 0, none⟩ : Addr) else some ⟨g, i + 1, none⟩) = ao at hsrc
  have Hao := Lib.hid hao
  clear hao
  have k6 : ¬ cap = n - 1 := by omega
  have k7 : n - (n - 1) = 1 := by omega
  have hl1 : (splice cur (i * 1) (xs.drop ((i + 1) * 1))).length = cap * 1 := by rw [length_splice _ _ _ (by rw [List.length_drop]; omega)]; exact hl
  have Hl := Lib.hid hl; clear hl
  have Hx := Lib.hid hx; clear hx
  have Hxl := Lib.hid hxl; clear hxl
  have Hl1 := Lib.hid hl1; clear hl1
  go_enter Tryz.func79, Tryz.ntmps79
  go_wp2
  go_region_held3 (fun _ => True) (trivial) (first | (rw [Hao.out]; (refine in_step rfl (wp_room (.tmp 22) (.tmp 25) 36 36 rfl 3 1 8 _ Tryz.underlying36 info_int g i cap _ cur rfl hr (.slice ao (n - (i + 1)) (cap - (i + 1))) (n - (i + 1)) _ rfl hsrc ?_ ?_ ?_)); (focus omega); (focus (have := Hxl.out; have := Hl.out; rw [List.length_drop]; omega)); intro w1 hr1 hk1))
  go_wp2_with (first | (refine in_list rfl ?_; intro K hK; (refine wp_clearRow (.tmp 31) 36 rfl 3 1 8 _ Tryz.underlying36 info_int rfl g (n - 1) 3 1 _ (some ⟨g, n - 1, none⟩) _ rfl hr1 (fun _ => rfl) ?_ ?_ ?_); (focus (rw [Hl1.out]; omega)); (focus (exact zeroCells_one _ _ (by simp [Value.cells, Value.oneCell']) (by simp [Value.cells]))); intro w2 zs hz hr2 hk2; refine hK _ _ ?_))
  go_ret
  obtain ⟨_, q2, q3⟩ := del_list cur xs zs i n cap 1 hi hc Hl.out Hx.out Hxl.out (by rw [hz])
  refine ⟨cap, rfl, ?_, ((Keep.refl (· = g) w).drew.trans hk1 (fun _ _ h => h)).trans hk2 (fun _ _ h => h)⟩
  rw [← q3]
  exact Row.own (cur := splice _ ((n - 1) * 1) zs) (by simpa only [Nat.mul_one] using hr2) (n - 1) q2 hB hSg (by omega) hc2

set_option maxRecDepth 100000 in
set_option maxHeartbeats 1000000 in
theorem delStr_any (g cap n i : Nat) (xs : List Value) (w : World) (S : Nat → Prop) (B : Nat) (h : OwnSl w S B 9 1 (.slice (some ⟨g, 0, none⟩) n cap) n xs) (hone : ∀ u ∈ xs, u.oneCell' = true) (hi : i < n) (hn : n ≤ 1000000) :
    Calls Tryz.prog 80 #[.slice (some ⟨g, 0, none⟩) n cap, .int .i64 i, .int .i64 ((i : Int) + 1)] w fun e w' => ∃ c, e = .returned (.slice (some ⟨g, 0, none⟩) (n - 1) c) ∧ OwnSl w' S B 9 1 (.slice (some ⟨g, 0, none⟩) (n - 1) c) (n - 1) (xs.take (i * 1) ++ xs.drop ((i + 1) * 1)) ∧ Keep (· = g) w w' := by
  obtain ⟨cur, hr, hl, hx, hB, hSg, hc, hc2⟩ := h.row
  have hxl := h.1.1
  have hc3 : cap ≤ 9223372036854775807 := by simpa [maxLen] using hc2
  clear h
  have k1 : (0 : Int) ≤ (i : Int) := by omega
  have k2 : (i : Int) ≤ (cap : Int) := by omega
  have k3 : (0 : Int) ≤ (i : Int) + 1 := by omega
  have k4 : (i : Int) + 1 ≤ (n : Int) := by omega
  have k5 : ((i : Int) + 1).toNat = i + 1 := by omega
  have hsrc : Src Tryz.prog 1 72 (.slice (if cap = i + 1 then some ⟨g, 0, none⟩ else some ⟨g, i + 1, none⟩) (n - (i + 1)) (cap - (i + 1))) (n - (i + 1)) (xs.drop ((i + 1) * 1)) w.drew := by
    split
    · obtain rfl : n = i + 1 := by omega
      rw [show cap - (i + 1) = 0 by omega, show i + 1 - (i + 1) = 0 by omega, List.drop_of_length_le (by omega)]
      exact Src.ofSlice _ Tryz.underlying72 _ 0 0 [] rfl (by simp) (by simp)
    · have := (Row.isSl (w := w.drew) (S := NoS) (k := 1) (off := i + 1) hr (n - (i + 1)) (cap - (i + 1)) (by omega) id (by omega) (by unfold maxLen at *; omega)).src Tryz.underlying72
      rw [show (cur.drop (i + 1)).take ((n - (i + 1)) * 1) = xs.drop ((i + 1) * 1) by rw [← hx, List.drop_take, show (i + 1) * 1 = i + 1 by omega]; congr 1; omega] at this
      exact this fun u hu => hone u (List.mem_of_mem_drop hu)
  have hm : i + (n - (i + 1)) = n - 1 := by omega
  generalize hao : (if cap = i + 1 then some (⟨g, 0, none⟩ : Addr) else some ⟨g, i + 1, none⟩) = ao at hsrc
  have Hao := Lib.hid hao
  clear hao
  have k6 : ¬ cap = n - 1 := by omega
  have k7 : n - (n - 1) = 1 := by omega
  have hl1 : (splice cur (i * 1) (xs.drop ((i + 1) * 1))).length = cap * 1 := by rw [length_splice _ _ _ (by rw [List.length_drop]; omega)]; exact hl
  have Hl := Lib.hid hl; clear hl
  have Hx := Lib.hid hx; clear hx
  have Hxl := Lib.hid hxl; clear hxl
  have Hl1 := Lib.hid hl1; clear hl1
  go_enter Tryz.func80, Tryz.ntmps80
  go_wp2
  go_region_held3 (fun _ => True) (trivial) (first | (rw [Hao.out]; (refine in_step rfl (wp_room (.tmp 22) (.tmp 25) 72 72 rfl 9 1 16 _ Tryz.underlying72 info_str g i cap _ cur rfl hr (.slice ao (n - (i + 1)) (cap - (i + 1))) (n - (i + 1)) _ rfl hsrc ?_ ?_ ?_)); (focus omega); (focus (have := Hxl.out; have := Hl.out; rw [List.length_drop]; omega)); intro w1 hr1 hk1))
  go_wp2_with (first | (refine in_list rfl ?_; intro K hK; (refine wp_clearRow (.tmp 31) 72 rfl 9 1 16 _ Tryz.underlying72 info_str rfl g (n - 1) 9 1 _ (some ⟨g, n - 1, none⟩) _ rfl hr1 (fun _ => rfl) ?_ ?_ ?_); (focus (rw [Hl1.out]; omega)); (focus (exact zeroCells_one _ _ (by simp [Value.cells, Value.oneCell']) (by simp [Value.cells]))); intro w2 zs hz hr2 hk2; refine hK _ _ ?_))
  go_ret
  obtain ⟨_, q2, q3⟩ := del_list cur xs zs i n cap 1 hi hc Hl.out Hx.out Hxl.out (by rw [hz])
  refine ⟨cap, rfl, ?_, ((Keep.refl (· = g) w).drew.trans hk1 (fun _ _ h => h)).trans hk2 (fun _ _ h => h)⟩
  rw [← q3]
  exact Row.own (cur := splice _ ((n - 1) * 1) zs) (by simpa only [Nat.mul_one] using hr2) (n - 1) q2 hB hSg (by omega) hc2

end Go.Proofs.YtbldcbakhpdigaaGreat

/- slices.Insert(s, i, p) at pairs, one element. -/
namespace Go.Proofs.YtbldcbakhpdigaaGreat
open Go.RowKit

theorem ins_list {α : Type} (cur xs news : List α) (i n cap k : Nat) (hi : i < n) (hc : n + 1 ≤ cap) (hl : cur.length = cap * k) (hx : cur.take (n * k) = xs) (hnl : news.length = k) :
    (splice cur ((i + 1) * k) (xs.drop (i * k))).length = cap * k ∧ (splice (splice cur ((i + 1) * k) (xs.drop (i * k))) (i * k) news).length = cap * k ∧
    (splice (splice cur ((i + 1) * k) (xs.drop (i * k))) (i * k) news).take ((n + 1) * k) = xs.take (i * k) ++ news ++ xs.drop (i * k) := by
  have hik : i * k ≤ n * k := Nat.mul_le_mul_right _ (Nat.le_of_lt hi)
  have hik1 : (i + 1) * k ≤ n * k := Nat.mul_le_mul_right _ hi
  have hnk1 : (n + 1) * k ≤ cap * k := Nat.mul_le_mul_right _ hc
  rw [Nat.add_mul, Nat.one_mul] at hik1 hnk1
  have hxl : xs.length = n * k := by rw [← hx, List.length_take]; omega
  have e2 : (xs.drop (i * k)).length = n * k - i * k := by rw [List.length_drop, hxl]
  have hl1 : (splice cur ((i + 1) * k) (xs.drop (i * k))).length = cap * k := by rw [length_splice _ _ _ (by rw [e2, Nat.add_mul, Nat.one_mul]; omega)]; exact hl
  have hl2 : (splice (splice cur ((i + 1) * k) (xs.drop (i * k))) (i * k) news).length = cap * k := by rw [length_splice _ _ _ (by rw [hl1]; omega)]; exact hl1
  refine ⟨hl1, hl2, ?_⟩
  have e1 : (cur.take (i * k)).length = i * k := by rw [List.length_take]; omega
  have e3 : xs.take (i * k) = cur.take (i * k) := by rw [← hx, List.take_take, Nat.min_eq_left (by omega)]
  have e4 : splice cur ((i + 1) * k) (xs.drop (i * k)) = cur.take (i * k) ++ ((cur.drop (i * k)).take k ++ (xs.drop (i * k) ++ cur.drop ((i + 1) * k + (xs.drop (i * k)).length))) := by
    unfold splice
    rw [Nat.add_mul, Nat.one_mul, List.take_add, List.append_assoc]
  rw [e4, splice_at _ _ _ _ _ e1 (by rw [List.length_take, List.length_drop, hnl]; omega), e3, ← List.append_assoc, ← List.append_assoc,
    List.take_append_of_le_length (by simp only [List.length_append, e1, e2, hnl, Nat.add_mul, Nat.one_mul]; omega), List.take_of_length_le (by simp only [List.length_append, e1, e2, hnl, Nat.add_mul, Nat.one_mul]; omega)]

theorem ins_list2 {α : Type} (cur rest xs news : List α) (i n c k : Nat) (hi : i < n) (hc : n + 1 ≤ c) (hx : cur.take (n * k) = xs) (hcl : n * k ≤ cur.length) (hl : (cur.take (i * k) ++ rest).length = c * k) (hnl : news.length = k) :
    (splice (cur.take (i * k) ++ rest) (i * k) news).length = c * k ∧ (splice (splice (cur.take (i * k) ++ rest) (i * k) news) ((i + 1) * k) (xs.drop (i * k))).length = c * k ∧
    (splice (splice (cur.take (i * k) ++ rest) (i * k) news) ((i + 1) * k) (xs.drop (i * k))).take ((n + 1) * k) = xs.take (i * k) ++ news ++ xs.drop (i * k) := by
  have hik : i * k ≤ n * k := Nat.mul_le_mul_right _ (Nat.le_of_lt hi)
  have hik1 : (i + 1) * k ≤ n * k := Nat.mul_le_mul_right _ hi
  have hnk1 : (n + 1) * k ≤ c * k := Nat.mul_le_mul_right _ hc
  rw [Nat.add_mul, Nat.one_mul] at hik1 hnk1
  have hxl : xs.length = n * k := by rw [← hx, List.length_take]; omega
  have e2 : (xs.drop (i * k)).length = n * k - i * k := by rw [List.length_drop, hxl]
  have e1 : (cur.take (i * k)).length = i * k := by rw [List.length_take]; omega
  have e3 : xs.take (i * k) = cur.take (i * k) := by rw [← hx, List.take_take, Nat.min_eq_left (by omega)]
  have hrl : rest.length = c * k - i * k := by rw [List.length_append, e1] at hl; omega
  have hl1 : (splice (cur.take (i * k) ++ rest) (i * k) news).length = c * k := by rw [length_splice _ _ _ (by rw [hl]; omega)]; exact hl
  have hl2 : (splice (splice (cur.take (i * k) ++ rest) (i * k) news) ((i + 1) * k) (xs.drop (i * k))).length = c * k := by rw [length_splice _ _ _ (by rw [hl1, e2, Nat.add_mul, Nat.one_mul]; omega)]; exact hl1
  refine ⟨hl1, hl2, ?_⟩
  have e4 : splice (cur.take (i * k) ++ rest) (i * k) news = (cur.take (i * k) ++ news) ++ ((rest.drop k).take (n * k - i * k) ++ (rest.drop k).drop (n * k - i * k)) := by
    rw [List.take_append_drop]
    have := splice_at (cur.take (i * k)) (rest.take k) (rest.drop k) news (i * k) e1 (by rw [List.length_take, hnl]; omega)
    rw [List.take_append_drop] at this
    rw [this, List.append_assoc]
  rw [e4, splice_at _ _ _ _ _ (by simp only [List.length_append, e1, hnl, Nat.add_mul, Nat.one_mul]) (by rw [e2, List.length_take, List.length_drop]; omega), e3, ← List.append_assoc,
    List.take_append_of_le_length (by simp only [List.length_append, e1, e2, hnl, Nat.add_mul, Nat.one_mul]; omega), List.take_of_length_le (by simp only [List.length_append, e1, e2, hnl, Nat.add_mul, Nat.one_mul]; omega)]

set_option maxRecDepth 100000 in
set_option maxHeartbeats 1000000 in
/-- where the place is the end -/
theorem insEnd_any (v : Value) (n : Nat) (xs : List Value) (vb : Nat) (news : List Value) (w : World) (S : Nat → Prop) (B : Nat) (hS : ∀ g, S g → g < w.heap.size) (hB : B ≤ w.heap.size) (h : OwnSl w S B 53 2 v n xs) (hv : Row w vb 53 news) (hnl : news.length = 2) (hone : ∀ u ∈ news, u.oneCell' = true) (hn : n ≤ 1000000) :
    Calls Tryz.prog 36 #[v, .int .i64 n, .slice (some ⟨vb, 0, none⟩) 1 1] w fun e w' => ∃ v', e = .returned v' ∧ OwnSl w' S B 53 2 v' (n + 1) (xs ++ news) ∧ Keep (fun g => v.ownBlock = some g) w w' ∧ Below B w w' := by
  have hsrc : Src Tryz.prog 2 29 (.slice (some ⟨vb, 0, none⟩) 1 1) 1 news w := by
    have := (hv.isSl (S := NoS) (k := 2) (off := 0) 1 1 (by omega) id (Nat.le_refl _) (by simp [maxLen])).src Tryz.underlying29
    rw [List.drop_zero, List.take_of_length_le (by omega)] at this
    exact this hone
  have hh := h
  obtain ⟨ao, c, rfl, h1, h2, h3, h4⟩ := h.isSl.form
  have k1 : n - n = 0 := by omega
  have Hone := Lib.hid hone; clear hone
  have Hnl := Lib.hid hnl; clear hnl
  go_enter Tryz.func36, Tryz.ntmps36
  go_wp2_with (at_builtin; (refine wpList_app rfl (.tmp 23) (.tmp 24) 29 29 rfl S B 53 2 32 _ Tryz.underlying29 info_pair rfl (.slice ao n c) _ _ rfl hh (.slice (some ⟨vb, 0, none⟩) 1 1) _ _ rfl hsrc hS hB ?_ ?_ ?_); (focus (unfold maxLen; omega)); (focus omega); intro ao1 c1 w1 hown1 hk1 hb1 hd1)
  all_goals
    go_ret
    exact ⟨_, rfl, hown1, hk1.mono (fun _ _ h => by cases ao <;> exact h), hb1⟩

set_option maxRecDepth 100000 in
set_option maxHeartbeats 2000000 in
/-- where the place is within, and there is room -/
theorem insMid_any (g cap n i : Nat) (xs : List Value) (vb : Nat) (news : List Value) (w : World) (S : Nat → Prop) (B : Nat) (h : OwnSl w S B 53 2 (.slice (some ⟨g, 0, none⟩) n cap) n xs) (hx1 : ∀ u ∈ xs, u.oneCell' = true) (hv : Row w vb 53 news) (hvg : vb ≠ g) (hnl : news.length = 2) (hone : ∀ u ∈ news, u.oneCell' = true) (hn : n ≤ 1000000) (hi : i < n) (hroom : n + 1 ≤ cap) :
    Calls Tryz.prog 36 #[.slice (some ⟨g, 0, none⟩) n cap, .int .i64 i, .slice (some ⟨vb, 0, none⟩) 1 1] w fun e w' => ∃ v', e = .returned v' ∧ OwnSl w' S B 53 2 v' (n + 1) (xs.take (i * 2) ++ news ++ xs.drop (i * 2)) ∧ Keep (fun k => k = g) w w' := by
  obtain ⟨cur, hr, hl, hx, hBg, hSg, hc, hc2⟩ := h.row
  have hc3 : cap ≤ 9223372036854775807 := by simpa [maxLen] using hc2
  have hxl := h.1.1
  clear h
  have hov : (callFunc 54 #[.slice (some ⟨vb, 0, none⟩) 1 1, .slice (some ⟨g, (i + 1) * 2, none⟩) (n - i) (cap - (i + 1))]).run Tryz.prog w = .ok (.value (.bool false)) w := by
    rw [run_callFunc_extern Tryz.func54 (by kernel_rfl) (by kernel_rfl) (by kernel_rfl) (e := Extern.SlicesOverlaps.overlaps #[29, 29] #[4]) (by kernel_rfl)]
    rw [Lib.run_overlaps_apart w 29 4 53 Tryz.underlying29 2 (fun w => by kernel_rfl) ⟨vb, 0, none⟩ ⟨g, (i + 1) * 2, none⟩ 1 1 (n - i) (cap - (i + 1)) hvg 53 53 2 (cap * 2)
      (by unfold Row at hv; simp [World.shape?, hv, hnl]) (by unfold Row at hr; simp [World.shape?, hr, hl]) (by omega) (hv.frozen 0) (hv.frozen 2)]
    rfl
  have k1 : (0 : Int) ≤ (i : Int) := by omega
  have k2 : (i : Int) ≤ (cap : Int) := by omega
  have k3 : (0 : Int) ≤ (i : Int) + 1 := by omega
  have k4 : (i : Int) + 1 ≤ (n : Int) + 1 := by omega
  have k5 : ((i : Int) + 1).toNat = i + 1 := by omega
  have k6 : ((n : Int) + 1).toNat = n + 1 := by omega
  have k7 : (n : Int) + 1 ≤ (cap : Int) := by omega
  have k8 : ((i : Int) == (n : Int)) = false := by rw [beq_eq_false_iff_ne]; omega
  have k9 : IntKind.i64.wrap ((i : Int) + 1) = (i : Int) + 1 := IntWalk.i64_in _ (by omega)
  have k10 : ¬ cap = i := by omega
  have k11 : (i : Int) ≤ (n : Int) + 1 := by omega
  have k12 : ¬ cap = i + 1 := by omega
  have hsrc1 : IsSl w.drew NoS 2 (.slice (some ⟨g, i * 2, none⟩) (n + 1 - i) (cap - i)) (n + 1 - i) ((cur.drop (i * 2)).take ((n + 1 - i) * 2)) := Row.isSl (w := w.drew) hr _ _ (by omega) id (by omega) (by unfold maxLen; omega)
  have hcs1 : ((cur.drop (i * 2)).take ((n + 1 - i) * 2)).take ((n - i) * 2) = xs.drop (i * 2) := by
    rw [List.take_take, Nat.min_eq_left (by omega), ← hx, List.drop_take]; congr 1; omega
  have hsrc2 : IsSl w NoS 2 (.slice (some ⟨vb, 0, none⟩) 1 1) 1 news := by
    have := hv.isSl (S := NoS) (k := 2) (off := 0) 1 1 (by omega) id (Nat.le_refl _) (by simp [maxLen])
    rwa [List.drop_zero, List.take_of_length_le (by omega)] at this
  have Hl := Lib.hid hl; clear hl
  have Hx := Lib.hid hx; clear hx
  have Hxl := Lib.hid hxl; clear hxl
  have Hnl := Lib.hid hnl; clear hnl
  have Hcs1 := Lib.hid hcs1; clear hcs1
  go_enter Tryz.func36, Tryz.ntmps36
  go_wp2
  go_region_held3 (fun _ => True) (trivial) (first | ((refine in_step rfl (wp_copyRow (.tmp 73) (.tmp 76) 29 29 rfl 53 2 32 _ Tryz.underlying29 info_pair g ((i + 1) * 2) 53 (n - i) (n - i) (cap - (i + 1)) (some ⟨g, (i + 1) * 2, none⟩) cur ?_ hr (.slice (some ⟨g, i * 2, none⟩) (n + 1 - i) (cap - i)) ?_ (n + 1 - i) (xs.drop (i * 2)) rfl ?_ ?_ ?_ (fun _ => rfl) ?_ ?_ ?_)); (focus (first | rfl | (show Value.slice _ _ _ = _; congr 1; omega))); (focus (first | rfl | (show Value.slice _ _ _ = _; congr 1 <;> omega))); (focus (exact (Nat.min_eq_right (by omega)).symm)); (focus (rw [List.length_drop, Hxl.out]; omega)); (focus (rw [← Hcs1.out]; exact hsrc1.first (n - i) (by omega))); (focus (rw [List.length_drop, Hxl.out, Hl.out]; omega)); (focus (exact fun u hu => hx1 u (List.mem_of_mem_drop hu))); intro w1 hr1 hk1))
  have hnews : (Builtin.firstCells 2 1 (.slice (some ⟨vb, 0, none⟩) 1 1)).run Tryz.prog w1 = .ok news.toArray w1 := by
    have h1 : IsSl w1 NoS 2 (.slice (some ⟨vb, 0, none⟩) 1 1) 1 news := hsrc2.keep fun g' hg' hl _ => by cases hg'; exact ⟨hk1.block vb hl hvg, id⟩
    have := h1.first (P := Tryz.prog) 1 (Nat.le_refl _)
    rwa [List.take_of_length_le (by have := Hnl.out; omega)] at this
  obtain ⟨m1, m2, m3⟩ := ins_list cur xs news i n cap 2 hi hroom Hl.out Hx.out Hnl.out
  have M1 := Lib.hid m1; clear m1
  have M2 := Lib.hid m2; clear m2
  have M3 := Lib.hid m3; clear m3
  go_wp2_with (first | ((refine in_list rfl ?_); intro K hK; (refine wp_copyRow (.tmp 80) (.tmp 81) 29 29 rfl 53 2 32 _ Tryz.underlying29 info_pair g (i * 2) 53 1 (n + 1 - i) (cap - i) (some ⟨g, i * 2, none⟩) _ rfl hr1 (.slice (some ⟨vb, 0, none⟩) 1 1) rfl 1 news rfl ?_ ?_ hnews (fun _ => rfl) ?_ hone ?_); (focus (exact (Nat.min_eq_left (by omega)).symm)); (focus (rw [Hnl.out])); (focus (rw [M1.out, Hnl.out]; omega)); intro w2 hr2 hk2; refine hK _ _ ?_))
  go_ret
  refine ⟨_, rfl, ?_, ((Keep.refl (· = g) w).drew.trans hk1 (fun _ _ h => h)).trans hk2 (fun _ _ h => h)⟩
  rw [← M3.out]
  exact Row.own hr2 (n + 1) M2.out hBg hSg hroom hc2
end Go.Proofs.YtbldcbakhpdigaaGreat

/- A region that draws its order, walked in one order: quiet operations as soon as they may come, effects one behind the other; a condition S on the world holds till the last effect. No program in sight. -/
namespace Go.Proofs.YtbldcbakhpdigaaGreat
open Go.RowKit

section
variable {P : Program} {ops : Array Oper} {Q : Exit → Act → World → Prop} {md : Region.Mode} {S : World → Prop}

/-- what j waits for directly -/
def edges (md : Region.Mode) (ops : Array Oper) (j : Nat) : List Nat :=
  match ops[j]? with
  | none => []
  | some o => (o.after.toList.filter (Region.binds md)).map (·.on)
/-- what all these wait for, too: once through, from above -/
def marks (md : Region.Mode) (ops : Array Oper) : List Nat → List Nat → List Nat
  | [], l => l
  | i :: r, l => marks md ops r (if l.contains i then (edges md ops i).foldl (fun acc k => if acc.contains k then acc else k :: acc) l else l)
/-- operation j waits for every other one -/
def waitsAll (md : Region.Mode) (ops : Array Oper) (j : Nat) : Bool :=
  let l := marks md ops (List.range ops.size).reverse (edges md ops j)
  (List.range ops.size).all fun i => i == j || l.contains i

/-- what is listed stands behind what it waits for -/
def Shutd (md : Region.Mode) (ops : Array Oper) (listed : Array Bool) : Prop := ∀ i k, i < ops.size → k ∈ edges md ops i → listed.getD i true = true → listed.getD k false = true

theorem edges_of_ready {j k : Nat} {listed : Array Bool} (hj : j ∈ Region.ready md ops listed) (hk : k ∈ edges md ops j) : listed.getD k false = true := by
  obtain ⟨_, o, ho, hall⟩ := mem_ready.1 hj
  unfold edges at hk
  rw [ho] at hk
  simp only [List.mem_map, List.mem_filter, Array.mem_toList_iff] at hk
  obtain ⟨e, ⟨he, hb⟩, rfl⟩ := hk
  exact hall e he hb

theorem Shutd.set {j : Nat} {listed : Array Bool} (h : Shutd md ops listed) (hj : j ∈ Region.ready md ops listed) : Shutd md ops (listed.setIfInBounds j true) := by
  intro i k hi hk hl
  by_cases hij : j = i
  · subst hij; exact getD_set_true (edges_of_ready hj hk)
  · rw [getD_set_ne true hij] at hl; exact getD_set_true (h i k hi hk hl)

theorem Shutd.replicate : Shutd md ops (Array.replicate ops.size false) := by
  intro i k hi hk hl
  simp [hi] at hl

theorem mem_foldl_add {x : Nat} : ∀ (es : List Nat) (l : List Nat), x ∈ es.foldl (fun acc k => if acc.contains k then acc else k :: acc) l → x ∈ es ∨ x ∈ l
  | [], l, h => .inr h
  | e :: r, l, h => by
    rcases mem_foldl_add r _ h with h | h
    · exact .inl (List.mem_cons_of_mem _ h)
    · dsimp only at h
      split at h
      · exact .inr h
      · rcases List.mem_cons.1 h with rfl | h
        · exact .inl (List.mem_cons_self ..)
        · exact .inr h

theorem getD_true_of_false {listed : Array Bool} {i : Nat} (h : listed.getD i false = true) : listed.getD i true = true := by
  rcases Nat.lt_or_ge i listed.size with h' | h'
  · simpa [h'] using h
  · simp [Array.getElem?_eq_none h'] at h

theorem marks_listed {listed : Array Bool} (h : Shutd md ops listed) : ∀ (r l : List Nat), (∀ i ∈ r, i < ops.size) → (∀ x ∈ l, listed.getD x false = true) → ∀ x ∈ marks md ops r l, listed.getD x false = true
  | [], _, _, hl => hl
  | i :: r, l, hr, hl => by
    refine marks_listed h r _ (fun k hk => hr k (List.mem_cons_of_mem _ hk)) ?_
    intro x hx
    split at hx
    · rename_i hc
      rcases mem_foldl_add _ _ hx with hx | hx
      · exact h i x (hr i (List.mem_cons_self ..)) hx (getD_true_of_false (hl i (by simpa using hc)))
      · exact hl x hx
    · exact hl x hx

theorem waitsAll_spec {i j : Nat} {listed : Array Bool} (h : waitsAll md ops j = true) (hs : Shutd md ops listed) (hj : j ∈ Region.ready md ops listed) (hi : i < ops.size) (hne : i ≠ j) : listed.getD i false = true := by
  unfold waitsAll at h
  have := List.all_eq_true.1 h i (List.mem_range.2 hi)
  simp only [Bool.or_eq_true, beq_iff_eq, hne, false_or] at this
  refine marks_listed hs (List.range ops.size).reverse _ (fun k hk => by simpa using hk) (fun x hx => edges_of_ready hj hx) i (by simpa using this)

/-- whatever order is picked from here on; S holds behind every operation but one that waits for all -/
def wpAnyG (P : Program) (md : Region.Mode) (ops : Array Oper) (Q : Exit → Act → World → Prop) (S : World → Prop) : Nat → Array Bool → Act → World → Prop
  | 0, listed, a, w => Region.ready md ops listed = [] ∧ Q .normal a w
  | fuel + 1, listed, a, w =>
    (Region.ready md ops listed = [] → Q .normal a w) ∧
    ∀ i ∈ Region.ready md ops listed, wpOp P ops Q i (fun a' w' => (waitsAll md ops i = true ∨ S w') ∧ wpAnyG P md ops Q S fuel (listed.setIfInBounds i true) a' w') a w

theorem wpAny_of_G : ∀ (fuel : Nat) (listed : Array Bool) (a : Act) (w : World), wpAnyG P md ops Q S fuel listed a w → wpAny P md ops Q fuel listed a w
  | 0, _, _, _, h => h
  | fuel + 1, _, _, _, h => ⟨h.1, fun i hi => wpOp_mono (fun a' w' h' => wpAny_of_G fuel _ a' w' h'.2) (h.2 i hi)⟩

theorem lt_of_ready {i : Nat} {listed : Array Bool} (h : i ∈ Region.ready md ops listed) : i < ops.size := by
  obtain ⟨_, o, ho, _⟩ := mem_ready.1 h
  exact (Array.getElem?_eq_some_iff.1 ho).1

theorem not_waits {i j : Nat} {listed : Array Bool} (hs : Shutd md ops listed) (hi : i ∈ Region.ready md ops listed) (hj : j ∈ Region.ready md ops listed) (hne : i ≠ j) : waitsAll md ops j = false := by
  cases hw : waitsAll md ops j with
  | false => rfl
  | true =>
    have h1 := getD_true_of_false (waitsAll_spec hw hs hj (lt_of_ready hi) hne)
    rw [(mem_ready.1 hi).1] at h1
    cases h1

/-- an operation that may come up now and is quiet may be taken first -/
theorem wpAnyG_first {i : Nat} {oi : Oper} {v : Value} (hi : ops[i]? = some oi) (hsel : ∀ (j : Nat) (o : Oper) cs b, ops[j]? = some o → o.op ≠ .select cs b)
    (hQ : ∀ c a w, Q (.panic c) (a.put oi.dst v) w → Q (.panic c) a w) :
    ∀ (fuel : Nat) (listed : Array Bool) (a : Act) (w : World), Shutd md ops listed →
      (∀ j oj, ops[j]? = some oj → j ≠ i → listed.getD j true = false → (∀ e ∈ oj.after, Region.binds md e = true → e.on ≠ i) → oi.apart ops oj = true) →
      i ∈ Region.ready md ops listed → YieldsIf P ops S oi v a → S w →
      wpAnyG P md ops Q S fuel (listed.setIfInBounds i true) (a.put oi.dst v) w → wpAnyG P md ops Q S (fuel + 1) listed a w := by
  intro fuel
  induction fuel with
  | zero =>
    intro listed a w hsh _ hr hy hS H
    refine ⟨fun h => (by rw [h] at hr; cases hr), fun j hj => ?_⟩
    by_cases hji : j = i
    · subst hji; exact hy.wpOp hi hS ⟨.inr hS, H⟩
    · have := ready_mono hj hji
      rw [H.1] at this
      cases this
  | succ fuel ih =>
    intro listed a w hsh hfree hr hy hS H
    refine ⟨fun h => (by rw [h] at hr; cases hr), fun j hj => ?_⟩
    by_cases hji : j = i
    · subst hji; exact hy.wpOp hi hS ⟨.inr hS, H⟩
    · have h1 := H.2 j (ready_mono hj hji)
      have hnw := not_waits hsh hr hj (Ne.symm hji)
      obtain ⟨hjun, oj, hoj, hall⟩ := mem_ready.1 hj
      have hnot : ∀ e ∈ oj.after, Region.binds md e = true → e.on ≠ i := fun e he hb heq => by
        have q1 := hall e he hb
        have q0 := (mem_ready.1 hr).1
        rw [heq] at q1
        rcases Nat.lt_or_ge i listed.size with h' | h'
        · simp [h'] at q0 q1; rw [q0] at q1; cases q1
        · simp [Array.getElem?_eq_none h'] at q1
      have h2 := wpOp_putIf hoj (hfree j oj hoj hji hjun hnot) (fun cs b => hsel i oi cs b hi) (fun cs b => hsel j oj cs b hoj) hQ hy h1
      have hfree' : ∀ k ok, ops[k]? = some ok → k ≠ i → (listed.setIfInBounds j true).getD k true = false →
          (∀ e ∈ ok.after, Region.binds md e = true → e.on ≠ i) → oi.apart ops ok = true := fun k ok hk hki hun hno => by
        refine hfree k ok hk hki ?_ hno
        by_cases hjk : j = k
        · subst hjk; exact hjun
        · rw [getD_set_ne true hjk] at hun; exact hun
      refine wpOp_mono (fun a' w' h3 => ?_) h2
      have hS' : S w' := h3.2.1.resolve_left (by rw [hnw]; simp)
      refine ⟨.inr hS', ih (listed.setIfInBounds j true) a' w' (hsh.set hj) hfree' (ready_mono hr (Ne.symm hji)) h3.1 hS' ?_⟩
      rw [Array.setIfInBounds_comm _ _ hji]
      exact h3.2.2

/-- the order in which the walk goes is a good one -/
def ordOk (md : Region.Mode) (ops : Array Oper) (q : Nat → Bool) : List Nat → Array Bool → Bool
  | [], listed => (Region.ready md ops listed).isEmpty
  | i :: rest, listed =>
    (if q i then (Region.ready md ops listed).contains i && Region.free md ops listed i
     else (Region.ready md ops listed == [i]) && (!waitsAll md ops i || rest.isEmpty)) && ordOk md ops q rest (listed.setIfInBounds i true)

/-- the walk in that order -/
def wpOrd (P : Program) (md : Region.Mode) (ops : Array Oper) (Q : Exit → Act → World → Prop) (S : World → Prop) (q : Nat → Bool) : List Nat → Act → World → Prop
  | [], a, w => Q .normal a w
  | i :: rest, a, w =>
    if q i then ∃ o v, ops[i]? = some o ∧ (∀ c a w, Q (.panic c) (a.put o.dst v) w → Q (.panic c) a w) ∧ YieldsIf P ops S o v a ∧ wpOrd P md ops Q S q rest (a.put o.dst v) w
    else wpOp P ops Q i (fun a' w' => (waitsAll md ops i = true ∨ S w') ∧ wpOrd P md ops Q S q rest a' w') a w

theorem wpAnyG_of_ord (hs : Region.noSelect ops = true) {q : Nat → Bool} : ∀ (order : List Nat) (fuel : Nat) (listed : Array Bool) (a : Act) (w : World), Shutd md ops listed →
    ordOk md ops q order listed = true → order.length ≤ fuel → (order = [] ∨ S w) → wpOrd P md ops Q S q order a w → wpAnyG P md ops Q S fuel listed a w
  | [], fuel, listed, a, w, _, hok, _, _, h => by
    have h0 : Region.ready md ops listed = [] := by simpa [ordOk] using hok
    cases fuel with
    | zero => exact ⟨h0, h⟩
    | succ fuel => exact ⟨fun _ => h, fun i hi => by rw [h0] at hi; cases hi⟩
  | i :: rest, 0, _, _, _, _, _, hf, _, _ => absurd hf (by simp)
  | i :: rest, fuel + 1, listed, a, w, hsh, hok, hf, hSw, h => by
    have hS : S w := hSw.resolve_left (by simp)
    simp only [ordOk, Bool.and_eq_true] at hok
    obtain ⟨hi, hrest⟩ := hok
    by_cases hq : q i = true
    · simp only [hq, if_true, Bool.and_eq_true] at hi
      simp only [wpOrd, hq, if_true] at h
      obtain ⟨o, v, ho, hQ, hy, h⟩ := h
      exact wpAnyG_first ho (Region.noSelect_spec hs) hQ fuel listed a w hsh (Region.free_spec ho hi.2) (by simpa using hi.1) hy hS
        (wpAnyG_of_ord hs rest fuel _ _ _ (hsh.set (by simpa using hi.1)) hrest (by simpa using hf) (.inr hS) h)
    · rw [if_neg hq, Bool.and_eq_true, beq_iff_eq] at hi
      simp only [wpOrd] at h
      rw [if_neg hq] at h
      have hr : Region.ready md ops listed = [i] := by simpa using hi.1
      refine ⟨fun h0 => (by rw [hr] at h0; cases h0), fun j hj => ?_⟩
      rw [hr] at hj
      obtain rfl : j = i := by simpa using hj
      refine wpOp_mono (fun a' w' h3 => ⟨h3.1, wpAnyG_of_ord hs rest fuel _ _ _ (hsh.set (by rw [hr]; exact List.mem_singleton.2 rfl)) hrest (by simpa using hf) ?_ h3.2⟩) h
      rcases h3.1 with hw | hS'
      · have := hi.2
        simp only [hw] at this
        exact .inl (by simpa using this)
      · exact .inr hS'

/-- the beginning -/
theorem wp_region_ord {id : Nat} {a : Act} {w : World} (S : World → Prop) (q : Nat → Bool) (order : List Nat) (hm : P.follows .mixedOrders = true) (hok : (Region.noSelect ops && decide (order.length ≤ ops.size) && ordOk .any ops q order (Array.replicate ops.size false)) = true)
    (hS : S w.drew) (h : wpOrd P .any ops Q S q order a w.drew) : (Code.region id ops true).wp P Q a w := by
  simp only [Bool.and_eq_true, decide_eq_true_eq] at hok
  exact wp_region_any hm (wpAny_of_G _ _ _ _ (wpAnyG_of_ord hok.1.1 order _ _ _ _ Shutd.replicate hok.2 hok.1.2 (.inr hS) h))

theorem ord_nil {q : Nat → Bool} {a : Act} {w : World} (h : Q .normal a w) : wpOrd P md ops Q S q [] a w := h
/-- a quiet operation -/
theorem ord_q {q : Nat → Bool} {i : Nat} {rest : List Nat} {a : Act} {w : World} {o : Oper} {v : Value} (hq : q i = true) (hi' : ops.toList[i]? = some o) (hQ : ∀ c a w, Q (.panic c) (a.put o.dst v) w → Q (.panic c) a w)
    (hw : Region.wanted o (yielded ops a.tmps) = true) (hy : ∀ W, S W → (execOp a.eval o).run P W = .ok (.value v) W) (h : wpOrd P md ops Q S q rest (a.put o.dst v) w) : wpOrd P md ops Q S q (i :: rest) a w := by
  have hi : ops[i]? = some o := by rw [← Array.getElem?_toList]; exact hi'
  simp only [wpOrd, hq, if_true]; exact ⟨o, v, hi, hQ, .inl ⟨hw, hy⟩, h⟩
/-- a quiet operation whose guard says no -/
theorem ord_skip {q : Nat → Bool} {i : Nat} {rest : List Nat} {a : Act} {w : World} {o : Oper} (hq : q i = true) (hi' : ops.toList[i]? = some o) (hQ : ∀ c a w, Q (.panic c) (a.put o.dst undef) w → Q (.panic c) a w)
    (hw : Region.wanted o (yielded ops a.tmps) = false) (h : wpOrd P md ops Q S q rest (a.put o.dst undef) w) : wpOrd P md ops Q S q (i :: rest) a w := by
  have hi : ops[i]? = some o := by rw [← Array.getElem?_toList]; exact hi'
  simp only [wpOrd, hq, if_true]; exact ⟨o, undef, hi, hQ, .inr ⟨hw, rfl⟩, h⟩
/-- an effect -/
theorem ord_e {q : Nat → Bool} {i : Nat} {rest : List Nat} {a : Act} {w : World} {o : Oper} (hq : q i = false) (hi' : ops.toList[i]? = some o) (hw : Region.wanted o (yielded ops a.tmps) = true)
    (h : ∀ K : Act → World → Prop, Shut (∀ a w, S w → wpOrd P md ops Q S q rest a w → K a w) → o.wp P a w K Q) : wpOrd P md ops Q S q (i :: rest) a w := by
  have hi : ops[i]? = some o := by rw [← Array.getElem?_toList]; exact hi'
  simp only [wpOrd, hq, wpOp, hi, hw, if_true]
  exact .inl (h _ (fun a w hS hW => ⟨.inr hS, hW⟩))
/-- the last effect -/
theorem ord_l {q : Nat → Bool} {i : Nat} {rest : List Nat} {a : Act} {w : World} {o : Oper} (hq : q i = false) (hi' : ops.toList[i]? = some o) (hw : Region.wanted o (yielded ops a.tmps) = true) (hl : waitsAll md ops i = true)
    (h : ∀ K : Act → World → Prop, Shut (∀ a w, wpOrd P md ops Q S q rest a w → K a w) → o.wp P a w K Q) : wpOrd P md ops Q S q (i :: rest) a w := by
  have hi : ops[i]? = some o := by rw [← Array.getElem?_toList]; exact hi'
  simp only [wpOrd, hq, wpOp, hi, hw, if_true]
  exact .inl (h _ (fun a w hW => ⟨.inl hl, hW⟩))
end

end Go.Proofs.YtbldcbakhpdigaaGreat

