/- must, least, the cutter. -/
import Derived.Test.YtbldcbakhpdigaaClone
import Derived.Test.YtbldcbakhpdigaaFind
namespace Go.Proofs.Ytbldcbakhpdigaa
open Go.RowKit

theorem must_ok (w : World) : Calls Try.prog 53 #[.int .i64 0] w fun e w' => e = .returned (.tuple #[]) ∧ w = w' := by
  go_enter Try.func53, Try.ntmps53
  go_wp2
  go_end0
  exact ⟨rfl, rfl⟩

/-- what a change gives up with -/
def brk (e : Int) : List PanicEntry := [{ v := .iface 101 (.agg #[.int .i64 e]), recovered := false }]

theorem must_not (e : Int) (he : (e == 0) = false) (w : World) : Calls Try.prog 53 #[.int .i64 e] w fun e' w' => e' = .panicked (brk e) ∧ w = w' := by
  have he2 : (e != 0) = true := by simp only [bne, he]; rfl
  go_enter Try.func53, Try.ntmps53
  go_wp2
  exact ⟨rfl, rfl, rfl⟩

/-- the least key of a node; of an inner one that is told -/
def leastOf (nd : Nd) (told : ByteArray) : ByteArray := match nd.kids with | [] => (nd.pairs.headD (⟨#[]⟩, ⟨#[]⟩)).1 | _ => told

theorem least_any (b : Nat) (nd : Nd) (told : ByteArray) (w : World) (S : Nat → Prop) (h : IsNode w S b nd) (hne : nd.kids = [] → nd.pairs ≠ []) :
    Calls Try.prog 69 #[.pointer (some ⟨b, 0, none⟩), .string told] w fun e w' => e = .returned (.string (leastOf nd told)) ∧ w = w' := by
  have hN := h
  obtain ⟨hSb, v0, v1, v2, hb, h0, hk, h2⟩ := h
  obtain ⟨c0, c1, c2, _, _, _, hlt⟩ := cells3 hb
  cases hk : nd.kids with
  | nil =>
    have hp := hne hk
    have hl : 0 < nd.pairs.length := List.length_pos_iff.2 hp
    obtain ⟨ao0, cp0, rfl, n0, m0, _, _⟩ := IsSl.form h0
    obtain ⟨b', o', rfl, d1, d2⟩ := h0.at rfl 0 hl
    have hle : leastOf nd told = nd.pairs[0].1 := by
      unfold leastOf; rw [hk]
      show (nd.pairs.headD _).1 = _
      have : ∀ (l : List Pr) (h : 0 < l.length), l.headD (⟨#[]⟩, ⟨#[]⟩) = l[0] := fun l h => by
        cases l with
        | nil => simp at h
        | cons => rfl
      rw [this]
    have hleaf : nd.kids.isEmpty = true := by rw [hk]; rfl
    have Hle := Lib.hid hle
    have Hk := Lib.hid hk
    have d1' : w.cell? ⟨b', o', none⟩ = some (.string nd.pairs[0].1) := by simpa using d1
    have hl' : (0 : Int) < (nd.pairs.length : Int) := by omega
    clear hle hk hne d1 d2
    go_enter Try.func69, Try.ntmps69
    go_wp2_with (go_at_call 48; refine (leaf_any b nd _ S hN).mono ?_; rw [hleaf]; rintro e w1 ⟨rfl, rfl⟩)
    go_ret
    exact ⟨by rw [Hle.out]; rfl, rfl⟩
  | cons k ks =>
    have hle : leastOf nd told = told := by unfold leastOf; rw [hk]
    have hleaf : nd.kids.isEmpty = false := by rw [hk]; rfl
    have Hle := Lib.hid hle
    have Hk := Lib.hid hk
    clear hle hk hne
    go_enter Try.func69, Try.ntmps69
    go_wp2_with (go_at_call 48; refine (leaf_any b nd _ S hN).mono ?_; rw [hleaf]; rintro e w1 ⟨rfl, rfl⟩)
    go_ret
    exact ⟨by rw [Hle.out]; rfl, rfl⟩

/-- a cutter whose bytes are l -/
def IsCut (w : World) (S : Nat → Prop) (B b : Nat) (l : List UInt8) : Prop := ¬ S b ∧ B ≤ b ∧ ∃ v, w.heap[b]? = some (.cells #[v, .bool false] 133 (0, 0)) ∧ IsBytes w S v l ∧ ∀ g, v.ownBlock = some g → g < B

theorem IsCut.keep {w w' : World} {S : Nat → Prop} {B b : Nat} {l : List UInt8} (h : IsCut w S B b l) (hb : w'.heap[b]? = w.heap[b]?) (hlo : ∀ g, g < B → w'.heap[g]? = w.heap[g]?) : IsCut w' S B b l := by
  obtain ⟨h1, h2, v, h3, h4, h5⟩ := h
  exact ⟨h1, h2, v, hb.trans h3, IsSl.keep h4 fun g hg _ hs => ⟨hlo g (h5 g hg), hs⟩, h5⟩

theorem cells2 {w : World} {b t : Nat} {v0 v1 : Value} (h : w.heap[b]? = some (.cells #[v0, v1] t (0, 0))) :
    w.cell? ⟨b, 0, none⟩ = some v0 ∧ w.cell? ⟨b, 1, none⟩ = some v1 ∧ w.frozen? ⟨b, 0, none⟩ = false ∧ w.frozen? ⟨b, 1, none⟩ = false ∧ b < w.heap.size := by
  refine ⟨?_, ?_, ?_, ?_, (Array.getElem?_eq_some_iff.1 h).1⟩ <;> simp [World.cell?, World.frozen?, h]

/-- string(v), v a slice of a string's bytes -/
theorem IsBytes.str {P : Program} {w : World} {S : Nat → Prop} {v : Value} (s : ByteArray) (h : IsBytes w S v s.data.toList) (src dst e : TypeId) (hs : P.underlying src = some (.slice e)) (he : P.underlying e = some (.int .u8)) (hd : P.underlying dst = some .string) :
    (convert src dst v).run P w = .ok (.string s) w := by
  have hh := h
  obtain ⟨ao, c, rfl, _, _, h3, h4, h5, h6⟩ := h
  cases ao with
  | none =>
    have h0 := (h4 rfl).1
    rw [run_convert_bytes_nil w src e hs he _ _ dst hd]
    have : s = ByteArray.empty := by
      cases s with
      | mk d =>
        have : d = #[] := Array.eq_empty_of_size_eq_zero (by simpa using h0)
        rw [this]; rfl
    rw [this]
  | some ad =>
    obtain ⟨b, o, sp⟩ := ad
    obtain rfl : sp = none := (h5 _ rfl).1
    have := run_convert_bytes_back (P := P) w src dst e ⟨b, o, none⟩ c s.data.toList hs he hd (fun j hj => by
      obtain ⟨b', o', e', hc⟩ := hh.at rfl j hj
      cases e'
      rw [Addr.add_lit]; exact hc)
    rw [this]

set_option maxRecDepth 100000 in
set_option maxHeartbeats 400000 in
theorem cut_nat (B b : Nat) (l : List UInt8) (n : Nat) (w : World) (S : Nat → Prop) (h : IsCut w S B b l) (hn : n ≤ l.length) :
    Calls Try.prog 80 #[.pointer (some ⟨b, 0, none⟩), .int .i64 n] w fun e w' => ∃ v, e = .returned v ∧ IsBytes w' S v (l.take n) ∧ IsCut w' S B b (l.drop n) ∧ Keep (· = b) w w' ∧ (∀ g, v.ownBlock = some g → g < B) ∧ w'.heap.size = w.heap.size := by
  obtain ⟨hS, hBb, v, hb, hl0, hvb⟩ := h
  obtain ⟨c0, c1, f0, f1, hlt⟩ := cells2 hb
  have hB := hl0
  obtain ⟨ao, c, rfl, g1, g2, g3, g4⟩ := IsSl.form hl0
  have k0 : (0 : Int) ≤ (n : Int) := by omega
  have k1 : (n : Int) ≤ (c : Int) := by omega
  have k2 : (n : Int) ≤ (l.length : Int) := by omega
  have t1 := IsSl.upto hB n hn
  have t2 := IsSl.after hB n hn
  have hk : ∀ v, Keep (· = b) w (w.setCell ⟨b, 0, none⟩ v) := fun v => Keep.setCell (M := (· = b)) (p := ⟨b, 0, none⟩) (Keep.refl _ w) (.inr rfl) v
  have hblk : ∀ v, (w.setCell ⟨b, 0, none⟩ v).heap[b]? = some (.cells #[v, .bool false] 133 (0, 0)) := fun v => by
    simp [World.setCell, Array.getElem?_modify, hb]
  have kp : ∀ (v' : Value) (v : Value) (m : Nat) (xs : List Value), IsSl w S 1 v m xs → v.ownBlock ≠ some b → IsSl (w.setCell ⟨b, 0, none⟩ v') S 1 v m xs := fun v' v m xs h hne =>
    h.keep fun g hg hl hs => ⟨(hk v').block g hl (fun e => hne (by rw [hg, e])), hs⟩
  have b1 : ∀ g, (Value.slice ao n c).ownBlock = some g → g < B := by cases ao <;> exact hvb
  have b2 : ∀ g, (Value.slice (if c = n then ao else ao.map fun x => x.add (n * 1)) (l.length - n) (c - n)).ownBlock = some g → g < B := by
    cases ao with
    | none => split <;> simp [Value.ownBlock]
    | some ad =>
      have hb1 : ad.block < B := hvb _ rfl
      split
      · exact fun g e => by injection e with e; omega
      · intro g e
        simp only [Value.ownBlock, Option.map_some, Option.some.injEq] at e
        unfold Addr.add at e; split at e <;> (first | omega | (simp only at e; omega))
  have e1 : (bCells l).take (n * 1) = bCells (l.take n) := by simp [bCells, List.map_take]
  have e2 : (bCells l).drop (n * 1) = bCells (l.drop n) := by simp [bCells, List.map_drop]
  rw [e1] at t1
  rw [e2] at t2
  have u1 : ∀ v', IsBytes (w.setCell ⟨b, 0, none⟩ v') S (.slice ao n c) (l.take n) := fun v' => by
    unfold IsBytes; rw [List.length_take, Nat.min_eq_left hn]; exact kp v' _ _ _ t1 (fun e => absurd (b1 _ e) (Nat.not_lt.2 hBb))
  have u2 : ∀ v', IsBytes (w.setCell ⟨b, 0, none⟩ v') S (.slice (if c = n then ao else ao.map fun x => x.add (n * 1)) (l.length - n) (c - n)) (l.drop n) := fun v' => by
    unfold IsBytes; rw [List.length_drop]; exact kp v' _ _ _ t2 (fun e => absurd (b2 _ e) (Nat.not_lt.2 hBb))
  have U1 := Lib.hid u1
  have U2 := Lib.hid u2
  have Hk := Lib.hid hk
  have Hb := Lib.hid hblk
  have B1 := Lib.hid b1
  have B2 := Lib.hid b2
  clear u1 u2 hk hblk b1 b2 kp t1 t2 e1 e2 hB hl0 hvb
  by_cases hcn : c = n
  · subst hcn
    go_enter Try.func80, Try.ntmps80
    go_wp2
    go_ret
    have q2 := U2.out (.slice ao (l.length - c) (c - c))
    have q3 := B2.out
    simp only [if_true, show l.length - c = 0 by omega, Nat.sub_self] at q2 q3
    exact ⟨_, rfl, U1.out _, ⟨hS, hBb, _, Hb.out _, q2, q3⟩, Hk.out _, B1.out, by simp⟩
  · go_enter Try.func80, Try.ntmps80
    go_wp2
    go_ret
    have q2 := U2.out (.slice (ao.map fun x => x.add n) (l.length - n) (c - n))
    have q3 := B2.out
    rw [if_neg hcn, Nat.mul_one] at q2 q3
    exact ⟨_, rfl, U1.out _, ⟨hS, hBb, _, Hb.out _, q2, q3⟩, Hk.out _, B1.out, by simp⟩
theorem cut_any (B b : Nat) (l : List UInt8) (n : Nat) (m : Int) (hm : m = (n : Int)) (w : World) (S : Nat → Prop) (h : IsCut w S B b l) (hn : n ≤ l.length) :
    Calls Try.prog 80 #[.pointer (some ⟨b, 0, none⟩), .int .i64 m] w fun e w' => ∃ v, e = .returned v ∧ IsBytes w' S v (l.take n) ∧ IsCut w' S B b (l.drop n) ∧ Keep (· = b) w w' ∧ (∀ g, v.ownBlock = some g → g < B) ∧ w'.heap.size = w.heap.size := by
  subst hm; exact cut_nat B b l n w S h hn
end Go.Proofs.Ytbldcbakhpdigaa
