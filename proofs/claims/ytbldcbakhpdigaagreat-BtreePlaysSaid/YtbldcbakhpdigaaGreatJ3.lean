/- Small, Find, Must, DecD, Repl, Fork, Halves, SlInsG -/
import Derived.Test.YtbldcbakhpdigaaGreatJ2
import Derived.Deep.QuietTactic
import Derived.BigQuiet
/- Small contracts: strings.Compare, sort.Search, the two closures, slices.BinarySearchFunc. -/
namespace Go.Proofs.YtbldcbakhpdigaaGreat
open Go.RowKit

set_option maxHeartbeats 400000 in
theorem cmpString_any (a b : ByteArray) (w : World) : Calls Tryz.prog 81 #[.string a, .string b] w fun e w' => e = .returned (.int .i64 (cmpS a b)) ∧ w = w' := by
  have hc : ∀ w, (callFunc 98 #[.string a, .string b]).run Tryz.prog w = .ok (.value (.int .i64 (cmpS a b))) w := fun w => by
    rw [run_callFunc_extern Tryz.func98 (by kernel_rfl) (by kernel_rfl) (by kernel_rfl) (e := Extern.BytealgCompare.compare) (by kernel_rfl), Lib.run_compareString]
    rfl
  go_enter Tryz.func81, Tryz.ntmps81
  go_wp2
  go_ret
  exact ⟨rfl, rfl⟩

set_option maxHeartbeats 400000 in
theorem compare_any (a b : ByteArray) (w : World) : Calls Tryz.prog 53 #[.string a, .string b] w fun e w' => e = .returned (.int .i64 (cmpS a b)) ∧ w = w' := by
  go_enter Tryz.func53, Tryz.ntmps53
  go_wp2_with (go_at_call 81; refine (cmpString_any _ _ _).mono ?_; rintro e w' ⟨rfl, rfl⟩)
  go_ret
  exact ⟨rfl, rfl⟩

/-- find's closure: a pair's key against a key -/
theorem findC_any (k v key : ByteArray) (w : World) : Calls Tryz.prog 52 #[.agg #[.string k, .string v], .string key] w fun e w' => e = .returned (.int .i64 (cmpS k key)) ∧ Below w.heap.size w w' := by
  go_enter Tryz.func52, Tryz.ntmps52
  go_wp2_with (go_at_call 53; refine (compare_any _ _ _).mono ?_; rintro e w' ⟨rfl, rfl⟩)
  go_ret
  exact ⟨rfl, below_one _ _⟩

set_option maxRecDepth 100000 in
set_option maxHeartbeats 400000 in
/-- sort.Search with a closure that leaves what was there -/
theorem search_any (n : Nat) (g : Nat) (cb : Array Value) (p : Nat → Bool) (w : World) (hn : n ≤ 1000000) (hent : ∀ args w, (callFunc g args).run Tryz.prog w = .ok (.enter g args) w)
    (hf : ∀ W, Below w.heap.size w W → ∀ i, i < n → Calls Tryz.prog g (#[.int .i64 (i : Int)] ++ cb) W fun e w' => e = .returned (.bool (p i)) ∧ Below w.heap.size W w')
    (m : Nat) (hm : m ≤ n) (hlo : ∀ i, i < m → p i = false) (hhi : ∀ i, m ≤ i → i < n → p i = true) :
    Calls Tryz.prog 56 #[.int .i64 n, .func (.func g) #[] cb] w fun e w' => e = .returned (.int .i64 m) ∧ Below w.heap.size w w' := by
  go_enter Tryz.func56, Tryz.ntmps56
  go_wp2
  go_loopw [5, 6] (fun a b wr => ∃ i j : Nat, a = .int .i64 i ∧ b = .int .i64 j ∧ i ≤ m ∧ m ≤ j ∧ j ≤ n ∧ Below w.heap.size w wr) (fun a b _ => ((intOf b) - (intOf a)).toNat)
  case atStart => exact ⟨0, n, rfl, rfl, Nat.zero_le _, hm, Nat.le_refl _, Below.refl _ _⟩
  case round =>
    obtain ⟨i, j, rfl, rfl, him, hmj, hjn, hbel⟩ := hrel
    by_cases hij : i < j
    · obtain ⟨d, hd⟩ : ∃ d, d = (i + j) / 2 := ⟨_, rfl⟩
      have hdc : ((i : Int) + (j : Int)) / 2 = (d : Int) := by omega
      have hd1 : i ≤ d := by omega
      have hd2 : d < j := by omega
      have Hf := Lib.hid (hf wr hbel d (by omega))
      have hml : m ≤ d ∨ d < m := Nat.lt_or_ge d m |>.symm
      have Hlo := Lib.hid hlo
      have Hhi := Lib.hid hhi
      clear hf hlo hhi hd
      have Hdc := Lib.hid hdc; clear hdc
      by_cases hmd : m ≤ d
      · have hp := Lib.hid (Hhi.out d hmd (by omega))
        go_wp2_with (first | (rw [Hdc.out]; refine Hf.out.mono ?_; rw [hp.out]; rintro e w1 ⟨rfl, hb1⟩))
        go_roundw
        case rel => exact ⟨i, d, rfl, rfl, by omega, hmd, by omega, hbel.trans hb1⟩
        case measure => simp [intOf]; omega
      · have hp := Lib.hid (Hlo.out d (by omega))
        go_wp2_with (first | (rw [Hdc.out]; refine Hf.out.mono ?_; rw [hp.out]; rintro e w1 ⟨rfl, hb1⟩))
        go_roundw
        case rel => exact ⟨d + 1, j, by go_num, rfl, by omega, by omega, by omega, hbel.trans hb1⟩
        case measure => simp [intOf]; omega
    · obtain rfl : i = m := by omega
      obtain rfl : j = i := by omega
      clear hf hlo hhi
      go_wp2
      go_ret
      exact ⟨rfl, hbel⟩

set_option maxHeartbeats 400000 in
/-- kid's closure: is key i behind the key? -/
theorem kidC_any (pb kb b : Nat) (nd : Nd) (key : ByteArray) (w : World) (S : Nat → Prop) (h : IsNode w S b nd) (h1 : w.cell? ⟨pb, 0, none⟩ = some (.pointer (some ⟨b, 0, none⟩))) (h2 : w.cell? ⟨kb, 0, none⟩ = some (.string key)) (i : Nat) (hi : i < nd.keys.length) :
    Calls Tryz.prog 57 #[.int .i64 i, .pointer (some ⟨pb, 0, none⟩), .pointer (some ⟨kb, 0, none⟩)] w fun e w' => e = .returned (.bool (lt key nd.keys[i])) ∧ Below w.heap.size w w' := by
  obtain ⟨_, v0, v1, v2, hb, _, hk, _⟩ := h
  obtain ⟨c0, c1, c2, _, _, _, hlt⟩ := cells3 hb
  obtain ⟨ao1, cp1, rfl, n1, m1, _, _⟩ := IsSl.form hk
  obtain ⟨b', o', rfl, d1⟩ := hk.at rfl i hi
  have k1 : (0 : Int) ≤ (i : Int) := by omega
  have k2 : (i : Int) < (nd.keys.length : Int) := by omega
  go_enter Tryz.func57, Tryz.ntmps57
  go_wp2
  go_quiet (fail)
  go_wp2
  go_ret
  exact ⟨congrArg (fun x => Ending.returned (Value.bool x)) (gtr_eq _ _), below_drewN (Below.refl _ _) _⟩

theorem kidC_enters (args : Array Value) (w : World) : (callFunc 57 args).run Tryz.prog w = .ok (.enter 57 args) w := by
  kernel_rfl

set_option maxRecDepth 100000 in
set_option maxHeartbeats 400000 in
theorem kid_any (b : Nat) (nd : Nd) (key : ByteArray) (w : World) (S : Nat → Prop) (h : IsNode w S b nd) (hr : Rising nd.keys) (hn : nd.keys.length ≤ 1000000) :
    Calls Tryz.prog 38 #[.pointer (some ⟨b, 0, none⟩), .string key] w fun e w' => e = .returned (.int .i64 (kidAt nd.keys key)) ∧ Below w.heap.size w w' := by
  have hN := h
  obtain ⟨hSb, v0, v1, v2, hb, h0, hk, h2⟩ := h
  obtain ⟨c0, c1, c2, _, _, _, hlt⟩ := cells3 hb
  obtain ⟨ao1, cp1, rfl, n1, m1, _, _⟩ := IsSl.form hk
  have hmf : ∀ (fn : Fn) (first cap : Array Value) (w : World), (Instr.makeFunc fn first cap).run Tryz.prog w = .ok (.func fn first cap) w := fun _ _ _ _ => rfl
  obtain ⟨f1, f2⟩ := kidAt_facts key nd.keys hr
  have hS := search_any nd.keys.length 57 #[.pointer (some ⟨w.heap.size, 0, none⟩), .pointer (some ⟨w.heap.size + 1, 0, none⟩)] (fun i => if h : i < nd.keys.length then lt key nd.keys[i] else true)
    ((w.alloc (.cells #[.pointer (some ⟨b, 0, none⟩)] 69)).alloc (.cells #[.string key] 9)) hn kidC_enters
    (fun W hW i hi => by
      have hW0 : Below w.heap.size w W := (below_two w _ _).trans (hW.mono (by simp; omega))
      have hNW : IsNode W S b nd := hN.below hW0
      have q1 := (hW.cell (p := ⟨w.heap.size, 0, none⟩) (by simp; omega)).trans (by rw [World.cell?_alloc_old _ _ _ (by simp), World.cell?_alloc_new])
      have q2 := (hW.cell (p := ⟨w.heap.size + 1, 0, none⟩) (by simp)).trans (by rw [show w.heap.size + 1 = (w.alloc (.cells #[.pointer (some ⟨b, 0, none⟩)] 69)).heap.size by simp, World.cell?_alloc_new])
      refine (kidC_any w.heap.size (w.heap.size + 1) b nd key W S hNW q1 q2 i hi).mono ?_
      rintro e w' ⟨rfl, hb⟩
      exact ⟨by simp [hi], hb.mono hW.size⟩)
    (kidAt nd.keys key) (kidAt_le _ _) (fun i hi => by have := kidAt_le nd.keys key; simp only [dif_pos (show i < nd.keys.length by omega)]; exact f1 i _ hi) (fun i hi hl => by simp only [dif_pos hl]; exact f2 i _ hi)
  have HS := Lib.hid hS
  clear hS f1 f2 hN
  go_enter Tryz.func38, Tryz.ntmps38
  go_wp2_with (go_at_call 56; refine HS.out.mono ?_; rintro e w1 ⟨rfl, hb1⟩)
  go_ret
  exact ⟨rfl, (below_two w _ _).trans (hb1.mono (by simp; omega))⟩
end Go.Proofs.YtbldcbakhpdigaaGreat

/- node.find: the place of a key among a leaf's pairs. -/
namespace Go.Proofs.YtbldcbakhpdigaaGreat
open Go.RowKit

theorem findC_enters (args : Array Value) (w : World) : (callFunc 52 args).run Tryz.prog w = .ok (.enter 52 args) w := by
  kernel_rfl

set_option maxRecDepth 100000 in
set_option maxHeartbeats 1000000 in
theorem bsearch_any (v : Value) (ps : List (ByteArray × ByteArray)) (key : ByteArray) (w : World) (S : Nat → Prop) (h : IsPrs w S v ps) (hr : RisingP ps) (hn : ps.length ≤ 1000000) :
    Calls Tryz.prog 51 #[v, .string key, .func (.func 52) #[] #[]] w fun e w' => e = .returned (.tuple #[.int .i64 (posAt ps key), .bool (isAt ps key)]) ∧ Below w.heap.size w w' := by
  have hP := h
  obtain ⟨ao, c, rfl, n1, m1, _, _⟩ := IsSl.form h
  obtain ⟨f1, f2⟩ := posAt_facts key ps hr
  have hpl := posAt_le ps key
  have F1 := Lib.hid f1; clear f1
  have F2 := Lib.hid f2; clear f2
  go_enter Tryz.func51, Tryz.ntmps51
  go_wp2
  go_loopw [9, 10] (fun a b wr => ∃ i j : Nat, a = .int .i64 i ∧ b = .int .i64 j ∧ i ≤ posAt ps key ∧ posAt ps key ≤ j ∧ j ≤ ps.length ∧ Below w.heap.size w wr) (fun a b _ => ((intOf b) - (intOf a)).toNat)
  case atStart => exact ⟨0, ps.length, rfl, rfl, Nat.zero_le _, hpl, Nat.le_refl _, Below.refl _ _⟩
  case round =>
    obtain ⟨i, j, rfl, rfl, him, hmj, hjn, hbel⟩ := hrel
    by_cases hij : i < j
    · obtain ⟨d, hd⟩ : ∃ d, d = (i + j) / 2 := ⟨_, rfl⟩
      have hdc : ((i : Int) + (j : Int)) / 2 = (d : Int) := by omega
      have hd1 : i ≤ d := by omega
      have hd2 : d < j := by omega
      have hd3 : d < ps.length := by omega
      obtain ⟨b', o', rfl, hc1, hc2⟩ := hP.at rfl d hd3
      have d1 := (hbel.cell (p := ⟨b', o' + d * 2, none⟩) (World.block_lt_of_cell? w _ hc1)).trans hc1
      have d2 := (hbel.cell (p := ⟨b', o' + d * 2 + 1, none⟩) (World.block_lt_of_cell? w _ hc2)).trans hc2
      clear hd hc1 hc2
      have Hdc := Lib.hid hdc; clear hdc
      by_cases hmd : posAt ps key ≤ d
      · have hp := F2.out d hd3 hmd
        have hp' : ¬ cmpS ps[d].1 key < 0 := by rw [cmpS_neg, hp]; simp
        have hp2 : decide (cmpS ps[d].1 key < 0) = false := by simpa using hp'
        go_wp2_with (first | (rw [Hdc.out]) | (go_at_call 52; refine (findC_any _ _ _ _).mono ?_; rintro e w1 ⟨rfl, hb1⟩))
        go_roundw
        case rel => exact ⟨i, d, rfl, rfl, by omega, hmd, by omega, hbel.trans (hb1.mono hbel.size)⟩
        case measure => simp [intOf]; omega
      · have hp := F1.out d hd3 (by omega)
        have hp' : cmpS ps[d].1 key < 0 := by rw [cmpS_neg, hp]
        have hp2 : decide (cmpS ps[d].1 key < 0) = true := by simpa using hp'
        go_wp2_with (first | (rw [Hdc.out]) | (go_at_call 52; refine (findC_any _ _ _ _).mono ?_; rintro e w1 ⟨rfl, hb1⟩))
        go_roundw
        case rel => exact ⟨d + 1, j, by go_num, rfl, by omega, by omega, by omega, hbel.trans (hb1.mono hbel.size)⟩
        case measure => simp [intOf]; omega
    · obtain rfl : i = posAt ps key := by omega
      obtain rfl : j = posAt ps key := by omega
      by_cases hin : posAt ps key < ps.length
      · obtain ⟨b', o', rfl, hc1, hc2⟩ := hP.at rfl _ hin
        have d1 := (hbel.cell (p := ⟨b', o' + posAt ps key * 2, none⟩) (World.block_lt_of_cell? w _ hc1)).trans hc1
        have d2 := (hbel.cell (p := ⟨b', o' + posAt ps key * 2 + 1, none⟩) (World.block_lt_of_cell? w _ hc2)).trans hc2
        have hat : isAt ps key = (cmpS ps[posAt ps key].1 key == 0) := by
          unfold isAt
          rw [List.getElem?_eq_getElem hin]
          rw [Bool.eq_iff_iff]; simp [cmpS_zero]
        have Hat := Lib.hid hat; clear hat hc1 hc2
        go_wp2_with (first | (go_at_call 52; refine (findC_any _ _ _ _).mono ?_; rintro e w1 ⟨rfl, hb1⟩))
        go_ret2
        exact ⟨by rw [Hat.out]; rfl, hbel.trans (hb1.mono hbel.size)⟩
      · have hat : isAt ps key = false := by
          unfold isAt
          rw [List.getElem?_eq_none (by omega)]
        have Hat := Lib.hid hat; clear hat
        go_wp2
        go_ret2
        exact ⟨by rw [Hat.out]; rfl, hbel⟩

theorem find_any (b : Nat) (nd : Nd) (key : ByteArray) (w : World) (S : Nat → Prop) (h : IsNode w S b nd) (hr : RisingP nd.pairs) (hn : nd.pairs.length ≤ 1000000) :
    Calls Tryz.prog 35 #[.pointer (some ⟨b, 0, none⟩), .string key] w fun e w' => e = .returned (.tuple #[.int .i64 (posAt nd.pairs key), .bool (isAt nd.pairs key)]) ∧ Below w.heap.size w w' := by
  obtain ⟨hSb, v0, v1, v2, hb, h0, hk, h2⟩ := h
  obtain ⟨c0, c1, c2, _, _, _, hlt⟩ := cells3 hb
  go_enter Tryz.func35, Tryz.ntmps35
  go_wp2_with (go_at_call 51; refine (bsearch_any _ nd.pairs _ _ S h0 hr hn).mono ?_; rintro e w1 ⟨rfl, hb1⟩)
  go_ret2
  exact ⟨rfl, hb1⟩
end Go.Proofs.YtbldcbakhpdigaaGreat

/- must, least, the cutter. -/
namespace Go.Proofs.YtbldcbakhpdigaaGreat
open Go.RowKit

theorem must_ok (w : World) : Calls Tryz.prog 47 #[.int .i64 0] w fun e w' => e = .returned (.tuple #[]) ∧ w = w' := by
  go_enter Tryz.func47, Tryz.ntmps47
  go_wp2
  go_end0
  exact ⟨rfl, rfl⟩

/-- what a change gives up with -/
def brk (e : Int) : List PanicEntry := [{ v := .iface 96 (.agg #[.int .i64 e]), recovered := false }]

theorem must_not (e : Int) (he : (e == 0) = false) (w : World) : Calls Tryz.prog 47 #[.int .i64 e] w fun e' w' => e' = .panicked (brk e) ∧ w = w' := by
  have he2 : (e != 0) = true := by simp only [bne, he]; rfl
  go_enter Tryz.func47, Tryz.ntmps47
  go_wp2
  exact ⟨rfl, rfl, rfl⟩

/-- the least key of a node; of an inner one that is told -/
def leastOf (nd : Nd) (told : ByteArray) : ByteArray := match nd.kids with | [] => (nd.pairs.headD (⟨#[]⟩, ⟨#[]⟩)).1 | _ => told

theorem least_any (b : Nat) (nd : Nd) (told : ByteArray) (w : World) (S : Nat → Prop) (h : IsNode w S b nd) (hne : nd.kids = [] → nd.pairs ≠ []) :
    Calls Tryz.prog 72 #[.pointer (some ⟨b, 0, none⟩), .string told] w fun e w' => e = .returned (.string (leastOf nd told)) ∧ w = w' := by
  have hN := h
  obtain ⟨hSb, v0, v1, v2, hb, h0, hk, h2⟩ := h
  obtain ⟨c0, c1, c2, _, _, _, hlt⟩ := cells3 hb
  cases hk : nd.kids with
  | nil =>
    have hp := hne hk
    have hl : 0 < nd.pairs.length := List.length_pos_iff.2 hp
    obtain ⟨ao0, cp0, rfl, n0, m0, _, _⟩ := IsSl.form h0
    obtain ⟨b', o', rfl, d1, d2⟩ := h0.at rfl 0 hl
    have hle : leastOf nd told = nd.pairs[0].1 := by
      unfold leastOf; rw [hk]
      show (nd.pairs.headD _).1 = _
      have : ∀ (l : List Pr) (h : 0 < l.length), l.headD (⟨#[]⟩, ⟨#[]⟩) = l[0] := fun l h => by
        cases l with
        | nil => simp at h
        | cons => rfl
      rw [this]
    have hleaf : nd.kids.isEmpty = true := by rw [hk]; rfl
    have Hle := Lib.hid hle
    have Hk := Lib.hid hk
    have d1' : w.cell? ⟨b', o', none⟩ = some (.string nd.pairs[0].1) := by simpa using d1
    have hl' : (0 : Int) < (nd.pairs.length : Int) := by omega
    clear hle hk hne d1 d2
    go_enter Tryz.func72, Tryz.ntmps72
    go_wp2_with (go_at_call 37; refine (leaf_any b nd _ S hN).mono ?_; rw [hleaf]; rintro e w1 ⟨rfl, rfl⟩)
    go_ret
    exact ⟨by rw [Hle.out]; rfl, rfl⟩
  | cons k ks =>
    have hle : leastOf nd told = told := by unfold leastOf; rw [hk]
    have hleaf : nd.kids.isEmpty = false := by rw [hk]; rfl
    have Hle := Lib.hid hle
    have Hk := Lib.hid hk
    clear hle hk hne
    go_enter Tryz.func72, Tryz.ntmps72
    go_wp2_with (go_at_call 37; refine (leaf_any b nd _ S hN).mono ?_; rw [hleaf]; rintro e w1 ⟨rfl, rfl⟩)
    go_ret
    exact ⟨by rw [Hle.out]; rfl, rfl⟩

/-- a cutter whose bytes are l -/
def IsCut (w : World) (S : Nat → Prop) (B b : Nat) (l : List UInt8) : Prop := ¬ S b ∧ B ≤ b ∧ ∃ v, w.heap[b]? = some (.cells #[v, .bool false] 113 (0, 0)) ∧ IsBytes w S v l ∧ ∀ g, v.ownBlock = some g → g < B

theorem IsCut.keep {w w' : World} {S : Nat → Prop} {B b : Nat} {l : List UInt8} (h : IsCut w S B b l) (hb : w'.heap[b]? = w.heap[b]?) (hlo : ∀ g, g < B → w'.heap[g]? = w.heap[g]?) : IsCut w' S B b l := by
  obtain ⟨h1, h2, v, h3, h4, h5⟩ := h
  exact ⟨h1, h2, v, hb.trans h3, IsSl.keep h4 fun g hg _ hs => ⟨hlo g (h5 g hg), hs⟩, h5⟩

theorem cells2 {w : World} {b t : Nat} {v0 v1 : Value} (h : w.heap[b]? = some (.cells #[v0, v1] t (0, 0))) :
    w.cell? ⟨b, 0, none⟩ = some v0 ∧ w.cell? ⟨b, 1, none⟩ = some v1 ∧ w.frozen? ⟨b, 0, none⟩ = false ∧ w.frozen? ⟨b, 1, none⟩ = false ∧ b < w.heap.size := by
  refine ⟨?_, ?_, ?_, ?_, (Array.getElem?_eq_some_iff.1 h).1⟩ <;> simp [World.cell?, World.frozen?, h]

/-- string(v), v a slice of a string's bytes -/
theorem IsBytes.str {P : Program} {w : World} {S : Nat → Prop} {v : Value} (s : ByteArray) (h : IsBytes w S v s.data.toList) (src dst e : TypeId) (hs : P.underlying src = some (.slice e)) (he : P.underlying e = some (.int .u8)) (hd : P.underlying dst = some .string) :
    (convert src dst v).run P w = .ok (.string s) w := by
  have hh := h
  obtain ⟨ao, c, rfl, _, _, h3, h4, h5, h6⟩ := h
  cases ao with
  | none =>
    have h0 := (h4 rfl).1
    rw [run_convert_bytes_nil w src e hs he _ _ dst hd]
    have : s = ByteArray.empty := by
      cases s with
      | mk d =>
        have : d = #[] := Array.eq_empty_of_size_eq_zero (by simpa using h0)
        rw [this]; rfl
    rw [this]
  | some ad =>
    obtain ⟨b, o, sp⟩ := ad
    obtain rfl : sp = none := (h5 _ rfl).1
    have := run_convert_bytes_back (P := P) w src dst e ⟨b, o, none⟩ c s.data.toList hs he hd (fun j hj => by
      obtain ⟨b', o', e', hc⟩ := hh.at rfl j hj
      cases e'
      rw [Addr.add_lit]; exact hc)
    rw [this]

set_option maxRecDepth 100000 in
set_option maxHeartbeats 400000 in
theorem cut_nat (B b : Nat) (l : List UInt8) (n : Nat) (w : World) (S : Nat → Prop) (h : IsCut w S B b l) (hn : n ≤ l.length) :
    Calls Tryz.prog 58 #[.pointer (some ⟨b, 0, none⟩), .int .i64 n] w fun e w' => ∃ v, e = .returned v ∧ IsBytes w' S v (l.take n) ∧ IsCut w' S B b (l.drop n) ∧ Keep (· = b) w w' ∧ (∀ g, v.ownBlock = some g → g < B) ∧ w'.heap.size = w.heap.size := by
  obtain ⟨hS, hBb, v, hb, hl0, hvb⟩ := h
  obtain ⟨c0, c1, f0, f1, hlt⟩ := cells2 hb
  have hB := hl0
  obtain ⟨ao, c, rfl, g1, g2, g3, g4⟩ := IsSl.form hl0
  have k0 : (0 : Int) ≤ (n : Int) := by omega
  have k1 : (n : Int) ≤ (c : Int) := by omega
  have k2 : (n : Int) ≤ (l.length : Int) := by omega
  have t1 := IsSl.upto hB n hn
  have t2 := IsSl.after hB n hn
  have hk : ∀ v, Keep (· = b) w (w.setCell ⟨b, 0, none⟩ v) := fun v => Keep.setCell (M := (· = b)) (p := ⟨b, 0, none⟩) (Keep.refl _ w) (.inr rfl) v
  have hblk : ∀ v, (w.setCell ⟨b, 0, none⟩ v).heap[b]? = some (.cells #[v, .bool false] 113 (0, 0)) := fun v => by
    simp [World.setCell, Array.getElem?_modify, hb]
  have kp : ∀ (v' : Value) (v : Value) (m : Nat) (xs : List Value), IsSl w S 1 v m xs → v.ownBlock ≠ some b → IsSl (w.setCell ⟨b, 0, none⟩ v') S 1 v m xs := fun v' v m xs h hne =>
    h.keep fun g hg hl hs => ⟨(hk v').block g hl (fun e => hne (by rw [hg, e])), hs⟩
  have b1 : ∀ g, (Value.slice ao n c).ownBlock = some g → g < B := by cases ao <;> exact hvb
  have b2 : ∀ g, (Value.slice (if c = n then ao else ao.map fun x => x.add (n * 1)) (l.length - n) (c - n)).ownBlock = some g → g < B := by
    cases ao with
    | none => split <;> simp [Value.ownBlock]
    | some ad =>
      have hb1 : ad.block < B := hvb _ rfl
      split
      · exact fun g e => by injection e with e; omega
      · intro g e
        simp only [Value.ownBlock, Option.map_some, Option.some.injEq] at e
        unfold Addr.add at e; split at e <;> (first | omega | (simp only at e; omega))
  have e1 : (bCells l).take (n * 1) = bCells (l.take n) := by simp [bCells, List.map_take]
  have e2 : (bCells l).drop (n * 1) = bCells (l.drop n) := by simp [bCells, List.map_drop]
  rw [e1] at t1
  rw [e2] at t2
  have u1 : ∀ v', IsBytes (w.setCell ⟨b, 0, none⟩ v') S (.slice ao n c) (l.take n) := fun v' => by
    unfold IsBytes; rw [List.length_take, Nat.min_eq_left hn]; exact kp v' _ _ _ t1 (fun e => absurd (b1 _ e) (Nat.not_lt.2 hBb))
  have u2 : ∀ v', IsBytes (w.setCell ⟨b, 0, none⟩ v') S (.slice (if c = n then ao else ao.map fun x => x.add (n * 1)) (l.length - n) (c - n)) (l.drop n) := fun v' => by
    unfold IsBytes; rw [List.length_drop]; exact kp v' _ _ _ t2 (fun e => absurd (b2 _ e) (Nat.not_lt.2 hBb))
  have U1 := Lib.hid u1
  have U2 := Lib.hid u2
  have Hk := Lib.hid hk
  have Hb := Lib.hid hblk
  have B1 := Lib.hid b1
  have B2 := Lib.hid b2
  clear u1 u2 hk hblk b1 b2 kp t1 t2 e1 e2 hB hl0 hvb
  by_cases hcn : c = n
  · subst hcn
    go_enter Tryz.func58, Tryz.ntmps58
    go_wp2
    go_ret
    have q2 := U2.out (.slice ao (l.length - c) (c - c))
    have q3 := B2.out
    simp only [if_true, show l.length - c = 0 by omega, Nat.sub_self] at q2 q3
    exact ⟨_, rfl, U1.out _, ⟨hS, hBb, _, Hb.out _, q2, q3⟩, Hk.out _, B1.out, by simp⟩
  · go_enter Tryz.func58, Tryz.ntmps58
    go_wp2
    go_ret
    have q2 := U2.out (.slice (ao.map fun x => x.add n) (l.length - n) (c - n))
    have q3 := B2.out
    rw [if_neg hcn, Nat.mul_one] at q2 q3
    exact ⟨_, rfl, U1.out _, ⟨hS, hBb, _, Hb.out _, q2, q3⟩, Hk.out _, B1.out, by simp⟩
theorem cut_any (B b : Nat) (l : List UInt8) (n : Nat) (m : Int) (hm : m = (n : Int)) (w : World) (S : Nat → Prop) (h : IsCut w S B b l) (hn : n ≤ l.length) :
    Calls Tryz.prog 58 #[.pointer (some ⟨b, 0, none⟩), .int .i64 m] w fun e w' => ∃ v, e = .returned v ∧ IsBytes w' S v (l.take n) ∧ IsCut w' S B b (l.drop n) ∧ Keep (· = b) w w' ∧ (∀ g, v.ownBlock = some g → g < B) ∧ w'.heap.size = w.heap.size := by
  subst hm; exact cut_nat B b l n w S h hn
end Go.Proofs.YtbldcbakhpdigaaGreat

/- What decode holds between its rounds. No program in sight but the types. -/
namespace Go.Proofs.YtbldcbakhpdigaaGreat
open Go.RowKit

theorem OwnSl.ne2 {w : World} {S : Nat → Prop} {B e k n e' k' n' : Nat} {v v' : Value} {xs xs' : List Value} (h : OwnSl w S B e k v n xs) (h' : OwnSl w S B e' k' v' n' xs') (hne : e ≠ e') : ∀ g, v.ownBlock = some g → v'.ownBlock ≠ some g := by
  intro g hg
  rcases h.1.2 with ⟨rfl, _⟩ | ⟨g', cap, cur, rfl, _, hh, _⟩
  · cases hg
  · cases hg
    exact h'.ne hh hne

theorem OwnSl.lo {w : World} {S : Nat → Prop} {B e k n : Nat} {v : Value} {xs : List Value} (h : OwnSl w S B e k v n xs) : ∀ g, v.ownBlock = some g → B ≤ g := fun g hg => (h.1.lt g hg).1

structure DD (w : World) (S : Nat → Prop) (C : List UInt8) (v0 : Value) (Ps : List Pr) (v1 : Value) (Ks : List ByteArray) (v2 : Value) (Ns : List Int) (wr : World) : Prop where
  cut : IsCut wr S w.heap.size w.heap.size C
  node : wr.heap[w.heap.size + 1]? = some (.cells #[v0, v1, v2] 74 (0, 0))
  o0 : OwnSl wr S w.heap.size 53 2 v0 Ps.length (prCells Ps)
  o1 : OwnSl wr S w.heap.size 9 1 v1 Ks.length (Ks.map .string)
  o2 : OwnSl wr S w.heap.size 3 1 v2 Ns.length (Ns.map (.int .i64))
  bel : Below w.heap.size w wr

section
variable {w wr : World} {S : Nat → Prop} {C : List UInt8} {v0 v1 v2 : Value} {Ps : List Pr} {Ks : List ByteArray} {Ns : List Int}

theorem DD.lt (h : DD w S C v0 Ps v1 Ks v2 Ns wr) : w.heap.size + 1 < wr.heap.size := (Array.getElem?_eq_some_iff.1 h.node).1

theorem DD.took (h : DD w S C v0 Ps v1 Ks v2 Ns wr) {w2 : World} {C' : List UInt8} (hk : Keep (· = w.heap.size) wr w2) (hc : IsCut w2 S w.heap.size w.heap.size C') : DD w S C' v0 Ps v1 Ks v2 Ns w2 := by
  have hlt := h.lt
  obtain ⟨_, _, cv, hcb, _, _⟩ := h.cut
  exact ⟨hc, (hk.block _ hlt (by omega)).trans h.node,
    h.o0.keep fun g hg hl hs => ⟨hk.block g hl (fun e => h.o0.ne hcb (by decide) (by rw [hg, e])), hs⟩,
    h.o1.keep fun g hg hl hs => ⟨hk.block g hl (fun e => h.o1.ne hcb (by decide) (by rw [hg, e])), hs⟩,
    h.o2.keep fun g hg hl hs => ⟨hk.block g hl (fun e => h.o2.ne hcb (by decide) (by rw [hg, e])), hs⟩,
    h.bel.trans (hk.toBelow (by omega) (fun i hi => by omega))⟩

theorem DD.alloc (h : DD w S C v0 Ps v1 Ks v2 Ns wr) (o : Obj) : DD w S C v0 Ps v1 Ks v2 Ns (wr.alloc o) := by
  have hlt := h.lt
  have hb := below_one wr o
  exact ⟨h.cut.keep (hb.block _ (by omega)) fun g hg => hb.block _ (by omega), (hb.block _ hlt).trans h.node, h.o0.below hb, h.o1.below hb, h.o2.below hb, h.bel.trans (hb.mono (by omega))⟩

theorem DD.drew (h : DD w S C v0 Ps v1 Ks v2 Ns wr) : DD w S C v0 Ps v1 Ks v2 Ns wr.drew :=
  ⟨h.cut.keep rfl fun _ _ => rfl, h.node, h.o0.drew, h.o1.drew, h.o2.drew, h.bel.drew⟩

theorem DD.node2 (h : DD w S C v0 Ps v1 Ks v2 Ns wr) {w5 : World} (hk : Keep (fun g => v2.ownBlock = some g) wr w5) : w5.heap[w.heap.size + 1]? = some (.cells #[v0, v1, v2] 74 (0, 0)) :=
  (hk.block _ h.lt (h.o2.ne h.node (by decide))).trans h.node

theorem DD.node1 (h : DD w S C v0 Ps v1 Ks v2 Ns wr) {w5 : World} (hk : Keep (fun g => v1.ownBlock = some g) wr w5) : w5.heap[w.heap.size + 1]? = some (.cells #[v0, v1, v2] 74 (0, 0)) :=
  (hk.block _ h.lt (h.o1.ne h.node (by decide))).trans h.node

theorem DD.put2 (h : DD w S C v0 Ps v1 Ks v2 Ns wr) {w5 : World} (hk : Keep (fun g => v2.ownBlock = some g) wr w5) (hb : Below w.heap.size wr w5) {v' : Value} {Ns' : List Int}
    (hown : OwnSl w5 S w.heap.size 3 1 v' Ns'.length (Ns'.map (.int .i64))) : DD w S C v0 Ps v1 Ks v' Ns' (w5.setCell ⟨w.heap.size + 1, 2, none⟩ v') := by
  have hlt := h.lt
  have hN := h.node2 hk
  obtain ⟨_, _, cv, hcb, _, _⟩ := h.cut
  have hk5 : Keep (· = w.heap.size + 1) w5 (w5.setCell ⟨w.heap.size + 1, 2, none⟩ v') := Keep.setCell (M := (· = w.heap.size + 1)) (p := ⟨w.heap.size + 1, 2, none⟩) (Keep.refl _ _) (.inr rfl) v'
  have hs5 := hk.size
  have k0 : OwnSl w5 S w.heap.size 53 2 v0 Ps.length (prCells Ps) := h.o0.keep fun g hg hl hs => ⟨hk.block g hl (h.o0.ne2 h.o2 (by decide) g hg), hs⟩
  have k1 : OwnSl w5 S w.heap.size 9 1 v1 Ks.length (Ks.map .string) := h.o1.keep fun g hg hl hs => ⟨hk.block g hl (h.o1.ne2 h.o2 (by decide) g hg), hs⟩
  refine ⟨h.cut.keep ?_ ?_, ?_, k0.keep fun g hg hl hs => ⟨hk5.block g hl (fun e => k0.ne hN (by decide) (by rw [hg, e])), hs⟩, k1.keep fun g hg hl hs => ⟨hk5.block g hl (fun e => k1.ne hN (by decide) (by rw [hg, e])), hs⟩,
    hown.keep fun g hg hl hs => ⟨hk5.block g hl (fun e => hown.ne hN (by decide) (by rw [hg, e])), hs⟩, (h.bel.trans hb).setCell (by simp) v'⟩
  · exact (hk5.block _ (by omega) (by omega)).trans (hk.block _ (by omega) (h.o2.ne hcb (by decide)))
  · exact fun g hg => (hk5.block _ (by omega) (by omega)).trans (hb.block g hg)
  · simp [World.setCell, Array.getElem?_modify, hN]

theorem DD.put1 (h : DD w S C v0 Ps v1 Ks v2 Ns wr) {w5 : World} (hk : Keep (fun g => v1.ownBlock = some g) wr w5) (hb : Below w.heap.size wr w5) {v' : Value} {Ks' : List ByteArray}
    (hown : OwnSl w5 S w.heap.size 9 1 v' Ks'.length (Ks'.map .string)) : DD w S C v0 Ps v' Ks' v2 Ns (w5.setCell ⟨w.heap.size + 1, 1, none⟩ v') := by
  have hlt := h.lt
  have hN := h.node1 hk
  obtain ⟨_, _, cv, hcb, _, _⟩ := h.cut
  have hk5 : Keep (· = w.heap.size + 1) w5 (w5.setCell ⟨w.heap.size + 1, 1, none⟩ v') := Keep.setCell (M := (· = w.heap.size + 1)) (p := ⟨w.heap.size + 1, 1, none⟩) (Keep.refl _ _) (.inr rfl) v'
  have hs5 := hk.size
  have k0 : OwnSl w5 S w.heap.size 53 2 v0 Ps.length (prCells Ps) := h.o0.keep fun g hg hl hs => ⟨hk.block g hl (h.o0.ne2 h.o1 (by decide) g hg), hs⟩
  have k2 : OwnSl w5 S w.heap.size 3 1 v2 Ns.length (Ns.map (.int .i64)) := h.o2.keep fun g hg hl hs => ⟨hk.block g hl (h.o2.ne2 h.o1 (by decide) g hg), hs⟩
  refine ⟨h.cut.keep ?_ ?_, ?_, k0.keep fun g hg hl hs => ⟨hk5.block g hl (fun e => k0.ne hN (by decide) (by rw [hg, e])), hs⟩,
    hown.keep fun g hg hl hs => ⟨hk5.block g hl (fun e => hown.ne hN (by decide) (by rw [hg, e])), hs⟩, k2.keep fun g hg hl hs => ⟨hk5.block g hl (fun e => k2.ne hN (by decide) (by rw [hg, e])), hs⟩, (h.bel.trans hb).setCell (by simp) v'⟩
  · exact (hk5.block _ (by omega) (by omega)).trans (hk.block _ (by omega) (h.o1.ne hcb (by decide)))
  · exact fun g hg => (hk5.block _ (by omega) (by omega)).trans (hb.block g hg)
  · simp [World.setCell, Array.getElem?_modify, hN]

theorem DD.put0 (h : DD w S C v0 Ps v1 Ks v2 Ns wr) {w5 : World} (hk : Keep (fun g => v0.ownBlock = some g) wr w5) (hb : Below w.heap.size wr w5) {v' : Value} {Ps' : List Pr}
    (hown : OwnSl w5 S w.heap.size 53 2 v' Ps'.length (prCells Ps')) : DD w S C v' Ps' v1 Ks v2 Ns (w5.setCell ⟨w.heap.size + 1, 0, none⟩ v') := by
  have hlt := h.lt
  have hN := (hk.block _ h.lt (h.o0.ne h.node (by decide))).trans h.node
  obtain ⟨_, _, cv, hcb, _, _⟩ := h.cut
  have hk5 : Keep (· = w.heap.size + 1) w5 (w5.setCell ⟨w.heap.size + 1, 0, none⟩ v') := Keep.setCell (M := (· = w.heap.size + 1)) (p := ⟨w.heap.size + 1, 0, none⟩) (Keep.refl _ _) (.inr rfl) v'
  have hs5 := hk.size
  have k1 : OwnSl w5 S w.heap.size 9 1 v1 Ks.length (Ks.map .string) := h.o1.keep fun g hg hl hs => ⟨hk.block g hl (h.o1.ne2 h.o0 (by decide) g hg), hs⟩
  have k2 : OwnSl w5 S w.heap.size 3 1 v2 Ns.length (Ns.map (.int .i64)) := h.o2.keep fun g hg hl hs => ⟨hk.block g hl (h.o2.ne2 h.o0 (by decide) g hg), hs⟩
  refine ⟨h.cut.keep ?_ ?_, ?_, hown.keep fun g hg hl hs => ⟨hk5.block g hl (fun e => hown.ne hN (by decide) (by rw [hg, e])), hs⟩,
    k1.keep fun g hg hl hs => ⟨hk5.block g hl (fun e => k1.ne hN (by decide) (by rw [hg, e])), hs⟩, k2.keep fun g hg hl hs => ⟨hk5.block g hl (fun e => k2.ne hN (by decide) (by rw [hg, e])), hs⟩, (h.bel.trans hb).setCell (by simp) v'⟩
  · exact (hk5.block _ (by omega) (by omega)).trans (hk.block _ (by omega) (h.o0.ne hcb (by decide)))
  · exact fun g hg => (hk5.block _ (by omega) (by omega)).trans (hb.block g hg)
  · simp [World.setCell, Array.getElem?_modify, hN]

theorem DD.ownNode (h : DD w S C v0 Ps v1 Ks v2 Ns wr) (hS : ¬ S (w.heap.size + 1)) : OwnNode wr S w.heap.size (w.heap.size + 1) ⟨Ps, Ks, Ns⟩ := ⟨hS, by omega, v0, v1, v2, h.node, h.o0, h.o1, h.o2⟩
end

/-- two bytes, the lesser first -/
theorem kid_or (a c t : Nat) (ha : a < 256) (hc : c < 256) (ht : t = a + 256 * c) : bits .or .i64 (IntKind.i64.wrap (a : Int)) (IntKind.i64.wrap (IntKind.i64.wrap (c : Int) * 256)) = (t : Int) := by
  have e1 : IntKind.i64.wrap (a : Int) = (a : Int) := by rw [IntKind.wrap_i64]; omega
  have e2 : IntKind.i64.wrap (c : Int) = (c : Int) := by rw [IntKind.wrap_i64]; omega
  have e3 : IntKind.i64.wrap ((c : Int) * 256) = ((256 * c : Nat) : Int) := by rw [IntKind.wrap_i64]; omega
  rw [e2, e3, e1]
  unfold bits
  have e4 : (BitVec.ofInt 64 (a : Int) ||| BitVec.ofInt 64 ((256 * c : Nat) : Int)).toNat = t := by
    rw [BitVec.ofInt_natCast, BitVec.ofInt_natCast, BitVec.toNat_or, BitVec.toNat_ofNat, BitVec.toNat_ofNat, Nat.mod_eq_of_lt (by omega), Nat.mod_eq_of_lt (by omega), Nat.or_comm]
    have := Nat.two_pow_add_eq_or_of_lt (i := 8) (b := a) (by omega) c
    rw [show (256 : Nat) = 2 ^ 8 from rfl, ← this]
    omega
  show IntKind.i64.wrap (((BitVec.ofInt 64 (a : Int) ||| BitVec.ofInt 64 ((256 * c : Nat) : Int)).toNat : Nat) : Int) = t
  rw [e4, IntKind.wrap_i64]
  omega
end Go.Proofs.YtbldcbakhpdigaaGreat

/- (*node).replace: pieces into the place of a kid. -/
namespace Go.Proofs.YtbldcbakhpdigaaGreat
open Go.RowKit

abbrev Pc := Int × ByteArray
def pcCells (ps : List Pc) : List Value := ps.flatMap fun p => [.int .i64 p.1, .string p.2]
def IsPcs (w : World) (S : Nat → Prop) (v : Value) (ps : List Pc) : Prop := IsSl w S 2 v ps.length (pcCells ps)
theorem pcCells_get (ps : List Pc) : ∀ i (h : i < ps.length), (pcCells ps)[i * 2]? = some (.int .i64 ps[i].1) ∧ (pcCells ps)[i * 2 + 1]? = some (.string ps[i].2) := by
  induction ps with
  | nil => intro i h; simp at h
  | cons p ps ih =>
    intro i h
    cases i with
    | zero => exact ⟨rfl, rfl⟩
    | succ i =>
      have := ih i (by simpa using h)
      rw [Nat.succ_mul]
      exact this
theorem IsPcs.at {w : World} {S : Nat → Prop} {v : Value} {ps : List Pc} {ao : Option Addr} {n c : Nat} (h : IsPcs w S v ps) (hv : v = .slice ao n c) (i : Nat) (hi : i < ps.length) :
    ∃ b o, ao = some ⟨b, o, none⟩ ∧ w.cell? ⟨b, o + i * 2, none⟩ = some (.int .i64 ps[i].1) ∧ w.cell? ⟨b, o + i * 2 + 1, none⟩ = some (.string ps[i].2) := by
  obtain ⟨ao', c', rfl, _, _, _, _, _, h6⟩ := h
  cases hv
  have hg := pcCells_get ps i hi
  obtain ⟨b, o, e, h1⟩ := h6 _ _ hg.1
  obtain ⟨b', o', e', h2⟩ := h6 _ _ hg.2
  rw [e] at e'
  cases e'
  exact ⟨b, o, e, h1, by rw [Nat.add_assoc]; exact h2⟩

/-- the least keys of the pieces: the first one keeps the old key -/
def moreL (x : ByteArray) : List Pc → List ByteArray
  | [] => []
  | _ :: r => x :: r.map (·.2)
theorem moreL_length (x : ByteArray) (ps : List Pc) : (moreL x ps).length = ps.length := by cases ps <;> simp [moreL]
theorem moreL_zero (x : ByteArray) (ps : List Pc) (h : 0 < (moreL x ps).length) : (moreL x ps)[0] = x := by cases ps with | nil => simp [moreL] at h | cons => rfl
theorem moreL_succ (x : ByteArray) (ps : List Pc) (k : Nat) (hk : 0 < k) (h : k < (moreL x ps).length) (h' : k < ps.length) : (moreL x ps)[k] = ps[k].2 := by
  cases ps with
  | nil => simp at h'
  | cons p r =>
    obtain ⟨k, rfl⟩ : ∃ d, k = d + 1 := ⟨k - 1, by omega⟩
    simp [moreL]
/-- the keys, with one ahead of them -/
def exKeys (nd : Nd) : List ByteArray := ⟨#[]⟩ :: nd.keys
def Nd.repl (nd : Nd) (i : Nat) (ps : List Pc) : Nd :=
  ⟨nd.pairs, ((exKeys nd).take i ++ moreL ((exKeys nd).getD i ⟨#[]⟩) ps ++ (exKeys nd).drop (i + 1)).drop 1, nd.kids.take i ++ ps.map (·.1) ++ nd.kids.drop (i + 1)⟩

theorem IsSl.empty {w w' : World} {S : Nat → Prop} {k : Nat} {v : Value} (h : IsSl w S k v 0 []) (hs : w.heap.size ≤ w'.heap.size) : IsSl w' S k v 0 [] := by
  obtain ⟨ao, c, rfl, h1, h2, h3, h4, h5, h6⟩ := h
  exact ⟨ao, c, rfl, h1, h2, h3, h4, fun ad had => ⟨(h5 ad had).1, Nat.lt_of_lt_of_le (h5 ad had).2.1 hs, (h5 ad had).2.2⟩, fun i u hu => by simp at hu⟩
theorem OwnSl.base {w : World} {S : Nat → Prop} {B B' e k n : Nat} {v : Value} {xs : List Value} (h : OwnSl w S B' e k v n xs) (hB : B ≤ B') : OwnSl w S B e k v n xs := by
  refine ⟨⟨h.1.1, ?_⟩, h.2⟩
  rcases h.1.2 with h0 | ⟨g, cap, cur, q1, q2, q3⟩
  · exact .inl h0
  · exact .inr ⟨g, cap, cur, q1, Nat.le_trans hB q2, q3⟩

theorem replace_end {w w4 : World} {S : Nat → Prop} {b : Nat} {v0 x1 x2 kv v4 : Value} {ks : List ByteArray} {ns : List Int} (hb4 : w4.heap[b]? = some (.cells #[v0, x1, x2] 74 (0, 0))) (h0 : IsPrs w4 S v0 []) (h1 : IsStrs w4 S kv ks) (h1b : kv.ownBlock ≠ some b) (h2 : IsInts w4 S v4 ns) (h2b : v4.ownBlock ≠ some b) (hS : ¬ S b) (hk : Keep (· = b) w w4) :
    IsNode ((w4.setCell ⟨b, 2, none⟩ v4).setCell ⟨b, 1, none⟩ kv) S b ⟨[], ks, ns⟩ ∧ Keep (· = b) w ((w4.setCell ⟨b, 2, none⟩ v4).setCell ⟨b, 1, none⟩ kv) := by
  have hk4 : Keep (· = b) w4 ((w4.setCell ⟨b, 2, none⟩ v4).setCell ⟨b, 1, none⟩ kv) := ((Keep.refl (· = b) w4).setCell (p := ⟨b, 2, none⟩) (.inr rfl) v4).setCell (p := ⟨b, 1, none⟩) (.inr rfl) kv
  refine ⟨⟨hS, v0, kv, v4, ?_, IsSl.empty h0 hk4.size, IsSl.keep h1 fun g hg hl hs => ⟨hk4.block g hl (fun e => h1b (by rw [hg, e])), hs⟩, IsSl.keep h2 fun g hg hl hs => ⟨hk4.block g hl (fun e => h2b (by rw [hg, e])), hs⟩⟩, hk.trans hk4 (fun _ _ h => h)⟩
  simp [World.setCell, Array.getElem?_modify, hb4]

set_option maxRecDepth 100000 in
set_option maxHeartbeats 2000000 in
theorem replace_any (b : Nat) (nd : Nd) (lv : Value) (ps : List Pc) (i : Nat) (w : World) (S : Nat → Prop) (hS : ∀ g, S g → g < w.heap.size) (h : IsNode w S b nd) (hp : nd.pairs = []) (hl : IsPcs w S lv ps) (hi : i < nd.kids.length) (hkk : nd.keys.length = nd.kids.length - 1) (hb1 : nd.kids.length ≤ 100000) (hb2 : ps.length ≤ 100000) :
    Calls Tryz.prog 49 #[.pointer (some ⟨b, 0, none⟩), .int .i64 i, lv] w fun e w' => e = .returned (.tuple #[]) ∧ IsNode w' S b (nd.repl i ps) ∧ Keep (· = b) w w' := by
  have hN := h
  obtain ⟨hSb, v0, v1, v2, hb, h0, h1, h22⟩ := h
  obtain ⟨c0, c1, c2, _, _, _, hlt⟩ := cells3 hb
  obtain ⟨lao, lc, rfl, l1, l2, l3, l4⟩ := IsSl.form hl
  obtain ⟨kao, kc, rfl, n1, m1, q1, _⟩ := IsSl.form h1
  have hown0 := own_new (w := w) (S := S) (B := w.heap.size) (e := 9) (k := 1) [.string ⟨#[]⟩] 1 1 rfl rfl (Nat.le_refl _) (by simp [maxLen]) (Nat.le_refl _) hS
  have hsrc0 : Src Tryz.prog 1 72 (.slice kao nd.keys.length kc) nd.keys.length (nd.keys.map .string) (w.alloc (.cells #[.string ⟨#[]⟩] 9)) := (IsSl.below h1 (below_one w _)).src Tryz.underlying72 (one_strs _)
  have hkb : nd.keys.length ≤ 100000 := by omega
  have HKK := Lib.hid hkk; clear hkk
  go_enter Tryz.func49, Tryz.ntmps49
  go_wp2_with (at_builtin; go_must ((refine wpList_app rfl (.tmp 12) (.tmp 16) 72 72 rfl S w.heap.size 9 1 16 _ Tryz.underlying72 info_str rfl (.slice (some ⟨w.heap.size, 0, none⟩) 1 1) 1 [.string ⟨#[]⟩] rfl hown0 (.slice kao nd.keys.length kc) _ _ rfl hsrc0 (sub_alloc hS _) ?_ ?_ ?_ ?_); (focus (simp only [World.size_alloc]; omega)); (focus (unfold maxLen; omega)); (focus omega); intro ao1 c1' w1 hown1 hk1 hbe1 hd1; refine Stop.of ?_))
  have hex : [Value.string ⟨#[]⟩] ++ nd.keys.map .string = (exKeys nd).map .string := rfl
  rw [hex] at hown1
  have hel : (exKeys nd).length = nd.keys.length + 1 := rfl
  have hsz1 := hk1.size
  rw [World.size_alloc] at hsz1
  have HB1 : Below w.heap.size w w1 := (below_one w _).trans hbe1
  refine Stop.on ?_
  go_wp2_with fail
  obtain ⟨x, hx⟩ : ∃ x, x = (exKeys nd).getD i ⟨#[]⟩ := ⟨_, rfl⟩
  have hx' : (exKeys nd)[i]? = some x := by rw [hx, List.getD_eq_getElem?_getD, List.getElem?_eq_getElem (by rw [hel, HKK.out]; omega)]; rfl
  have hxc := IsSl.at1 hown1.isSl rfl i (.string x) (by rw [List.getElem?_map, hx']; rfl)
  obtain ⟨eb, eo, rfl, hxc⟩ := hxc
  have hml := moreL_length x ps
  have HX := Lib.hid hx; clear hx
  have HX' := Lib.hid hx'; clear hx'
  have HM := Lib.hid hml; clear hml
  have HE := Lib.hid hel; clear hel
  go_loopw [7, 8, 20] (fun mv kv i wr => ∃ (k : Nat) (ao co : Option Addr) (cm ck : Nat), k ≤ ps.length ∧ i = .int .i64 k ∧ mv = .slice ao k cm ∧ kv = .slice co k ck ∧ OwnSl wr S w.heap.size 9 1 mv k (((moreL x ps).take k).map .string) ∧ OwnSl wr S w.heap.size 3 1 kv k ((ps.take k).map fun p => .int .i64 p.1) ∧
      OwnSl wr S w.heap.size 9 1 (.slice (some ⟨eb, eo, none⟩) (1 + nd.keys.length) c1') (1 + nd.keys.length) ((exKeys nd).map .string) ∧ (∀ g, mv.ownBlock = some g → (Value.slice (some ⟨eb, eo, none⟩) (1 + nd.keys.length) c1').ownBlock ≠ some g) ∧ Below w.heap.size w wr) (fun _ _ i _ => ps.length - (intOf i).toNat)
  case atStart => exact ⟨0, none, none, 0, 0, Nat.zero_le _, rfl, rfl, rfl, OwnSl.nil _ _ _ _ _, OwnSl.nil _ _ _ _ _, hown1, (fun g hg => by cases hg), HB1⟩
  case round =>
    obtain ⟨k, ao, co, cm, ck, hk, rfl, rfl, rfl, hm, hkd, hke, hne, hbel⟩ := hrel
    by_cases hlt2 : k < ps.length
    · obtain ⟨lb, lo, rfl, d1, d2⟩ := hl.at rfl k hlt2
      have e1 := (hbel.cell (p := ⟨lb, lo + k * 2, none⟩) (World.block_lt_of_cell? w _ d1)).trans d1
      have e2 := (hbel.cell (p := ⟨lb, lo + k * 2 + 1, none⟩) (World.block_lt_of_cell? w _ d2)).trans d2
      have hSr : ∀ g, S g → g < wr.heap.size := fun g hg => Nat.lt_of_lt_of_le (hS g hg) hbel.size
      have hsz := hbel.size
      have hxr : wr.cell? ⟨eb, eo + i, none⟩ = some (.string x) := by
        obtain ⟨_, _, e, hc⟩ := IsSl.at1 hke.isSl rfl i (.string x) (by rw [List.getElem?_map, HX'.out]; rfl)
        cases e; exact hc
      have hkl := hke.1.lt eb rfl
      have hi2 : i < 1 + nd.keys.length := by rw [HKK.out]; omega
      have hi3 : (i : Int) < 1 + (nd.keys.length : Int) := by omega
      go_wp2_with (first
        | (at_builtin; (refine wpList_app rfl (.tmp 25) (.tmp 28) 36 36 rfl S w.heap.size 3 1 8 _ Tryz.underlying36 info_int rfl (.slice co k ck) k _ rfl (hkd.below (below_two wr (.cells #[.int .i64 ps[k].1, .string ps[k].2] 99) (.cells #[.int .i64 ps[k].1] 3))) _ 1 [.int .i64 ps[k].1] rfl (src_new (w := wr.alloc (.cells #[.int .i64 ps[k].1, .string ps[k].2] 99)) [.int .i64 ps[k].1] 3 1 1 1 (g := wr.heap.size + 1) (World.size_alloc _ _) Tryz.underlying36 rfl (by intro u hu; simp only [List.mem_cons, List.not_mem_nil, or_false] at hu; rcases hu with rfl; rfl)) (sub_alloc (sub_alloc hSr _) _) ?_ ?_ ?_ ?_);
            go_must ((focus (simp only [World.size_alloc]; omega)); (focus (unfold maxLen; omega)); (focus omega); intro ao2 c2' w2 hown2 hk2 hb2 hd2; refine Stop.of ?_)))
      have hs2 := hk2.size
      rw [World.size_alloc, World.size_alloc] at hs2
      have hm2 := (hm.below (below_two wr (.cells #[.int .i64 ps[k].1, .string ps[k].2] 99) (.cells #[.int .i64 ps[k].1] 3))).keep (w' := w2) fun g hg hl hs => ⟨hk2.block g hl (hm.ne2 hkd (by decide) g hg), hs⟩
      have hke2 := (hke.below (below_two wr (.cells #[.int .i64 ps[k].1, .string ps[k].2] 99) (.cells #[.int .i64 ps[k].1] 3))).keep (w' := w2) fun g hg hl hs => ⟨hk2.block g hl (hke.ne2 hkd (by decide) g hg), hs⟩
      have HB2 : Below w.heap.size w w2 := (hbel.trans ((below_two wr _ _).mono hsz)).trans hb2
      have hx2 : w2.cell? ⟨eb, eo + i, none⟩ = some (.string x) := by
        obtain ⟨_, _, e, hc⟩ := IsSl.at1 hke2.isSl rfl i (.string x) (by rw [List.getElem?_map, HX'.out]; rfl)
        cases e; exact hc
      have hp2 : w2.cell? ⟨wr.heap.size, 1, none⟩ = some (.string ps[k].2) := (hk2.cell (p := ⟨wr.heap.size, 1, none⟩) (by simp only [World.size_alloc]; omega) hkd.lt).trans (by simp [World.cell?_alloc_old])
      have hS2 : ∀ g, S g → g < w2.heap.size := fun g hg => by have := hSr g hg; omega
      have step : ∀ (y : ByteArray), (moreL x ps)[k]? = some y → ∀ (ao3 : Option Addr) (c3 : Nat) (w3 : World), OwnSl w3 S w.heap.size 9 1 (.slice ao3 (k + 1) c3) (k + 1) (((moreL x ps).take k).map .string ++ [.string y]) → Keep (fun g => (Value.slice ao k cm).ownBlock = some g) (w2.alloc (.cells #[.string y] 9)) w3 → Below w.heap.size (w2.alloc (.cells #[.string y] 9)) w3 →
          (∀ g, g < (w2.alloc (.cells #[.string y] 9)).heap.size → (Value.slice ao k cm).ownBlock ≠ some g → (Value.slice ao3 (k + 1) c3).ownBlock ≠ some g) →
          OwnSl w3 S w.heap.size 9 1 (.slice ao3 (k + 1) c3) (k + 1) (((moreL x ps).take (k + 1)).map .string) ∧ OwnSl w3 S w.heap.size 3 1 (.slice ao2 (k + 1) c2') (k + 1) ((ps.take (k + 1)).map fun p => .int .i64 p.1) ∧
          OwnSl w3 S w.heap.size 9 1 (.slice (some ⟨eb, eo, none⟩) (1 + nd.keys.length) c1') (1 + nd.keys.length) ((exKeys nd).map .string) ∧ (∀ g, (Value.slice ao3 (k + 1) c3).ownBlock = some g → (Value.slice (some ⟨eb, eo, none⟩) (1 + nd.keys.length) c1').ownBlock ≠ some g) ∧ Below w.heap.size w w3 := by
        intro y hy ao3 c3 w3 g1 g2 g3 g4
        have hk3 : k < (moreL x ps).length := by rw [HM.out]; exact hlt2
        rw [List.getElem?_eq_getElem hk3] at hy
        refine ⟨by rw [List.take_succ_eq_append_getElem hk3, List.map_append, List.map_cons, List.map_nil, Option.some.inj hy]; exact g1,
          by rw [List.take_succ_eq_append_getElem hlt2, List.map_append, List.map_cons, List.map_nil]; exact (hown2.below (below_one w2 _)).keep fun g hg hl hs => ⟨g2.block g hl (hown2.ne2 hm2 (by decide) g hg), hs⟩,
          (hke2.below (below_one w2 _)).keep fun g hg hl hs => ⟨g2.block g hl (fun e => hne g e hg), hs⟩,
          fun g hg hg2 => g4 g (by have := (hke2.1.lt g hg2).2; rw [World.size_alloc]; omega) (fun e => hne g e hg2) hg, (HB2.trans ((below_one w2 _).mono (by omega))).trans g3⟩
      have Hst := Lib.hid step; clear step
      refine Stop.on ?_
      have hy1 : 0 < k → (moreL x ps)[k]? = some ps[k].2 := fun h0 => by rw [List.getElem?_eq_getElem (by rw [HM.out]; exact hlt2), moreL_succ x ps k h0 (by rw [HM.out]; exact hlt2) hlt2]
      have hy0 : k = 0 → (moreL x ps)[k]? = some x := fun h0 => by subst h0; rw [List.getElem?_eq_getElem (by rw [HM.out]; exact hlt2), moreL_zero]
      have Hy1 := Lib.hid hy1; clear hy1
      have Hy0 := Lib.hid hy0; clear hy0
      by_cases hk0 : k = 0
      · have hkb0 : ((k : Int) == 0) = true := by rw [beq_iff_eq]; omega
        have HK0 := Lib.hid hk0; clear hk0
        go_wp2_with (first
          | (at_builtin; (refine wpList_app rfl (.tmp 32) (.tmp 37) 72 72 rfl S w.heap.size 9 1 16 _ Tryz.underlying72 info_str rfl (.slice ao k cm) k _ rfl (hm2.below (below_one w2 (.cells #[.string x] 9))) _ 1 [.string x] rfl (src_new (w := w2) [.string x] 9 1 1 1 rfl Tryz.underlying72 rfl (by intro u hu; simp only [List.mem_cons, List.not_mem_nil, or_false] at hu; rcases hu with rfl; rfl)) (sub_alloc hS2 _) ?_ ?_ ?_ ?_);
              go_must ((focus (simp only [World.size_alloc]; omega)); (focus (unfold maxLen; omega)); (focus omega); intro ao3 c3 w3 hown3 hk3 hb3 hd3; refine Stop.of ?_)))
        obtain ⟨r1, r2, r3, r4, r5⟩ := Hst.out x (Hy0.out HK0.out) ao3 c3 w3 hown3 hk3 hb3 hd3
        refine Stop.on ?_
        go_wp2
        go_roundw
        case rel => exact ⟨k + 1, ao3, ao2, c3, c2', hlt2, by go_num, rfl, rfl, r1, r2, r3, r4, r5⟩
        case measure => simp [intOf]; omega
      · have hkb0 : ((k : Int) == 0) = false := by rw [beq_eq_false_iff_ne]; omega
        have hk1' : 0 < k := by omega
        go_wp2_with (first
          | (at_builtin; (refine wpList_app rfl (.tmp 39) (.tmp 42) 72 72 rfl S w.heap.size 9 1 16 _ Tryz.underlying72 info_str rfl (.slice ao k cm) k _ rfl (hm2.below (below_one w2 (.cells #[.string ps[k].2] 9))) _ 1 [.string ps[k].2] rfl (src_new (w := w2) [.string ps[k].2] 9 1 1 1 rfl Tryz.underlying72 rfl (by intro u hu; simp only [List.mem_cons, List.not_mem_nil, or_false] at hu; rcases hu with rfl; rfl)) (sub_alloc hS2 _) ?_ ?_ ?_ ?_);
              go_must ((focus (simp only [World.size_alloc]; omega)); (focus (unfold maxLen; omega)); (focus omega); intro ao3 c3 w3 hown3 hk3 hb3 hd3; refine Stop.of ?_)))
        obtain ⟨r1, r2, r3, r4, r5⟩ := Hst.out ps[k].2 (Hy1.out hk1') ao3 c3 w3 hown3 hk3 hb3 hd3
        refine Stop.on ?_
        go_wp2
        go_roundw
        case rel => exact ⟨k + 1, ao3, ao2, c3, c2', hlt2, by go_num, rfl, rfl, r1, r2, r3, r4, r5⟩
        case measure => simp [intOf]; omega
    · obtain rfl : k = ps.length := by omega
      rw [List.take_of_length_le (by rw [HM.out]; exact Nat.le_refl _)] at hm
      rw [List.take_length] at hkd
      have hSr : ∀ g, S g → g < wr.heap.size := fun g hg => Nat.lt_of_lt_of_le (hS g hg) hbel.size
      have hsz := hbel.size
      have hi2 : i < 1 + nd.keys.length := by rw [HKK.out]; omega
      have k1 : IntKind.i64.wrap ((i : Int) + 1) = (i : Int) + 1 := IntWalk.i64_in _ (by omega)
      go_wp2_with (first
        | (go_at_call 74; go_must (refine (repStr_any (.slice (some ⟨eb, eo, none⟩) (1 + nd.keys.length) c1') (1 + nd.keys.length) i _ (.slice ao ps.length cm) ps.length _ _ S w.heap.size hSr hsz hke (one_strs _) hm (fun g hg hg2 => hne g hg2 hg) (one_strs _) (by omega) (by omega) hi2).mono ?_; rintro e w2 ⟨v', rfl, hown2, hk2⟩; refine Stop.of ?_)))
      have HB2 : Below w.heap.size w w2 := hbel.trans (hk2.toBelow hsz (fun g hg e => absurd (hke.1.lt g e).1 (Nat.not_le.2 hg)))
      have hs2 := hk2.size
      have hS2 : ∀ g, S g → g < w2.heap.size := fun g hg => by have := hSr g hg; omega
      obtain ⟨N, hNN⟩ : ∃ N, N = 1 + nd.keys.length - 1 + ps.length := ⟨_, rfl⟩
      rw [← hNN] at hown2
      obtain ⟨ko, kcap, rfl, z1, z2, z3, z4⟩ := hown2.isSl.form
      have hkd2 := hkd.keep (w' := w2) fun g hg hl hs => ⟨hk2.block g hl (hkd.ne2 hke (by decide) g hg), hs⟩
      have c22 : w2.cell? ⟨b, 2, none⟩ = some v2 := (HB2.cell (p := ⟨b, 2, none⟩) hlt).trans c2
      have hNb : N ≤ 200000 := by omega
      have HNN := Lib.hid hNN; clear hNN
      have hone1 : ∀ u ∈ nd.kids.map (Value.int .i64), u.oneCell' = true := by intro u hu; obtain ⟨_, _, rfl⟩ := List.mem_map.1 hu; rfl
      have hone2 : ∀ u ∈ ps.map (fun p => Value.int .i64 p.1), u.oneCell' = true := by intro u hu; obtain ⟨_, _, rfl⟩ := List.mem_map.1 hu; rfl
      refine Stop.on ?_
      go_wp2_with (first
        | (go_at_call 76; go_must (refine (cloneInt_any v2 nd.kids.length _ w2 S hS2 (IsSl.below h22 HB2) hone1 (by omega)).mono ?_; rintro e w3 ⟨v3, rfl, hown3, hb3⟩; refine Stop.of ?_)))
      have hs3 := hb3.size
      have hS3 : ∀ g, S g → g < w3.heap.size := fun g hg => by have := hS2 g hg; omega
      have hown3b := hown3.base (B := w.heap.size) (by omega)
      have hkd3 := hkd2.below hb3
      have hnev : ∀ g, v3.ownBlock = some g → (Value.slice co ps.length ck).ownBlock ≠ some g := fun g hg hg2 => by
        have := (hown3.1.lt g hg).1
        have := (hkd2.1.lt g hg2).2
        omega
      refine Stop.on ?_
      go_wp2_with (first
        | (go_at_call 75; go_must (refine (repInt_any v3 nd.kids.length i _ (.slice co ps.length ck) ps.length _ _ S w.heap.size hS3 (by omega) hown3b hone1 hkd3 hnev hone2 (by omega) (by omega) hi).mono ?_; rintro e w4 ⟨v4, rfl, hown4, hk4⟩; refine Stop.of ?_)))
      have HB4 : Below w.heap.size w w4 := (HB2.trans (hb3.mono (by omega))).trans (hk4.toBelow (by omega) (fun g hg e => absurd (hown3b.1.lt g e).1 (Nat.not_le.2 hg)))
      have hb4 := (HB4.block b hlt).trans hb
      obtain ⟨_, _, _, f0, f1, f2, _⟩ := cells3 hb4
      obtain ⟨M, hM⟩ : ∃ M, M = nd.kids.length - 1 + ps.length := ⟨_, rfl⟩
      rw [← hM] at hown4
      have HM4 := Lib.hid hM; clear hM
      obtain ⟨ao4, c4, rfl, _, _, _, _⟩ := hown4.isSl.form
      have hke4 : IsSl w4 S 1 (.slice ko N kcap) N _ := (hown2.below hb3).isSl.keep fun g hg hl hs => ⟨hk4.block g hl (fun e => by have := (hown3.1.lt g e).1; have := (hown2.1.lt g hg).2; omega), hs⟩
      have hkb : (Value.slice ko N kcap).ownBlock ≠ some b := fun e => absurd (hown2.1.lt b e).1 (Nat.not_le.2 hlt)
      have h4b : (Value.slice ao4 M c4).ownBlock ≠ some b := fun e => absurd (hown4.1.lt b e).1 (Nat.not_le.2 hlt)
      have h04 : IsPrs w4 S v0 [] := by rw [hp] at h0; exact IsSl.empty h0 HB4.size
      have hkw : Keep (· = b) w w4 := ⟨HB4.os, HB4.tape, HB4.output, HB4.size, fun g hg _ => HB4.block g hg⟩
      have h24 : IsInts w4 S (.slice ao4 M c4) (nd.kids.take i ++ ps.map (·.1) ++ nd.kids.drop (i + 1)) := by
        have := hown4.isSl
        unfold IsInts
        rw [show (nd.kids.take i ++ ps.map (·.1) ++ nd.kids.drop (i + 1)).length = M by rw [HM4.out]; simp only [List.length_append, List.length_take, List.length_drop, List.length_map]; omega]
        simp only [List.map_append, List.map_take, List.map_drop, List.map_map]
        exact this
      obtain ⟨E, hE⟩ : ∃ E, E = (exKeys nd).take i ++ moreL ((exKeys nd).getD i ⟨#[]⟩) ps ++ (exKeys nd).drop (i + 1) := ⟨_, rfl⟩
      have hEl : E.length = N := by rw [hE, HNN.out, ← HX.out]; simp only [List.length_append, List.length_take, List.length_drop, HM.out, HE.out]; omega
      have hkeE : IsStrs w4 S (.slice ko N kcap) E := by
        unfold IsStrs
        rw [hEl, hE, ← HX.out]
        simpa only [List.map_append, List.map_take, List.map_drop] using hke4
      have hrep : nd.repl i ps = ⟨[], E.drop 1, nd.kids.take i ++ ps.map (·.1) ++ nd.kids.drop (i + 1)⟩ := by unfold Nd.repl; rw [hp, hE]
      have HR := Lib.hid hrep; clear hrep
      have HEE := Lib.hid hE; clear hE
      have HEl := Lib.hid hEl; clear hEl
      refine Stop.on ?_
      by_cases hN0 : N = 0
      · subst hN0
        go_wp2_with fail
        go_end0
        rw [HR.out]
        obtain rfl : E = [] := List.eq_nil_of_length_eq_zero HEl.out
        exact ⟨rfl, replace_end hb4 h04 hkeE hkb h24 h4b hSb hkw⟩
      · have hmin : min (1 : Int) (N : Int) = 1 := by omega
        have hN1 : (1 : Int) ≤ (N : Int) := by omega
        have hN2 : 1 ≤ N := by omega
        have hk11 : (1 : Int) ≤ (kcap : Int) := by omega
        obtain ⟨kg, rfl⟩ : ∃ kg, ko = some ⟨kg, 0, none⟩ := by
          rcases hown2.1.2 with ⟨e, h0⟩ | ⟨g, cap, cur, e, _⟩
          · exact absurd h0 (by omega)
          · cases e; exact ⟨g, rfl⟩
        have hk9 : IsSl w4 S 1 (.slice (some ⟨kg, 0, none⟩) N kcap) N (E.map .string) := by have := hkeE; unfold IsStrs at this; rwa [HEl.out] at this
        have ha := IsSl.after hk9 1 hN2
        have hdl : (E.drop 1).length = N - 1 := by rw [List.length_drop, HEl.out]
        rw [Nat.mul_one] at ha
        by_cases hkc : kcap = 1
        · rw [if_pos hkc, show kcap - 1 = 0 by omega] at ha
          go_wp2_with fail
          go_end0
          rw [HR.out]
          exact ⟨rfl, replace_end hb4 h04 (by unfold IsStrs; rw [hdl, List.map_drop]; exact ha) hkb h24 h4b hSb hkw⟩
        · rw [if_neg hkc, Option.map_some, Addr.add_lit] at ha
          go_wp2_with fail
          go_end0
          rw [HR.out]
          exact ⟨rfl, replace_end hb4 h04 (by unfold IsStrs; rw [hdl, List.map_drop]; exact ha) hkb h24 h4b hSb hkw⟩
end Go.Proofs.YtbldcbakhpdigaaGreat

/- A region that draws its order in which two effects may come in either order: the walk goes both ways. No program in sight. -/
namespace Go.Proofs.YtbldcbakhpdigaaGreat
open Go.RowKit

section
variable {P : Program} {ops : Array Oper} {Q : Exit → Act → World → Prop} {md : Region.Mode} {S : World → Prop}

/-- the order up to the fork is a good one -/
def ordOkK (md : Region.Mode) (ops : Array Oper) (q : Nat → Bool) (chk : Array Bool → Bool) : List Nat → Array Bool → Bool
  | [], listed => chk listed
  | i :: rest, listed =>
    (if q i then (Region.ready md ops listed).contains i && Region.free md ops listed i
     else (Region.ready md ops listed == [i]) && !waitsAll md ops i) && ordOkK md ops q chk rest (listed.setIfInBounds i true)

/-- the walk up to the fork -/
def wpOrdK (P : Program) (md : Region.Mode) (ops : Array Oper) (Q : Exit → Act → World → Prop) (S : World → Prop) (q : Nat → Bool) (fin : Act → World → Prop) : List Nat → Act → World → Prop
  | [], a, w => fin a w
  | i :: rest, a, w =>
    if q i then ∃ o v, ops[i]? = some o ∧ (∀ c a w, Q (.panic c) (a.put o.dst v) w → Q (.panic c) a w) ∧ YieldsIf P ops S o v a ∧ wpOrdK P md ops Q S q fin rest (a.put o.dst v) w
    else wpOp P ops Q i (fun a' w' => S w' ∧ wpOrdK P md ops Q S q fin rest a' w') a w

theorem wpAnyG_of_ordK (hs : Region.noSelect ops = true) {q : Nat → Bool} {chk : Array Bool → Bool} {fin : Act → World → Prop} {m : Nat}
    (hfin : ∀ (fuel : Nat) (listed : Array Bool) (a : Act) (w : World), Shutd md ops listed → chk listed = true → m ≤ fuel → S w → fin a w → wpAnyG P md ops Q S fuel listed a w) :
    ∀ (order : List Nat) (fuel : Nat) (listed : Array Bool) (a : Act) (w : World), Shutd md ops listed → ordOkK md ops q chk order listed = true → order.length + m ≤ fuel → S w → wpOrdK P md ops Q S q fin order a w → wpAnyG P md ops Q S fuel listed a w
  | [], fuel, listed, a, w, hsh, hok, hf, hS, h => hfin fuel listed a w hsh hok (by simpa using hf) hS h
  | i :: rest, 0, _, _, _, _, _, hf, _, _ => absurd hf (by simp)
  | i :: rest, fuel + 1, listed, a, w, hsh, hok, hf, hS, h => by
    simp only [ordOkK, Bool.and_eq_true] at hok
    obtain ⟨hi, hrest⟩ := hok
    have hf' : rest.length + m ≤ fuel := by simp only [List.length_cons] at hf; omega
    by_cases hq : q i = true
    · simp only [hq, if_true, Bool.and_eq_true] at hi
      simp only [wpOrdK, hq, if_true] at h
      obtain ⟨o, v, ho, hQ, hy, h⟩ := h
      exact wpAnyG_first ho (Region.noSelect_spec hs) hQ fuel listed a w hsh (Region.free_spec ho hi.2) (by simpa using hi.1) hy hS
        (wpAnyG_of_ordK hs hfin rest fuel _ _ _ (hsh.set (by simpa using hi.1)) hrest hf' hS h)
    · rw [if_neg hq, Bool.and_eq_true] at hi
      simp only [wpOrdK] at h
      rw [if_neg hq] at h
      have hr : Region.ready md ops listed = [i] := by simpa using hi.1
      refine ⟨fun h0 => (by rw [hr] at h0; cases h0), fun j hj => ?_⟩
      rw [hr] at hj
      obtain rfl : j = i := by simpa using hj
      exact wpOp_mono (fun a' w' h3 => ⟨.inr h3.1, wpAnyG_of_ordK hs hfin rest fuel _ _ _ (hsh.set (by rw [hr]; exact List.mem_singleton.2 rfl)) hrest hf' h3.1 h3.2⟩) h

/-- behind the fork: i first, or j first -/
def forkOk (md : Region.Mode) (ops : Array Oper) (q : Nat → Bool) (i j : Nat) (ri rj : List Nat) (listed : Array Bool) : Bool :=
  (Region.ready md ops listed == [i, j]) && (ordOk md ops q ri (listed.setIfInBounds i true) && ordOk md ops q rj (listed.setIfInBounds j true))

def wpFork (P : Program) (md : Region.Mode) (ops : Array Oper) (Q : Exit → Act → World → Prop) (S : World → Prop) (q : Nat → Bool) (i j : Nat) (ri rj : List Nat) (a : Act) (w : World) : Prop :=
  wpOp P ops Q i (fun a' w' => S w' ∧ wpOrd P md ops Q S q ri a' w') a w ∧ wpOp P ops Q j (fun a' w' => S w' ∧ wpOrd P md ops Q S q rj a' w') a w

theorem wpAnyG_of_fork (hs : Region.noSelect ops = true) {q : Nat → Bool} {i j : Nat} {ri rj : List Nat} (fuel : Nat) (listed : Array Bool) (a : Act) (w : World) (hsh : Shutd md ops listed) (hok : forkOk md ops q i j ri rj listed = true)
    (hf : max ri.length rj.length + 1 ≤ fuel) (h : wpFork P md ops Q S q i j ri rj a w) : wpAnyG P md ops Q S fuel listed a w := by
  simp only [forkOk, Bool.and_eq_true, beq_iff_eq] at hok
  obtain ⟨hr, hi, hj⟩ := hok
  cases fuel with
  | zero => omega
  | succ fuel =>
    refine ⟨fun h0 => (by rw [hr] at h0; cases h0), fun k hk => ?_⟩
    have hk' := hk
    rw [hr] at hk'
    rcases List.mem_cons.1 hk' with rfl | hk'
    · exact wpOp_mono (fun a' w' h3 => ⟨.inr h3.1, wpAnyG_of_ord hs ri fuel _ _ _ (hsh.set hk) hi (by omega) (.inr h3.1) h3.2⟩) h.1
    · obtain rfl : k = j := by simpa using hk'
      exact wpOp_mono (fun a' w' h3 => ⟨.inr h3.1, wpAnyG_of_ord hs rj fuel _ _ _ (hsh.set hk) hj (by omega) (.inr h3.1) h3.2⟩) h.2

/-- the beginning -/
theorem wp_region_fork {id : Nat} {a : Act} {w : World} (S : World → Prop) (q : Nat → Bool) (order : List Nat) (i j : Nat) (ri rj : List Nat) (hm : P.follows .mixedOrders = true)
    (hok : (Region.noSelect ops && decide (order.length + (max ri.length rj.length + 1) ≤ ops.size) && ordOkK .any ops q (forkOk .any ops q i j ri rj) order (Array.replicate ops.size false)) = true)
    (hS : S w.drew) (h : wpOrdK P .any ops Q S q (wpFork P .any ops Q S q i j ri rj) order a w.drew) : (Code.region id ops true).wp P Q a w := by
  simp only [Bool.and_eq_true, decide_eq_true_eq] at hok
  exact wp_region_any hm (wpAny_of_G _ _ _ _ (wpAnyG_of_ordK hok.1.1 (fun fuel listed a w hsh hok2 hf _ hfin => wpAnyG_of_fork hok.1.1 fuel listed a w hsh hok2 hf hfin) order _ _ _ _ Shutd.replicate hok.2 hok.1.2 hS h))

theorem ordK_nil {q : Nat → Bool} {fin : Act → World → Prop} {a : Act} {w : World} (h : fin a w) : wpOrdK P md ops Q S q fin [] a w := h
theorem ordK_q {q : Nat → Bool} {fin : Act → World → Prop} {i : Nat} {rest : List Nat} {a : Act} {w : World} {o : Oper} {v : Value} (hq : q i = true) (hi' : ops.toList[i]? = some o) (hQ : ∀ c a w, Q (.panic c) (a.put o.dst v) w → Q (.panic c) a w)
    (hw : Region.wanted o (yielded ops a.tmps) = true) (hy : ∀ W, S W → (execOp a.eval o).run P W = .ok (.value v) W) (h : wpOrdK P md ops Q S q fin rest (a.put o.dst v) w) : wpOrdK P md ops Q S q fin (i :: rest) a w := by
  have hi : ops[i]? = some o := by rw [← Array.getElem?_toList]; exact hi'
  simp only [wpOrdK, hq, if_true]; exact ⟨o, v, hi, hQ, .inl ⟨hw, hy⟩, h⟩
theorem ordK_e {q : Nat → Bool} {fin : Act → World → Prop} {i : Nat} {rest : List Nat} {a : Act} {w : World} {o : Oper} (hq : q i = false) (hi' : ops.toList[i]? = some o) (hw : Region.wanted o (yielded ops a.tmps) = true)
    (h : ∀ K : Act → World → Prop, Shut (∀ a w, S w → wpOrdK P md ops Q S q fin rest a w → K a w) → o.wp P a w K Q) : wpOrdK P md ops Q S q fin (i :: rest) a w := by
  have hi : ops[i]? = some o := by rw [← Array.getElem?_toList]; exact hi'
  simp only [wpOrdK, hq, wpOp, hi, hw, if_true]
  exact .inl (h _ (fun a w hS hW => ⟨hS, hW⟩))
/-- the fork: both ways -/
theorem fork_two {q : Nat → Bool} {i j : Nat} {ri rj : List Nat} {a : Act} {w : World} {oi oj : Oper} (hi' : ops.toList[i]? = some oi) (hj' : ops.toList[j]? = some oj) (hwi : Region.wanted oi (yielded ops a.tmps) = true) (hwj : Region.wanted oj (yielded ops a.tmps) = true)
    (hi : ∀ K : Act → World → Prop, Shut (∀ a w, S w → wpOrd P md ops Q S q ri a w → K a w) → oi.wp P a w K Q)
    (hj : ∀ K : Act → World → Prop, Shut (∀ a w, S w → wpOrd P md ops Q S q rj a w → K a w) → oj.wp P a w K Q) : wpFork P md ops Q S q i j ri rj a w := by
  have e1 : ops[i]? = some oi := by rw [← Array.getElem?_toList]; exact hi'
  have e2 : ops[j]? = some oj := by rw [← Array.getElem?_toList]; exact hj'
  constructor
  · simp only [wpOp, e1, hwi, if_true]
    exact .inl (hi _ (fun a w hS hW => ⟨hS, hW⟩))
  · simp only [wpOp, e2, hwj, if_true]
    exact .inl (hj _ (fun a w hS hW => ⟨hS, hW⟩))
end
end Go.Proofs.YtbldcbakhpdigaaGreat

/- halves: a node cut in two. (Printed by gen/halves.py.) -/
namespace Go.Proofs.YtbldcbakhpdigaaGreat
open Go.RowKit

theorem prCells_take (ps : List (ByteArray × ByteArray)) : ∀ k, prCells (ps.take k) = (prCells ps).take (k * 2) := by
  induction ps with
  | nil => intro k; simp [prCells]
  | cons p ps ih =>
    intro k
    cases k with
    | zero => simp [prCells]
    | succ k => rw [List.take_succ_cons, prCells_cons, prCells_cons, ih, Nat.succ_mul, List.take_succ_cons, List.take_succ_cons]
theorem prCells_drop (ps : List (ByteArray × ByteArray)) : ∀ k, prCells (ps.drop k) = (prCells ps).drop (k * 2) := by
  induction ps with
  | nil => intro k; simp [prCells]
  | cons p ps ih =>
    intro k
    cases k with
    | zero => simp
    | succ k => rw [List.drop_succ_cons, prCells_cons, ih, Nat.succ_mul, List.drop_succ_cons, List.drop_succ_cons]
theorem two_old (W : World) (o1 o2 : Obj) : ((W.alloc o1).alloc o2).drew.heap[W.heap.size]? = some o1 := by
  show ((W.alloc o1).alloc o2).heap[W.heap.size]? = some o1
  exact ((below_one (W.alloc o1) o2).block _ (by rw [World.size_alloc]; omega)).trans (heap_alloc_new _ _)
theorem two_new (W : World) (o1 o2 : Obj) : ((W.alloc o1).alloc o2).drew.heap[W.heap.size + 1]? = some o2 := by
  show ((W.alloc o1).alloc o2).heap[W.heap.size + 1]? = some o2
  rw [← World.size_alloc W o1]
  exact heap_alloc_new _ _

theorem leaf_of {w W : World} {S : Nat → Prop} {g : Nat} {v0 : Value} {ps : List Pr} (hW : Below w.heap.size w W) (h : IsPrs w S v0 ps) (hb : W.heap[g]? = some (.cells #[v0, .slice none 0 0, .slice none 0 0] 74 (0, 0))) (hg : ¬ S g) : IsNode W S g ⟨ps, [], []⟩ :=
  ⟨hg, _, _, _, hb, IsSl.below h hW, IsSl.nil _ _ _, IsSl.nil _ _ _⟩

set_option maxRecDepth 100000 in
set_option maxHeartbeats 2000000 in
theorem halvesLeaf_any (b : Nat) (nd : Nd) (w : World) (S : Nat → Prop) (hS : ∀ g, S g → g < w.heap.size) (h : IsNode w S b nd) (hk : nd.kids = []) (h2 : 2 ≤ nd.pairs.length) (hs : nd.size ≤ 1000000) :
    Calls Tryz.prog 73 #[.pointer (some ⟨b, 0, none⟩)] w fun e w' => ∃ (i : Nat) (hi : i < nd.pairs.length) (b1 b2 : Nat), 1 ≤ i ∧ e = .returned (.tuple #[.pointer (some ⟨b1, 0, none⟩), .pointer (some ⟨b2, 0, none⟩), .string nd.pairs[i].1]) ∧
      IsNode w' S b1 ⟨nd.pairs.take i, [], []⟩ ∧ IsNode w' S b2 ⟨nd.pairs.drop i, [], []⟩ ∧ Below w.heap.size w w' := by
  have hN := h
  obtain ⟨_, v0, v1, v2, hb, h0, h1, h22⟩ := h
  obtain ⟨c0, c1, c2, _, _, _, hlt⟩ := cells3 hb
  obtain ⟨ao0, cp0, rfl, n0, m0, _, _⟩ := IsSl.form h0
  have hps : prSize nd.pairs ≤ 1000000 := by unfold Nd.size at hs; omega
  have hke : nd.kids.isEmpty = true := by rw [hk]; rfl
  obtain ⟨b0, o0, rfl, d1, d2⟩ := h0.at rfl 0 (by omega)
  rw [Nat.zero_mul, Nat.add_zero] at d1 d2
  have z0 := prSize_take nd.pairs 0 (by omega)
  rw [show prSize (nd.pairs.take 0) = 0 from rfl, Nat.zero_add, Nat.zero_add] at z0
  have z1 := prSize_take_le nd.pairs 1
  have hz : nd.pairs[0].1.size + nd.pairs[0].2.size ≤ 1000000 := by omega
  have Z0 := Lib.hid z0; clear z0 z1 h22 h1
  have x1 : IntKind.i64.wrap ((2 : Int) + (nd.pairs[0].1.size : Int)) = (2 : Int) + (nd.pairs[0].1.size : Int) := IntWalk.i64_in _ (by omega)
  have x2 : IntKind.i64.wrap ((2 : Int) + (nd.pairs[0].1.size : Int) + (nd.pairs[0].2.size : Int)) = (2 : Int) + (nd.pairs[0].1.size : Int) + (nd.pairs[0].2.size : Int) := IntWalk.i64_in _ (by omega)
  have p1 : (0 : Int) < (nd.pairs.length : Int) := by omega
  have p2 : 0 < nd.pairs.length := by omega
  go_enter Tryz.func73, Tryz.ntmps73
  go_wp2_with (first | (go_at_call 37; go_must (refine (leaf_any b nd w S hN).mono ?_; rintro e w1 ⟨rfl, rfl⟩; rw [hke]; refine Stop.of ?_)))
  refine Stop.on ?_
  go_wp2_with fail
  refine wp_region_ord (fun W => W.cell? ⟨b, 0, none⟩ = some (.slice (some ⟨b0, o0, none⟩) nd.pairs.length cp0) ∧ W.cell? ⟨b0, o0, none⟩ = some (.string nd.pairs[0].1) ∧ W.cell? ⟨b0, o0 + 1, none⟩ = some (.string nd.pairs[0].2)) (fun _ => true) [0, 1, 2, 3, 4, 5, 6, 7, 8, 9, 10, 11, 12, 13, 14, 15, 16, 17, 18, 19] rfl (by kernel_rfl) ⟨c0, d1, d2⟩ ?_
  repeat ((refine ord_q (v := ?_) rfl rfl (fun _ _ _ h => h) rfl (fun W hW => ?_) ?_); rotate_left; (focus ((try dsimp only at hW); have q0 := hW.1; have q1 := hW.2.1; have q2 := hW.2.2; first | (go_simp; first | done | with_reducible rfl))); (try simp only [Act.put, List.setIfInBounds_toArray, List.set_cons_zero, List.set_cons_succ]))
  refine ord_nil ?_
  go_wp2_with fail
  go_loopw [5, 6] (fun i s wr => ∃ (k : Nat) (z : Nat), 1 ≤ k ∧ k < nd.pairs.length ∧ i = .int .i64 k ∧ s = .int .i64 z ∧ z = prSize (nd.pairs.take k) ∧ Below w.heap.size w wr) (fun i _ _ => nd.pairs.length - (intOf i).toNat)
  case atStart => exact ⟨1, 2 + nd.pairs[0].1.size + nd.pairs[0].2.size, Nat.le_refl _, by omega, rfl, by go_num, by rw [Z0.out], (Below.refl _ _).drew⟩
  case round =>
    obtain ⟨k, z, hk1, hk2, rfl, rfl, hzz, hbel⟩ := hrel
    have c0' := (hbel.cell (p := ⟨b, 0, none⟩) hlt).trans c0
    have hzl := prSize_take_le nd.pairs k
    have hlr := hbel.size
    obtain ⟨_, _, e, d3, d4⟩ := h0.at rfl k hk2
    cases e
    have d3' := (hbel.cell (p := ⟨b0, o0 + k * 2, none⟩) (World.block_lt_of_cell? w _ d3)).trans d3
    have d4' := (hbel.cell (p := ⟨b0, o0 + k * 2 + 1, none⟩) (World.block_lt_of_cell? w _ d4)).trans d4
    have y0 := prSize_take nd.pairs k hk2
    have y1 := prSize_take_le nd.pairs (k + 1)
    have hz2 : nd.pairs[k].1.size + nd.pairs[k].2.size + z ≤ 1000000 := by omega
    have hk3 : (k : Int) < nd.pairs.length := by omega
    have Y0 := Lib.hid y0; clear y0 y1
    have ZZ := Lib.hid hzz; clear hzz
    have k1 : (0 : Int) ≤ (k : Int) := by omega
    have k2 : (k : Int) ≤ cp0 := by omega
    have f0 : ∀ W, Below w.heap.size w W → W.cell? ⟨b, 0, none⟩ = some (.slice (some ⟨b0, o0, none⟩) nd.pairs.length cp0) := fun W hW => (hW.cell (p := ⟨b, 0, none⟩) hlt).trans c0
    have f1 : ∀ W, Below w.heap.size w W → W.cell? ⟨b0, o0 + k * 2, none⟩ = some (.string nd.pairs[k].1) := fun W hW => (hW.cell (p := ⟨b0, o0 + k * 2, none⟩) (World.block_lt_of_cell? w _ d3)).trans d3
    have f2 : ∀ W, Below w.heap.size w W → W.cell? ⟨b0, o0 + k * 2 + 1, none⟩ = some (.string nd.pairs[k].2) := fun W hW => (hW.cell (p := ⟨b0, o0 + k * 2 + 1, none⟩) (World.block_lt_of_cell? w _ d4)).trans d4
    have k3 : (k : Int) ≤ nd.pairs.length := by omega
    have x3 : IntKind.i64.wrap ((2 : Int) + (nd.pairs[k].1.size : Int)) = (2 : Int) + (nd.pairs[k].1.size : Int) := IntWalk.i64_in _ (by omega)
    have x4 : IntKind.i64.wrap ((2 : Int) + (nd.pairs[k].1.size : Int) + (nd.pairs[k].2.size : Int)) = (2 : Int) + (nd.pairs[k].1.size : Int) + (nd.pairs[k].2.size : Int) := IntWalk.i64_in _ (by omega)
    have x5 : IntKind.i64.wrap ((z : Int) + ((2 : Int) + (nd.pairs[k].1.size : Int) + (nd.pairs[k].2.size : Int))) = (z : Int) + ((2 : Int) + (nd.pairs[k].1.size : Int) + (nd.pairs[k].2.size : Int)) := IntWalk.i64_in _ (by omega)
    have k4 : ¬ cp0 = k := by omega
    have HB := hbel
    have hL1 : IsPrs w S (.slice (some ⟨b0, o0, none⟩) k cp0) (nd.pairs.take k) := by
      have := IsSl.upto h0 k (Nat.le_of_lt hk2)
      unfold IsPrs; rw [List.length_take, Nat.min_eq_left (Nat.le_of_lt hk2), prCells_take]; exact this
    have hL2 : IsPrs w S (.slice (some ⟨b0, o0 + k * 2, none⟩) (nd.pairs.length - k) (cp0 - k)) (nd.pairs.drop k) := by
      have := IsSl.after h0 k (Nat.le_of_lt hk2)
      rw [if_neg k4, Option.map_some, Addr.add_lit] at this
      unfold IsPrs; rw [List.length_drop, prCells_drop]; exact this
    have hno : ∀ g, w.heap.size ≤ g → ¬ S g := fun g hg x => absurd (hS _ x) (Nat.not_lt.2 hg)
    go_wp2_with (first | (go_at_call 70; go_must (refine (size_any b nd _ S (hN.below hbel) hs).mono ?_; rintro e w1 ⟨rfl, hb1⟩; refine Stop.of ?_)))
    · have HB := hbel.trans (hb1.mono hlr)
      refine Stop.on ?_
      go_wp2_with fail
      · refine wp_region_ord (fun W => Below w.heap.size w W) (fun _ => true) [0, 1, 2, 3, 4, 5, 6, 7, 8, 9, 10, 11, 12, 13, 14, 15, 16, 17, 18, 19, 20, 21, 22] rfl (by kernel_rfl) HB.drew ?_
        repeat ((refine ord_q (v := ?_) rfl rfl (fun _ _ _ h => h) rfl (fun W hW => ?_) ?_); rotate_left; (focus ((try dsimp only at hW); have q0 := f0 W hW; have q1 := f1 W hW; have q2 := f2 W hW; first | (go_simp; first | done | with_reducible rfl))); (try simp only [Act.put, List.setIfInBounds_toArray, List.set_cons_zero, List.set_cons_succ]))
        refine ord_nil ?_
        go_wp2
        go_roundw
        case rel => exact ⟨k + 1, z + (2 + nd.pairs[k].1.size + nd.pairs[k].2.size), by omega, by omega, by go_num, by go_num, by rw [Y0.out, ZZ.out], HB.drew⟩
        case measure => simp [intOf]; omega
      · refine wp_region_fork (fun W => Below w.heap.size w W) (fun i => !([7, 15].contains i)) [0, 1, 2, 3, 4, 5, 6, 8, 9, 10, 11, 12, 13, 14, 16, 17, 18, 19, 20, 21, 22, 23] 7 15 [24, 15, 25, 26] [7, 24, 25, 26] rfl (by kernel_rfl) HB.drew ?_
        repeat ((refine ordK_q (v := ?_) rfl rfl (fun _ _ _ h => h) rfl (fun W hW => ?_) ?_); rotate_left; (focus ((try dsimp only at hW); have q0 := f0 W hW; have q1 := f1 W hW; have q2 := f2 W hW; first | (go_simp; first | done | with_reducible rfl))); (try simp only [Act.put, List.setIfInBounds_toArray, List.set_cons_zero, List.set_cons_succ]))
        refine ordK_nil (fork_two rfl rfl rfl rfl ?_ ?_)
        · intro K hK
          go_simp
          refine hK.out _ _ (HB.drew.alloc HB.size _) ?_
          (try simp only [Act.put, List.setIfInBounds_toArray, List.set_cons_zero, List.set_cons_succ])
          repeat ((refine ord_q (v := ?_) rfl rfl (fun _ _ _ h => h) rfl (fun W hW => ?_) ?_); rotate_left; (focus ((try dsimp only at hW); have q0 := f0 W hW; have q1 := f1 W hW; have q2 := f2 W hW; first | (go_simp; first | done | with_reducible rfl))); (try simp only [Act.put, List.setIfInBounds_toArray, List.set_cons_zero, List.set_cons_succ]))
          refine ord_e rfl rfl rfl ?_
          intro K hK
          go_simp
          have HB2 := fun o1 o2 => (HB.drew.alloc HB.size o1).alloc (Nat.le_trans HB.size (by simp)) o2
          refine hK.out _ _ (HB2 _ _) ?_
          (try simp only [Act.put, List.setIfInBounds_toArray, List.set_cons_zero, List.set_cons_succ])
          repeat ((refine ord_q (v := ?_) rfl rfl (fun _ _ _ h => h) rfl (fun W hW => ?_) ?_); rotate_left; (focus ((try dsimp only at hW); have q0 := f0 W hW; have q1 := f1 W hW; have q2 := f2 W hW; first | (go_simp; first | done | with_reducible rfl))); (try simp only [Act.put, List.setIfInBounds_toArray, List.set_cons_zero, List.set_cons_succ]))
          refine ord_nil ?_
          go_wp2
          go_ret3
          exact ⟨k, hk2, _, _, hk1, rfl, leaf_of (HB2 _ _) hL1 (two_old _ _ _) (hno _ HB.size), leaf_of (HB2 _ _) hL2 (two_new _ _ _) (hno _ (Nat.le_succ_of_le HB.size)), HB2 _ _⟩
        · intro K hK
          go_simp
          refine hK.out _ _ (HB.drew.alloc HB.size _) ?_
          (try simp only [Act.put, List.setIfInBounds_toArray, List.set_cons_zero, List.set_cons_succ])
          repeat ((refine ord_q (v := ?_) rfl rfl (fun _ _ _ h => h) rfl (fun W hW => ?_) ?_); rotate_left; (focus ((try dsimp only at hW); have q0 := f0 W hW; have q1 := f1 W hW; have q2 := f2 W hW; first | (go_simp; first | done | with_reducible rfl))); (try simp only [Act.put, List.setIfInBounds_toArray, List.set_cons_zero, List.set_cons_succ]))
          refine ord_e rfl rfl rfl ?_
          intro K hK
          go_simp
          have HB2 := fun o1 o2 => (HB.drew.alloc HB.size o1).alloc (Nat.le_trans HB.size (by simp)) o2
          refine hK.out _ _ (HB2 _ _) ?_
          (try simp only [Act.put, List.setIfInBounds_toArray, List.set_cons_zero, List.set_cons_succ])
          repeat ((refine ord_q (v := ?_) rfl rfl (fun _ _ _ h => h) rfl (fun W hW => ?_) ?_); rotate_left; (focus ((try dsimp only at hW); have q0 := f0 W hW; have q1 := f1 W hW; have q2 := f2 W hW; first | (go_simp; first | done | with_reducible rfl))); (try simp only [Act.put, List.setIfInBounds_toArray, List.set_cons_zero, List.set_cons_succ]))
          refine ord_nil ?_
          go_wp2
          go_ret3
          exact ⟨k, hk2, _, _, hk1, rfl, leaf_of (HB2 _ _) hL1 (two_new _ _ _) (hno _ (Nat.le_succ_of_le HB.size)), leaf_of (HB2 _ _) hL2 (two_old _ _ _) (hno _ HB.size), HB2 _ _⟩
    · refine wp_region_fork (fun W => Below w.heap.size w W) (fun i => !([7, 15].contains i)) [0, 1, 2, 3, 4, 5, 6, 8, 9, 10, 11, 12, 13, 14, 16, 17, 18, 19, 20, 21, 22, 23] 7 15 [24, 15, 25, 26] [7, 24, 25, 26] rfl (by kernel_rfl) HB.drew ?_
      repeat ((refine ordK_q (v := ?_) rfl rfl (fun _ _ _ h => h) rfl (fun W hW => ?_) ?_); rotate_left; (focus ((try dsimp only at hW); have q0 := f0 W hW; have q1 := f1 W hW; have q2 := f2 W hW; first | (go_simp; first | done | with_reducible rfl))); (try simp only [Act.put, List.setIfInBounds_toArray, List.set_cons_zero, List.set_cons_succ]))
      refine ordK_nil (fork_two rfl rfl rfl rfl ?_ ?_)
      · intro K hK
        go_simp
        refine hK.out _ _ (HB.drew.alloc HB.size _) ?_
        (try simp only [Act.put, List.setIfInBounds_toArray, List.set_cons_zero, List.set_cons_succ])
        repeat ((refine ord_q (v := ?_) rfl rfl (fun _ _ _ h => h) rfl (fun W hW => ?_) ?_); rotate_left; (focus ((try dsimp only at hW); have q0 := f0 W hW; have q1 := f1 W hW; have q2 := f2 W hW; first | (go_simp; first | done | with_reducible rfl))); (try simp only [Act.put, List.setIfInBounds_toArray, List.set_cons_zero, List.set_cons_succ]))
        refine ord_e rfl rfl rfl ?_
        intro K hK
        go_simp
        have HB2 := fun o1 o2 => (HB.drew.alloc HB.size o1).alloc (Nat.le_trans HB.size (by simp)) o2
        refine hK.out _ _ (HB2 _ _) ?_
        (try simp only [Act.put, List.setIfInBounds_toArray, List.set_cons_zero, List.set_cons_succ])
        repeat ((refine ord_q (v := ?_) rfl rfl (fun _ _ _ h => h) rfl (fun W hW => ?_) ?_); rotate_left; (focus ((try dsimp only at hW); have q0 := f0 W hW; have q1 := f1 W hW; have q2 := f2 W hW; first | (go_simp; first | done | with_reducible rfl))); (try simp only [Act.put, List.setIfInBounds_toArray, List.set_cons_zero, List.set_cons_succ]))
        refine ord_nil ?_
        go_wp2
        go_ret3
        exact ⟨k, hk2, _, _, hk1, rfl, leaf_of (HB2 _ _) hL1 (two_old _ _ _) (hno _ HB.size), leaf_of (HB2 _ _) hL2 (two_new _ _ _) (hno _ (Nat.le_succ_of_le HB.size)), HB2 _ _⟩
      · intro K hK
        go_simp
        refine hK.out _ _ (HB.drew.alloc HB.size _) ?_
        (try simp only [Act.put, List.setIfInBounds_toArray, List.set_cons_zero, List.set_cons_succ])
        repeat ((refine ord_q (v := ?_) rfl rfl (fun _ _ _ h => h) rfl (fun W hW => ?_) ?_); rotate_left; (focus ((try dsimp only at hW); have q0 := f0 W hW; have q1 := f1 W hW; have q2 := f2 W hW; first | (go_simp; first | done | with_reducible rfl))); (try simp only [Act.put, List.setIfInBounds_toArray, List.set_cons_zero, List.set_cons_succ]))
        refine ord_e rfl rfl rfl ?_
        intro K hK
        go_simp
        have HB2 := fun o1 o2 => (HB.drew.alloc HB.size o1).alloc (Nat.le_trans HB.size (by simp)) o2
        refine hK.out _ _ (HB2 _ _) ?_
        (try simp only [Act.put, List.setIfInBounds_toArray, List.set_cons_zero, List.set_cons_succ])
        repeat ((refine ord_q (v := ?_) rfl rfl (fun _ _ _ h => h) rfl (fun W hW => ?_) ?_); rotate_left; (focus ((try dsimp only at hW); have q0 := f0 W hW; have q1 := f1 W hW; have q2 := f2 W hW; first | (go_simp; first | done | with_reducible rfl))); (try simp only [Act.put, List.setIfInBounds_toArray, List.set_cons_zero, List.set_cons_succ]))
        refine ord_nil ?_
        go_wp2
        go_ret3
        exact ⟨k, hk2, _, _, hk1, rfl, leaf_of (HB2 _ _) hL1 (two_new _ _ _) (hno _ (Nat.le_succ_of_le HB.size)), leaf_of (HB2 _ _) hL2 (two_old _ _ _) (hno _ HB.size), HB2 _ _⟩

theorem inner_of {w W : World} {S : Nat → Prop} {g : Nat} {v1 v2 : Value} {ks : List ByteArray} {ns : List Int} (hW : Below w.heap.size w W) (h1 : IsStrs w S v1 ks) (h2 : IsInts w S v2 ns) (hb : W.heap[g]? = some (.cells #[.slice none 0 0, v1, v2] 74 (0, 0))) (hg : ¬ S g) : IsNode W S g ⟨[], ks, ns⟩ :=
  ⟨hg, _, _, _, hb, IsSl.nil _ _ _, IsSl.below h1 hW, IsSl.below h2 hW⟩

set_option maxRecDepth 100000 in
set_option maxHeartbeats 2000000 in
theorem halvesInner_any (b : Nat) (nd : Nd) (w : World) (S : Nat → Prop) (hS : ∀ g, S g → g < w.heap.size) (h : IsNode w S b nd) (h2 : 3 ≤ nd.kids.length) (hkk : nd.keys.length = nd.kids.length - 1) (hs : nd.size ≤ 1000000) :
    Calls Tryz.prog 73 #[.pointer (some ⟨b, 0, none⟩)] w fun e w' => ∃ (i : Nat) (hi : i - 1 < nd.keys.length) (b1 b2 : Nat), i = nd.kids.length / 2 ∧ e = .returned (.tuple #[.pointer (some ⟨b1, 0, none⟩), .pointer (some ⟨b2, 0, none⟩), .string nd.keys[i - 1]]) ∧
      IsNode w' S b1 ⟨[], nd.keys.take (i - 1), nd.kids.take i⟩ ∧ IsNode w' S b2 ⟨[], nd.keys.drop i, nd.kids.drop i⟩ ∧ Below w.heap.size w w' := by
  have hN := h
  obtain ⟨_, v0, v1, v2, hb, h0, h1, h22⟩ := h
  obtain ⟨c0, c1, c2, _, _, _, hlt⟩ := cells3 hb
  have hke : nd.kids.isEmpty = false := by cases hq : nd.kids with | nil => rw [hq] at h2; simp at h2 | cons => rfl
  have hsz : 2 * nd.kids.length ≤ 1000000 := by unfold Nd.size at hs; omega
  obtain ⟨i, hi⟩ : ∃ i, i = nd.kids.length / 2 := ⟨_, rfl⟩
  obtain ⟨j, rfl⟩ : ∃ j, i = j + 1 := ⟨i - 1, by omega⟩
  have hi2 : j + 2 < nd.kids.length := by omega
  have hjk : j + 1 < nd.keys.length := by omega
  have hj : j < nd.keys.length := by omega
  obtain ⟨ao1, cp1, rfl, n1, m1, q1, _⟩ := IsSl.form h1
  obtain ⟨ao2, cp2, rfl, n2, m2, q2, _⟩ := IsSl.form h22
  obtain ⟨b1, o1, rfl, d1⟩ := h1.at rfl j hj
  obtain ⟨b2, o2, rfl, _⟩ := h22.at rfl 0 (by omega)
  have k1 : ¬ cp1 = j + 1 := by omega
  have k2 : ¬ cp2 = j + 1 := by omega
  have k3 : (nd.kids.length : Int).tdiv 2 = ((j : Int) + 1) := by rw [Int.tdiv_eq_ediv_of_nonneg (by omega)]; omega
  have k4 : (nd.kids.length : Int) / 2 = ((j : Int) + 1) := by omega
  have k5 : (0 : Int) ≤ (j : Int) + 1 := by omega
  have k6 : (j : Int) + 1 ≤ (cp2 : Int) := by omega
  have k7 : ((j : Int) + 1).toNat = j + 1 := by omega
  have k8 : (j : Int) ≤ (cp1 : Int) := by omega
  have k9 : (0 : Int) ≤ (j : Int) := by omega
  have k10 : (j : Int) + 1 ≤ (nd.kids.length : Int) := by omega
  have k11 : (j : Int) + 1 ≤ (nd.keys.length : Int) := by omega
  have k12 : (j : Int) < (nd.keys.length : Int) := by omega
  have k13 : (j : Int) + 1 - 1 = (j : Int) := by omega
  have k14 : IntKind.i64.wrap (j : Int) = (j : Int) := IntWalk.i64_in _ (by omega)
  have HI := Lib.hid hi; clear hi
  have HKK := Lib.hid hkk; clear hkk
  have f0 : ∀ W, Below w.heap.size w W → W.cell? ⟨b, 1, none⟩ = some (.slice (some ⟨b1, o1, none⟩) nd.keys.length cp1) := fun W hW => (hW.cell (p := ⟨b, 1, none⟩) hlt).trans c1
  have f1 : ∀ W, Below w.heap.size w W → W.cell? ⟨b, 2, none⟩ = some (.slice (some ⟨b2, o2, none⟩) nd.kids.length cp2) := fun W hW => (hW.cell (p := ⟨b, 2, none⟩) hlt).trans c2
  have f2 : ∀ W, Below w.heap.size w W → W.cell? ⟨b1, o1 + j, none⟩ = some (.string (nd.keys[j]'hj)) := fun W hW => (hW.cell (p := ⟨b1, o1 + j, none⟩) (World.block_lt_of_cell? w _ d1)).trans d1
  have hno : ∀ g, w.heap.size ≤ g → ¬ S g := fun g hg x => absurd (hS _ x) (Nat.not_lt.2 hg)
  have hA1 : IsStrs w S (.slice (some ⟨b1, o1, none⟩) j cp1) (nd.keys.take j) := by
    have := IsSl.upto h1 j (by omega)
    unfold IsStrs; rw [List.length_take, Nat.min_eq_left (by omega), List.map_take]; rw [Nat.mul_one] at this; exact this
  have hA2 : IsInts w S (.slice (some ⟨b2, o2, none⟩) (j + 1) cp2) (nd.kids.take (j + 1)) := by
    have := IsSl.upto h22 (j + 1) (by omega)
    unfold IsInts; rw [List.length_take, Nat.min_eq_left (by omega), List.map_take]; rw [Nat.mul_one] at this; exact this
  have hB1 : IsStrs w S (.slice (some ⟨b1, o1 + (j + 1), none⟩) (nd.keys.length - (j + 1)) (cp1 - (j + 1))) (nd.keys.drop (j + 1)) := by
    have := IsSl.after h1 (j + 1) (by omega)
    rw [if_neg k1, Option.map_some, Addr.add_lit, Nat.mul_one] at this
    unfold IsStrs; rw [List.length_drop, List.map_drop]; exact this
  have hB2 : IsInts w S (.slice (some ⟨b2, o2 + (j + 1), none⟩) (nd.kids.length - (j + 1)) (cp2 - (j + 1))) (nd.kids.drop (j + 1)) := by
    have := IsSl.after h22 (j + 1) (by omega)
    rw [if_neg k2, Option.map_some, Addr.add_lit, Nat.mul_one] at this
    unfold IsInts; rw [List.length_drop, List.map_drop]; exact this
  clear h0 q1 q2
  go_enter Tryz.func73, Tryz.ntmps73
  go_wp2_with (first | (go_at_call 37; go_must (refine (leaf_any b nd w S hN).mono ?_; rintro e w1 ⟨rfl, rfl⟩; rw [hke]; refine Stop.of ?_)))
  refine Stop.on ?_
  have HB := Below.refl w.heap.size w
  go_wp2_with fail
  refine wp_region_fork (fun W => Below w.heap.size w W) (fun i => !([14, 28].contains i)) [0, 1, 2, 3, 4, 5, 6, 7, 8, 9, 10, 11, 12, 13, 15, 16, 17, 18, 19, 20, 21, 22, 23, 24, 25, 26, 27, 29, 30, 31, 32, 33, 34, 35, 36] 14 28 [37, 28, 38, 39] [14, 37, 38, 39] rfl (by kernel_rfl) HB.drew ?_
  repeat ((refine ordK_q (v := ?_) rfl rfl (fun _ _ _ h => h) rfl (fun W hW => ?_) ?_); rotate_left; (focus ((try dsimp only at hW); have q0 := f0 W hW; have q1 := f1 W hW; have q2 := f2 W hW; first | (go_simp; first | done | with_reducible rfl))); (try simp only [Act.put, List.setIfInBounds_toArray, List.set_cons_zero, List.set_cons_succ]))
  refine ordK_nil (fork_two rfl rfl rfl rfl ?_ ?_)
  · intro K hK
    go_simp
    refine hK.out _ _ (HB.drew.alloc HB.size _) ?_
    (try simp only [Act.put, List.setIfInBounds_toArray, List.set_cons_zero, List.set_cons_succ])
    repeat ((refine ord_q (v := ?_) rfl rfl (fun _ _ _ h => h) rfl (fun W hW => ?_) ?_); rotate_left; (focus ((try dsimp only at hW); have q0 := f0 W hW; have q1 := f1 W hW; have q2 := f2 W hW; first | (go_simp; first | done | with_reducible rfl))); (try simp only [Act.put, List.setIfInBounds_toArray, List.set_cons_zero, List.set_cons_succ]))
    refine ord_e rfl rfl rfl ?_
    intro K hK
    go_simp
    have HB2 := fun o1 o2 => (HB.drew.alloc HB.size o1).alloc (Nat.le_trans HB.size (by simp)) o2
    refine hK.out _ _ (HB2 _ _) ?_
    (try simp only [Act.put, List.setIfInBounds_toArray, List.set_cons_zero, List.set_cons_succ])
    repeat ((refine ord_q (v := ?_) rfl rfl (fun _ _ _ h => h) rfl (fun W hW => ?_) ?_); rotate_left; (focus ((try dsimp only at hW); have q0 := f0 W hW; have q1 := f1 W hW; have q2 := f2 W hW; first | (go_simp; first | done | with_reducible rfl))); (try simp only [Act.put, List.setIfInBounds_toArray, List.set_cons_zero, List.set_cons_succ]))
    refine ord_nil ?_
    go_wp2
    go_ret3
    exact ⟨j + 1, by omega, _, _, HI.out, rfl, inner_of (HB2 _ _) hA1 hA2 (two_old _ _ _) (hno _ (Nat.le_refl _)), inner_of (HB2 _ _) hB1 hB2 (two_new _ _ _) (hno _ (Nat.le_succ _)), HB2 _ _⟩
  · intro K hK
    go_simp
    refine hK.out _ _ (HB.drew.alloc HB.size _) ?_
    (try simp only [Act.put, List.setIfInBounds_toArray, List.set_cons_zero, List.set_cons_succ])
    repeat ((refine ord_q (v := ?_) rfl rfl (fun _ _ _ h => h) rfl (fun W hW => ?_) ?_); rotate_left; (focus ((try dsimp only at hW); have q0 := f0 W hW; have q1 := f1 W hW; have q2 := f2 W hW; first | (go_simp; first | done | with_reducible rfl))); (try simp only [Act.put, List.setIfInBounds_toArray, List.set_cons_zero, List.set_cons_succ]))
    refine ord_e rfl rfl rfl ?_
    intro K hK
    go_simp
    have HB2 := fun o1 o2 => (HB.drew.alloc HB.size o1).alloc (Nat.le_trans HB.size (by simp)) o2
    refine hK.out _ _ (HB2 _ _) ?_
    (try simp only [Act.put, List.setIfInBounds_toArray, List.set_cons_zero, List.set_cons_succ])
    repeat ((refine ord_q (v := ?_) rfl rfl (fun _ _ _ h => h) rfl (fun W hW => ?_) ?_); rotate_left; (focus ((try dsimp only at hW); have q0 := f0 W hW; have q1 := f1 W hW; have q2 := f2 W hW; first | (go_simp; first | done | with_reducible rfl))); (try simp only [Act.put, List.setIfInBounds_toArray, List.set_cons_zero, List.set_cons_succ]))
    refine ord_nil ?_
    go_wp2
    go_ret3
    exact ⟨j + 1, by omega, _, _, HI.out, rfl, inner_of (HB2 _ _) hA1 hA2 (two_new _ _ _) (hno _ (Nat.le_succ _)), inner_of (HB2 _ _) hB1 hB2 (two_old _ _ _) (hno _ (Nat.le_refl _)), HB2 _ _⟩
end Go.Proofs.YtbldcbakhpdigaaGreat

/- slices.Insert(s, i, p) at pairs, one element, within, where there is no room; and all its ways in one. -/
namespace Go.Proofs.YtbldcbakhpdigaaGreat
open Go.RowKit

set_option maxRecDepth 100000 in
set_option maxHeartbeats 2000000 in
theorem insGrow_any (g cap n i : Nat) (xs : List Value) (vb : Nat) (news : List Value) (w : World) (S : Nat → Prop) (B : Nat) (hS : ∀ g, S g → g < w.heap.size) (hB : B ≤ w.heap.size) (h : OwnSl w S B 53 2 (.slice (some ⟨g, 0, none⟩) n cap) n xs) (hx1 : ∀ u ∈ xs, u.oneCell' = true) (hv : Row w vb 53 news) (hnl : news.length = 2) (hone : ∀ u ∈ news, u.oneCell' = true) (hn : n ≤ 1000000) (hi : i < n) (hroom : cap < n + 1) :
    Calls Tryz.prog 36 #[.slice (some ⟨g, 0, none⟩) n cap, .int .i64 i, .slice (some ⟨vb, 0, none⟩) 1 1] w fun e w' => ∃ v', e = .returned v' ∧ OwnSl w' S B 53 2 v' (n + 1) (xs.take (i * 2) ++ news ++ xs.drop (i * 2)) ∧ Keep NoS w w' := by
  obtain ⟨cur, hr, hl, hx, hBg, hSg, hc, hc2⟩ := h.row
  obtain rfl : n = cap := by omega
  have hc3 : n ≤ 9223372036854775807 := by omega
  have hxl := h.1.1
  clear h hroom
  have k1 : (0 : Int) ≤ (i : Int) := by omega
  have k2 : (i : Int) ≤ (n : Int) := by omega
  have k3 : (0 : Int) ≤ (i : Int) + 1 := by omega
  have k4 : (i : Int) + 1 ≤ (n : Int) + 1 := by omega
  have k5 : ((i : Int) + 1).toNat = i + 1 := by omega
  have k8 : ((i : Int) == (n : Int)) = false := by rw [beq_eq_false_iff_ne]; omega
  have k9 : IntKind.i64.wrap ((i : Int) + 1) = (i : Int) + 1 := IntWalk.i64_in _ (by omega)
  have k10 : ¬ n = i := by omega
  have k11 : (n : Int) + 1 - (i : Int) = ((n + 1 - i : Nat) : Int) := by omega
  have k13 : i + (n + 1 - i) = n + 1 := by omega
  have hvl : vb < w.heap.size := hv.lt
  have hgl : g < w.heap.size := hr.lt
  have Hl := Lib.hid hl; clear hl
  have Hx := Lib.hid hx; clear hx
  have Hxl := Lib.hid hxl; clear hxl
  have Hnl := Lib.hid hnl; clear hnl
  go_enter Tryz.func36, Tryz.ntmps36
  go_wp2_with (first | (at_builtin; (refine in_list rfl ?_); intro K hK; go_must ((refine wp_growZeros (.tmp 34) (.tmp 39) 29 3 rfl 53 2 32 _ Tryz.underlying29 Tryz.underlying3 info_pair rfl (by omega) g i n (n + 1 - i) cur rfl ?_ hr ?_ ?_ ?_ ?_ ?_ ?_); (focus (first | rfl | (show Value.int _ _ = _; congr 1))); (focus (rw [Hl.out]; omega)); (focus omega); (focus omega); (focus (unfold maxLen; omega)); (focus omega); intro c1 w1 rest hr1 hl1 hc1 hc1' hk1; refine hK _ _ (Stop.of ?_))))
  have hc2' : n + 1 ≤ c1 := by omega
  have k12 : ¬ c1 = i := by omega
  have k14 : ¬ c1 = i + 1 := by omega
  have k15 : (i : Int) ≤ (c1 : Int) := by omega
  have hc1'' : c1 ≤ 9223372036854775807 := by simpa [maxLen] using hc1'
  have hne : vb ≠ w.heap.size := by omega
  have hv1 : Row w1 vb 53 news := hv.keep hk1 id
  have hg1 : Row w1 g 53 cur := hr.keep hk1 id
  obtain ⟨m1, m2, m3⟩ := ins_list2 cur rest xs news i n c1 2 hi hc2' Hx.out (by rw [Hl.out]; omega) hl1 Hnl.out
  have Hl1 := Lib.hid hl1; clear hl1
  have M1 := Lib.hid m1; clear m1
  have M2 := Lib.hid m2; clear m2
  have M3 := Lib.hid m3; clear m3
  have hnews : (Builtin.firstCells 2 1 (.slice (some ⟨vb, 0, none⟩) 1 1)).run Tryz.prog w1 = .ok news.toArray w1 := by
    have h1 := (hv1.isSl (S := NoS) (k := 2) (off := 0) 1 1 (by have := Hnl.out; omega) id (Nat.le_refl _) (by simp [maxLen])).first (P := Tryz.prog) 1 (Nat.le_refl _)
    rwa [List.drop_zero, List.take_take, Nat.min_self, List.take_of_length_le (by have := Hnl.out; omega)] at h1
  have Hw := Lib.hid hnews; clear hnews
  refine Stop.on ?_
  go_wp2_with (first | ((refine in_list rfl ?_); intro K hK; (refine wp_copyRow (.tmp 43) (.tmp 44) 29 29 rfl 53 2 32 _ Tryz.underlying29 info_pair w.heap.size (i * 2) 53 1 (n + 1 - i) (c1 - i) (some ⟨w.heap.size, i * 2, none⟩) _ ?_ hr1 (.slice (some ⟨vb, 0, none⟩) 1 1) rfl 1 news rfl ?_ ?_ Hw.out (fun _ => rfl) ?_ hone ?_); go_must ((focus (first | rfl | (show Value.slice _ _ _ = _; congr 1; omega))); (focus (exact (Nat.min_eq_left (by omega)).symm)); (focus (rw [Hnl.out])); (focus (rw [Hl1.out, Hnl.out]; omega)); intro w2 hr2 hk2; refine hK _ _ (Stop.of ?_))))
  have hg2 : Row w2 g 53 cur := hg1.keep hk2 (by omega)
  have hcs : (Builtin.firstCells 2 (n - i) (.slice (some ⟨g, i * 2, none⟩) (n - i) (n - i))).run Tryz.prog w2.drew = .ok (xs.drop (i * 2)).toArray w2.drew := by
    have h1 := (Row.isSl (w := w2.drew) (S := NoS) (k := 2) (off := i * 2) hg2 (n - i) (n - i) (by rw [Hl.out]; omega) id (Nat.le_refl _) (by unfold maxLen; omega)).first (P := Tryz.prog) (n - i) (Nat.le_refl _)
    rw [List.take_take, Nat.min_self] at h1
    rw [← Hx.out, List.drop_take, show n * 2 - i * 2 = (n - i) * 2 by omega]; exact h1
  have Hcs := Lib.hid hcs; clear hcs
  refine Stop.on ?_
  go_wp2
  go_region_held3 (fun _ => True) (trivial) (first | ((refine in_step rfl (wp_copyRow (.tmp 50) (.tmp 53) 29 29 rfl 53 2 32 _ Tryz.underlying29 info_pair w.heap.size ((i + 1) * 2) 53 (n - i) (n - i) (c1 - (i + 1)) (some ⟨w.heap.size, (i + 1) * 2, none⟩) _ ?_ hr2 (.slice (some ⟨g, i * 2, none⟩) (n - i) (n - i)) ?_ (n - i) (xs.drop (i * 2)) rfl ?_ ?_ Hcs.out (fun _ => rfl) ?_ ?_ ?_)); (focus (first | rfl | (show Value.slice _ _ _ = _; congr 1; omega))); (focus (first | rfl | (show Value.slice _ _ _ = _; congr 1 <;> omega))); (focus (exact (Nat.min_self _).symm)); (focus (rw [List.length_drop, Hxl.out]; omega)); (focus (rw [List.length_drop, Hxl.out, M1.out]; omega)); (focus (exact fun u hu => hx1 u (List.mem_of_mem_drop hu))); intro w3 hr3 hk3))
  go_wp2
  go_ret
  have hk13 : Keep NoS w w3 := ((hk1.trans hk2 (fun _ hl e => absurd hl (by omega))).drew).trans hk3 (fun _ hl e => absurd hl (by omega))
  refine ⟨_, rfl, ?_, hk13⟩
  rw [← M3.out]
  exact Row.own hr3 (n + 1) M2.out hB (fun hs => absurd (hS _ hs) (Nat.lt_irrefl _)) hc2' hc1'

/-- slices.Insert(s, i, p): every way -/
theorem insPair_any (v : Value) (n i : Nat) (xs : List Value) (vb : Nat) (news : List Value) (w : World) (S : Nat → Prop) (B : Nat) (hS : ∀ g, S g → g < w.heap.size) (hB : B ≤ w.heap.size) (h : OwnSl w S B 53 2 v n xs) (hx1 : ∀ u ∈ xs, u.oneCell' = true) (hv : Row w vb 53 news) (hvg : v.ownBlock ≠ some vb) (hnl : news.length = 2) (hone : ∀ u ∈ news, u.oneCell' = true) (hn : n ≤ 1000000) (hi : i ≤ n) :
    Calls Tryz.prog 36 #[v, .int .i64 i, .slice (some ⟨vb, 0, none⟩) 1 1] w fun e w' => ∃ v', e = .returned v' ∧ OwnSl w' S B 53 2 v' (n + 1) (xs.take (i * 2) ++ news ++ xs.drop (i * 2)) ∧ Keep (fun g => v.ownBlock = some g) w w' := by
  have hxl := h.1.1
  by_cases hin : i = n
  · subst hin
    refine (insEnd_any v i xs vb news w S B hS hB h hv hnl hone hn).mono ?_
    rintro e w' ⟨v', rfl, h1, h2, _⟩
    refine ⟨v', rfl, ?_, h2⟩
    rw [List.take_of_length_le (by omega), List.drop_of_length_le (by omega), List.append_nil]
    exact h1
  · rcases h.1.2 with ⟨rfl, h0⟩ | ⟨g, cap, cur, rfl, _⟩
    · omega
    · by_cases hroom : n + 1 ≤ cap
      · refine (insMid_any g cap n i xs vb news w S B h hx1 hv (fun e => hvg (by rw [e]; rfl)) hnl hone hn (by omega) hroom).mono ?_
        rintro e w' ⟨v', rfl, h1, h2⟩
        exact ⟨v', rfl, h1, h2.mono (fun k _ hk => by rw [hk]; rfl)⟩
      · refine (insGrow_any g cap n i xs vb news w S B hS hB h hx1 hv hnl hone hn (by omega) (by omega)).mono ?_
        rintro e w' ⟨v', rfl, h1, h2⟩
        exact ⟨v', rfl, h1, h2.mono (fun _ _ hk => hk.elim)⟩
end Go.Proofs.YtbldcbakhpdigaaGreat

