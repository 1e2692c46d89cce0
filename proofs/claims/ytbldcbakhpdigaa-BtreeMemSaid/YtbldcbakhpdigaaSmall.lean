/- Small contracts: strings.Compare, sort.Search, the two closures, slices.BinarySearchFunc. -/
import Derived.Test.YtbldcbakhpdigaaSlDel
import Derived.Test.YtbldcbakhpdigaaOrd
import Derived.Deep.QuietTactic
import Derived.BigQuiet
namespace Go.Proofs.Ytbldcbakhpdigaa
open Go.RowKit

set_option maxHeartbeats 400000 in
theorem cmpString_any (a b : ByteArray) (w : World) : Calls Try.prog 78 #[.string a, .string b] w fun e w' => e = .returned (.int .i64 (cmpS a b)) ∧ w = w' := by
  have hc : ∀ w, (callFunc 101 #[.string a, .string b]).run Try.prog w = .ok (.value (.int .i64 (cmpS a b))) w := fun w => by
    rw [run_callFunc_extern Try.func101 (by kernel_rfl) (by kernel_rfl) (by kernel_rfl) (e := Extern.BytealgCompare.compare) (by kernel_rfl), Lib.run_compareString]
    rfl
  go_enter Try.func78, Try.ntmps78
  go_wp2
  go_ret
  exact ⟨rfl, rfl⟩

set_option maxHeartbeats 400000 in
theorem compare_any (a b : ByteArray) (w : World) : Calls Try.prog 59 #[.string a, .string b] w fun e w' => e = .returned (.int .i64 (cmpS a b)) ∧ w = w' := by
  go_enter Try.func59, Try.ntmps59
  go_wp2_with (go_at_call 78; refine (cmpString_any _ _ _).mono ?_; rintro e w' ⟨rfl, rfl⟩)
  go_ret
  exact ⟨rfl, rfl⟩

/-- find's closure: a pair's key against a key -/
theorem findC_any (k v key : ByteArray) (w : World) : Calls Try.prog 58 #[.agg #[.string k, .string v], .string key] w fun e w' => e = .returned (.int .i64 (cmpS k key)) ∧ Below w.heap.size w w' := by
  go_enter Try.func58, Try.ntmps58
  go_wp2_with (go_at_call 59; refine (compare_any _ _ _).mono ?_; rintro e w' ⟨rfl, rfl⟩)
  go_ret
  exact ⟨rfl, below_one _ _⟩

set_option maxRecDepth 100000 in
set_option maxHeartbeats 400000 in
/-- sort.Search with a closure that leaves what was there -/
theorem search_any (n : Nat) (g : Nat) (cb : Array Value) (p : Nat → Bool) (w : World) (hn : n ≤ 1000000) (hent : ∀ args w, (callFunc g args).run Try.prog w = .ok (.enter g args) w)
    (hf : ∀ W, Below w.heap.size w W → ∀ i, i < n → Calls Try.prog g (#[.int .i64 (i : Int)] ++ cb) W fun e w' => e = .returned (.bool (p i)) ∧ Below w.heap.size W w')
    (m : Nat) (hm : m ≤ n) (hlo : ∀ i, i < m → p i = false) (hhi : ∀ i, m ≤ i → i < n → p i = true) :
    Calls Try.prog 63 #[.int .i64 n, .func (.func g) #[] cb] w fun e w' => e = .returned (.int .i64 m) ∧ Below w.heap.size w w' := by
  go_enter Try.func63, Try.ntmps63
  go_wp2
  go_loopw [5, 6] (fun a b wr => ∃ i j : Nat, a = .int .i64 i ∧ b = .int .i64 j ∧ i ≤ m ∧ m ≤ j ∧ j ≤ n ∧ Below w.heap.size w wr) (fun a b _ => ((intOf b) - (intOf a)).toNat)
  case atStart => exact ⟨0, n, rfl, rfl, Nat.zero_le _, hm, Nat.le_refl _, Below.refl _ _⟩
  case round =>
    obtain ⟨i, j, rfl, rfl, him, hmj, hjn, hbel⟩ := hrel
    by_cases hij : i < j
    · obtain ⟨d, hd⟩ : ∃ d, d = (i + j) / 2 := ⟨_, rfl⟩
      have hdc : ((i : Int) + (j : Int)) / 2 = (d : Int) := by omega
      have hd1 : i ≤ d := by omega
      have hd2 : d < j := by omega
      have Hf := Lib.hid (hf wr hbel d (by omega))
      have hml : m ≤ d ∨ d < m := Nat.lt_or_ge d m |>.symm
      have Hlo := Lib.hid hlo
      have Hhi := Lib.hid hhi
      clear hf hlo hhi hd
      have Hdc := Lib.hid hdc; clear hdc
      by_cases hmd : m ≤ d
      · have hp := Lib.hid (Hhi.out d hmd (by omega))
        go_wp2_with (first | (rw [Hdc.out]; refine Hf.out.mono ?_; rw [hp.out]; rintro e w1 ⟨rfl, hb1⟩))
        go_roundw
        case rel => exact ⟨i, d, rfl, rfl, by omega, hmd, by omega, hbel.trans hb1⟩
        case measure => simp [intOf]; omega
      · have hp := Lib.hid (Hlo.out d (by omega))
        go_wp2_with (first | (rw [Hdc.out]; refine Hf.out.mono ?_; rw [hp.out]; rintro e w1 ⟨rfl, hb1⟩))
        go_roundw
        case rel => exact ⟨d + 1, j, by go_num, rfl, by omega, by omega, by omega, hbel.trans hb1⟩
        case measure => simp [intOf]; omega
    · obtain rfl : i = m := by omega
      obtain rfl : j = i := by omega
      clear hf hlo hhi
      go_wp2
      go_ret
      exact ⟨rfl, hbel⟩

set_option maxHeartbeats 400000 in
/-- kid's closure: is key i behind the key? -/
theorem kidC_any (pb kb b : Nat) (nd : Nd) (key : ByteArray) (w : World) (S : Nat → Prop) (h : IsNode w S b nd) (h1 : w.cell? ⟨pb, 0, none⟩ = some (.pointer (some ⟨b, 0, none⟩))) (h2 : w.cell? ⟨kb, 0, none⟩ = some (.string key)) (i : Nat) (hi : i < nd.keys.length) :
    Calls Try.prog 64 #[.int .i64 i, .pointer (some ⟨pb, 0, none⟩), .pointer (some ⟨kb, 0, none⟩)] w fun e w' => e = .returned (.bool (lt key nd.keys[i])) ∧ Below w.heap.size w w' := by
  obtain ⟨_, v0, v1, v2, hb, _, hk, _⟩ := h
  obtain ⟨c0, c1, c2, _, _, _, hlt⟩ := cells3 hb
  obtain ⟨ao1, cp1, rfl, n1, m1, _, _⟩ := IsSl.form hk
  obtain ⟨b', o', rfl, d1⟩ := hk.at rfl i hi
  have k1 : (0 : Int) ≤ (i : Int) := by omega
  have k2 : (i : Int) < (nd.keys.length : Int) := by omega
  go_enter Try.func64, Try.ntmps64
  go_wp2
  go_quiet (fail)
  go_wp2
  go_ret
  exact ⟨congrArg (fun x => Ending.returned (Value.bool x)) (gtr_eq _ _), below_drewN (Below.refl _ _) _⟩

theorem kidC_enters (args : Array Value) (w : World) : (callFunc 64 args).run Try.prog w = .ok (.enter 64 args) w := by
  kernel_rfl

set_option maxRecDepth 100000 in
set_option maxHeartbeats 400000 in
theorem kid_any (b : Nat) (nd : Nd) (key : ByteArray) (w : World) (S : Nat → Prop) (h : IsNode w S b nd) (hr : Rising nd.keys) (hn : nd.keys.length ≤ 1000000) :
    Calls Try.prog 49 #[.pointer (some ⟨b, 0, none⟩), .string key] w fun e w' => e = .returned (.int .i64 (kidAt nd.keys key)) ∧ Below w.heap.size w w' := by
  have hN := h
  obtain ⟨hSb, v0, v1, v2, hb, h0, hk, h2⟩ := h
  obtain ⟨c0, c1, c2, _, _, _, hlt⟩ := cells3 hb
  obtain ⟨ao1, cp1, rfl, n1, m1, _, _⟩ := IsSl.form hk
  have hmf : ∀ (fn : Fn) (first cap : Array Value) (w : World), (Instr.makeFunc fn first cap).run Try.prog w = .ok (.func fn first cap) w := fun _ _ _ _ => rfl
  obtain ⟨f1, f2⟩ := kidAt_facts key nd.keys hr
  have hS := search_any nd.keys.length 64 #[.pointer (some ⟨w.heap.size, 0, none⟩), .pointer (some ⟨w.heap.size + 1, 0, none⟩)] (fun i => if h : i < nd.keys.length then lt key nd.keys[i] else true)
    ((w.alloc (.cells #[.pointer (some ⟨b, 0, none⟩)] 86)).alloc (.cells #[.string key] 9)) hn kidC_enters
    (fun W hW i hi => by
      have hW0 : Below w.heap.size w W := (below_two w _ _).trans (hW.mono (by simp; omega))
      have hNW : IsNode W S b nd := hN.below hW0
      have q1 := (hW.cell (p := ⟨w.heap.size, 0, none⟩) (by simp; omega)).trans (by rw [World.cell?_alloc_old _ _ _ (by simp), World.cell?_alloc_new])
      have q2 := (hW.cell (p := ⟨w.heap.size + 1, 0, none⟩) (by simp)).trans (by rw [show w.heap.size + 1 = (w.alloc (.cells #[.pointer (some ⟨b, 0, none⟩)] 86)).heap.size by simp, World.cell?_alloc_new])
      refine (kidC_any w.heap.size (w.heap.size + 1) b nd key W S hNW q1 q2 i hi).mono ?_
      rintro e w' ⟨rfl, hb⟩
      exact ⟨by simp [hi], hb.mono hW.size⟩)
    (kidAt nd.keys key) (kidAt_le _ _) (fun i hi => by have := kidAt_le nd.keys key; simp only [dif_pos (show i < nd.keys.length by omega)]; exact f1 i _ hi) (fun i hi hl => by simp only [dif_pos hl]; exact f2 i _ hi)
  have HS := Lib.hid hS
  clear hS f1 f2 hN
  go_enter Try.func49, Try.ntmps49
  go_wp2_with (go_at_call 63; refine HS.out.mono ?_; rintro e w1 ⟨rfl, hb1⟩)
  go_ret
  exact ⟨rfl, (below_two w _ _).trans (hb1.mono (by simp; omega))⟩
end Go.Proofs.Ytbldcbakhpdigaa
