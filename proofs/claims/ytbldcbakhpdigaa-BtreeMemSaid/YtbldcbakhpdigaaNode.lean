/- The walks over a node: leaf, size. -/
import Derived.Test.YtbldcbakhpdigaaRows
import Derived.Test.YtbldcbakhpdigaaMem
import Derived.Test.YtbldcbakhpdigaaDefs
namespace Go.Proofs.Ytbldcbakhpdigaa
open Go.RowKit

/-- block b is a node's struct; it reads as nd -/
def IsNode (w : World) (S : Nat → Prop) (b : Nat) (nd : Nd) : Prop :=
  ¬ S b ∧ ∃ v0 v1 v2, w.heap[b]? = some (.cells #[v0, v1, v2] 91 (0, 0)) ∧ IsPrs w S v0 nd.pairs ∧ IsStrs w S v1 nd.keys ∧ IsInts w S v2 nd.kids

theorem cells3 {w : World} {b t : Nat} {v0 v1 v2 : Value} (h : w.heap[b]? = some (.cells #[v0, v1, v2] t (0, 0))) :
    w.cell? ⟨b, 0, none⟩ = some v0 ∧ w.cell? ⟨b, 1, none⟩ = some v1 ∧ w.cell? ⟨b, 2, none⟩ = some v2 ∧
    w.frozen? ⟨b, 0, none⟩ = false ∧ w.frozen? ⟨b, 1, none⟩ = false ∧ w.frozen? ⟨b, 2, none⟩ = false ∧ b < w.heap.size := by
  refine ⟨?_, ?_, ?_, ?_, ?_, ?_, (Array.getElem?_eq_some_iff.1 h).1⟩ <;> simp [World.cell?, World.frozen?, h]

theorem IsNode.step {w w' : World} {S S' : Nat → Prop} {b : Nat} {nd : Nd} (h : IsNode w S b nd) (hs : Step S S' w w') : IsNode w' S' b nd := by
  obtain ⟨hS, v0, v1, v2, hb, h0, h1, h2⟩ := h
  have hl := (Array.getElem?_eq_some_iff.1 hb).1
  exact ⟨fun x => (hs.2 b x).elim hS (fun y => absurd hl (Nat.not_lt.2 y)), v0, v1, v2, (hs.1.block b hl hS).trans hb, IsSl.step h0 hs, IsSl.step h1 hs, IsSl.step h2 hs⟩
theorem IsNode.below {w w' : World} {S : Nat → Prop} {b : Nat} {nd : Nd} (h : IsNode w S b nd) (hs : Below w.heap.size w w') : IsNode w' S b nd := h.step (Step.of_below hs)

/-- a node of the call's own: its slices may be written and appended to -/
def OwnNode (w : World) (S : Nat → Prop) (B : Nat) (b : Nat) (nd : Nd) : Prop :=
  ¬ S b ∧ B ≤ b ∧ ∃ v0 v1 v2, w.heap[b]? = some (.cells #[v0, v1, v2] 91 (0, 0)) ∧ OwnSl w S B 49 2 v0 nd.pairs.length (prCells nd.pairs) ∧ OwnSl w S B 9 1 v1 nd.keys.length (nd.keys.map .string) ∧ OwnSl w S B 3 1 v2 nd.kids.length (nd.kids.map (.int .i64))

theorem OwnNode.isNode {w : World} {S : Nat → Prop} {B b : Nat} {nd : Nd} (h : OwnNode w S B b nd) : IsNode w S b nd := by
  obtain ⟨h1, _, v0, v1, v2, hb, h2, h3, h4⟩ := h
  exact ⟨h1, v0, v1, v2, hb, h2.isSl, h3.isSl, h4.isSl⟩
theorem OwnNode.step {w w' : World} {S S' : Nat → Prop} {B b : Nat} {nd : Nd} (h : OwnNode w S B b nd) (hs : Step S S' w w') : OwnNode w' S' B b nd := by
  obtain ⟨hS, hB, v0, v1, v2, hb, h0, h1, h2⟩ := h
  have hl := (Array.getElem?_eq_some_iff.1 hb).1
  exact ⟨fun x => (hs.2 b x).elim hS (fun y => absurd hl (Nat.not_lt.2 y)), hB, v0, v1, v2, (hs.1.block b hl hS).trans hb, h0.step hs, h1.step hs, h2.step hs⟩

theorem leaf_any (b : Nat) (nd : Nd) (w : World) (S : Nat → Prop) (h : IsNode w S b nd) :
    Calls Try.prog 48 #[.pointer (some ⟨b, 0, none⟩)] w fun e w' => e = .returned (.bool (nd.kids.isEmpty)) ∧ w = w' := by
  obtain ⟨_, v0, v1, v2, hb, h0, h1, ao, c, rfl, _, _, _, _, _, _⟩ := h
  obtain ⟨c0, c1, c2, f0, f1, f2, hlt⟩ := cells3 hb
  go_enter Try.func48, Try.ntmps48
  go_wp2
  go_ret
  exact ⟨by congr 2; cases nd.kids <;> simp; omega, rfl⟩

set_option maxHeartbeats 400000 in
theorem size_any (b : Nat) (nd : Nd) (w : World) (S : Nat → Prop) (h : IsNode w S b nd) (hs : nd.size ≤ 1000000) :
    Calls Try.prog 67 #[.pointer (some ⟨b, 0, none⟩)] w fun e w' => e = .returned (.int .i64 nd.size) ∧ Below w.heap.size w w' := by
  obtain ⟨_, v0, v1, v2, hb, h0, h1, h2⟩ := h
  obtain ⟨c0, c1, c2, _, _, _, hlt⟩ := cells3 hb
  obtain ⟨ao0, cp0, rfl, n0, m0, _, _⟩ := IsSl.form h0
  obtain ⟨ao1, cp1, rfl, n1, m1, _, _⟩ := IsSl.form h1
  obtain ⟨ao2, cp2, rfl, n2, m2, _, _⟩ := IsSl.form h2
  clear h2
  unfold Nd.size at hs
  have l0 := length_le_prSize nd.pairs
  have l1 := length_le_keySize nd.keys
  go_enter Try.func67, Try.ntmps67
  go_wp2
  go_loopw [3, 13] (fun s i wr => ∃ k : Nat, k ≤ nd.pairs.length ∧ i = .int .i64 k ∧ s = .int .i64 (2 + prSize (nd.pairs.take k) : Nat) ∧ Below w.heap.size w wr) (fun _ i _ => nd.pairs.length - (intOf i).toNat)
  case atStart => exact ⟨0, by omega, rfl, by simp [prSize], Below.refl _ _⟩
  case round =>
    obtain ⟨k, hk, rfl, rfl, hbel⟩ := hrel
    by_cases hlt2 : k < nd.pairs.length
    · obtain ⟨b', o', rfl, hc1, hc2⟩ := h0.at rfl k hlt2
      have d1 := (hbel.cell (p := ⟨b', o' + k * 2, none⟩) (World.block_lt_of_cell? w _ hc1)).trans hc1
      have d2 := (hbel.cell (p := ⟨b', o' + k * 2 + 1, none⟩) (World.block_lt_of_cell? w _ hc2)).trans hc2
      have H := Lib.hid (prSize_take nd.pairs k hlt2)
      have hle := prSize_take_le nd.pairs (k + 1)
      have hb1 : prSize (nd.pairs.take k) + (2 + nd.pairs[k].1.size + nd.pairs[k].2.size) ≤ 1000000 := by rw [← H.out]; omega
      clear hle hc1 hc2
      go_wp2
      go_roundw
      case rel => exact ⟨k + 1, by omega, by go_num, by rw [H.out]; go_num, hbel.alloc hbel.size _⟩
      case measure => simp [intOf]; omega
    · obtain rfl : k = nd.pairs.length := by omega
      rw [List.take_length]
      clear hlt2 h0 hk
      have c1' := (hbel.cell (p := ⟨b, 1, none⟩) hlt).trans c1
      have c2' := (hbel.cell (p := ⟨b, 2, none⟩) hlt).trans c2
      have hlt' : b < wr.heap.size := Nat.lt_of_lt_of_le hlt hbel.size
      obtain ⟨wo, rfl⟩ : ∃ wo : World, wo = wr := ⟨_, rfl⟩
      go_wp2
      go_loop [3, 33] (fun s i => ∃ k : Nat, k ≤ nd.keys.length ∧ i = .int .i64 k ∧ s = .int .i64 (2 + prSize nd.pairs + keySize (nd.keys.take k) : Nat)) (fun _ i => nd.keys.length - (intOf i).toNat)
      case atStart => exact ⟨0, by omega, rfl, by simp [keySize]⟩
      case round =>
        obtain ⟨k, hk, rfl, rfl⟩ := hrel
        by_cases hlt2 : k < nd.keys.length
        · obtain ⟨b', o', rfl, hc1⟩ := IsSl.at1 h1 rfl k (.string nd.keys[k]) (by simp [hlt2])
          have d1 := (hbel.cell (p := ⟨b', o' + k, none⟩) (World.block_lt_of_cell? w _ hc1)).trans hc1
          have H := Lib.hid (keySize_take nd.keys k hlt2)
          have hle := keySize_take_le nd.keys (k + 1)
          have hb1 : 2 + prSize nd.pairs + keySize (nd.keys.take k) + (1 + nd.keys[k].size) ≤ 1000000 := by rw [Nat.add_assoc (2 + _), ← H.out]; omega
          clear hle hc1
          go_wp2
          go_round
          case rel => exact ⟨k + 1, by omega, by go_num, by rw [H.out]; go_num⟩
          case measure => simp [intOf]; omega
        · obtain rfl : k = nd.keys.length := by omega
          rw [List.take_length]
          go_wp2
          go_ret
          exact ⟨by unfold Nd.size; go_num, hbel⟩
end Go.Proofs.Ytbldcbakhpdigaa
