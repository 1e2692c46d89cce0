/- Delete: what it does around the change. -/
import Derived.Test.YtbldcbakhpdigaaScanS
namespace Go.Proofs.Ytbldcbakhpdigaa
open Go.RowKit

set_option maxRecDepth 100000 in
set_option maxHeartbeats 2000000 in
/-- the key is not there -/
theorem delete_none (t mp : Nat) (root : Int) (σ : MSt) (S : Nat → Prop) (key : ByteArray) (w : World) (h : Inv σ S mp w) (ht : TreeAt w t mp root 0) (hk1 : 1 ≤ key.size) (hk2 : key.size ≤ 128) (n : Nat) (hn : n ≤ 40) (hl : Look σ key n root none) :
    Calls Try.prog 23 #[.pointer (some ⟨t, 0, none⟩), .string key] w fun e w' => e = .returned (.tuple #[.bool false, .int .i64 0]) ∧ Below w.heap.size w w' := by
  have hb2 := below_two w (.cells #[.pointer (some ⟨t, 0, none⟩)] 41) (.cells #[.string key] 9)
  have htl : t < w.heap.size := (Array.getElem?_eq_some_iff.1 ht).1
  have hg := get_any t mp root σ S key none _ (h.below hb2) ((hb2.block t htl).trans ht) hk1 hk2 n hn hl
  have HG := Lib.hid hg; clear hg
  go_enter Try.func23, Try.ntmps23
  go_wp2_with (first
    | (go_at_call 28; go_must ((refine HG.out.mono ?_); rintro e w1 ⟨rfl, hb1⟩)))
  go_ret2
  exact ⟨rfl, hb2.trans (hb1.mono hb2.size)⟩

set_option maxRecDepth 100000 in
set_option maxHeartbeats 2000000 in
theorem delete_of (t mp : Nat) (root : Int) (σ : MSt) (S : Nat → Prop) (key x : ByteArray) (w : World) (R : World → Int → World → Prop) (h : Inv σ S mp w) (ht : TreeAt w t mp root 0) (hk1 : 1 ≤ key.size) (hk2 : key.size ≤ 128) (n : Nat) (hn : n ≤ 40) (hl : Look σ key n root (some x))
    (hE : ∀ (W : World) (tb kb : Nat), Below w.heap.size w W → w.heap.size ≤ tb → w.heap.size ≤ kb → SB t mp root 0 tb kb key W →
      Calls Try.prog 38 #[.pointer (some ⟨t, 0, none⟩), .int .i64 root, .int .i64 0, .string key, .string ⟨#[]⟩, .func (.func 45) #[] #[.pointer (some ⟨kb, 0, none⟩)]] W fun e w1 => ∃ v, e = .returned v ∧ SB t mp root 0 tb kb key w1 ∧
        Calls Try.prog 37 #[.pointer (some ⟨t, 0, none⟩), v] w1 fun e2 w2 => ∃ b, e2 = .returned (.int .i64 b) ∧ SB t mp root 0 tb kb key w2 ∧ (∀ g, w.heap.size ≤ g → g < W.heap.size → w2.heap[g]? = W.heap[g]?) ∧ W.heap.size ≤ w2.heap.size ∧ R W b w2) :
    Calls Try.prog 23 #[.pointer (some ⟨t, 0, none⟩), .string key] w fun e w' => e = .returned (.tuple #[.bool true, .int .i64 0]) ∧
      ∃ W b w2 rb, Below w.heap.size w W ∧ R W b w2 ∧ w.heap.size ≤ rb ∧ rb < W.heap.size ∧ W.heap.size ≤ w2.heap.size ∧ Keep (fun g => g = rb ∨ g = t) w2 w' ∧ TreeAt w' t mp b 0 := by
  have HE := Lib.hid hE; clear hE
  have hmf : ∀ (fn : Fn) (first cap : Array Value) (w : World), (Instr.makeFunc fn first cap).run Try.prog w = .ok (.func fn first cap) w := fun _ _ _ _ => rfl
  have hb2 := below_two w (.cells #[.pointer (some ⟨t, 0, none⟩)] 41) (.cells #[.string key] 9)
  have htl : t < w.heap.size := (Array.getElem?_eq_some_iff.1 ht).1
  have hg := get_any t mp root σ S key (some x) _ (h.below hb2) ((hb2.block t htl).trans ht) hk1 hk2 n hn hl
  have HG := Lib.hid hg; clear hg
  have hb20 : ((w.alloc (.cells #[.pointer (some ⟨t, 0, none⟩)] 41)).alloc (.cells #[.string key] 9)).heap[w.heap.size]? = some (.cells #[.pointer (some ⟨t, 0, none⟩)] 41 (0, 0)) := ((below_one (w.alloc _) _).block _ (by simp)).trans (heap_alloc_new w _)
  have hb21 : ((w.alloc (.cells #[.pointer (some ⟨t, 0, none⟩)] 41)).alloc (.cells #[.string key] 9)).heap[w.heap.size + 1]? = some (.cells #[.string key] 9 (0, 0)) := by
    have := heap_alloc_new (w.alloc (.cells #[.pointer (some ⟨t, 0, none⟩)] 41)) (.cells #[.string key] 9); rwa [World.size_alloc] at this
  have hs2 : ((w.alloc (.cells #[.pointer (some ⟨t, 0, none⟩)] 41)).alloc (.cells #[.string key] 9)).heap.size = w.heap.size + 2 := by simp
  have HB20 := Lib.hid hb20
  have HB21 := Lib.hid hb21
  have HS2 := Lib.hid hs2
  clear hb20 hb21 hs2
  go_enter Try.func23, Try.ntmps23
  go_wp2_with (first
    | (go_at_call 28; go_must ((refine HG.out.mono ?_); rintro e W3 ⟨rfl, hb1⟩; have f0 : W3.cell? ⟨w.heap.size, 0, none⟩ = some (.pointer (some ⟨t, 0, none⟩)) := (by have h5 := (hb1.block w.heap.size (by rw [HS2.out]; omega)).trans HB20.out; simp [World.cell?, h5]); have fl : w.heap.size < W3.heap.size := Nat.lt_of_lt_of_le (by rw [HS2.out]; omega) hb1.size))
    | (go_at_call 35; refine Stop.of ?_))
  have hcb : Calls Try.prog 35 #[.pointer (some ⟨t, 0, none⟩), .func (.func 44) #[] #[.pointer (some ⟨w.heap.size, 0, none⟩), .pointer (some ⟨w.heap.size + 1, 0, none⟩)]] W3 fun e w' => e = .returned (.int .i64 0) ∧
        ∃ W b w2 rb, Below w.heap.size w W ∧ R W b w2 ∧ w.heap.size ≤ rb ∧ rb < W.heap.size ∧ W.heap.size ≤ w2.heap.size ∧ Keep (fun g => g = rb ∨ g = t) w2 w' ∧ TreeAt w' t mp b 0 := by
    have hbW3 : Below w.heap.size w W3 := hb2.trans (hb1.mono hb2.size)
    have hs3 : w.heap.size + 2 ≤ W3.heap.size := by rw [← HS2.out]; exact hb1.size
    have b0 : W3.heap[w.heap.size]? = some (.cells #[.pointer (some ⟨t, 0, none⟩)] 41 (0, 0)) := (hb1.block _ (by rw [HS2.out]; omega)).trans HB20.out
    have b1 : W3.heap[w.heap.size + 1]? = some (.cells #[.string key] 9 (0, 0)) := (hb1.block _ (by rw [HS2.out]; omega)).trans HB21.out
    have hbV := below_two W3 (.cells #[.pointer (some ⟨t, 0, none⟩)] 41) (.cells #[.int .i64 0] 30)
    have hsV : ((W3.alloc (.cells #[.pointer (some ⟨t, 0, none⟩)] 41)).alloc (.cells #[.int .i64 0] 30)).heap.size = W3.heap.size + 2 := by simp
    have hbwV := hbW3.trans (hbV.mono (by omega))
    have c0 := (hbV.block _ (by omega)).trans b0
    have c1 := (hbV.block _ (by omega)).trans b1
    have ctr : TreeAt ((W3.alloc (.cells #[.pointer (some ⟨t, 0, none⟩)] 41)).alloc (.cells #[.int .i64 0] 30)) t mp root 0 := (hbwV.block t htl).trans ht
    have crb : ((W3.alloc (.cells #[.pointer (some ⟨t, 0, none⟩)] 41)).alloc (.cells #[.int .i64 0] 30)).heap[W3.heap.size + 1]? = some (.cells #[.int .i64 0] 30 (0, 0)) := by
      have := heap_alloc_new (W3.alloc (.cells #[.pointer (some ⟨t, 0, none⟩)] 41)) (.cells #[.int .i64 0] 30); rwa [World.size_alloc] at this
    have hch := change_any t 44 #[.pointer (some ⟨w.heap.size, 0, none⟩), .pointer (some ⟨w.heap.size + 1, 0, none⟩)] W3
      (fun w' => ∃ W b w2, Below w.heap.size w W ∧ R W b w2 ∧ W3.heap.size + 1 < W.heap.size ∧ W.heap.size ≤ w2.heap.size ∧ SB t mp root 0 w.heap.size (w.heap.size + 1) key w2 ∧ w' = w2.setCell ⟨t, 1, none⟩ (.int .i64 b)) (fun _ _ => by kernel_rfl)
    generalize (W3.alloc (.cells #[.pointer (some ⟨t, 0, none⟩)] 41)).alloc (.cells #[.int .i64 0] 30) = V at *
    have hp1 := delete1_of t mp w.heap.size (w.heap.size + 1) root 0 key V (fun b w2 => (∀ g, w.heap.size ≤ g → g < V.drew.heap.size → w2.heap[g]? = V.drew.heap[g]?) ∧ V.drew.heap.size ≤ w2.heap.size ∧ R V.drew b w2) ⟨ctr, c0, c1⟩ ((HE.out V.drew w.heap.size (w.heap.size + 1) hbwV.drew (Nat.le_refl _) (by omega) ⟨ctr, c0, c1⟩).mono fun e w1 ⟨v, h1, h2, h3⟩ => ⟨v, h1, h2, h3.mono fun e2 w2 ⟨b, k1, k2, k3, k4, k5⟩ => ⟨b, k1, k2, k3, k4, k5⟩⟩)
    refine (hch (hp1.mono ?_)).mono ?_
    · rintro e w' ⟨rfl, b, w2, ⟨k3, k4, k5⟩, hS2, rfl⟩
      refine ⟨rfl, ⟨V.drew, b, w2, hbwV.drew, k5, (by show _ < V.heap.size; omega), k4, hS2, rfl⟩, ?_⟩
      rw [Below.heap_setCell _ _ _ _ (by simp; omega)]
      exact (k3 _ (by omega) (by show _ < V.heap.size; omega)).trans crb
    · rintro e w' ⟨rfl, w1, ⟨W, b, w2, q1, q2, q3, q4, q5, rfl⟩, hk⟩
      have hk5 : Keep (· = t) w2 (w2.setCell ⟨t, 1, none⟩ (.int .i64 b)) := Keep.setCell (M := (· = t)) (p := ⟨t, 1, none⟩) (Keep.refl _ _) (.inr rfl) _
      refine ⟨rfl, W, b, w2, W3.heap.size + 1, q1, q2, by omega, q3, q4, (hk5.mono (fun _ _ h => .inr h)).trans hk (fun _ _ h => .inl h), ?_⟩
      have h5 : (w2.setCell ⟨t, 1, none⟩ (.int .i64 b)).heap[t]? = some (.cells #[.iface 24 (.pointer (some ⟨mp, 0, none⟩)), .int .i64 b, .int .i64 0] 79 (0, 0)) := by
        have := q5.tr; unfold TreeAt at this
        simp [World.setCell, Array.getElem?_modify, this]
      exact (hk.block t (Array.getElem?_eq_some_iff.1 h5).1 (by omega)).trans h5
  have hC := Lib.hid hcb; clear hcb
  refine Stop.on ?_
  refine hC.out.mono ?_
  rintro e w9 ⟨rfl, hres⟩
  go_wp2_with fail
  go_ret2
  exact ⟨rfl, hres⟩
end Go.Proofs.Ytbldcbakhpdigaa
