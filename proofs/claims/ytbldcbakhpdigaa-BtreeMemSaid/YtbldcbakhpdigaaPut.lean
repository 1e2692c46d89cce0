/- Put: what it does around the change. -/
import Derived.Test.YtbldcbakhpdigaaPut1
namespace Go.Proofs.Ytbldcbakhpdigaa
open Go.RowKit

theorem usable_any (t mp : Nat) (root err : Int) (w : World) (h : TreeAt w t mp root err) :
    Calls Try.prog 33 #[.pointer (some ⟨t, 0, none⟩)] w fun e w' => e = .returned (.int .i64 err) ∧ w' = w := by
  obtain ⟨_, _, c2, _, _, _, hlt⟩ := cells3 h
  go_enter Try.func33, Try.ntmps33
  go_wp2
  go_ret
  exact ⟨rfl, rfl⟩

theorem goodKey_yes (k : ByteArray) (w : World) (h1 : 1 ≤ k.size) (h2 : k.size ≤ 128) :
    Calls Try.prog 34 #[.string k] w fun e w' => e = .returned (.bool true) ∧ w' = w := by
  have x1 : (1 : Int) ≤ (k.size : Int) := by omega
  have x2 : (k.size : Int) ≤ 128 := by omega
  go_enter Try.func34, Try.ntmps34
  go_wp2
  go_ret
  exact ⟨by simp [*], rfl⟩
theorem goodKey_no (k : ByteArray) (w : World) (h : ¬ (1 ≤ k.size ∧ k.size ≤ 128)) :
    Calls Try.prog 34 #[.string k] w fun e w' => e = .returned (.bool false) ∧ w' = w := by
  by_cases h1 : 1 ≤ k.size
  · have x1 : (1 : Int) ≤ (k.size : Int) := by omega
    have h2 : ¬ k.size ≤ 128 := fun x => h ⟨h1, x⟩
    have x2 : ¬ (k.size : Int) ≤ 128 := by omega
    go_enter Try.func34, Try.ntmps34
    go_wp2
    go_ret
    exact ⟨by simp [*], rfl⟩
  · have x1 : ¬ (1 : Int) ≤ (k.size : Int) := by omega
    go_enter Try.func34, Try.ntmps34
    go_wp2
    go_ret
    exact ⟨by simp [*], rfl⟩

set_option maxRecDepth 100000 in
set_option maxHeartbeats 2000000 in
theorem put_of (t mp : Nat) (root : Int) (key value : ByteArray) (w : World) (R : World → Int → World → Prop) (ht : TreeAt w t mp root 0) (hk1 : 1 ≤ key.size) (hk2 : key.size ≤ 128) (hv : value.size ≤ 64)
    (hE : ∀ (W : World) (tb kb vb : Nat), Below w.heap.size w W → w.heap.size ≤ tb → w.heap.size ≤ kb → w.heap.size ≤ vb → SB t mp root 0 tb kb key W → BoxS W vb value →
      Calls Try.prog 38 #[.pointer (some ⟨t, 0, none⟩), .int .i64 root, .int .i64 0, .string key, .string ⟨#[]⟩, .func (.func 39) #[] #[.pointer (some ⟨kb, 0, none⟩), .pointer (some ⟨vb, 0, none⟩)]] W fun e w1 => ∃ v, e = .returned v ∧ SB t mp root 0 tb kb key w1 ∧
        Calls Try.prog 37 #[.pointer (some ⟨t, 0, none⟩), v] w1 fun e2 w2 => ∃ b, e2 = .returned (.int .i64 b) ∧ SB t mp root 0 tb kb key w2 ∧ (∀ g, w.heap.size ≤ g → g < W.heap.size → w2.heap[g]? = W.heap[g]?) ∧ W.heap.size ≤ w2.heap.size ∧ R W b w2) :
    Calls Try.prog 20 #[.pointer (some ⟨t, 0, none⟩), .string key, .string value] w fun e w' => e = .returned (.int .i64 0) ∧
      ∃ W b w2 rb, Below w.heap.size w W ∧ R W b w2 ∧ w.heap.size ≤ rb ∧ rb < W.heap.size ∧ W.heap.size ≤ w2.heap.size ∧ Keep (fun g => g = rb ∨ g = t) w2 w' ∧ TreeAt w' t mp b 0 := by
  have HE := Lib.hid hE; clear hE
  have x2 : ¬ ((64 : Int) < (value.size : Int)) := by omega
  have hmf : ∀ (fn : Fn) (first cap : Array Value) (w : World), (Instr.makeFunc fn first cap).run Try.prog w = .ok (.func fn first cap) w := fun _ _ _ _ => rfl
  have hb3 := below_three w (.cells #[.pointer (some ⟨t, 0, none⟩)] 41) (.cells #[.string key] 9) (.cells #[.string value] 9)
  have htl : t < w.heap.size := (Array.getElem?_eq_some_iff.1 ht).1
  have ht3 := (hb3.block t htl).trans ht
  have hcb : ∀ W3, W3 = (((w.alloc (.cells #[.pointer (some ⟨t, 0, none⟩)] 41)).alloc (.cells #[.string key] 9)).alloc (.cells #[.string value] 9)) →
      Calls Try.prog 35 #[.pointer (some ⟨t, 0, none⟩), .func (.func 36) #[] #[.pointer (some ⟨w.heap.size, 0, none⟩), .pointer (some ⟨w.heap.size + 1, 0, none⟩), .pointer (some ⟨w.heap.size + 1 + 1, 0, none⟩)]] W3 fun e w' => e = .returned (.int .i64 0) ∧
        ∃ W b w2 rb, Below w.heap.size w W ∧ R W b w2 ∧ w.heap.size ≤ rb ∧ rb < W.heap.size ∧ W.heap.size ≤ w2.heap.size ∧ Keep (fun g => g = rb ∨ g = t) w2 w' ∧ TreeAt w' t mp b 0 := by
    intro W3 hW3
    have hbW3 : Below w.heap.size w W3 := by rw [hW3]; exact hb3
    have hs3 : W3.heap.size = w.heap.size + 3 := by rw [hW3]; simp
    have b0 : W3.heap[w.heap.size]? = some (.cells #[.pointer (some ⟨t, 0, none⟩)] 41 (0, 0)) := by
      rw [hW3]; exact ((below_two (w.alloc _) _ _).block _ (by simp)).trans (heap_alloc_new w _)
    have b1 : W3.heap[w.heap.size + 1]? = some (.cells #[.string key] 9 (0, 0)) := by
      rw [hW3]; exact ((below_one ((w.alloc _).alloc _) _).block _ (by simp)).trans (by have := heap_alloc_new (w.alloc (.cells #[.pointer (some ⟨t, 0, none⟩)] 41)) (.cells #[.string key] 9); rwa [World.size_alloc] at this)
    have b2 : W3.heap[w.heap.size + 1 + 1]? = some (.cells #[.string value] 9 (0, 0)) := by
      rw [hW3]; have := heap_alloc_new ((w.alloc (.cells #[.pointer (some ⟨t, 0, none⟩)] 41)).alloc (.cells #[.string key] 9)) (.cells #[.string value] 9); rwa [World.size_alloc, World.size_alloc] at this
    clear hW3
    have hbV := below_two W3 (.cells #[.pointer (some ⟨t, 0, none⟩)] 41) (.cells #[.int .i64 0] 30)
    have hsV : ((W3.alloc (.cells #[.pointer (some ⟨t, 0, none⟩)] 41)).alloc (.cells #[.int .i64 0] 30)).heap.size = w.heap.size + 5 := by simp [hs3]
    have hbwV := hbW3.trans (hbV.mono (by omega))
    have c0 := (hbV.block _ (by omega)).trans b0
    have c1 := (hbV.block _ (by omega)).trans b1
    have c2 := (hbV.block _ (by omega)).trans b2
    have ctr : TreeAt ((W3.alloc (.cells #[.pointer (some ⟨t, 0, none⟩)] 41)).alloc (.cells #[.int .i64 0] 30)) t mp root 0 := (hbwV.block t htl).trans ht
    have crb : ((W3.alloc (.cells #[.pointer (some ⟨t, 0, none⟩)] 41)).alloc (.cells #[.int .i64 0] 30)).heap[W3.heap.size + 1]? = some (.cells #[.int .i64 0] 30 (0, 0)) := by
      have := heap_alloc_new (W3.alloc (.cells #[.pointer (some ⟨t, 0, none⟩)] 41)) (.cells #[.int .i64 0] 30); rwa [World.size_alloc] at this
    have hch := change_any t 36 #[.pointer (some ⟨w.heap.size, 0, none⟩), .pointer (some ⟨w.heap.size + 1, 0, none⟩), .pointer (some ⟨w.heap.size + 1 + 1, 0, none⟩)] W3
      (fun w' => ∃ W b w2, Below w.heap.size w W ∧ R W b w2 ∧ W3.heap.size + 1 < W.heap.size ∧ W.heap.size ≤ w2.heap.size ∧ SB t mp root 0 w.heap.size (w.heap.size + 1) key w2 ∧ w' = w2.setCell ⟨t, 1, none⟩ (.int .i64 b)) (fun _ _ => by kernel_rfl)
    generalize (W3.alloc (.cells #[.pointer (some ⟨t, 0, none⟩)] 41)).alloc (.cells #[.int .i64 0] 30) = V at *
    have hp1 := put1_of t mp w.heap.size (w.heap.size + 1) (w.heap.size + 1 + 1) root 0 key V (fun b w2 => (∀ g, w.heap.size ≤ g → g < V.drew.heap.size → w2.heap[g]? = V.drew.heap[g]?) ∧ V.drew.heap.size ≤ w2.heap.size ∧ R V.drew b w2) ⟨ctr, c0, c1⟩ ((HE.out V.drew w.heap.size (w.heap.size + 1) (w.heap.size + 1 + 1) hbwV.drew (Nat.le_refl _) (by omega) (by omega) ⟨ctr, c0, c1⟩ c2).mono fun e w1 ⟨v, h1, h2, h3⟩ => ⟨v, h1, h2, h3.mono fun e2 w2 ⟨b, k1, k2, k3, k4, k5⟩ => ⟨b, k1, k2, k3, k4, k5⟩⟩)
    refine (hch (hp1.mono ?_)).mono ?_
    · rintro e w' ⟨rfl, b, w2, ⟨k3, k4, k5⟩, hS2, rfl⟩
      refine ⟨rfl, ⟨V.drew, b, w2, hbwV.drew, k5, (by show _ < V.heap.size; omega), k4, hS2, rfl⟩, ?_⟩
      rw [Below.heap_setCell _ _ _ _ (by simp; omega)]
      exact (k3 _ (by omega) (by show _ < V.heap.size; omega)).trans crb
    · rintro e w' ⟨rfl, w1, ⟨W, b, w2, q1, q2, q3, q4, q5, rfl⟩, hk⟩
      have hk5 : Keep (· = t) w2 (w2.setCell ⟨t, 1, none⟩ (.int .i64 b)) := Keep.setCell (M := (· = t)) (p := ⟨t, 1, none⟩) (Keep.refl _ _) (.inr rfl) _
      refine ⟨rfl, W, b, w2, W3.heap.size + 1, q1, q2, by omega, q3, q4, (hk5.mono (fun _ _ h => .inr h)).trans hk (fun _ _ h => .inl h), ?_⟩
      have h5 : (w2.setCell ⟨t, 1, none⟩ (.int .i64 b)).heap[t]? = some (.cells #[.iface 24 (.pointer (some ⟨mp, 0, none⟩)), .int .i64 b, .int .i64 0] 79 (0, 0)) := by
        have := q5.tr; unfold TreeAt at this
        simp [World.setCell, Array.getElem?_modify, this]
      exact (hk.block t (Array.getElem?_eq_some_iff.1 h5).1 (by omega)).trans h5
  have hC := Lib.hid (hcb _ rfl); clear hcb
  go_enter Try.func20, Try.ntmps20
  go_wp2_with (first
    | (go_at_call 33; go_must ((refine (usable_any t mp root 0 _ ht3).mono ?_); rintro e w1 ⟨rfl, hw⟩; subst w1))
    | (go_at_call 34; go_must ((refine (goodKey_yes key _ hk1 hk2).mono ?_); rintro e w1 ⟨rfl, hw⟩; subst w1))
    | (go_at_call 35; go_must (refine hC.out.mono ?_; rintro e w1 ⟨rfl, hres⟩)))
  go_ret
  exact ⟨rfl, hres⟩
end Go.Proofs.Ytbldcbakhpdigaa
