/- Scan. -/
import Derived.Test.YtbldcbakhpdigaaWalkI
namespace Go.Proofs.Ytbldcbakhpdigaa
open Go.RowKit

set_option maxRecDepth 100000 in
set_option maxHeartbeats 4000000 in
/-- nothing is there, or nothing is wanted -/
theorem scan_none (t mp : Nat) (root : Int) (key : ByteArray) (most : Int) (w : World) (ht : TreeAt w t mp root 0) (h0 : root = 0 ∨ most ≤ 0) :
    Calls Try.prog 21 #[.pointer (some ⟨t, 0, none⟩), .string key, .int .i64 most] w fun e w' => e = .returned (.tuple #[.slice none 0 0, .int .i64 0]) ∧ Below w.heap.size w w' := by
  have hbm := below_one w (.cells #[.int .i64 most] 3)
  have htl : t < w.heap.size := (Array.getElem?_eq_some_iff.1 ht).1
  have ht1 := (hbm.block t htl).trans ht
  have hb2 := below_two w (.cells #[.int .i64 most] 3) (.cells #[.slice none 0 0] 40)
  obtain ⟨_, c1, _, _, _, _, hl2⟩ := cells3 ((hb2.block t htl).trans ht)
  have d1 := (below_one (w.alloc (.cells #[.int .i64 most] 3)) (.cells #[.slice none 0 0] 40)).cell (p := ⟨w.heap.size, 0, none⟩) (by simp)
  rw [show (w.alloc (.cells #[.int .i64 most] 3)).cell? ⟨w.heap.size, 0, none⟩ = some (.int .i64 most) from by rw [World.cell?_alloc_new]; rfl] at d1
  go_enter Try.func21, Try.ntmps21
  by_cases hr : root = 0
  · subst hr
    go_wp2_with (first
      | (go_at_call 33; go_must ((refine (usable_any t mp 0 0 _ ht1).mono ?_); rintro e w1 ⟨rfl, hw⟩; subst w1)))
    go_ret2
    exact ⟨rfl, hb2⟩
  · have hm : most ≤ 0 := h0.resolve_left hr
    have hr2 : (root == 0) = false := by simpa using hr
    go_wp2_with (first
      | (go_at_call 33; go_must ((refine (usable_any t mp root 0 _ ht1).mono ?_); rintro e w1 ⟨rfl, hw⟩; subst w1)))
    go_ret2
    exact ⟨rfl, hb2⟩

set_option maxRecDepth 100000 in
set_option maxHeartbeats 4000000 in
theorem scan_any (t mp : Nat) (root : Int) (σ : MSt) (S : Nat → Prop) (key : ByteArray) (most : Int) (L : List Pr) (n : Nat) (w : World) (h : Inv σ S mp w) (ht : TreeAt w t mp root 0) (hr : root ≠ 0) (hm : 0 < most) (hn : n ≤ 40) (hL : WalkL σ key n root L) (hl : L.length ≤ 999999) :
    Calls Try.prog 21 #[.pointer (some ⟨t, 0, none⟩), .string key, .int .i64 most] w fun e w' => ∃ v, e = .returned (.tuple #[v, .int .i64 0]) ∧ IsPrs w' S v (L.take most.toNat) ∧ Below w.heap.size w w' := by
  have hbm := below_one w (.cells #[.int .i64 most] 3)
  have htl : t < w.heap.size := (Array.getElem?_eq_some_iff.1 ht).1
  have hsub := h.sub
  have ht1 := (hbm.block t htl).trans ht
  have hb2 := below_two w (.cells #[.int .i64 most] 3) (.cells #[.slice none 0 0] 40)
  obtain ⟨_, c1, _, _, _, _, hl2⟩ := cells3 ((hb2.block t htl).trans ht)
  have d1 := (below_one (w.alloc (.cells #[.int .i64 most] 3)) (.cells #[.slice none 0 0] 40)).cell (p := ⟨w.heap.size, 0, none⟩) (by simp)
  rw [show (w.alloc (.cells #[.int .i64 most] 3)).cell? ⟨w.heap.size, 0, none⟩ = some (.int .i64 most) from by rw [World.cell?_alloc_new]; rfl] at d1
  have hr2 : (root == 0) = false := by simpa using hr
  have hm2 : ¬ most ≤ 0 := by omega
  have hmf : ∀ (fn : Fn) (first cap : Array Value) (w : World), (Instr.makeFunc fn first cap).run Try.prog w = .ok (.func fn first cap) w := fun _ _ _ _ => rfl
  have hA : Acc ((w.alloc (.cells #[.int .i64 most] 3)).alloc (.cells #[.slice none 0 0] 40)) S w.heap.size (w.heap.size + 1) w.heap.size (.slice none 0 0) [] most := by
    refine ⟨?_, OwnSl.nil _ _ _ _ _, ?_, fun x => absurd (hsub _ x) (by omega), fun x => absurd (hsub _ x) (Nat.lt_irrefl _)⟩
    · have := heap_alloc_new (w.alloc (.cells #[.int .i64 most] 3)) (.cells #[.slice none 0 0] 40); rwa [World.size_alloc] at this
    · exact ((below_one (w.alloc (.cells #[.int .i64 most] 3)) (.cells #[.slice none 0 0] 40)).block _ (by simp)).trans (heap_alloc_new _ _)
  have hw := walk_any t mp w.heap.size (w.heap.size + 1) w.heap.size root 0 σ S key most n root L hL 0 (.slice none 0 0) [] _ (h.below hb2) ((hb2.block t htl).trans ht) (by omega) (by omega) hA hb2.size (by simpa using hm) (by simpa using hl)
  have HW := Lib.hid hw; clear hw hA
  go_enter Try.func21, Try.ntmps21
  go_wp2_with (first
    | (go_at_call 33; go_must ((refine (usable_any t mp root 0 _ ht1).mono ?_); rintro e w1 ⟨rfl, hw⟩; subst w1))
    | (go_at_call 42; go_must (refine HW.out.mono ?_; rintro e w5 ⟨rfl, v, hA5, hY5⟩; have c5 : w5.cell? ⟨w.heap.size + 1, 0, none⟩ = some v := (by simp [World.cell?, hA5.out]); have c6 := (Array.getElem?_eq_some_iff.1 hA5.out).1)))
  go_ret2
  refine ⟨v, rfl, ?_, ?_⟩
  · have := hA5.own.isSl
    rw [List.nil_append, show (most - (([] : List Pr).length : Int)).toNat = most.toNat from by simp] at this
    exact this
  · exact hb2.trans (hY5.1.toBelow hb2.size (fun i hi x => x.elim (fun e => by omega) (fun e => by simp [Value.ownBlock] at e)))
end Go.Proofs.Ytbldcbakhpdigaa
