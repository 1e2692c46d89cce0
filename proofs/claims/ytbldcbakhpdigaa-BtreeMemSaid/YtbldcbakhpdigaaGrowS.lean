/- grow, of no piece and of one leaf's. -/
import Derived.Test.YtbldcbakhpdigaaEditL
namespace Go.Proofs.Ytbldcbakhpdigaa
open Go.RowKit

set_option maxRecDepth 100000 in
set_option maxHeartbeats 4000000 in
theorem grow_nil (t : Nat) (v : Value) (S : Nat → Prop) (w : World) (hv : IsPcs w S v []) :
    Calls Try.prog 37 #[.pointer (some ⟨t, 0, none⟩), v] w fun e w' => e = .returned (.int .i64 0) ∧ w' = w := by
  obtain ⟨ao, c, rfl, n0, m0, _, _⟩ := IsSl.form hv
  go_enter Try.func37, Try.ntmps37
  go_wp2
  go_loopw [1, 5, 6, 7] (fun l _ _ _ wr => l = .slice ao 0 c ∧ wr = w) (fun _ _ _ _ _ => 0)
  case atStart => exact ⟨rfl, rfl⟩
  case round =>
    obtain ⟨rfl, rfl⟩ := hrel
    go_wp2_with fail
    go_ret
    exact ⟨rfl, rfl⟩

set_option maxRecDepth 100000 in
set_option maxHeartbeats 4000000 in
theorem grow_leaf (t mp : Nat) (root err : Int) (σ : MSt) (v : Value) (b : Int) (key : ByteArray) (nd : Nd) (S : Nat → Prop) (w : World) (h : Inv σ S mp w) (ht : TreeAt w t mp root err) (_hst : ¬ S t) (hv : IsPcs w S v [(b, key)]) (hb : Blk σ b nd) (hk : nd.kids = []) :
    Calls Try.prog 37 #[.pointer (some ⟨t, 0, none⟩), v] w fun e w' => e = .returned (.int .i64 b) ∧ Below w.heap.size w w' := by
  have hvv := hv
  obtain ⟨ao, c, rfl, n0, m0, _, _⟩ := IsSl.form hv
  obtain ⟨pb, po, rfl, d0, d1⟩ := hvv.at rfl 0 (Nat.lt_succ_self 0)
  have hpl := World.block_lt_of_cell? w _ d0
  go_enter Try.func37, Try.ntmps37
  have d0' : w.cell? ⟨pb, po, none⟩ = some (.int .i64 b) := d0
  have d1' : w.cell? ⟨pb, po + 1, none⟩ = some (.string key) := d1
  have hpl' : pb < w.heap.size := hpl
  clear d0 d1 hpl
  go_wp2
  go_loopw [1, 5, 6, 7] (fun l _ _ _ wr => l = .slice (some ⟨pb, po, none⟩) 1 c ∧ wr = w) (fun _ _ _ _ _ => 0)
  case atStart => exact ⟨rfl, rfl⟩
  case round =>
    obtain ⟨rfl, rfl⟩ := hrel
    go_wp2_with fail
    go_loopw [8, 9, 10, 11] (fun x y _ _ wr' => x = .int .i64 b ∧ y = .int .i64 0 ∧ wr' = wr) (fun _ _ _ _ _ => 0)
    case atStart => exact ⟨rfl, rfl, rfl⟩
    case round =>
      obtain ⟨rfl, rfl, rfl⟩ := hrel
      go_wp2_with (first
        | (go_at_call 47; go_must ((refine (load_any t mp root err b 0 σ S nd _ h ht hb (by omega)).mono ?_); rintro e w1 ⟨nb, rfl, hn1, hb1⟩))
        | (go_at_call 53; go_must ((refine (must_ok _).mono ?_); rintro e w2 ⟨rfl, hw⟩; subst w2; refine Stop.of ?_)))
      refine Stop.on ?_
      obtain ⟨_, x0, x1, x2, hbn, _, _, hx2⟩ := hn1.isNode
      obtain ⟨_, _, e2, _, _, _, hlt⟩ := cells3 hbn
      rw [hk] at hx2
      obtain ⟨ao2, c2, rfl, _⟩ := IsSl.form hx2
      go_wp2_with fail
      go_ret
      exact ⟨rfl, hb1⟩
end Go.Proofs.Ytbldcbakhpdigaa
