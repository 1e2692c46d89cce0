/- The walk of node.encode: the node's bytes, in a slice of the call's own. -/
import Derived.Test.YtbldcbakhpdigaaNode
import Derived.RegionTactic
import Derived.BigRegion
import Derived.Deep.RegionHeld3
import Derived.Deep.QuietTactic
import Derived.BigQuiet
import Derived.StillTailTactics
namespace Go.Proofs.Ytbldcbakhpdigaa
open Go.RowKit

/-- what is laid behind k pairs -/
def L (nd : Nd) (k : Nat) : List UInt8 := [b8 nd.pairs.length, b8 nd.kids.length] ++ encPrs (nd.pairs.take k)

theorem L_le (nd : Nd) (k : Nat) : (L nd k).length ≤ 2 + prSize nd.pairs := by
  have := prSize_take_le nd.pairs k
  simp only [L, List.length_append, encPrs_length, List.length_cons, List.length_nil]; omega

theorem b8_val (n : Nat) : ((b8 n).toNat : Int) = (n : Int) % 256 := by simp [b8]
theorem L_zero (nd : Nd) : (L nd 0).length = 2 := rfl
theorem L_zero_cells (nd : Nd) : bCells (L nd 0) = [.int .u8 ((nd.pairs.length : Int) % 256), .int .u8 ((nd.kids.length : Int) % 256)] := by
  simp [L, encPrs, bCells, b8_val]
theorem L_succ {nd : Nd} {k : Nat} (h : k < nd.pairs.length) : L nd (k + 1) = L nd k ++ encPr nd.pairs[k] := by
  simp only [L, encPrs, take_succ_flatMap encPr nd.pairs k h, List.append_assoc]
theorem L_len {nd : Nd} {k : Nat} (h : k < nd.pairs.length) : (L nd (k + 1)).length = (L nd k).length + 2 + nd.pairs[k].1.size + nd.pairs[k].2.size := by
  rw [L_succ h, List.length_append, encPr_length]; omega
theorem L_cells {nd : Nd} {k : Nat} (h : k < nd.pairs.length) : bCells (L nd (k + 1)) = bCells (L nd k) ++ [.int .u8 ((nd.pairs[k].1.size : Int) % 256), .int .u8 ((nd.pairs[k].2.size : Int) % 256)] ++ byteCells nd.pairs[k].1 ++ byteCells nd.pairs[k].2 := by
  rw [L_succ h, bCells_append]
  simp only [encPr, bCells_append, byteCells_eq, List.append_assoc]
  simp [bCells, b8_val]

/-- what is laid behind all pairs and k kids -/
def L2 (nd : Nd) (k : Nat) : List UInt8 := L nd nd.pairs.length ++ encKids (nd.kids.take k)
theorem L2_zero (nd : Nd) : L2 nd 0 = L nd nd.pairs.length := by simp [L2, encKids]
theorem L2_le (nd : Nd) (k : Nat) : (L2 nd k).length ≤ 2 + prSize nd.pairs + 2 * nd.kids.length := by
  have := L_le nd nd.pairs.length
  simp only [L2, List.length_append, encKids_length, List.length_take]; omega
theorem L2_succ {nd : Nd} {k : Nat} (h : k < nd.kids.length) : L2 nd (k + 1) = L2 nd k ++ encKid nd.kids[k] := by
  simp only [L2, encKids, take_succ_flatMap encKid nd.kids k h, List.append_assoc]
theorem L2_len {nd : Nd} {k : Nat} (h : k < nd.kids.length) : (L2 nd (k + 1)).length = (L2 nd k).length + 2 := by
  rw [L2_succ h, List.length_append]; rfl

theorem L2_cells {nd : Nd} {k : Nat} (h : k < nd.kids.length) (h0 : 0 ≤ nd.kids[k]) (h1 : nd.kids[k] < 65536) : bCells (L2 nd (k + 1)) = bCells (L2 nd k) ++ [.int .u8 (nd.kids[k] % 256), .int .u8 (nd.kids[k] / 256)] := by
  rw [L2_succ h, bCells_append]
  congr 1
  generalize nd.kids[k] = x at *
  obtain ⟨n, rfl⟩ := Int.eq_ofNat_of_zero_le h0
  simp only [encKid, bCells, List.map_cons, List.map_nil, b8_val, Int.toNat_natCast]
  congr 2
  congr 1
  omega
/-- what is laid behind all pairs, all kids and k keys -/
def L3 (nd : Nd) (k : Nat) : List UInt8 := L2 nd nd.kids.length ++ encKeys (nd.keys.take k)
theorem L3_zero (nd : Nd) : L3 nd 0 = L2 nd nd.kids.length := by simp [L3, encKeys]
theorem L3_all (nd : Nd) : L3 nd nd.keys.length = nd.enc := by simp only [L3, L2, L, List.take_length]; rfl
theorem L3_le (nd : Nd) (k : Nat) : (L3 nd k).length ≤ 2 + prSize nd.pairs + 2 * nd.kids.length + keySize nd.keys := by
  have := L2_le nd nd.kids.length
  have := keySize_take_le nd.keys k
  simp only [L3, List.length_append, encKeys_length]; omega
theorem L3_succ {nd : Nd} {k : Nat} (h : k < nd.keys.length) : L3 nd (k + 1) = L3 nd k ++ encKey nd.keys[k] := by
  simp only [L3, encKeys, take_succ_flatMap encKey nd.keys k h, List.append_assoc]
theorem L3_len {nd : Nd} {k : Nat} (h : k < nd.keys.length) : (L3 nd (k + 1)).length = (L3 nd k).length + 1 + nd.keys[k].size := by
  rw [L3_succ h, List.length_append, encKey, List.length_cons, length_bytes]; omega
theorem L3_cells {nd : Nd} {k : Nat} (h : k < nd.keys.length) : bCells (L3 nd (k + 1)) = bCells (L3 nd k) ++ [.int .u8 ((nd.keys[k].size : Int) % 256)] ++ byteCells nd.keys[k] := by
  rw [L3_succ h, bCells_append, byteCells_eq, encKey]
  simp [bCells, b8_val]

theorem info_u8 : (Try.prog.info? 5).map (fun i => (i.zero, i.size, i.bytes)) = some (some (.int .u8 0), 1, 1) := by kernel_rfl

set_option maxRecDepth 100000 in
set_option maxHeartbeats 1000000 in
theorem encode_any (b : Nat) (nd : Nd) (w : World) (S : Nat → Prop) (hS : ∀ g, S g → g < w.heap.size) (h : IsNode w S b nd) (hs : nd.size ≤ 1000000) (hkid : ∀ k ∈ nd.kids, 0 ≤ k ∧ k < 65536) :
    Calls Try.prog 92 #[.pointer (some ⟨b, 0, none⟩)] w fun e w' => ∃ v, e = .returned v ∧ OwnSl w' S w.heap.size 5 1 v nd.enc.length (bCells nd.enc) ∧ Below w.heap.size w w' := by
  obtain ⟨_, v0, v1, v2, hb, h0, h1, h2⟩ := h
  obtain ⟨c0, c1, c2, _, _, _, hlt⟩ := cells3 hb
  obtain ⟨ao0, cp0, rfl, n0, m0, _, _⟩ := IsSl.form h0
  obtain ⟨ao1, cp1, rfl, n1, m1, _, _⟩ := IsSl.form h1
  obtain ⟨ao2, cp2, rfl, n2, m2, _, _⟩ := IsSl.form h2
  unfold Nd.size at hs
  have l0 := length_le_prSize nd.pairs
  have l1 := length_le_keySize nd.keys
  go_enter Try.func92, Try.ntmps92
  go_wp2
  go_still_tail 12, (by kernel_rfl)
  change wpList _ _ _ _ _ w.drew
  go_wp2
  simp only [IntKind.wrap_u8]
  go_loopw [3, 28] (fun v i wr => ∃ (k : Nat) (ao : Option Addr) (c : Nat), k ≤ nd.pairs.length ∧ i = .int .i64 k ∧ v = .slice ao (L nd k).length c ∧ OwnSl wr S w.heap.size 5 1 v (L nd k).length (bCells (L nd k)) ∧ Below w.heap.size w wr) (fun _ i _ => nd.pairs.length - (intOf i).toNat)
  case atStart =>
    have hn := own_new (w := w) (S := S) (B := w.heap.size) (e := 5) (k := 1) [.int .u8 ((nd.pairs.length : Int) % 256), .int .u8 ((nd.kids.length : Int) % 256)] 2 2 rfl rfl (Nat.le_refl _) (by simp [maxLen]) (Nat.le_refl _) hS
    exact ⟨0, _, _, Nat.zero_le _, rfl, rfl, by rw [L_zero, L_zero_cells]; exact hn.drew, ((Below.refl _ _).alloc (Nat.le_refl _) _).drew⟩
  case round =>
    obtain ⟨k, ao, c, hk, rfl, rfl, hown, hbel⟩ := hrel
    by_cases hlt2 : k < nd.pairs.length
    · obtain ⟨b', o', rfl, hc1, hc2⟩ := h0.at rfl k hlt2
      have d1 := (hbel.cell (p := ⟨b', o' + k * 2, none⟩) (World.block_lt_of_cell? w _ hc1)).trans hc1
      have d2 := (hbel.cell (p := ⟨b', o' + k * 2 + 1, none⟩) (World.block_lt_of_cell? w _ hc2)).trans hc2
      have hSr : ∀ g, S g → g < wr.heap.size := fun g hg => Nat.lt_of_lt_of_le (hS g hg) hbel.size
      have hsz := hbel.size
      have hL := L_le nd k
      have hp0 := prSize_take nd.pairs k hlt2
      have hp2 := prSize_take_le nd.pairs (k + 1)
      have hz : nd.pairs[k].1.size + nd.pairs[k].2.size ≤ prSize nd.pairs := by omega
      clear hp0 hp2
      clear hc1 hc2
      go_wp2_with (at_builtin; go_must ((refine wpList_app rfl (.tmp 32) (.tmp 41) 34 34 rfl S w.heap.size 5 1 1 (.int .u8 0) Try.underlying34 info_u8 rfl (.slice ao (L nd k).length c) _ _ rfl (hown.below (below_two _ _ _)) _ 2 _ rfl (src_new [_, _] _ 1 2 2 (by simp) Try.underlying34 rfl ?_) (sub_alloc (sub_alloc hSr _) _) ?_ ?_ ?_ ?_); (focus (simp [Value.oneCell'])); (focus (simp only [World.size_alloc]; omega)); (focus (unfold maxLen; omega)); (focus omega); intro ao1 c1 w1 hown1 hk1 hb1 hd1))
      have q1 : w1.cell? ⟨wr.heap.size, 0, none⟩ = some (.string nd.pairs[k].1) := (hk1.cell (p := ⟨wr.heap.size, 0, none⟩) (by simp; omega) hown.lt).trans (by simp [World.cell?_alloc_old])
      have q2 : w1.cell? ⟨wr.heap.size, 1, none⟩ = some (.string nd.pairs[k].2) := (hk1.cell (p := ⟨wr.heap.size, 1, none⟩) (by simp; omega) hown.lt).trans (by simp [World.cell?_alloc_old])
      have n1 : (Value.slice ao1 ((L nd k).length + 2) c1).ownBlock ≠ some wr.heap.size := hd1 _ (by simp; omega) hown.lt
      have hp1 : wr.heap.size < w1.heap.size := by have := hk1.size; simp at this; omega
      have hs1 : w.heap.size ≤ w1.heap.size := by omega
      have hS1 := sub_below (sub_alloc (sub_alloc hSr _) _) hb1
      go_region_held3 (fun w' => w'.cell? ⟨wr.heap.size, 0, none⟩ = some (.string nd.pairs[k].1) ∧ w'.cell? ⟨wr.heap.size, 1, none⟩ = some (.string nd.pairs[k].2))
        (first | exact ⟨q1, q2⟩ | exact ⟨q1', q2'⟩ | exact ⟨q1'', q2''⟩)
        (first
          | ((refine step_app rfl (.tmp 43) (.tmp 45) 34 9 rfl S w.heap.size 5 1 1 (.int .u8 0) Try.underlying34 info_u8 rfl (.slice ao1 ((L nd k).length + 2) c1) _ _ rfl hown1.drew (.string nd.pairs[k].1) _ _ rfl (Src.ofString _ Try.underlying9 _) hS1 ?_ ?_ ?_ ?_); (focus (exact hs1)); (focus (unfold maxLen; omega)); (focus omega); (intro ao2' c2' w2 hown2 hk2 hb2 hd2);
              (have q1' := (hk2.cell (p := ⟨wr.heap.size, 0, none⟩) hp1 n1).trans q1); (have q2' := (hk2.cell (p := ⟨wr.heap.size, 1, none⟩) hp1 n1).trans q2); (have n2' := hd2 _ hp1 n1))
          | ((refine step_app rfl (.tmp 46) (.tmp 48) 34 9 rfl S w.heap.size 5 1 1 (.int .u8 0) Try.underlying34 info_u8 rfl (.slice ao2' ((L nd k).length + 2 + nd.pairs[k].1.size) c2') _ _ rfl hown2 (.string nd.pairs[k].2) _ _ rfl (Src.ofString _ Try.underlying9 _) (sub_below (w := w1.drew) hS1 hb2) ?_ ?_ ?_ ?_); (focus (exact Nat.le_trans hs1 hk2.size)); (focus (unfold maxLen; omega)); (focus omega); (intro ao3 c3 w3 hown3 hk3 hb3 hd3);
              (have q1'' := (hk3.cell (p := ⟨wr.heap.size, 0, none⟩) (Nat.lt_of_lt_of_le hp1 hk2.size) n2').trans q1'); (have q2'' := (hk3.cell (p := ⟨wr.heap.size, 1, none⟩) (Nat.lt_of_lt_of_le hp1 hk2.size) n2').trans q2')))
      go_wp2
      go_roundw
      case rel => exact ⟨k + 1, ao3, c3, by omega, by go_num, by rw [L_len hlt2], by rw [L_len hlt2, L_cells hlt2]; exact hown3, ((hbel.trans (below_two wr _ _ |>.mono hsz)).trans hb1).trans (Below.trans (b := w1.drew) (Below.refl _ _).drew (hb2.trans hb3))⟩
      case measure => simp [intOf]; omega
    · obtain rfl : k = nd.pairs.length := by omega
      have c1' := (hbel.cell (p := ⟨b, 1, none⟩) hlt).trans c1
      have c2' := (hbel.cell (p := ⟨b, 2, none⟩) hlt).trans c2
      have hlt' : b < wr.heap.size := Nat.lt_of_lt_of_le hlt hbel.size
      have hL := L_le nd nd.pairs.length
      clear hlt2 h0 hk hb c0 c2
      obtain ⟨wo, rfl⟩ : ∃ wo : World, wo = wr := ⟨_, rfl⟩
      go_wp2
      go_loopw [3, 56] (fun v i wr => ∃ (k : Nat) (ao : Option Addr) (c : Nat), k ≤ nd.kids.length ∧ i = .int .i64 k ∧ v = .slice ao (L2 nd k).length c ∧ OwnSl wr S w.heap.size 5 1 v (L2 nd k).length (bCells (L2 nd k)) ∧ Below w.heap.size w wr) (fun _ i _ => nd.kids.length - (intOf i).toNat)
      case atStart => exact ⟨0, ao, c, Nat.zero_le _, rfl, by rw [L2_zero], by rw [L2_zero]; exact hown, hbel⟩
      case round =>
        obtain ⟨k, ao, c, hk, rfl, rfl, hown, hbel⟩ := hrel
        by_cases hlt2 : k < nd.kids.length
        · obtain ⟨b', o', rfl, hc1⟩ := h2.at rfl k hlt2
          have d1 := (hbel.cell (p := ⟨b', o' + k, none⟩) (World.block_lt_of_cell? w _ hc1)).trans hc1
          have hSr : ∀ g, S g → g < wr.heap.size := fun g hg => Nat.lt_of_lt_of_le (hS g hg) hbel.size
          have hsz := hbel.size
          have hL := L2_le nd k
          obtain ⟨hk0, hk1'⟩ := hkid nd.kids[k] (List.getElem_mem hlt2)
          go_wp2_with (at_builtin; go_must ((refine wpList_app rfl (.tmp 60) (.tmp 66) 34 34 rfl S w.heap.size 5 1 1 (.int .u8 0) Try.underlying34 info_u8 rfl (.slice ao (L2 nd k).length c) _ _ rfl (hown.below (below_one _ _)) _ 2 _ rfl (src_new [_, _] _ 1 2 2 (by simp) Try.underlying34 rfl ?_) (sub_alloc hSr _) ?_ ?_ ?_ ?_); (focus (simp [Value.oneCell'])); (focus (simp only [World.size_alloc]; omega)); (focus (unfold maxLen; omega)); (focus omega); intro ao1 c1 w1 hown1 hk1 hb1 hd1))
          go_roundw
          case rel => exact ⟨k + 1, ao1, c1, by omega, by go_num, by rw [L2_len hlt2], by rw [L2_len hlt2, L2_cells hlt2 hk0 hk1']; exact hown1, (hbel.trans (below_one wr _ |>.mono hsz)).trans hb1⟩
          case measure => simp [intOf]; omega
        · obtain rfl : k = nd.kids.length := by omega
          have c1'' := (hbel.cell (p := ⟨b, 1, none⟩) hlt).trans c1
          have hL := L2_le nd nd.kids.length
          clear hlt2 h2 hk c1' c2'
          obtain ⟨w2o, rfl⟩ : ∃ w2o : World, w2o = wr := ⟨_, rfl⟩
          go_wp2
          go_loopw [3, 74] (fun v i wr => ∃ (k : Nat) (ao : Option Addr) (c : Nat), k ≤ nd.keys.length ∧ i = .int .i64 k ∧ v = .slice ao (L3 nd k).length c ∧ OwnSl wr S w.heap.size 5 1 v (L3 nd k).length (bCells (L3 nd k)) ∧ Below w.heap.size w wr) (fun _ i _ => nd.keys.length - (intOf i).toNat)
          case atStart => exact ⟨0, ao, c, Nat.zero_le _, rfl, by rw [L3_zero], by rw [L3_zero]; exact hown, hbel⟩
          case round =>
            obtain ⟨k, ao, c, hk, rfl, rfl, hown, hbel⟩ := hrel
            by_cases hlt2 : k < nd.keys.length
            · obtain ⟨b', o', rfl, hc1⟩ := h1.at rfl k hlt2
              have d1 := (hbel.cell (p := ⟨b', o' + k, none⟩) (World.block_lt_of_cell? w _ hc1)).trans hc1
              have hSr : ∀ g, S g → g < wr.heap.size := fun g hg => Nat.lt_of_lt_of_le (hS g hg) hbel.size
              have hsz := hbel.size
              have hL := L3_le nd k
              have hp0 := keySize_take nd.keys k hlt2
              have hp2 := keySize_take_le nd.keys (k + 1)
              have hz : nd.keys[k].size ≤ keySize nd.keys := by omega
              clear hp0 hp2
              go_wp2_with (first
                | (at_builtin; (refine wpList_app rfl (.tmp 78) (.tmp 82) 34 34 rfl S w.heap.size 5 1 1 (.int .u8 0) Try.underlying34 info_u8 rfl (.slice ao (L3 nd k).length c) _ _ rfl (hown.below (below_one _ _)) _ 1 _ rfl (src_new [_] _ 1 1 1 (by simp) Try.underlying34 rfl ?_) (sub_alloc hSr _) ?_ ?_ ?_ ?_); (focus (simp [Value.oneCell'])); (focus (simp only [World.size_alloc]; omega)); (focus (unfold maxLen; omega)); (focus omega); intro ao1 c1 w1 hown1 hk1 hb1 hd1)
                | (at_builtin; (refine wpList_app rfl (.tmp 83) (.tmp 84) 34 9 rfl S w.heap.size 5 1 1 (.int .u8 0) Try.underlying34 info_u8 rfl (.slice ao1 ((L3 nd k).length + 1) c1) _ _ rfl hown1 (.string nd.keys[k]) _ _ rfl (Src.ofString _ Try.underlying9 _) (sub_below (sub_alloc hSr _) hb1) ?_ ?_ ?_ ?_); (focus (have := hb1.size; simp only [World.size_alloc] at this; omega)); (focus (unfold maxLen; omega)); (focus omega); intro ao2 c2 w2 hown2 hk2 hb2 hd2))
              go_roundw
              case rel => exact ⟨k + 1, ao2, c2, by omega, by go_num, by rw [L3_len hlt2], by rw [L3_len hlt2, L3_cells hlt2]; exact hown2, ((hbel.trans (below_one wr _ |>.mono hsz)).trans hb1).trans hb2⟩
              case measure => simp [intOf]; omega
            · obtain rfl : k = nd.keys.length := by omega
              go_wp2
              go_ret
              exact ⟨_, rfl, by rw [← L3_all]; exact hown, hbel⟩
end Go.Proofs.Ytbldcbakhpdigaa
