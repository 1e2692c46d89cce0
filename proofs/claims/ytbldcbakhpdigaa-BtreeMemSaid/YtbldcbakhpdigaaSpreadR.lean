/- spread of an overfull node. (Printed by gen/spread.py.) -/
import Derived.Test.YtbldcbakhpdigaaSpreadW
namespace Go.Proofs.Ytbldcbakhpdigaa
open Go.RowKit

theorem info_piece : (Try.prog.info? 104).map (fun i => (i.zero, i.size, i.bytes)) = some (some (.agg #[.int .i64 0, .string ⟨#[]⟩]), 2, 24) := by kernel_rfl
theorem one_pcs (ps : List Pc) : ∀ u ∈ pcCells ps, u.oneCell' = true := by
  intro u hu
  obtain ⟨p, _, hp⟩ := List.mem_flatMap.1 hu
  simp at hp; rcases hp with rfl | rfl <;> rfl
theorem pcCells_append (a b : List Pc) : pcCells (a ++ b) = pcCells a ++ pcCells b := by simp [pcCells]
theorem Step.app {S S' : Nat → Prop} {w w6 w7 : World} {v : Value} (h : Step S S' w w6) (hk : Keep (fun g => v.ownBlock = some g) w6 w7) (hlo : ∀ g, v.ownBlock = some g → w.heap.size ≤ g) : Step S S' w w7 :=
  ⟨h.1.trans hk (fun i hi e => absurd hi (Nat.not_lt.2 (hlo i e))), h.2⟩

/-- spread's contract for the nodes that are smaller -/
def SprIH (t mp : Nat) (root err : Int) (n : Nat) : Prop :=
  ∀ (σ : MSt) (S : Nat → Prop) (nb : Nat) (nd : Nd) (least : ByteArray) (w : World), Inv σ S mp w → TreeAt w t mp root err → ¬ S t → IsNode w S nb nd → nd.Ok → nd.pairs.length + nd.kids.length < n → Maps.size σ.D + nd.room ≤ σ.most →
    Calls Try.prog 52 #[.pointer (some ⟨t, 0, none⟩), .pointer (some ⟨nb, 0, none⟩), .string least] w (SprPost mp σ S nd least w)

theorem room_le {nd : Nd} (ok : nd.Ok) : nd.room ≤ 4000 := by
  have := ok.np
  have := ok.nk
  unfold Nd.room
  split <;> omega
theorem room_inner (nd : Nd) (i : Nat) (hk : nd.kids ≠ []) (h5 : 5 ≤ nd.kids.length) (hi : i = nd.kids.length / 2) : Nd.room ⟨[], nd.keys.take (i - 1), nd.kids.take i⟩ + Nd.room ⟨[], nd.keys.drop i, nd.kids.drop i⟩ ≤ nd.room := by
  have n1 : nd.kids.take i ≠ [] := fun e => by have := congrArg List.length e; simp only [List.length_take, List.length_nil] at this; omega
  have n2 : nd.kids.drop i ≠ [] := fun e => by have := congrArg List.length e; simp only [List.length_drop, List.length_nil] at this; omega
  unfold Nd.room
  rw [if_neg n1, if_neg n2, if_neg hk]
  simp only [List.length_take, List.length_drop, List.length_nil]
  omega

theorem neB_leaf (nd : Nd) (i : Nat) (hi : i < nd.pairs.length) : Nd.kids ⟨nd.pairs.drop i, [], []⟩ = [] → Nd.pairs ⟨nd.pairs.drop i, [], []⟩ ≠ [] := fun _ e => by have := congrArg List.length e; simp only [List.length_drop, List.length_nil] at this; omega
theorem neB_inner (nd : Nd) (i : Nat) (h5 : 5 ≤ nd.kids.length) (hi : i = nd.kids.length / 2) : Nd.kids ⟨[], nd.keys.drop i, nd.kids.drop i⟩ = [] → Nd.pairs ⟨[], nd.keys.drop i, nd.kids.drop i⟩ ≠ [] := fun e => absurd e (fun e => by have := congrArg List.length e; simp only [List.length_drop, List.length_nil] at this; omega)

set_option maxRecDepth 100000 in
set_option maxHeartbeats 4000000 in
theorem spread_leaf (t mp : Nat) (root err : Int) (nd : Nd) (IH : SprIH t mp root err (nd.pairs.length + nd.kids.length)) (σ : MSt) (S : Nat → Prop) (nb : Nat) (least : ByteArray) (w : World) (h : Inv σ S mp w) (ht : TreeAt w t mp root err) (hst : ¬ S t) (hn : IsNode w S nb nd) (ok : nd.Ok) (hs : 512 < nd.size) (hk : nd.kids = []) (hroom : Maps.size σ.D + nd.room ≤ σ.most) :
    Calls Try.prog 52 #[.pointer (some ⟨t, 0, none⟩), .pointer (some ⟨nb, 0, none⟩), .string least] w (SprPost mp σ S nd least w) := by
  have hN := hn
  obtain ⟨_, v0, v1, v2, hb, h0, h1, h2⟩ := hn
  obtain ⟨c0, c1, c2, _, _, _, hlt⟩ := cells3 hb
  obtain ⟨ao0, cp0, rfl, n0, m0, _, _⟩ := IsSl.form h0
  have hnp := ok.np
  have hnk := ok.nk
  have hkk := Lib.hid ok.kk
  have hbig := Lib.hid ((ok.big hs).1 hk)
  have htl : t < w.heap.size := (Array.getElem?_eq_some_iff.1 ht).1
  have HR := Lib.hid hroom; clear hroom
  have HS := Lib.hid hs
  have hs2 : ¬ ((nd.size : Int) ≤ 512) := by omega
  clear hs
  have HI := Lib.hid IH; clear IH
  have hsz := ok.size_le
  have hke : nd.kids.isEmpty = true := by rw [hk]; rfl
  have hpl : ¬ nd.pairs.length = 0 := by have := hbig.out; omega
  have hpl' : ¬ ((nd.pairs.length : Int) = 0) := by omega
  go_enter Try.func52, Try.ntmps52
  go_wp2_with (first
      | (go_at_call 48; go_must ((refine (leaf_any nb nd _ S hN).mono ?_); rintro e w1 ⟨rfl, hw⟩; subst w1; rw [hke]))
      | (go_at_call 67; go_must ((refine (size_any nb nd _ S hN hsz).mono ?_); rintro e w1 ⟨rfl, hbel1⟩))
      | (go_at_call 70; go_must ((refine (halvesLeaf_any nb nd _ S (fun g hg => Nat.lt_of_lt_of_le (h.sub g hg) hbel1.size) (hN.below hbel1) hk (by have := hbig.out; omega) hsz).mono ?_); rintro e w2 ⟨i, hi, b1, b2, hi1, rfl, hA, hB, hbel2⟩; have HI1 := Lib.hid hi1; clear hi1; clear c0 c1 c2; refine Stop.of ?_)))
  refine Stop.on ?_
  have hbelw : Below w.heap.size w w2 := hbel1.trans (hbel2.mono hbel1.size)
  have hspl := Lib.hid (show (Nd.pairs ⟨nd.pairs.take i, [], []⟩).length + (Nd.kids ⟨nd.pairs.take i, [], []⟩).length < nd.pairs.length + nd.kids.length ∧ (Nd.pairs ⟨nd.pairs.drop i, [], []⟩).length + (Nd.kids ⟨nd.pairs.drop i, [], []⟩).length < nd.pairs.length + nd.kids.length from by have := HI1.out; simp only [List.length_take, List.length_drop, List.length_nil]; omega)
  have hrooms := Lib.hid (show Nd.room ⟨nd.pairs.take i, [], []⟩ + Nd.room ⟨nd.pairs.drop i, [], []⟩ ≤ nd.room from by unfold Nd.room; simp only [List.length_take, List.length_drop, if_true]; omega)
  have hOkA := Lib.hid (ok.left i hk)
  have hOkB := Lib.hid (ok.right i hk)
  have hI2 := h.below hbelw
  have ht2 := ht.step hst (Step.of_below hbelw)
  go_wp2_with (first
      | (go_at_call 52; go_must ((refine (HI.out σ S b1 ⟨nd.pairs.take i, [], []⟩ least w2 hI2 ht2.1 ht2.2 hA hOkA.out hspl.out.1 (by have := HR.out; have := hrooms.out; omega)).mono ?_); rintro e w3 ⟨x1, ps1, zs1, σ1, S1, rfl, hown1, hsp1, hput1, hI3, hs3⟩; refine Stop.of ?_)))
  refine Stop.on ?_
  have hl1 := hput1.length
  have hr1 := hsp1.room hOkA.out
  have hB3 := hB.step hs3
  have ht3 := ht2.1.step ht2.2 hs3
  obtain ⟨ao1, cp1, rfl, n1, m1, _, _⟩ := IsSl.form hown1.isSl
  have hroom3 := Lib.hid (show Maps.size σ1.D + Nd.room ⟨nd.pairs.drop i, [], []⟩ ≤ σ1.most by have := HR.out; have := hrooms.out; rw [hl1.2.1, hl1.2.2.1]; omega)
  have HL1 := Lib.hid hl1; clear hl1
  have HR1 := Lib.hid hr1; clear hr1
  go_wp2_with (first
      | (go_at_call 69; go_must ((refine (least_any b2 ⟨nd.pairs.drop i, [], []⟩ _ _ S1 hB3 (neB_leaf nd i hi)).mono ?_); rintro e w4 ⟨rfl, hw⟩; subst w4))
      | (go_at_call 52; go_must ((refine (HI.out σ1 S1 b2 ⟨nd.pairs.drop i, [], []⟩ _ w3 hI3 ht3.1 ht3.2 hB3 hOkB.out hspl.out.2 hroom3.out).mono ?_); rintro e w5 ⟨x2, ps2, zs2, σ2, S2, rfl, hown2, hsp2, hput2, hI5, hs5⟩; refine Stop.of ?_)))
  refine Stop.on ?_
  have hl2 := hput2.length
  have hr2 := hsp2.room hOkB.out
  have hb1 : ps1.length ≤ 4000 := by have a := HL1.out.1; have b := HR1.out; have c := hrooms.out; have d := hOkA.out; rw [a]; refine Nat.le_trans b ?_; have := room_le d; omega
  have hb2 : ps2.length ≤ 4000 := by rw [hl2.1]; refine Nat.le_trans hr2 ?_; have := room_le hOkB.out; omega
  clear hl2 hr2
  have hownA := (hown1.step hs5).base (B := w.heap.size) hbelw.size
  have hS5 := hI5.sub
  have hbs : w.heap.size ≤ w5.heap.size := Nat.le_trans hbelw.size (Nat.le_trans hs3.1.size hs5.1.size)
  obtain ⟨ao2, cp2, rfl, n2, m2, _, _⟩ := IsSl.form hown2.isSl
  have hsrc := hown2.isSl.src (P := Try.prog) Try.underlying84 (one_pcs _)
  have hbyt : (ps1.length + ps2.length) * 24 ≤ 140737488355328 := by omega
  have hmx : ps1.length + ps2.length ≤ maxLen := by simp only [maxLen]; omega
  go_wp2_with (first
      | (at_builtin; go_must (refine wpList_app rfl (.tmp 41) (.tmp 47) 84 84 rfl S2 w.heap.size 104 2 24 _ Try.underlying84 info_piece rfl (.slice ao1 ps1.length cp1) ps1.length (pcCells ps1) rfl hownA (.slice ao2 ps2.length cp2) ps2.length (pcCells ps2) rfl hsrc hS5 hbs hmx hbyt ?_; intro ao3 c3 w7 hown3 hk7 hb7 hd7)))
  go_ret
  have hst7 : Step S S2 w w7 := (((Step.of_below hbelw).trans hs3).trans hs5).app hk7 hownA.lo
  refine ⟨_, ps1 ++ ps2, zs1 ++ zs2, σ2, S2, rfl, ?_, .leaf i hi hk HS.out HI1.out hsp1 hsp2, hput1.append hput2, hI5.keepM hk7 (fun g hg e => hownA.2 g e hg), hst7⟩
  rw [List.length_append, pcCells_append]
  exact hown3

set_option maxRecDepth 100000 in
set_option maxHeartbeats 4000000 in
theorem spread_inner (t mp : Nat) (root err : Int) (nd : Nd) (IH : SprIH t mp root err (nd.pairs.length + nd.kids.length)) (σ : MSt) (S : Nat → Prop) (nb : Nat) (least : ByteArray) (w : World) (h : Inv σ S mp w) (ht : TreeAt w t mp root err) (hst : ¬ S t) (hn : IsNode w S nb nd) (ok : nd.Ok) (hs : 512 < nd.size) (hk : nd.kids ≠ []) (hroom : Maps.size σ.D + nd.room ≤ σ.most) :
    Calls Try.prog 52 #[.pointer (some ⟨t, 0, none⟩), .pointer (some ⟨nb, 0, none⟩), .string least] w (SprPost mp σ S nd least w) := by
  have hN := hn
  obtain ⟨_, v0, v1, v2, hb, h0, h1, h2⟩ := hn
  obtain ⟨c0, c1, c2, _, _, _, hlt⟩ := cells3 hb
  obtain ⟨ao0, cp0, rfl, n0, m0, _, _⟩ := IsSl.form h0
  have hnp := ok.np
  have hnk := ok.nk
  have hkk := Lib.hid ok.kk
  have hbig := Lib.hid ((ok.big hs).2 hk)
  have htl : t < w.heap.size := (Array.getElem?_eq_some_iff.1 ht).1
  have HR := Lib.hid hroom; clear hroom
  have HS := Lib.hid hs
  have hs2 : ¬ ((nd.size : Int) ≤ 512) := by omega
  clear hs
  have HI := Lib.hid IH; clear IH
  have hsz := ok.size_le
  have hke : nd.kids.isEmpty = false := by cases hq : nd.kids with | nil => exact absurd hq hk | cons a b => rfl
  go_enter Try.func52, Try.ntmps52
  go_wp2_with (first
      | (go_at_call 48; go_must ((refine (leaf_any nb nd _ S hN).mono ?_); rintro e w1 ⟨rfl, hw⟩; subst w1; rw [hke]))
      | (go_at_call 67; go_must ((refine (size_any nb nd _ S hN hsz).mono ?_); rintro e w1 ⟨rfl, hbel1⟩))
      | (go_at_call 70; go_must ((refine (halvesInner_any nb nd _ S (fun g hg => Nat.lt_of_lt_of_le (h.sub g hg) hbel1.size) (hN.below hbel1) (by have := hbig.out; omega) hkk.out hsz).mono ?_); rintro e w2 ⟨i, hi, b1, b2, hi1, rfl, hA, hB, hbel2⟩; have HI1 := Lib.hid hi1; clear hi1; clear c0 c1 c2; refine Stop.of ?_)))
  refine Stop.on ?_
  have hbelw : Below w.heap.size w w2 := hbel1.trans (hbel2.mono hbel1.size)
  have hspl := Lib.hid (show (Nd.pairs ⟨[], nd.keys.take (i - 1), nd.kids.take i⟩).length + (Nd.kids ⟨[], nd.keys.take (i - 1), nd.kids.take i⟩).length < nd.pairs.length + nd.kids.length ∧ (Nd.pairs ⟨[], nd.keys.drop i, nd.kids.drop i⟩).length + (Nd.kids ⟨[], nd.keys.drop i, nd.kids.drop i⟩).length < nd.pairs.length + nd.kids.length from by have := HI1.out; have := hbig.out; simp only [List.length_take, List.length_drop, List.length_nil]; omega)
  have hrooms := Lib.hid (show Nd.room ⟨[], nd.keys.take (i - 1), nd.kids.take i⟩ + Nd.room ⟨[], nd.keys.drop i, nd.kids.drop i⟩ ≤ nd.room from room_inner nd i hk hbig.out HI1.out)
  have hOkA := Lib.hid (ok.leftI i (by have := HI1.out; omega))
  have hOkB := Lib.hid (ok.rightI i)
  have hI2 := h.below hbelw
  have ht2 := ht.step hst (Step.of_below hbelw)
  go_wp2_with (first
      | (go_at_call 52; go_must ((refine (HI.out σ S b1 ⟨[], nd.keys.take (i - 1), nd.kids.take i⟩ least w2 hI2 ht2.1 ht2.2 hA hOkA.out hspl.out.1 (by have := HR.out; have := hrooms.out; omega)).mono ?_); rintro e w3 ⟨x1, ps1, zs1, σ1, S1, rfl, hown1, hsp1, hput1, hI3, hs3⟩; refine Stop.of ?_)))
  refine Stop.on ?_
  have hl1 := hput1.length
  have hr1 := hsp1.room hOkA.out
  have hB3 := hB.step hs3
  have ht3 := ht2.1.step ht2.2 hs3
  obtain ⟨ao1, cp1, rfl, n1, m1, _, _⟩ := IsSl.form hown1.isSl
  have hroom3 := Lib.hid (show Maps.size σ1.D + Nd.room ⟨[], nd.keys.drop i, nd.kids.drop i⟩ ≤ σ1.most by have := HR.out; have := hrooms.out; rw [hl1.2.1, hl1.2.2.1]; omega)
  have HL1 := Lib.hid hl1; clear hl1
  have HR1 := Lib.hid hr1; clear hr1
  go_wp2_with (first
      | (go_at_call 69; go_must ((refine (least_any b2 ⟨[], nd.keys.drop i, nd.kids.drop i⟩ _ _ S1 hB3 (neB_inner nd i hbig.out HI1.out)).mono ?_); rintro e w4 ⟨rfl, hw⟩; subst w4))
      | (go_at_call 52; go_must ((refine (HI.out σ1 S1 b2 ⟨[], nd.keys.drop i, nd.kids.drop i⟩ _ w3 hI3 ht3.1 ht3.2 hB3 hOkB.out hspl.out.2 hroom3.out).mono ?_); rintro e w5 ⟨x2, ps2, zs2, σ2, S2, rfl, hown2, hsp2, hput2, hI5, hs5⟩; refine Stop.of ?_)))
  refine Stop.on ?_
  have hl2 := hput2.length
  have hr2 := hsp2.room hOkB.out
  have hb1 : ps1.length ≤ 4000 := by have a := HL1.out.1; have b := HR1.out; have c := hrooms.out; have d := hOkA.out; rw [a]; refine Nat.le_trans b ?_; have := room_le d; omega
  have hb2 : ps2.length ≤ 4000 := by rw [hl2.1]; refine Nat.le_trans hr2 ?_; have := room_le hOkB.out; omega
  clear hl2 hr2
  have hownA := (hown1.step hs5).base (B := w.heap.size) hbelw.size
  have hS5 := hI5.sub
  have hbs : w.heap.size ≤ w5.heap.size := Nat.le_trans hbelw.size (Nat.le_trans hs3.1.size hs5.1.size)
  obtain ⟨ao2, cp2, rfl, n2, m2, _, _⟩ := IsSl.form hown2.isSl
  have hsrc := hown2.isSl.src (P := Try.prog) Try.underlying84 (one_pcs _)
  have hbyt : (ps1.length + ps2.length) * 24 ≤ 140737488355328 := by omega
  have hmx : ps1.length + ps2.length ≤ maxLen := by simp only [maxLen]; omega
  go_wp2_with (first
      | (at_builtin; go_must (refine wpList_app rfl (.tmp 41) (.tmp 47) 84 84 rfl S2 w.heap.size 104 2 24 _ Try.underlying84 info_piece rfl (.slice ao1 ps1.length cp1) ps1.length (pcCells ps1) rfl hownA (.slice ao2 ps2.length cp2) ps2.length (pcCells ps2) rfl hsrc hS5 hbs hmx hbyt ?_; intro ao3 c3 w7 hown3 hk7 hb7 hd7)))
  go_ret
  have hst7 : Step S S2 w w7 := (((Step.of_below hbelw).trans hs3).trans hs5).app hk7 hownA.lo
  refine ⟨_, ps1 ++ ps2, zs1 ++ zs2, σ2, S2, rfl, ?_, .inner i hi hk HS.out HI1.out hsp1 hsp2, hput1.append hput2, hI5.keepM hk7 (fun g hg e => hownA.2 g e hg), hst7⟩
  rw [List.length_append, pcCells_append]
  exact hown3

theorem spread_any (t mp : Nat) (root err : Int) : ∀ n, SprIH t mp root err n := by
  intro n
  induction n using Nat.strongRecOn with
  | _ n ih =>
    intro σ S nb nd least w h ht hst hn ok hm hroom
    by_cases hk : nd.kids = []
    · by_cases hp : nd.pairs = []
      · exact spread_none t mp σ S nb nd least w h hn hk hp
      · by_cases hs : nd.size ≤ 512
        · exact spread_one t mp root err σ S nb nd least w h ht hst hn ok (.inr hp) hs (by have := List.length_pos_iff.2 hp; unfold Nd.room at hroom; omega)
        · exact spread_leaf t mp root err nd (ih _ hm) σ S nb least w h ht hst hn ok (by omega) hk hroom
    · by_cases hs : nd.size ≤ 512
      · exact spread_one t mp root err σ S nb nd least w h ht hst hn ok (.inl hk) hs (by unfold Nd.room at hroom; rw [if_neg hk] at hroom; omega)
      · exact spread_inner t mp root err nd (ih _ hm) σ S nb least w h ht hst hn ok (by omega) hk hroom
end Go.Proofs.Ytbldcbakhpdigaa
