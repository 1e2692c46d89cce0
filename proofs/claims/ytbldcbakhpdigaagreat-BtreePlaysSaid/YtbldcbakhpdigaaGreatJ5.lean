/- SpreadR, Clos, ClosP, EditL, GrowS, Change, Put1, Put, Get, Scan, Walk -/
import Derived.Test.YtbldcbakhpdigaaGreatJ4
import Derived.Defers
import Derived.Recover
/- spread of an overfull node. (Printed by gen/spread.py.) -/
namespace Go.Proofs.YtbldcbakhpdigaaGreat
open Go.RowKit

theorem info_piece : (Tryz.prog.info? 99).map (fun i => (i.zero, i.size, i.bytes)) = some (some (.agg #[.int .i64 0, .string ⟨#[]⟩]), 2, 24) := by kernel_rfl
theorem one_pcs (ps : List Pc) : ∀ u ∈ pcCells ps, u.oneCell' = true := by
  intro u hu
  obtain ⟨p, _, hp⟩ := List.mem_flatMap.1 hu
  simp at hp; rcases hp with rfl | rfl <;> rfl
theorem pcCells_append (a b : List Pc) : pcCells (a ++ b) = pcCells a ++ pcCells b := by simp [pcCells]
theorem Step.app {S S' : Nat → Prop} {w w6 w7 : World} {v : Value} (h : Step S S' w w6) (hk : Keep (fun g => v.ownBlock = some g) w6 w7) (hlo : ∀ g, v.ownBlock = some g → w.heap.size ≤ g) : Step S S' w w7 :=
  ⟨h.1.trans hk (fun i hi e => absurd hi (Nat.not_lt.2 (hlo i e))), h.2⟩

/-- spread's contract for the nodes that are smaller -/
def SprIH (t mp : Nat) (root err : Int) (n : Nat) : Prop :=
  ∀ (σ : MSt) (S : Nat → Prop) (nb : Nat) (nd : Nd) (least : ByteArray) (w : World), Inv σ S mp w → TreeAt w t mp root err → ¬ S t → IsNode w S nb nd → nd.Ok → nd.pairs.length + nd.kids.length < n → Maps.size σ.D + nd.room ≤ σ.most →
    Calls Tryz.prog 46 #[.pointer (some ⟨t, 0, none⟩), .pointer (some ⟨nb, 0, none⟩), .string least] w (SprPost mp σ S nd least w)

theorem room_le {nd : Nd} (ok : nd.Ok) : nd.room ≤ 4000 := by
  have := ok.np
  have := ok.nk
  unfold Nd.room
  split <;> omega
theorem room_inner (nd : Nd) (i : Nat) (hk : nd.kids ≠ []) (h5 : 5 ≤ nd.kids.length) (hi : i = nd.kids.length / 2) : Nd.room ⟨[], nd.keys.take (i - 1), nd.kids.take i⟩ + Nd.room ⟨[], nd.keys.drop i, nd.kids.drop i⟩ ≤ nd.room := by
  have n1 : nd.kids.take i ≠ [] := fun e => by have := congrArg List.length e; simp only [List.length_take, List.length_nil] at this; omega
  have n2 : nd.kids.drop i ≠ [] := fun e => by have := congrArg List.length e; simp only [List.length_drop, List.length_nil] at this; omega
  unfold Nd.room
  rw [if_neg n1, if_neg n2, if_neg hk]
  simp only [List.length_take, List.length_drop, List.length_nil]
  omega

theorem neB_leaf (nd : Nd) (i : Nat) (hi : i < nd.pairs.length) : Nd.kids ⟨nd.pairs.drop i, [], []⟩ = [] → Nd.pairs ⟨nd.pairs.drop i, [], []⟩ ≠ [] := fun _ e => by have := congrArg List.length e; simp only [List.length_drop, List.length_nil] at this; omega
theorem neB_inner (nd : Nd) (i : Nat) (h5 : 5 ≤ nd.kids.length) (hi : i = nd.kids.length / 2) : Nd.kids ⟨[], nd.keys.drop i, nd.kids.drop i⟩ = [] → Nd.pairs ⟨[], nd.keys.drop i, nd.kids.drop i⟩ ≠ [] := fun e => absurd e (fun e => by have := congrArg List.length e; simp only [List.length_drop, List.length_nil] at this; omega)

set_option maxRecDepth 100000 in
set_option maxHeartbeats 4000000 in
theorem spread_leaf (t mp : Nat) (root err : Int) (nd : Nd) (IH : SprIH t mp root err (nd.pairs.length + nd.kids.length)) (σ : MSt) (S : Nat → Prop) (nb : Nat) (least : ByteArray) (w : World) (h : Inv σ S mp w) (ht : TreeAt w t mp root err) (hst : ¬ S t) (hn : IsNode w S nb nd) (ok : nd.Ok) (hs : 512 < nd.size) (hk : nd.kids = []) (hroom : Maps.size σ.D + nd.room ≤ σ.most) :
    Calls Tryz.prog 46 #[.pointer (some ⟨t, 0, none⟩), .pointer (some ⟨nb, 0, none⟩), .string least] w (SprPost mp σ S nd least w) := by
  have hN := hn
  obtain ⟨_, v0, v1, v2, hb, h0, h1, h2⟩ := hn
  obtain ⟨c0, c1, c2, _, _, _, hlt⟩ := cells3 hb
  obtain ⟨ao0, cp0, rfl, n0, m0, _, _⟩ := IsSl.form h0
  have hnp := ok.np
  have hnk := ok.nk
  have hkk := Lib.hid ok.kk
  have hbig := Lib.hid ((ok.big hs).1 hk)
  have htl : t < w.heap.size := (Array.getElem?_eq_some_iff.1 ht).1
  have HR := Lib.hid hroom; clear hroom
  have HS := Lib.hid hs
  have hs2 : ¬ ((nd.size : Int) ≤ 512) := by omega
  clear hs
  have HI := Lib.hid IH; clear IH
  have hsz := ok.size_le
  have hke : nd.kids.isEmpty = true := by rw [hk]; rfl
  have hpl : ¬ nd.pairs.length = 0 := by have := hbig.out; omega
  have hpl' : ¬ ((nd.pairs.length : Int) = 0) := by omega
  go_enter Tryz.func46, Tryz.ntmps46
  go_wp2_with (first
      | (go_at_call 37; go_must ((refine (leaf_any nb nd _ S hN).mono ?_); rintro e w1 ⟨rfl, hw⟩; subst w1; rw [hke]))
      | (go_at_call 70; go_must ((refine (size_any nb nd _ S hN hsz).mono ?_); rintro e w1 ⟨rfl, hbel1⟩))
      | (go_at_call 73; go_must ((refine (halvesLeaf_any nb nd _ S (fun g hg => Nat.lt_of_lt_of_le (h.sub g hg) hbel1.size) (hN.below hbel1) hk (by have := hbig.out; omega) hsz).mono ?_); rintro e w2 ⟨i, hi, b1, b2, hi1, rfl, hA, hB, hbel2⟩; have HI1 := Lib.hid hi1; clear hi1; clear c0 c1 c2; refine Stop.of ?_)))
  refine Stop.on ?_
  have hbelw : Below w.heap.size w w2 := hbel1.trans (hbel2.mono hbel1.size)
  have hspl := Lib.hid (show (Nd.pairs ⟨nd.pairs.take i, [], []⟩).length + (Nd.kids ⟨nd.pairs.take i, [], []⟩).length < nd.pairs.length + nd.kids.length ∧ (Nd.pairs ⟨nd.pairs.drop i, [], []⟩).length + (Nd.kids ⟨nd.pairs.drop i, [], []⟩).length < nd.pairs.length + nd.kids.length from by have := HI1.out; simp only [List.length_take, List.length_drop, List.length_nil]; omega)
  have hrooms := Lib.hid (show Nd.room ⟨nd.pairs.take i, [], []⟩ + Nd.room ⟨nd.pairs.drop i, [], []⟩ ≤ nd.room from by unfold Nd.room; simp only [List.length_take, List.length_drop, if_true]; omega)
  have hOkA := Lib.hid (ok.left i hk)
  have hOkB := Lib.hid (ok.right i hk)
  have hI2 := h.below hbelw
  have ht2 := ht.step hst (Step.of_below hbelw)
  go_wp2_with (first
      | (go_at_call 46; go_must ((refine (HI.out σ S b1 ⟨nd.pairs.take i, [], []⟩ least w2 hI2 ht2.1 ht2.2 hA hOkA.out hspl.out.1 (by have := HR.out; have := hrooms.out; omega)).mono ?_); rintro e w3 ⟨x1, ps1, zs1, σ1, S1, rfl, hown1, hsp1, hput1, hI3, hs3⟩; refine Stop.of ?_)))
  refine Stop.on ?_
  have hl1 := hput1.length
  have hr1 := hsp1.room hOkA.out
  have hB3 := hB.step hs3
  have ht3 := ht2.1.step ht2.2 hs3
  obtain ⟨ao1, cp1, rfl, n1, m1, _, _⟩ := IsSl.form hown1.isSl
  have hroom3 := Lib.hid (show Maps.size σ1.D + Nd.room ⟨nd.pairs.drop i, [], []⟩ ≤ σ1.most by have := HR.out; have := hrooms.out; rw [hl1.2.1, hl1.2.2.1]; omega)
  have HL1 := Lib.hid hl1; clear hl1
  have HR1 := Lib.hid hr1; clear hr1
  go_wp2_with (first
      | (go_at_call 72; go_must ((refine (least_any b2 ⟨nd.pairs.drop i, [], []⟩ _ _ S1 hB3 (neB_leaf nd i hi)).mono ?_); rintro e w4 ⟨rfl, hw⟩; subst w4))
      | (go_at_call 46; go_must ((refine (HI.out σ1 S1 b2 ⟨nd.pairs.drop i, [], []⟩ _ w3 hI3 ht3.1 ht3.2 hB3 hOkB.out hspl.out.2 hroom3.out).mono ?_); rintro e w5 ⟨x2, ps2, zs2, σ2, S2, rfl, hown2, hsp2, hput2, hI5, hs5⟩; refine Stop.of ?_)))
  refine Stop.on ?_
  have hl2 := hput2.length
  have hr2 := hsp2.room hOkB.out
  have hb1 : ps1.length ≤ 4000 := by have a := HL1.out.1; have b := HR1.out; have c := hrooms.out; have d := hOkA.out; rw [a]; refine Nat.le_trans b ?_; have := room_le d; omega
  have hb2 : ps2.length ≤ 4000 := by rw [hl2.1]; refine Nat.le_trans hr2 ?_; have := room_le hOkB.out; omega
  clear hl2 hr2
  have hownA := (hown1.step hs5).base (B := w.heap.size) hbelw.size
  have hS5 := hI5.sub
  have hbs : w.heap.size ≤ w5.heap.size := Nat.le_trans hbelw.size (Nat.le_trans hs3.1.size hs5.1.size)
  obtain ⟨ao2, cp2, rfl, n2, m2, _, _⟩ := IsSl.form hown2.isSl
  have hsrc := hown2.isSl.src (P := Tryz.prog) Tryz.underlying82 (one_pcs _)
  have hbyt : (ps1.length + ps2.length) * 24 ≤ 140737488355328 := by omega
  have hmx : ps1.length + ps2.length ≤ maxLen := by simp only [maxLen]; omega
  go_wp2_with (first
      | (at_builtin; go_must (refine wpList_app rfl (.tmp 41) (.tmp 47) 82 82 rfl S2 w.heap.size 99 2 24 _ Tryz.underlying82 info_piece rfl (.slice ao1 ps1.length cp1) ps1.length (pcCells ps1) rfl hownA (.slice ao2 ps2.length cp2) ps2.length (pcCells ps2) rfl hsrc hS5 hbs hmx hbyt ?_; intro ao3 c3 w7 hown3 hk7 hb7 hd7)))
  go_ret
  have hst7 : Step S S2 w w7 := (((Step.of_below hbelw).trans hs3).trans hs5).app hk7 hownA.lo
  refine ⟨_, ps1 ++ ps2, zs1 ++ zs2, σ2, S2, rfl, ?_, .leaf i hi hk HS.out HI1.out hsp1 hsp2, hput1.append hput2, hI5.keepM hk7 (fun g hg e => hownA.2 g e hg), hst7⟩
  rw [List.length_append, pcCells_append]
  exact hown3

set_option maxRecDepth 100000 in
set_option maxHeartbeats 4000000 in
theorem spread_inner (t mp : Nat) (root err : Int) (nd : Nd) (IH : SprIH t mp root err (nd.pairs.length + nd.kids.length)) (σ : MSt) (S : Nat → Prop) (nb : Nat) (least : ByteArray) (w : World) (h : Inv σ S mp w) (ht : TreeAt w t mp root err) (hst : ¬ S t) (hn : IsNode w S nb nd) (ok : nd.Ok) (hs : 512 < nd.size) (hk : nd.kids ≠ []) (hroom : Maps.size σ.D + nd.room ≤ σ.most) :
    Calls Tryz.prog 46 #[.pointer (some ⟨t, 0, none⟩), .pointer (some ⟨nb, 0, none⟩), .string least] w (SprPost mp σ S nd least w) := by
  have hN := hn
  obtain ⟨_, v0, v1, v2, hb, h0, h1, h2⟩ := hn
  obtain ⟨c0, c1, c2, _, _, _, hlt⟩ := cells3 hb
  obtain ⟨ao0, cp0, rfl, n0, m0, _, _⟩ := IsSl.form h0
  have hnp := ok.np
  have hnk := ok.nk
  have hkk := Lib.hid ok.kk
  have hbig := Lib.hid ((ok.big hs).2 hk)
  have htl : t < w.heap.size := (Array.getElem?_eq_some_iff.1 ht).1
  have HR := Lib.hid hroom; clear hroom
  have HS := Lib.hid hs
  have hs2 : ¬ ((nd.size : Int) ≤ 512) := by omega
  clear hs
  have HI := Lib.hid IH; clear IH
  have hsz := ok.size_le
  have hke : nd.kids.isEmpty = false := by cases hq : nd.kids with | nil => exact absurd hq hk | cons a b => rfl
  go_enter Tryz.func46, Tryz.ntmps46
  go_wp2_with (first
      | (go_at_call 37; go_must ((refine (leaf_any nb nd _ S hN).mono ?_); rintro e w1 ⟨rfl, hw⟩; subst w1; rw [hke]))
      | (go_at_call 70; go_must ((refine (size_any nb nd _ S hN hsz).mono ?_); rintro e w1 ⟨rfl, hbel1⟩))
      | (go_at_call 73; go_must ((refine (halvesInner_any nb nd _ S (fun g hg => Nat.lt_of_lt_of_le (h.sub g hg) hbel1.size) (hN.below hbel1) (by have := hbig.out; omega) hkk.out hsz).mono ?_); rintro e w2 ⟨i, hi, b1, b2, hi1, rfl, hA, hB, hbel2⟩; have HI1 := Lib.hid hi1; clear hi1; clear c0 c1 c2; refine Stop.of ?_)))
  refine Stop.on ?_
  have hbelw : Below w.heap.size w w2 := hbel1.trans (hbel2.mono hbel1.size)
  have hspl := Lib.hid (show (Nd.pairs ⟨[], nd.keys.take (i - 1), nd.kids.take i⟩).length + (Nd.kids ⟨[], nd.keys.take (i - 1), nd.kids.take i⟩).length < nd.pairs.length + nd.kids.length ∧ (Nd.pairs ⟨[], nd.keys.drop i, nd.kids.drop i⟩).length + (Nd.kids ⟨[], nd.keys.drop i, nd.kids.drop i⟩).length < nd.pairs.length + nd.kids.length from by have := HI1.out; have := hbig.out; simp only [List.length_take, List.length_drop, List.length_nil]; omega)
  have hrooms := Lib.hid (show Nd.room ⟨[], nd.keys.take (i - 1), nd.kids.take i⟩ + Nd.room ⟨[], nd.keys.drop i, nd.kids.drop i⟩ ≤ nd.room from room_inner nd i hk hbig.out HI1.out)
  have hOkA := Lib.hid (ok.leftI i (by have := HI1.out; omega))
  have hOkB := Lib.hid (ok.rightI i)
  have hI2 := h.below hbelw
  have ht2 := ht.step hst (Step.of_below hbelw)
  go_wp2_with (first
      | (go_at_call 46; go_must ((refine (HI.out σ S b1 ⟨[], nd.keys.take (i - 1), nd.kids.take i⟩ least w2 hI2 ht2.1 ht2.2 hA hOkA.out hspl.out.1 (by have := HR.out; have := hrooms.out; omega)).mono ?_); rintro e w3 ⟨x1, ps1, zs1, σ1, S1, rfl, hown1, hsp1, hput1, hI3, hs3⟩; refine Stop.of ?_)))
  refine Stop.on ?_
  have hl1 := hput1.length
  have hr1 := hsp1.room hOkA.out
  have hB3 := hB.step hs3
  have ht3 := ht2.1.step ht2.2 hs3
  obtain ⟨ao1, cp1, rfl, n1, m1, _, _⟩ := IsSl.form hown1.isSl
  have hroom3 := Lib.hid (show Maps.size σ1.D + Nd.room ⟨[], nd.keys.drop i, nd.kids.drop i⟩ ≤ σ1.most by have := HR.out; have := hrooms.out; rw [hl1.2.1, hl1.2.2.1]; omega)
  have HL1 := Lib.hid hl1; clear hl1
  have HR1 := Lib.hid hr1; clear hr1
  go_wp2_with (first
      | (go_at_call 72; go_must ((refine (least_any b2 ⟨[], nd.keys.drop i, nd.kids.drop i⟩ _ _ S1 hB3 (neB_inner nd i hbig.out HI1.out)).mono ?_); rintro e w4 ⟨rfl, hw⟩; subst w4))
      | (go_at_call 46; go_must ((refine (HI.out σ1 S1 b2 ⟨[], nd.keys.drop i, nd.kids.drop i⟩ _ w3 hI3 ht3.1 ht3.2 hB3 hOkB.out hspl.out.2 hroom3.out).mono ?_); rintro e w5 ⟨x2, ps2, zs2, σ2, S2, rfl, hown2, hsp2, hput2, hI5, hs5⟩; refine Stop.of ?_)))
  refine Stop.on ?_
  have hl2 := hput2.length
  have hr2 := hsp2.room hOkB.out
  have hb1 : ps1.length ≤ 4000 := by have a := HL1.out.1; have b := HR1.out; have c := hrooms.out; have d := hOkA.out; rw [a]; refine Nat.le_trans b ?_; have := room_le d; omega
  have hb2 : ps2.length ≤ 4000 := by rw [hl2.1]; refine Nat.le_trans hr2 ?_; have := room_le hOkB.out; omega
  clear hl2 hr2
  have hownA := (hown1.step hs5).base (B := w.heap.size) hbelw.size
  have hS5 := hI5.sub
  have hbs : w.heap.size ≤ w5.heap.size := Nat.le_trans hbelw.size (Nat.le_trans hs3.1.size hs5.1.size)
  obtain ⟨ao2, cp2, rfl, n2, m2, _, _⟩ := IsSl.form hown2.isSl
  have hsrc := hown2.isSl.src (P := Tryz.prog) Tryz.underlying82 (one_pcs _)
  have hbyt : (ps1.length + ps2.length) * 24 ≤ 140737488355328 := by omega
  have hmx : ps1.length + ps2.length ≤ maxLen := by simp only [maxLen]; omega
  go_wp2_with (first
      | (at_builtin; go_must (refine wpList_app rfl (.tmp 41) (.tmp 47) 82 82 rfl S2 w.heap.size 99 2 24 _ Tryz.underlying82 info_piece rfl (.slice ao1 ps1.length cp1) ps1.length (pcCells ps1) rfl hownA (.slice ao2 ps2.length cp2) ps2.length (pcCells ps2) rfl hsrc hS5 hbs hmx hbyt ?_; intro ao3 c3 w7 hown3 hk7 hb7 hd7)))
  go_ret
  have hst7 : Step S S2 w w7 := (((Step.of_below hbelw).trans hs3).trans hs5).app hk7 hownA.lo
  refine ⟨_, ps1 ++ ps2, zs1 ++ zs2, σ2, S2, rfl, ?_, .inner i hi hk HS.out HI1.out hsp1 hsp2, hput1.append hput2, hI5.keepM hk7 (fun g hg e => hownA.2 g e hg), hst7⟩
  rw [List.length_append, pcCells_append]
  exact hown3

theorem spread_any (t mp : Nat) (root err : Int) : ∀ n, SprIH t mp root err n := by
  intro n
  induction n using Nat.strongRecOn with
  | _ n ih =>
    intro σ S nb nd least w h ht hst hn ok hm hroom
    by_cases hk : nd.kids = []
    · by_cases hp : nd.pairs = []
      · exact spread_none t mp σ S nb nd least w h hn hk hp
      · by_cases hs : nd.size ≤ 512
        · exact spread_one t mp root err σ S nb nd least w h ht hst hn ok (.inr hp) hs (by have := List.length_pos_iff.2 hp; unfold Nd.room at hroom; omega)
        · exact spread_leaf t mp root err nd (ih _ hm) σ S nb least w h ht hst hn ok (by omega) hk hroom
    · by_cases hs : nd.size ≤ 512
      · exact spread_one t mp root err σ S nb nd least w h ht hst hn ok (.inl hk) hs (by unfold Nd.room at hroom; rw [if_neg hk] at hroom; omega)
      · exact spread_inner t mp root err nd (ih _ hm) σ S nb least w h ht hst hn ok (by omega) hk hroom
end Go.Proofs.YtbldcbakhpdigaaGreat

/- The closures that Put and Delete hand to edit. -/
namespace Go.Proofs.YtbldcbakhpdigaaGreat
open Go.RowKit

/-- a string variable that a closure holds -/
def BoxS (w : World) (b : Nat) (s : ByteArray) : Prop := w.heap[b]? = some (.cells #[.string s] 9 (0, 0))

def delP (ps : List Pr) (key : ByteArray) : List Pr := if isAt ps key then ps.take (posAt ps key) ++ ps.drop (posAt ps key + 1) else ps
def insP (ps : List Pr) (key value : ByteArray) : List Pr := if isAt ps key then ps.set (posAt ps key) (key, value) else ps.take (posAt ps key) ++ (key, value) :: ps.drop (posAt ps key)

theorem isAt_lt {ps : List Pr} {key : ByteArray} (h : isAt ps key = true) : ∃ h : posAt ps key < ps.length, ps[posAt ps key].1 = key := by
  unfold isAt at h
  split at h
  · rename_i p hp
    obtain ⟨h1, h2⟩ := List.getElem?_eq_some_iff.1 hp
    exact ⟨h1, by rw [h2]; exact of_decide_eq_true h⟩
  · cases h

theorem cells1 {w : World} {b : Nat} {s : ByteArray} (h : BoxS w b s) : w.cell? ⟨b, 0, none⟩ = some (.string s) ∧ b < w.heap.size := by
  unfold BoxS at h
  exact ⟨by simp [World.cell?, h], (Array.getElem?_eq_some_iff.1 h).1⟩

theorem OwnSl.form2 {w : World} {S : Nat → Prop} {B e k n : Nat} {v : Value} {xs : List Value} (h : OwnSl w S B e k v n xs) (hn : 0 < n) : ∃ g c, v = .slice (some ⟨g, 0, none⟩) n c ∧ n ≤ c ∧ c ≤ 9223372036854775807 ∧ B ≤ g ∧ g < w.heap.size := by
  obtain ⟨ao, c, rfl, h1, h2, _⟩ := h.isSl.form
  rcases h.1.2 with ⟨e, h0⟩ | ⟨g, cap, cur, e, hB, hg, _⟩
  · exact absurd h0 (by omega)
  · cases e; exact ⟨g, c, rfl, h1, h2, hB, (Array.getElem?_eq_some_iff.1 hg).1⟩

/-- the node's first field is set anew -/
theorem OwnNode.setPairs {w W : World} {S : Nat → Prop} {B b : Nat} {nd : Nd} {v0 v1 v2 v' : Value} {ps : List Pr} (hb : W.heap[b]? = some (.cells #[v0, v1, v2] 74 (0, 0))) (hS : ¬ S b) (hB : B ≤ b) (h1 : OwnSl W S B 9 1 v1 nd.keys.length (nd.keys.map .string)) (h2 : OwnSl W S B 3 1 v2 nd.kids.length (nd.kids.map (.int .i64)))
    (h0 : OwnSl W S B 53 2 v' ps.length (prCells ps)) (hk : Below B w W) : OwnNode (W.setCell ⟨b, 0, none⟩ v') S B b ⟨ps, nd.keys, nd.kids⟩ ∧ Below B w (W.setCell ⟨b, 0, none⟩ v') := by
  have hk5 : Keep (· = b) W (W.setCell ⟨b, 0, none⟩ v') := Keep.setCell (M := (· = b)) (p := ⟨b, 0, none⟩) (Keep.refl _ _) (.inr rfl) v'
  refine ⟨⟨hS, hB, v', v1, v2, ?_, h0.keep fun g hg hl hs => ⟨hk5.block g hl (fun e => h0.ne hb (by decide) (by rw [hg, e])), hs⟩, h1.keep fun g hg hl hs => ⟨hk5.block g hl (fun e => h1.ne hb (by decide) (by rw [hg, e])), hs⟩, h2.keep fun g hg hl hs => ⟨hk5.block g hl (fun e => h2.ne hb (by decide) (by rw [hg, e])), hs⟩⟩, hk.setCell (by simpa using hB) v'⟩
  simp [World.setCell, Array.getElem?_modify, hb]

/-- a pair's value is set anew -/
theorem prCells_set (ps : List Pr) (v : ByteArray) : ∀ (i : Nat) (h : i < ps.length), (prCells ps).set (i * 2 + 1) (.string v) = prCells (ps.set i (ps[i].1, v)) := by
  induction ps with
  | nil => intro i h; simp at h
  | cons p ps ih =>
    intro i h
    cases i with
    | zero => rfl
    | succ i =>
      have := ih i (by simpa using h)
      simp only [prCells_cons, List.set_cons_succ, List.getElem_cons_succ, Nat.succ_mul]
      rw [this]
theorem OwnNode.setValue {w W : World} {S : Nat → Prop} {B b g c : Nat} {nd : Nd} {v1 v2 : Value} {value : ByteArray} (i : Nat) (hi : i < nd.pairs.length) (hb : W.heap[b]? = some (.cells #[.slice (some ⟨g, 0, none⟩) nd.pairs.length c, v1, v2] 74 (0, 0))) (hS : ¬ S b) (hB : B ≤ b) (h1 : OwnSl W S B 9 1 v1 nd.keys.length (nd.keys.map .string)) (h2 : OwnSl W S B 3 1 v2 nd.kids.length (nd.kids.map (.int .i64)))
    (h0 : OwnSl W S B 53 2 (.slice (some ⟨g, 0, none⟩) nd.pairs.length c) nd.pairs.length (prCells nd.pairs)) (hk : Below B w W) : OwnNode (W.setCell ⟨g, i * 2 + 1, none⟩ (.string value)) S B b ⟨nd.pairs.set i (nd.pairs[i].1, value), nd.keys, nd.kids⟩ ∧ Below B w (W.setCell ⟨g, i * 2 + 1, none⟩ (.string value)) := by
  obtain ⟨cur, hr, hl, hx, hBg, hSg, hc, hc2⟩ := h0.row
  have hk5 : Keep (· = g) W (W.setCell ⟨g, i * 2 + 1, none⟩ (.string value)) := Keep.setCell (M := (· = g)) (p := ⟨g, i * 2 + 1, none⟩) (Keep.refl _ _) (.inr rfl) _
  have hr' : Row (W.setCell ⟨g, i * 2 + 1, none⟩ (.string value)) g 53 (cur.set (i * 2 + 1) (.string value)) := by
    unfold Row at hr ⊢
    simp [World.setCell, Array.getElem?_modify, hr]
  have hgb : b ≠ g := fun e => by subst e; exact h0.ne hb (by decide) rfl
  refine ⟨⟨hS, hB, _, v1, v2, (hk5.block b (Array.getElem?_eq_some_iff.1 hb).1 hgb).trans hb, ?_, h1.keep fun g' hg hl hs => ⟨hk5.block g' hl (fun e => OwnSl.ne2 h1 h0 (by decide) _ hg (by rw [e]; rfl)), hs⟩, h2.keep fun g' hg hl hs => ⟨hk5.block g' hl (fun e => OwnSl.ne2 h2 h0 (by decide) _ hg (by rw [e]; rfl)), hs⟩⟩, hk.setCell (by simpa using hBg) _⟩
  have := hr'.own (S := S) (B := B) (k := 2) (cap := c) nd.pairs.length (by simpa using hl) hBg hSg hc hc2
  rw [show (cur.set (i * 2 + 1) (.string value)).take (nd.pairs.length * 2) = prCells (nd.pairs.set i (nd.pairs[i].1, value)) from by rw [← prCells_set _ _ i hi, ← hx, ← List.take_set]] at this
  simpa using this

set_option maxRecDepth 100000 in
set_option maxHeartbeats 2000000 in
theorem delete11_any (kb nb B : Nat) (key : ByteArray) (nd : Nd) (S : Nat → Prop) (w : World) (hk : BoxS w kb key) (hn : OwnNode w S B nb nd) (hr : RisingP nd.pairs) (hl : nd.pairs.length ≤ 1000000) :
    Calls Tryz.prog 40 #[.pointer (some ⟨nb, 0, none⟩), .pointer (some ⟨kb, 0, none⟩)] w fun e w' => e = .returned (.tuple #[]) ∧ OwnNode w' S B nb ⟨delP nd.pairs key, nd.keys, nd.kids⟩ ∧ Below B w w' := by
  have hN := hn
  obtain ⟨hS, hB, v0, v1, v2, hb, h0, h1, h2⟩ := hn
  obtain ⟨c0, c1, c2, _, _, _, hlt⟩ := cells3 hb
  obtain ⟨k0, kl⟩ := cells1 hk
  have hnB : B ≤ w.heap.size := Nat.le_trans hB (Nat.le_of_lt hlt)
  cases hat : isAt nd.pairs key with
  | false =>
    have hd : delP nd.pairs key = nd.pairs := by unfold delP; rw [hat]; rfl
    rw [hd]
    go_enter Tryz.func40, Tryz.ntmps40
    go_wp2_with (first
      | (go_at_call 35; go_must ((refine (find_any nb nd key _ S hN.isNode hr hl).mono ?_); rw [hat]; rintro e w1 ⟨rfl, hb1⟩)))
    go_end0
    exact ⟨rfl, hN.step (Step.of_below hb1), hb1.mono hnB⟩
  | true =>
    obtain ⟨hp, hkey⟩ := isAt_lt hat
    have hd : delP nd.pairs key = nd.pairs.take (posAt nd.pairs key) ++ nd.pairs.drop (posAt nd.pairs key + 1) := by unfold delP; rw [hat]; rfl
    generalize hP : posAt nd.pairs key = P at hp hkey hd
    obtain ⟨g, c, rfl, hc1, hc2, hBg, hgl⟩ := h0.form2 (by omega)
    have hpw : IntKind.i64.wrap ((P : Int) + 1) = (P : Int) + 1 := IntWalk.i64_in _ (by omega)
    go_enter Tryz.func40, Tryz.ntmps40
    have HP := Lib.hid hP; clear hP
    go_wp2_with (first
      | (go_at_call 35; go_must ((refine (find_any nb nd key _ S hN.isNode hr hl).mono ?_); rw [hat, HP.out]; rintro e w1 ⟨rfl, hb1⟩; have c0' := (hb1.cell (p := ⟨nb, 0, none⟩) hlt).trans c0; have hlt' := Nat.lt_of_lt_of_le hlt hb1.size; clear c0 c1 c2))
      | (go_at_call 41; go_must ((refine (delPair_any g c nd.pairs.length P (prCells nd.pairs) _ S B (h0.step (Step.of_below hb1)) (one_prs _) hp hl).mono ?_); rintro e w2 ⟨c', rfl, hown, hk2⟩; refine Stop.of ?_)))
    have hgb : nb ≠ g := fun e => by subst e; exact h0.ne hb (by decide) rfl
    have hbel2 : Below B w w2 := (hb1.mono hnB).trans (hk2.toBelow (Nat.le_trans hnB hb1.size) (fun i hi e => absurd hBg (by rw [← e]; exact Nat.not_le.2 hi)))
    have hb2 : w2.heap[nb]? = some (.cells #[.slice (some ⟨g, 0, none⟩) nd.pairs.length c, v1, v2] 74 (0, 0)) := (hk2.block nb hlt' hgb).trans ((hb1.block nb hlt).trans hb)
    have h12 := (h1.step (Step.of_below hb1)).keep (w' := w2) (S' := S) (fun g' hg hl hs => ⟨hk2.block g' hl (fun e => OwnSl.ne2 h1 h0 (by decide) _ hg (by rw [e]; rfl)), hs⟩)
    have h22 := (h2.step (Step.of_below hb1)).keep (w' := w2) (S' := S) (fun g' hg hl hs => ⟨hk2.block g' hl (fun e => OwnSl.ne2 h2 h0 (by decide) _ hg (by rw [e]; rfl)), hs⟩)
    obtain ⟨e0, e1, e2, _, _, _, hlt2⟩ := cells3 hb2
    have hlen : (nd.pairs.take P ++ nd.pairs.drop (P + 1)).length = nd.pairs.length - 1 := by rw [List.length_append, List.length_take, List.length_drop]; omega
    have hown' : OwnSl w2 S B 53 2 (.slice (some ⟨g, 0, none⟩) (nd.pairs.length - 1) c') (nd.pairs.take P ++ nd.pairs.drop (P + 1)).length (prCells (nd.pairs.take P ++ nd.pairs.drop (P + 1))) := by
      rw [hlen, prCells_append, prCells_take, prCells_drop]; exact hown
    have HH := Lib.hid hlen; clear hlen
    have hH1 := Lib.hid hown'; clear hown' hown
    have HD := Lib.hid hd; clear hd
    refine Stop.on ?_
    go_wp2_with fail
    go_end0
    rw [HD.out]
    have q := OwnNode.setPairs hb2 hS hB h12 h22 hH1.out hbel2
    exact ⟨rfl, q.1, q.2⟩
end Go.Proofs.YtbldcbakhpdigaaGreat

/- Put's closure. -/
namespace Go.Proofs.YtbldcbakhpdigaaGreat
open Go.RowKit

set_option maxRecDepth 100000 in
set_option maxHeartbeats 2000000 in
/-- the value is stored: the code's end, from its last region on -/
theorem put11_has (kb vb nb B : Nat) (key value : ByteArray) (nd : Nd) (S : Nat → Prop) (w : World) (hk : BoxS w kb key) (hv : BoxS w vb value) (hn : OwnNode w S B nb nd) (hr : RisingP nd.pairs) (hl : nd.pairs.length ≤ 1000000) (hat : isAt nd.pairs key = true) :
    Calls Tryz.prog 34 #[.pointer (some ⟨nb, 0, none⟩), .pointer (some ⟨kb, 0, none⟩), .pointer (some ⟨vb, 0, none⟩)] w fun e w' => e = .returned (.tuple #[]) ∧ OwnNode w' S B nb ⟨insP nd.pairs key value, nd.keys, nd.kids⟩ ∧ Below B w w' := by
  have hN := hn
  obtain ⟨hS, hB, v0, v1, v2, hb, h0, h1, h2⟩ := hn
  obtain ⟨c0, c1, c2, _, _, _, hlt⟩ := cells3 hb
  obtain ⟨k0, kl⟩ := cells1 hk
  have hnB : B ≤ w.heap.size := Nat.le_trans hB (Nat.le_of_lt hlt)
  obtain ⟨hp, hkey⟩ := isAt_lt hat
  have hd : insP nd.pairs key value = nd.pairs.set (posAt nd.pairs key) (key, value) := by unfold insP; rw [hat]; rfl
  generalize hP : posAt nd.pairs key = P at hp hkey hd
  obtain ⟨g, c, rfl, hc1, hc2, hBg, hgl⟩ := h0.form2 (by omega)
  go_enter Tryz.func34, Tryz.ntmps34
  have HP := Lib.hid hP; clear hP
  go_wp2_with (first
    | (go_at_call 35; go_must ((refine (find_any nb nd key _ S hN.isNode hr hl).mono ?_); rw [hat, HP.out]; rintro e w1 ⟨rfl, hb1⟩)))
  have hb1' := hb1
  obtain ⟨e0, _, _, _, _, _, hlt1⟩ := cells3 ((hb1.block nb hlt).trans hb)
  obtain ⟨f0, fl⟩ := cells1 (show BoxS w1 vb value from (hb1.block vb (cells1 hv).2).trans hv)
  have hgl1 : g < w1.heap.size := Nat.lt_of_lt_of_le hgl hb1.size
  have hcur := (h0.step (Step.of_below hb1)).row
  obtain ⟨cur, hrow, hcl, _⟩ := hcur
  have hfr := hrow.frozen (P * 2 + 1)
  have hcc := hrow.cell (P * 2 + 1)
  clear c0 c1 c2
  refine wp_region_ord (fun W => W = w1.drew) (fun i => !([8].contains i)) [0, 1, 2, 3, 4, 5, 6, 7, 8] rfl (by kernel_rfl) rfl ?_
  have d0 : w1.drew.cell? ⟨nb, 0, none⟩ = some (.slice (some ⟨g, 0, none⟩) nd.pairs.length c) := e0
  have d1 : w1.drew.cell? ⟨vb, 0, none⟩ = some (.string value) := f0
  have hPi : (P : Int) < (nd.pairs.length : Int) := by omega
  repeat ((refine ord_q (v := ?_) rfl rfl (fun _ _ _ h => h) rfl (fun W hW => ?_) ?_); rotate_left; (focus ((try dsimp only at hW); subst hW; first | (go_simp; first | done | with_reducible rfl))); (try simp only [Act.put, List.setIfInBounds_toArray, List.set_cons_zero, List.set_cons_succ]))
  have x0 : w1.drew.frozen? ⟨g, P * 2 + 1, none⟩ = false := hfr
  have x1 : w1.drew.cell? ⟨g, P * 2 + 1, none⟩ = some cur[P * 2 + 1] := hcc.trans (List.getElem?_eq_getElem (by omega))
  refine ord_l rfl rfl rfl (by kernel_rfl) ?_; intro K hK; go_simp
  refine hK.out _ _ ?_
  refine ord_nil ?_
  have HD := Lib.hid hd; clear hd
  go_wp2_with fail
  go_end0
  rw [HD.out, ← hkey]
  have q := OwnNode.setValue (W := w1.drew) (w := w) (value := value) P hp ((hb1'.block nb hlt).trans hb) hS hB (h1.step (Step.of_below hb1'.drew)) (h2.step (Step.of_below hb1'.drew)) (h0.step (Step.of_below hb1'.drew)) (hb1'.drew.mono hnB)
  exact ⟨rfl, q.1, q.2⟩

set_option maxRecDepth 100000 in
set_option maxHeartbeats 2000000 in
/-- the key is new -/
theorem put11_not (kb vb nb B : Nat) (key value : ByteArray) (nd : Nd) (S : Nat → Prop) (w : World) (hsub : ∀ g, S g → g < w.heap.size) (hk : BoxS w kb key) (hv : BoxS w vb value) (hkB : kb < B) (hvB : vb < B) (hn : OwnNode w S B nb nd) (hr : RisingP nd.pairs) (hl : nd.pairs.length ≤ 999999) (hat : isAt nd.pairs key = false) :
    Calls Tryz.prog 34 #[.pointer (some ⟨nb, 0, none⟩), .pointer (some ⟨kb, 0, none⟩), .pointer (some ⟨vb, 0, none⟩)] w fun e w' => e = .returned (.tuple #[]) ∧ OwnNode w' S B nb ⟨insP nd.pairs key value, nd.keys, nd.kids⟩ ∧ Below B w w' := by
  have hN := hn
  obtain ⟨hS, hB, v0, v1, v2, hb, h0, h1, h2⟩ := hn
  obtain ⟨c0, c1, c2, _, _, _, hlt⟩ := cells3 hb
  obtain ⟨k0, kl⟩ := cells1 hk
  have hnB : B ≤ w.heap.size := Nat.le_trans hB (Nat.le_of_lt hlt)
  have hp := posAt_le nd.pairs key
  have hd : insP nd.pairs key value = nd.pairs.take (posAt nd.pairs key) ++ (key, value) :: nd.pairs.drop (posAt nd.pairs key) := by unfold insP; rw [hat]; rfl
  generalize hP : posAt nd.pairs key = P at hp hd
  obtain ⟨ao0, cp0, rfl, n0, m0, _, _⟩ := h0.isSl.form
  go_enter Tryz.func34, Tryz.ntmps34
  have HP := Lib.hid hP; clear hP
  have HD := Lib.hid hd; clear hd
  go_wp2_with (first
    | (go_at_call 35; go_must ((refine (find_any nb nd key _ S hN.isNode hr (by omega)).mono ?_); rw [hat, HP.out]; rintro e w1 ⟨rfl, hb1⟩)))
  have hbn1 := (hb1.block nb hlt).trans hb
  obtain ⟨e0, _, _, _, _, _, hlt1⟩ := cells3 hbn1
  obtain ⟨f0, fl⟩ := cells1 (show BoxS w1 kb key from (hb1.block kb kl).trans hk)
  have hv1 : BoxS w1 vb value := (hb1.block vb (cells1 hv).2).trans hv
  have hsz1 := hb1.size
  have hB1 : Below B w w1.drew := (hb1.mono hnB).drew
  have h01 := h0.step (Step.of_below hb1)
  have h11 := h1.step (Step.of_below hb1)
  have h21 := h2.step (Step.of_below hb1)
  clear c0 c1 c2
  refine wp_region_ord (fun W => W.cell? ⟨nb, 0, none⟩ = some (.slice ao0 nd.pairs.length cp0) ∧ nb < W.heap.size ∧ W.cell? ⟨kb, 0, none⟩ = some (.string key) ∧ kb < W.heap.size) (fun i => !([8, 9, 12].contains i)) [0, 1, 2, 3, 4, 5, 6, 7, 8, 9, 10, 11, 12] rfl (by kernel_rfl) ⟨e0, hlt1, f0, fl⟩ ?_
  repeat ((refine ord_q (v := ?_) rfl rfl (fun _ _ _ h => h) rfl (fun W hW => ?_) ?_); rotate_left; (focus ((try dsimp only at hW); have q0 := hW.1; have q1 := hW.2.1; have q2 := hW.2.2.1; have q3 := hW.2.2.2; first | (go_simp; first | done | with_reducible rfl))); (try simp only [Act.put, List.setIfInBounds_toArray, List.set_cons_zero, List.set_cons_succ]))
  refine ord_e rfl rfl rfl ?_; intro K hK; go_simp
  have hbn : Below w1.drew.heap.size w1.drew (w1.alloc (.cells #[.string key, .string ⟨#[]⟩] 53)).drew := below_one w1.drew (.cells #[.string key, .string ⟨#[]⟩] 53)
  have hB2 : Below B w (w1.alloc (.cells #[.string key, .string ⟨#[]⟩] 53)).drew := hB1.trans (hbn.mono (Nat.le_trans hnB hsz1))
  have hbn2 := (hbn.block nb hlt1).trans hbn1
  have hk2 : BoxS (w1.alloc (.cells #[.string key, .string ⟨#[]⟩] 53)).drew kb key := (hB2.block kb hkB).trans hk
  have hv2 : BoxS (w1.alloc (.cells #[.string key, .string ⟨#[]⟩] 53)).drew vb value := (hB2.block vb hvB).trans hv
  have hins := insPair_any (.slice ao0 nd.pairs.length cp0) nd.pairs.length P (prCells nd.pairs) w1.heap.size [.string key, .string ⟨#[]⟩] (w1.alloc (.cells #[.string key, .string ⟨#[]⟩] 53)).drew S B (fun g hg => Nat.lt_of_lt_of_le (hsub g hg) (Nat.le_trans hsz1 hbn.size)) (Nat.le_trans hnB (Nat.le_trans hsz1 hbn.size)) ((h01.drew).step (Step.of_below hbn)) (one_prs _) (heap_alloc_new w1.drew _) h01.lt rfl (by intro u hu; simp at hu; rcases hu with rfl | rfl <;> rfl) (by omega) hp
  have h12 := (h11.drew).step (Step.of_below hbn)
  have h22 := (h21.drew).step (Step.of_below hbn)
  have h02 := (h01.drew).step (Step.of_below hbn)
  generalize (w1.alloc (.cells #[.string key, .string ⟨#[]⟩] 53)).drew = w2 at *
  refine hK.out _ _ ⟨(cells3 hbn2).1, (cells3 hbn2).2.2.2.2.2.2, (cells1 hk2).1, (cells1 hk2).2⟩ ?_
  refine ord_e rfl rfl rfl ?_; intro K hK; go_simp
  refine hins.mono ?_; rintro e w3 ⟨v3, rfl, hown3, hk3⟩
  have hnbv : (Value.slice ao0 nd.pairs.length cp0).ownBlock ≠ some nb := h02.ne hbn2 (by decide)
  have hbn3 := (hk3.block nb (cells3 hbn2).2.2.2.2.2.2 hnbv).trans hbn2
  have hB3 : Below B w w3 := hB2.trans (hk3.toBelow (Nat.le_trans hnB hB2.size) (fun i hi e => absurd (h02.lo i e) (Nat.not_le.2 hi)))
  have hk3' : BoxS w3 kb key := (hB3.block kb hkB).trans hk
  have hv3' : BoxS w3 vb value := (hB3.block vb hvB).trans hv
  have h13 := h12.keep (w' := w3) (S' := S) (fun g hg hl hs => ⟨hk3.block g hl (fun e => OwnSl.ne2 h12 h02 (by decide) _ hg e), hs⟩)
  have h23 := h22.keep (w' := w3) (S' := S) (fun g hg hl hs => ⟨hk3.block g hl (fun e => OwnSl.ne2 h22 h02 (by decide) _ hg e), hs⟩)
  refine hK.out _ _ ⟨(cells3 hbn3).1, (cells3 hbn3).2.2.2.2.2.2, (cells1 hk3').1, (cells1 hk3').2⟩ ?_
  repeat ((refine ord_q (v := ?_) rfl rfl (fun _ _ _ h => h) rfl (fun W hW => ?_) ?_); rotate_left; (focus ((try dsimp only at hW); have q0 := hW.1; have q1 := hW.2.1; have q2 := hW.2.2.1; have q3 := hW.2.2.2; first | (go_simp; first | done | with_reducible rfl))); (try simp only [Act.put, List.setIfInBounds_toArray, List.set_cons_zero, List.set_cons_succ]))
  have hpl : (nd.pairs.take P ++ (key, (⟨#[]⟩ : ByteArray)) :: nd.pairs.drop P).length = nd.pairs.length + 1 := by simp only [List.length_append, List.length_take, List.length_cons, List.length_drop]; omega
  have hown3' : OwnSl w3 S B 53 2 v3 (nd.pairs.take P ++ (key, (⟨#[]⟩ : ByteArray)) :: nd.pairs.drop P).length (prCells (nd.pairs.take P ++ (key, (⟨#[]⟩ : ByteArray)) :: nd.pairs.drop P)) := by
    rw [hpl, prCells_append, prCells_cons, prCells_take, prCells_drop]; simpa using hown3
  have hpp : P < (nd.pairs.take P ++ (key, (⟨#[]⟩ : ByteArray)) :: nd.pairs.drop P).length := by rw [hpl]; omega
  have hset : (nd.pairs.take P ++ (key, (⟨#[]⟩ : ByteArray)) :: nd.pairs.drop P).set P (key, value) = nd.pairs.take P ++ (key, value) :: nd.pairs.drop P := by
    rw [List.set_append_right _ _ (by rw [List.length_take]; omega)]
    rw [show P - (nd.pairs.take P).length = 0 from by rw [List.length_take]; omega]
    rfl
  have hget : (nd.pairs.take P ++ (key, (⟨#[]⟩ : ByteArray)) :: nd.pairs.drop P)[P].1 = key := by
    have h1 : (nd.pairs.take P ++ (key, (⟨#[]⟩ : ByteArray)) :: nd.pairs.drop P)[P]? = some (key, (⟨#[]⟩ : ByteArray)) := by
      rw [List.getElem?_append_right (by rw [List.length_take]; omega), show P - (nd.pairs.take P).length = 0 from by rw [List.length_take]; omega]
      rfl
    rw [(List.getElem?_eq_some_iff.1 h1).2]
  generalize hX : nd.pairs.take P ++ (key, (⟨#[]⟩ : ByteArray)) :: nd.pairs.drop P = X at hown3' hpp hset hget hpl
  have HSet := Lib.hid hset; clear hset
  have HX := Lib.hid hX; clear hX
  have q := OwnNode.setPairs (nd := nd) hbn3 hS hB h13 h23 hown3' hB3
  obtain ⟨g, c, rfl, hc1, hc2, hBg, hgl⟩ := hown3'.form2 (by omega)
  have HPL := Lib.hid hpl; clear hpl
  have x0 : w3.frozen? ⟨nb, 0, none⟩ = false := (cells3 hbn3).2.2.2.1
  have x1 := (cells3 hbn3).1
  have x2 := (cells3 hbn3).2.2.2.2.2.2
  refine ord_l rfl rfl rfl (by kernel_rfl) ?_; intro K hK; go_simp
  refine hK.out _ _ ?_
  refine ord_nil ?_
  have hv4 : BoxS (w3.setCell ⟨nb, 0, none⟩ (.slice (some ⟨g, 0, none⟩) X.length c)) vb value := (q.2.block vb hvB).trans hv
  have hcell4 : (w3.setCell ⟨nb, 0, none⟩ (.slice (some ⟨g, 0, none⟩) X.length c)).cell? ⟨nb, 0, none⟩ = some (.slice (some ⟨g, 0, none⟩) X.length c) := by simp [World.setCell, World.cell?, Array.getElem?_modify, hbn3]
  generalize w3.setCell ⟨nb, 0, none⟩ (.slice (some ⟨g, 0, none⟩) X.length c) = w4 at *
  clear x0 x1 x2
  go_wp2_with fail
  obtain ⟨⟨_, _, u0, u1, u2, hb4, q0, q1, q2⟩, hB4⟩ := q
  have hu0 : u0 = .slice (some ⟨g, 0, none⟩) X.length c := by have e := hcell4.symm.trans (cells3 hb4).1; cases e; rfl
  subst hu0
  obtain ⟨cur, hrow, hcl, _⟩ := q0.row
  have hgl4 := hrow.lt
  have hlt4 := (cells3 hb4).2.2.2.2.2.2
  have hfr := hrow.frozen (P * 2 + 1)
  have hcc := hrow.cell (P * 2 + 1)
  have d0 : w4.drew.cell? ⟨nb, 0, none⟩ = some (.slice (some ⟨g, 0, none⟩) X.length c) := hcell4
  have d1 : w4.drew.cell? ⟨vb, 0, none⟩ = some (.string value) := (cells1 hv4).1
  have hvl4 := (cells1 hv4).2
  have hPi : (P : Int) < (X.length : Int) := by omega
  refine wp_region_ord (fun W => W = w4.drew) (fun i => !([8].contains i)) [0, 1, 2, 3, 4, 5, 6, 7, 8] rfl (by kernel_rfl) rfl ?_
  repeat ((refine ord_q (v := ?_) rfl rfl (fun _ _ _ h => h) rfl (fun W hW => ?_) ?_); rotate_left; (focus ((try dsimp only at hW); subst hW; first | (go_simp; first | done | with_reducible rfl))); (try simp only [Act.put, List.setIfInBounds_toArray, List.set_cons_zero, List.set_cons_succ]))
  have x0 : w4.drew.frozen? ⟨g, P * 2 + 1, none⟩ = false := hfr
  have x1 : w4.drew.cell? ⟨g, P * 2 + 1, none⟩ = some (cur.getD (P * 2 + 1) undef) := hcc.trans (by rw [List.getD_eq_getElem?_getD, List.getElem?_eq_getElem (by have : nd.pairs.length ≤ 999999 := hl; omega)]; rfl)
  refine ord_l rfl rfl rfl (by kernel_rfl) ?_; intro K hK; go_simp
  refine hK.out _ _ ?_
  refine ord_nil ?_
  go_wp2_with fail
  go_end0
  have qq := OwnNode.setValue (nd := ⟨X, nd.keys, nd.kids⟩) (W := w4.drew) (w := w) (value := value) P hpp hb4 hS hB q1 q2 q0 hB4.drew
  rw [HD.out, ← HSet.out]
  have e2 : X[P] = (key, X[P].2) := by rw [← hget]
  have e3 : X.set P (X[P].1, value) = X.set P (key, value) := by rw [hget]
  rw [← e3]
  exact ⟨rfl, qq.1, qq.2⟩

theorem put11_any (kb vb nb B : Nat) (key value : ByteArray) (nd : Nd) (S : Nat → Prop) (w : World) (hsub : ∀ g, S g → g < w.heap.size) (hk : BoxS w kb key) (hv : BoxS w vb value) (hkB : kb < B) (hvB : vb < B) (hn : OwnNode w S B nb nd) (hr : RisingP nd.pairs) (hl : nd.pairs.length ≤ 999999) :
    Calls Tryz.prog 34 #[.pointer (some ⟨nb, 0, none⟩), .pointer (some ⟨kb, 0, none⟩), .pointer (some ⟨vb, 0, none⟩)] w fun e w' => e = .returned (.tuple #[]) ∧ OwnNode w' S B nb ⟨insP nd.pairs key value, nd.keys, nd.kids⟩ ∧ Below B w w' := by
  cases hat : isAt nd.pairs key with
  | true => exact put11_has kb vb nb B key value nd S w hk hv hn hr (by omega) hat
  | false => exact put11_not kb vb nb B key value nd S w hsub hk hv hkB hvB hn hr hl hat
end Go.Proofs.YtbldcbakhpdigaaGreat

/- edit: on nothing, and on a leaf. -/
namespace Go.Proofs.YtbldcbakhpdigaaGreat
open Go.RowKit

/-- a closure that changes a leaf's pairs -/
def EditC (g : Nat) (cb : Array Value) (F : List Pr → List Pr) (bs : List (Nat × ByteArray)) : Prop :=
  ∀ (nb B : Nat) (nd : Nd) (S : Nat → Prop) (w : World), (∀ g, S g → g < w.heap.size) → (∀ p ∈ bs, BoxS w p.1 p.2 ∧ p.1 < B) → OwnNode w S B nb nd → RisingP nd.pairs → nd.pairs.length ≤ 999999 →
    Calls Tryz.prog g (#[.pointer (some ⟨nb, 0, none⟩)] ++ cb) w fun e w' => e = .returned (.tuple #[]) ∧ OwnNode w' S B nb ⟨F nd.pairs, nd.keys, nd.kids⟩ ∧ Below B w w'

/-- the variables that the closure holds are as they were -/
def Boxes (w : World) (S : Nat → Prop) (bs : List (Nat × ByteArray)) : Prop := ∀ p ∈ bs, BoxS w p.1 p.2 ∧ ¬ S p.1
theorem Boxes.step {w w' : World} {S S' : Nat → Prop} {bs : List (Nat × ByteArray)} (h : Boxes w S bs) (hs : Step S S' w w') : Boxes w' S' bs := fun p hp => by
  obtain ⟨h1, h2⟩ := h p hp
  have hl := (cells1 h1).2
  exact ⟨(hs.1.block _ hl h2).trans h1, fun x => (hs.2 _ x).elim h2 (fun y => absurd hl (Nat.not_lt.2 y))⟩
theorem Boxes.to {w w' : World} {S : Nat → Prop} {bs : List (Nat × ByteArray)} (h : Boxes w S bs) {S' : Nat → Prop} (hs : Step S S' w w') : ∀ p ∈ bs, BoxS w' p.1 p.2 ∧ p.1 < w.heap.size := fun p hp => ⟨((h.step hs) p hp).1, (cells1 (h p hp).1).2⟩

/-- a step in which no block below B changes: B is above the store's blocks -/
theorem Inv.keepB {σ : MSt} {S : Nat → Prop} {mp B : Nat} {w w' : World} (h : Inv σ S mp w) (hb : Below B w w') (hS : ∀ g, S g → g < B) : Inv σ S mp w' :=
  h.keepM (M := fun g => B ≤ g) ⟨hb.os, hb.tape, hb.output, hb.size, fun k _ hn => hb.block k (Nat.not_le.1 hn)⟩ (fun g hg => Nat.not_le.2 (hS g hg))
theorem TreeAt.stepB {w0 w w' : World} {t mp : Nat} {root err root' err' : Int} (h : TreeAt w t mp root err) (hb : Below w0.heap.size w w') (h0 : TreeAt w0 t mp root' err') : TreeAt w' t mp root err :=
  (hb.block t (Array.getElem?_eq_some_iff.1 h0).1).trans h
theorem Step.thenB {S S' : Nat → Prop} {w w1 w2 : World} (h : Step S S' w w1) (hb : Below w.heap.size w1 w2) : Step S S' w w2 :=
  ⟨⟨hb.os.trans h.1.os, hb.tape.trans h.1.tape, hb.output.trans h.1.output, Nat.le_trans h.1.size hb.size, fun k hk hn => (hb.block k hk).trans (h.1.block k hk hn)⟩, h.2⟩

theorem SprPost.mono {mp : Nat} {σ : MSt} {S0 S : Nat → Prop} {nd : Nd} {least : ByteArray} {w0 w : World} {e : Ending} {w' : World} (h : SprPost mp σ S nd least w e w') (hs : Step S0 S w0 w) : SprPost mp σ S0 nd least w0 e w' := by
  obtain ⟨v, ps, zs, σ', S', h1, h2, h3, h4, h5, h6⟩ := h
  exact ⟨v, ps, zs, σ', S', h1, h2.base hs.1.size, h3, h4, h5, hs.trans h6⟩

set_option maxRecDepth 100000 in
set_option maxHeartbeats 4000000 in
theorem edit_zero (t mp : Nat) (root err deep : Int) (σ : MSt) (S : Nat → Prop) (key least : ByteArray) (g : Nat) (cb : Array Value) (F : List Pr → List Pr) (bs : List (Nat × ByteArray)) (hent : ∀ args w, (callFunc g args).run Tryz.prog w = .ok (.enter g args) w) (hf : EditC g cb F bs)
    (w : World) (h : Inv σ S mp w) (ht : TreeAt w t mp root err) (hst : ¬ S t) (hbx : Boxes w S bs) (ok : Nd.Ok ⟨F [], [], []⟩) (hroom : Maps.size σ.D + Nd.room ⟨F [], [], []⟩ ≤ σ.most) :
    Calls Tryz.prog 33 #[.pointer (some ⟨t, 0, none⟩), .int .i64 0, .int .i64 deep, .string key, .string least, .func (.func g) #[] cb] w (SprPost mp σ S ⟨F [], [], []⟩ key w) := by
  have HR := Lib.hid hroom; clear hroom
  have Hf := Lib.hid hf; clear hf
  have hsub := h.sub
  go_enter Tryz.func33, Tryz.ntmps33
  have hb0 := below_one w (.cells #[.slice none 0 0, .slice none 0 0, .slice none 0 0] 74)
  have hs0 : Step S S w (w.alloc (.cells #[.slice none 0 0, .slice none 0 0, .slice none 0 0] 74)) := Step.of_below hb0
  have hn0 : OwnNode (w.alloc (.cells #[.slice none 0 0, .slice none 0 0, .slice none 0 0] 74)) S w.heap.size w.heap.size ⟨[], [], []⟩ :=
    ⟨fun x => absurd (hsub _ x) (Nat.lt_irrefl _), Nat.le_refl _, _, _, _, heap_alloc_new w _, OwnSl.nil _ _ _ _ _, OwnSl.nil _ _ _ _ _, OwnSl.nil _ _ _ _ _⟩
  go_wp2_with (first
    | ((refine (Hf.out w.heap.size w.heap.size ⟨[], [], []⟩ S _ (fun g hg => Nat.lt_of_lt_of_le (hsub g hg) hb0.size) (hbx.to hs0) hn0 List.Pairwise.nil (Nat.zero_le _)).mono ?_); rintro e w1 ⟨rfl, hn1, hb1⟩)
    | (go_at_call 46; go_must ((refine (spread_any t mp root err _ σ S w.heap.size ⟨F [], [], []⟩ key w1 (h.below (hb0.trans hb1)) (ht.step hst (Step.of_below (hb0.trans hb1))).1 hst hn1.isNode ok (Nat.lt_succ_self _) HR.out).mono ?_); rintro e w2 ⟨v, ps, zs, σ', S', rfl, p2, p3, p4, p5, p6⟩)))
  go_ret
  exact SprPost.mono ⟨v, ps, zs, σ', S', rfl, p2, p3, p4, p5, p6⟩ (Step.of_below (hb0.trans hb1))

set_option maxRecDepth 100000 in
set_option maxHeartbeats 4000000 in
theorem edit_leaf (t mp : Nat) (root err b deep : Int) (σ : MSt) (S : Nat → Prop) (key least : ByteArray) (nd : Nd) (g : Nat) (cb : Array Value) (F : List Pr → List Pr) (bs : List (Nat × ByteArray)) (hent : ∀ args w, (callFunc g args).run Tryz.prog w = .ok (.enter g args) w) (hf : EditC g cb F bs)
    (w : World) (h : Inv σ S mp w) (ht : TreeAt w t mp root err) (hst : ¬ S t) (hbx : Boxes w S bs) (hb : Blk σ b nd) (hk : nd.kids = []) (hd : deep ≤ 40) (hr : RisingP nd.pairs) (ok : Nd.Ok ⟨F nd.pairs, [], []⟩) (hroom : Maps.size (σ.gone b).D + Nd.room ⟨F nd.pairs, [], []⟩ ≤ (σ.gone b).most) :
    Calls Tryz.prog 33 #[.pointer (some ⟨t, 0, none⟩), .int .i64 b, .int .i64 deep, .string key, .string least, .func (.func g) #[] cb] w (SprPost mp (σ.gone b) S ⟨F nd.pairs, [], []⟩ least w) := by
  have HR := Lib.hid hroom; clear hroom
  have Hf := Lib.hid hf; clear hf
  have hsub := h.sub
  have hb0 : (b == 0) = false := by have := hb.lo; simp; omega
  have hke : nd.kids.isEmpty = true := by rw [hk]; rfl
  have hnp := hb.fits.np
  have hkk := hb.fits.kk
  rw [hk] at hkk
  have hkey : nd.keys = [] := List.eq_nil_of_length_eq_zero (by simpa using hkk)
  have Hkey := Lib.hid hkey; clear hkey hkk
  go_enter Tryz.func33, Tryz.ntmps33
  go_wp2_with (first
    | (go_at_call 48; go_must ((refine (take_any t mp root err b deep σ S nd w h ht hst hb hd).mono ?_); rintro e w1 ⟨nb, rfl, hn1, hI1, hs1⟩))
    | (go_at_call 37; go_must ((refine (leaf_any nb nd _ S hn1.isNode).mono ?_); rintro e w2 ⟨rfl, hw⟩; subst w2; rw [hke]))
    | ((refine (Hf.out nb w.heap.size nd S _ hI1.sub (hbx.to hs1) hn1 hr (by omega)).mono ?_); rw [Hkey.out, hk]; rintro e w2 ⟨rfl, hn2, hb2⟩)
    | (go_at_call 46; go_must ((refine (spread_any t mp root err _ (σ.gone b) S nb ⟨F nd.pairs, [], []⟩ least w2 (hI1.keepB hb2 hsub) ((ht.step hst hs1).1.stepB hb2 ht) hst hn2.isNode ok (Nat.lt_succ_self _) HR.out).mono ?_); rintro e w3 ⟨v, ps, zs, σ', S', rfl, p2, p3, p4, p5, p6⟩)))
  go_ret
  exact SprPost.mono ⟨v, ps, zs, σ', S', rfl, p2, p3, p4, p5, p6⟩ (hs1.thenB hb2)
end Go.Proofs.YtbldcbakhpdigaaGreat

/- grow, of no piece and of one leaf's. -/
namespace Go.Proofs.YtbldcbakhpdigaaGreat
open Go.RowKit

set_option maxRecDepth 100000 in
set_option maxHeartbeats 4000000 in
theorem grow_nil (t : Nat) (v : Value) (S : Nat → Prop) (w : World) (hv : IsPcs w S v []) :
    Calls Tryz.prog 32 #[.pointer (some ⟨t, 0, none⟩), v] w fun e w' => e = .returned (.int .i64 0) ∧ w' = w := by
  obtain ⟨ao, c, rfl, n0, m0, _, _⟩ := IsSl.form hv
  go_enter Tryz.func32, Tryz.ntmps32
  go_wp2
  go_loopw [1, 5, 6, 7] (fun l _ _ _ wr => l = .slice ao 0 c ∧ wr = w) (fun _ _ _ _ _ => 0)
  case atStart => exact ⟨rfl, rfl⟩
  case round =>
    obtain ⟨rfl, rfl⟩ := hrel
    go_wp2_with fail
    go_ret
    exact ⟨rfl, rfl⟩

set_option maxRecDepth 100000 in
set_option maxHeartbeats 4000000 in
theorem grow_leaf (t mp : Nat) (root err : Int) (σ : MSt) (v : Value) (b : Int) (key : ByteArray) (nd : Nd) (S : Nat → Prop) (w : World) (h : Inv σ S mp w) (ht : TreeAt w t mp root err) (_hst : ¬ S t) (hv : IsPcs w S v [(b, key)]) (hb : Blk σ b nd) (hk : nd.kids = []) :
    Calls Tryz.prog 32 #[.pointer (some ⟨t, 0, none⟩), v] w fun e w' => e = .returned (.int .i64 b) ∧ Below w.heap.size w w' := by
  have hvv := hv
  obtain ⟨ao, c, rfl, n0, m0, _, _⟩ := IsSl.form hv
  obtain ⟨pb, po, rfl, d0, d1⟩ := hvv.at rfl 0 (Nat.lt_succ_self 0)
  have hpl := World.block_lt_of_cell? w _ d0
  go_enter Tryz.func32, Tryz.ntmps32
  have d0' : w.cell? ⟨pb, po, none⟩ = some (.int .i64 b) := d0
  have d1' : w.cell? ⟨pb, po + 1, none⟩ = some (.string key) := d1
  have hpl' : pb < w.heap.size := hpl
  clear d0 d1 hpl
  go_wp2
  go_loopw [1, 5, 6, 7] (fun l _ _ _ wr => l = .slice (some ⟨pb, po, none⟩) 1 c ∧ wr = w) (fun _ _ _ _ _ => 0)
  case atStart => exact ⟨rfl, rfl⟩
  case round =>
    obtain ⟨rfl, rfl⟩ := hrel
    go_wp2_with fail
    go_loopw [8, 9, 10, 11] (fun x y _ _ wr' => x = .int .i64 b ∧ y = .int .i64 0 ∧ wr' = wr) (fun _ _ _ _ _ => 0)
    case atStart => exact ⟨rfl, rfl, rfl⟩
    case round =>
      obtain ⟨rfl, rfl, rfl⟩ := hrel
      go_wp2_with (first
        | (go_at_call 23; go_must ((refine (load_any t mp root err b 0 σ S nd _ h ht hb (by omega)).mono ?_); rintro e w1 ⟨nb, rfl, hn1, hb1⟩))
        | (go_at_call 47; go_must ((refine (must_ok _).mono ?_); rintro e w2 ⟨rfl, hw⟩; subst w2; refine Stop.of ?_)))
      refine Stop.on ?_
      obtain ⟨_, x0, x1, x2, hbn, _, _, hx2⟩ := hn1.isNode
      obtain ⟨_, _, e2, _, _, _, hlt⟩ := cells3 hbn
      rw [hk] at hx2
      obtain ⟨ao2, c2, rfl, _⟩ := IsSl.form hx2
      go_wp2_with fail
      go_ret
      exact ⟨rfl, hb1⟩
end Go.Proofs.YtbldcbakhpdigaaGreat

/- change: what may give up; here nothing gives up. -/
namespace Go.Proofs.YtbldcbakhpdigaaGreat
open Go.RowKit

set_option maxRecDepth 100000 in
set_option maxHeartbeats 400000 in
theorem change1_idle (tb rb : Nat) (w : World) :
    CallsD Tryz.prog 45 #[.pointer (some ⟨tb, 0, none⟩), .pointer (some ⟨rb, 0, none⟩)] .returning w fun e u' w' => e = .returned (.tuple #[]) ∧ u' = .returning ∧ Below w.heap.size w w' := by
  refine callsD_of_wpS Tryz.func45 rfl fun c₀ cs hu => ?_
  apply wpS_seq
  apply wpS_region
  have hta : ∀ w : World, (Instr.typeAssert Value.nilIface 20 96 true).run Tryz.prog w = .ok (.tuple #[.agg #[.int .i64 0], .bool false]) w := fun _ => by kernel_rfl
  simp [wpOpsS, go_sem, recoverD, hu, Tryz.ntmps45, Exit.thenS, hta, Array.replicate, List.replicate]
  apply wpS_seq
  apply wpS_region
  simp [wpOpsS, go_sem, Exit.thenS]
  refine wpS_cond (t := false) (by simp [Act.eval]) ?_
  simp only [Bool.false_eq_true, if_false]
  refine wpS_of_wp (wp_skip ?_)
  cases c₀
  simp_all [bodyPostS, results, Tryz.results45]
  exact below_one _ _

set_option maxRecDepth 100000 in
set_option maxHeartbeats 400000 in
theorem change_any (t : Nat) (g : Nat) (cb : Array Value) (w : World) (R : World → Prop) (hent : ∀ args w, (callFunc g args).run Tryz.prog w = .ok (.enter g args) w)
    (hf : Calls Tryz.prog g cb ((w.alloc (.cells #[.pointer (some ⟨t, 0, none⟩)] 26)).alloc (.cells #[.int .i64 0] 37)) fun e w' => e = .returned (.tuple #[]) ∧ R w' ∧ w'.heap[w.heap.size + 1]? = some (.cells #[.int .i64 0] 37 (0, 0))) :
    Calls Tryz.prog 30 #[.pointer (some ⟨t, 0, none⟩), .func (.func g) #[] cb] w fun e w' => e = .returned (.int .i64 0) ∧ ∃ w1, R w1 ∧ Keep (· = w.heap.size + 1) w1 w' := by
  have hmf : ∀ (fn : Fn) (first cap : Array Value) (w : World), (Instr.makeFunc fn first cap).run Tryz.prog w = .ok (.func fn first cap) w := fun _ _ _ _ => rfl
  have Hf := Lib.hid hf; clear hf
  go_enter_defers Tryz.func30, Tryz.ntmps30
  go_wp2_with (refine Hf.out.mono ?_; rintro e w1 ⟨rfl, hR, hr⟩; refine Stop.of ?_)
  have r0 : w1.cell? ⟨w.heap.size + 1, 0, none⟩ = some (.int .i64 0) := by simp [World.cell?, hr]
  have r1 : w1.frozen? ⟨w.heap.size + 1, 0, none⟩ = false := by simp [World.frozen?, hr]
  have r2 := (Array.getElem?_eq_some_iff.1 hr).1
  refine Stop.on ?_
  go_wp2_with fail
  have hk : Keep (· = w.heap.size + 1) w1 (w1.setCell ⟨w.heap.size + 1, 0, none⟩ (.int .i64 0)) := Keep.setCell (M := (· = w.heap.size + 1)) (p := ⟨w.heap.size + 1, 0, none⟩) (Keep.refl _ _) (.inr rfl) _
  have hr' : (w1.setCell ⟨w.heap.size + 1, 0, none⟩ (.int .i64 0)).cell? ⟨w.heap.size + 1, 0, none⟩ = some (.int .i64 0) := by simp [World.setCell, World.cell?, Array.getElem?_modify, hr]
  have hlt' : w.heap.size + 1 < (w1.setCell ⟨w.heap.size + 1, 0, none⟩ (.int .i64 0)).heap.size := Nat.lt_of_lt_of_le r2 hk.size
  generalize w1.setCell ⟨w.heap.size + 1, 0, none⟩ (.int .i64 0) = w2 at *
  refine leaves_cons (f := 45) (args := #[.pointer (some ⟨w.heap.size, 0, none⟩), .pointer (some ⟨w.heap.size + 1, 0, none⟩)]) (by simp) (by simp [go_sem]) ?_
  refine (change1_idle w.heap.size (w.heap.size + 1) w2).mono ?_
  rintro e u' w'' ⟨rfl, rfl, hb⟩
  have hc : w''.cell? ⟨w.heap.size + 1, 0, none⟩ = some (.int .i64 0) := (hb.cell (p := ⟨w.heap.size + 1, 0, none⟩) hlt').trans hr'
  have hfin : Keep (· = w.heap.size + 1) w1 w'' := hk.trans (Keep.of_below hb (fun _ => False)) (fun _ _ h => h.elim)
  refine ⟨_, ?_, rfl, w1, hR, hfin⟩
  simp [results, Tryz.results30, go_sem, hc]
end Go.Proofs.YtbldcbakhpdigaaGreat

/- The outer closures of Put and Delete. (Printed by gen/put.py.) -/
namespace Go.Proofs.YtbldcbakhpdigaaGreat
open Go.RowKit

/-- what the outer closures' own code reads: the tree, its variable, the key's variable -/
structure SB (t mp : Nat) (root err : Int) (tb kb : Nat) (key : ByteArray) (W : World) : Prop where
  tr : TreeAt W t mp root err
  bx : W.heap[tb]? = some (.cells #[.pointer (some ⟨t, 0, none⟩)] 26 (0, 0))
  ky : BoxS W kb key

theorem SB.cells {t mp : Nat} {root err : Int} {tb kb : Nat} {key : ByteArray} {W : World} (h : SB t mp root err tb kb key W) :
    W.cell? ⟨tb, 0, none⟩ = some (.pointer (some ⟨t, 0, none⟩)) ∧ tb < W.heap.size ∧ W.cell? ⟨t, 1, none⟩ = some (.int .i64 root) ∧ t < W.heap.size ∧ W.cell? ⟨kb, 0, none⟩ = some (.string key) ∧ kb < W.heap.size ∧ W.frozen? ⟨t, 1, none⟩ = false := by
  obtain ⟨_, c1, _, _, f1, _, hlt⟩ := cells3 h.tr
  exact ⟨by simp [World.cell?, h.bx], (Array.getElem?_eq_some_iff.1 h.bx).1, c1, hlt, (cells1 h.ky).1, (cells1 h.ky).2, f1⟩

set_option maxRecDepth 100000 in
set_option maxHeartbeats 2000000 in
theorem put1_of (t mp tb kb vb : Nat) (root err : Int) (key : ByteArray) (w : World) (R : Int → World → Prop) (hS : SB t mp root err tb kb key w)
    (hE : Calls Tryz.prog 33 #[.pointer (some ⟨t, 0, none⟩), .int .i64 root, .int .i64 0, .string key, .string ⟨#[]⟩, .func (.func 34) #[] #[.pointer (some ⟨kb, 0, none⟩), .pointer (some ⟨vb, 0, none⟩)]] w.drew fun e w1 => ∃ v, e = .returned v ∧ SB t mp root err tb kb key w1 ∧
      Calls Tryz.prog 32 #[.pointer (some ⟨t, 0, none⟩), v] w1 fun e2 w2 => ∃ b, e2 = .returned (.int .i64 b) ∧ SB t mp root err tb kb key w2 ∧ R b w2) :
    Calls Tryz.prog 31 #[.pointer (some ⟨tb, 0, none⟩), .pointer (some ⟨kb, 0, none⟩), .pointer (some ⟨vb, 0, none⟩)] w fun e w' => e = .returned (.tuple #[]) ∧ ∃ b w2, R b w2 ∧ SB t mp root err tb kb key w2 ∧ w' = w2.setCell ⟨t, 1, none⟩ (.int .i64 b) := by
  have HE := Lib.hid hE; clear hE
  go_enter Tryz.func31, Tryz.ntmps31
  go_wp2_with fail
  have hmf : ∀ (fn : Fn) (first cap : Array Value) (w : World), (Instr.makeFunc fn first cap).run Tryz.prog w = .ok (.func fn first cap) w := fun _ _ _ _ => rfl
  refine wp_region_ord (fun W => SB t mp root err tb kb key W) (fun i => !([9, 10, 13].contains i)) [0, 1, 2, 3, 4, 5, 6, 7, 8, 9, 10, 11, 12, 13] rfl (by kernel_rfl) ⟨hS.tr, hS.bx, hS.ky⟩ ?_
  repeat ((refine ord_q (v := ?_) rfl rfl (fun _ _ _ h => h) rfl (fun W hW => ?_) ?_); rotate_left; (focus ((try dsimp only at hW); obtain ⟨q0, q1, q2, q3, q4, q5, q6⟩ := hW.cells; first | (go_simp; first | done | with_reducible rfl))); (try simp only [Act.put, List.setIfInBounds_toArray, List.set_cons_zero, List.set_cons_succ]))
  refine ord_e rfl rfl rfl ?_; intro K hK; go_simp
  refine HE.out.mono ?_; rintro e w1 ⟨v, rfl, hS1, hG⟩
  refine hK.out _ _ hS1 ?_
  refine ord_e rfl rfl rfl ?_; intro K hK; go_simp
  refine hG.mono ?_; rintro e w2 ⟨b, rfl, hS2, hR⟩
  refine hK.out _ _ hS2 ?_
  repeat ((refine ord_q (v := ?_) rfl rfl (fun _ _ _ h => h) rfl (fun W hW => ?_) ?_); rotate_left; (focus ((try dsimp only at hW); obtain ⟨q0, q1, q2, q3, q4, q5, q6⟩ := hW.cells; first | (go_simp; first | done | with_reducible rfl))); (try simp only [Act.put, List.setIfInBounds_toArray, List.set_cons_zero, List.set_cons_succ]))
  obtain ⟨_, _, x2, x3, _, _, x6⟩ := hS2.cells
  refine ord_l rfl rfl rfl (by kernel_rfl) ?_; intro K hK; go_simp
  refine hK.out _ _ ?_
  refine ord_nil ?_
  go_wp2_with fail
  go_end0
  exact ⟨rfl, b, w2, hR, hS2, rfl⟩

set_option maxRecDepth 100000 in
set_option maxHeartbeats 2000000 in
theorem delete1_of (t mp tb kb : Nat) (root err : Int) (key : ByteArray) (w : World) (R : Int → World → Prop) (hS : SB t mp root err tb kb key w)
    (hE : Calls Tryz.prog 33 #[.pointer (some ⟨t, 0, none⟩), .int .i64 root, .int .i64 0, .string key, .string ⟨#[]⟩, .func (.func 40) #[] #[.pointer (some ⟨kb, 0, none⟩)]] w.drew fun e w1 => ∃ v, e = .returned v ∧ SB t mp root err tb kb key w1 ∧
      Calls Tryz.prog 32 #[.pointer (some ⟨t, 0, none⟩), v] w1 fun e2 w2 => ∃ b, e2 = .returned (.int .i64 b) ∧ SB t mp root err tb kb key w2 ∧ R b w2) :
    Calls Tryz.prog 39 #[.pointer (some ⟨tb, 0, none⟩), .pointer (some ⟨kb, 0, none⟩)] w fun e w' => e = .returned (.tuple #[]) ∧ ∃ b w2, R b w2 ∧ SB t mp root err tb kb key w2 ∧ w' = w2.setCell ⟨t, 1, none⟩ (.int .i64 b) := by
  have HE := Lib.hid hE; clear hE
  go_enter Tryz.func39, Tryz.ntmps39
  go_wp2_with fail
  have hmf : ∀ (fn : Fn) (first cap : Array Value) (w : World), (Instr.makeFunc fn first cap).run Tryz.prog w = .ok (.func fn first cap) w := fun _ _ _ _ => rfl
  refine wp_region_ord (fun W => SB t mp root err tb kb key W) (fun i => !([9, 10, 13].contains i)) [0, 1, 2, 3, 4, 5, 6, 7, 8, 9, 10, 11, 12, 13] rfl (by kernel_rfl) ⟨hS.tr, hS.bx, hS.ky⟩ ?_
  repeat ((refine ord_q (v := ?_) rfl rfl (fun _ _ _ h => h) rfl (fun W hW => ?_) ?_); rotate_left; (focus ((try dsimp only at hW); obtain ⟨q0, q1, q2, q3, q4, q5, q6⟩ := hW.cells; first | (go_simp; first | done | with_reducible rfl))); (try simp only [Act.put, List.setIfInBounds_toArray, List.set_cons_zero, List.set_cons_succ]))
  refine ord_e rfl rfl rfl ?_; intro K hK; go_simp
  refine HE.out.mono ?_; rintro e w1 ⟨v, rfl, hS1, hG⟩
  refine hK.out _ _ hS1 ?_
  refine ord_e rfl rfl rfl ?_; intro K hK; go_simp
  refine hG.mono ?_; rintro e w2 ⟨b, rfl, hS2, hR⟩
  refine hK.out _ _ hS2 ?_
  repeat ((refine ord_q (v := ?_) rfl rfl (fun _ _ _ h => h) rfl (fun W hW => ?_) ?_); rotate_left; (focus ((try dsimp only at hW); obtain ⟨q0, q1, q2, q3, q4, q5, q6⟩ := hW.cells; first | (go_simp; first | done | with_reducible rfl))); (try simp only [Act.put, List.setIfInBounds_toArray, List.set_cons_zero, List.set_cons_succ]))
  obtain ⟨_, _, x2, x3, _, _, x6⟩ := hS2.cells
  refine ord_l rfl rfl rfl (by kernel_rfl) ?_; intro K hK; go_simp
  refine hK.out _ _ ?_
  refine ord_nil ?_
  go_wp2_with fail
  go_end0
  exact ⟨rfl, b, w2, hR, hS2, rfl⟩
end Go.Proofs.YtbldcbakhpdigaaGreat

/- Put: what it does around the change. -/
namespace Go.Proofs.YtbldcbakhpdigaaGreat
open Go.RowKit

theorem usable_any (t mp : Nat) (root err : Int) (w : World) (h : TreeAt w t mp root err) :
    Calls Tryz.prog 22 #[.pointer (some ⟨t, 0, none⟩)] w fun e w' => e = .returned (.int .i64 err) ∧ w' = w := by
  obtain ⟨_, _, c2, _, _, _, hlt⟩ := cells3 h
  go_enter Tryz.func22, Tryz.ntmps22
  go_wp2
  go_ret
  exact ⟨rfl, rfl⟩

theorem goodKey_yes (k : ByteArray) (w : World) (h1 : 1 ≤ k.size) (h2 : k.size ≤ 128) :
    Calls Tryz.prog 29 #[.string k] w fun e w' => e = .returned (.bool true) ∧ w' = w := by
  have x1 : (1 : Int) ≤ (k.size : Int) := by omega
  have x2 : (k.size : Int) ≤ 128 := by omega
  go_enter Tryz.func29, Tryz.ntmps29
  go_wp2
  go_ret
  exact ⟨by simp [*], rfl⟩
theorem goodKey_no (k : ByteArray) (w : World) (h : ¬ (1 ≤ k.size ∧ k.size ≤ 128)) :
    Calls Tryz.prog 29 #[.string k] w fun e w' => e = .returned (.bool false) ∧ w' = w := by
  by_cases h1 : 1 ≤ k.size
  · have x1 : (1 : Int) ≤ (k.size : Int) := by omega
    have h2 : ¬ k.size ≤ 128 := fun x => h ⟨h1, x⟩
    have x2 : ¬ (k.size : Int) ≤ 128 := by omega
    go_enter Tryz.func29, Tryz.ntmps29
    go_wp2
    go_ret
    exact ⟨by simp [*], rfl⟩
  · have x1 : ¬ (1 : Int) ≤ (k.size : Int) := by omega
    go_enter Tryz.func29, Tryz.ntmps29
    go_wp2
    go_ret
    exact ⟨by simp [*], rfl⟩

set_option maxRecDepth 100000 in
set_option maxHeartbeats 2000000 in
theorem put_of (t mp : Nat) (root : Int) (key value : ByteArray) (w : World) (R : World → Int → World → Prop) (ht : TreeAt w t mp root 0) (hk1 : 1 ≤ key.size) (hk2 : key.size ≤ 128) (hv : value.size ≤ 64)
    (hE : ∀ (W : World) (tb kb vb : Nat), Below w.heap.size w W → w.heap.size ≤ tb → w.heap.size ≤ kb → w.heap.size ≤ vb → SB t mp root 0 tb kb key W → BoxS W vb value →
      Calls Tryz.prog 33 #[.pointer (some ⟨t, 0, none⟩), .int .i64 root, .int .i64 0, .string key, .string ⟨#[]⟩, .func (.func 34) #[] #[.pointer (some ⟨kb, 0, none⟩), .pointer (some ⟨vb, 0, none⟩)]] W fun e w1 => ∃ v, e = .returned v ∧ SB t mp root 0 tb kb key w1 ∧
        Calls Tryz.prog 32 #[.pointer (some ⟨t, 0, none⟩), v] w1 fun e2 w2 => ∃ b, e2 = .returned (.int .i64 b) ∧ SB t mp root 0 tb kb key w2 ∧ (∀ g, w.heap.size ≤ g → g < W.heap.size → w2.heap[g]? = W.heap[g]?) ∧ W.heap.size ≤ w2.heap.size ∧ R W b w2) :
    Calls Tryz.prog 14 #[.pointer (some ⟨t, 0, none⟩), .string key, .string value] w fun e w' => e = .returned (.int .i64 0) ∧
      ∃ W b w2 rb, Below w.heap.size w W ∧ R W b w2 ∧ w.heap.size ≤ rb ∧ rb < W.heap.size ∧ W.heap.size ≤ w2.heap.size ∧ Keep (fun g => g = rb ∨ g = t) w2 w' ∧ TreeAt w' t mp b 0 := by
  have HE := Lib.hid hE; clear hE
  have x2 : ¬ ((64 : Int) < (value.size : Int)) := by omega
  have hmf : ∀ (fn : Fn) (first cap : Array Value) (w : World), (Instr.makeFunc fn first cap).run Tryz.prog w = .ok (.func fn first cap) w := fun _ _ _ _ => rfl
  have hb3 := below_three w (.cells #[.pointer (some ⟨t, 0, none⟩)] 26) (.cells #[.string key] 9) (.cells #[.string value] 9)
  have htl : t < w.heap.size := (Array.getElem?_eq_some_iff.1 ht).1
  have ht3 := (hb3.block t htl).trans ht
  have hcb : ∀ W3, W3 = (((w.alloc (.cells #[.pointer (some ⟨t, 0, none⟩)] 26)).alloc (.cells #[.string key] 9)).alloc (.cells #[.string value] 9)) →
      Calls Tryz.prog 30 #[.pointer (some ⟨t, 0, none⟩), .func (.func 31) #[] #[.pointer (some ⟨w.heap.size, 0, none⟩), .pointer (some ⟨w.heap.size + 1, 0, none⟩), .pointer (some ⟨w.heap.size + 1 + 1, 0, none⟩)]] W3 fun e w' => e = .returned (.int .i64 0) ∧
        ∃ W b w2 rb, Below w.heap.size w W ∧ R W b w2 ∧ w.heap.size ≤ rb ∧ rb < W.heap.size ∧ W.heap.size ≤ w2.heap.size ∧ Keep (fun g => g = rb ∨ g = t) w2 w' ∧ TreeAt w' t mp b 0 := by
    intro W3 hW3
    have hbW3 : Below w.heap.size w W3 := by rw [hW3]; exact hb3
    have hs3 : W3.heap.size = w.heap.size + 3 := by rw [hW3]; simp
    have b0 : W3.heap[w.heap.size]? = some (.cells #[.pointer (some ⟨t, 0, none⟩)] 26 (0, 0)) := by
      rw [hW3]; exact ((below_two (w.alloc _) _ _).block _ (by simp)).trans (heap_alloc_new w _)
    have b1 : W3.heap[w.heap.size + 1]? = some (.cells #[.string key] 9 (0, 0)) := by
      rw [hW3]; exact ((below_one ((w.alloc _).alloc _) _).block _ (by simp)).trans (by have := heap_alloc_new (w.alloc (.cells #[.pointer (some ⟨t, 0, none⟩)] 26)) (.cells #[.string key] 9); rwa [World.size_alloc] at this)
    have b2 : W3.heap[w.heap.size + 1 + 1]? = some (.cells #[.string value] 9 (0, 0)) := by
      rw [hW3]; have := heap_alloc_new ((w.alloc (.cells #[.pointer (some ⟨t, 0, none⟩)] 26)).alloc (.cells #[.string key] 9)) (.cells #[.string value] 9); rwa [World.size_alloc, World.size_alloc] at this
    clear hW3
    have hbV := below_two W3 (.cells #[.pointer (some ⟨t, 0, none⟩)] 26) (.cells #[.int .i64 0] 37)
    have hsV : ((W3.alloc (.cells #[.pointer (some ⟨t, 0, none⟩)] 26)).alloc (.cells #[.int .i64 0] 37)).heap.size = w.heap.size + 5 := by simp [hs3]
    have hbwV := hbW3.trans (hbV.mono (by omega))
    have c0 := (hbV.block _ (by omega)).trans b0
    have c1 := (hbV.block _ (by omega)).trans b1
    have c2 := (hbV.block _ (by omega)).trans b2
    have ctr : TreeAt ((W3.alloc (.cells #[.pointer (some ⟨t, 0, none⟩)] 26)).alloc (.cells #[.int .i64 0] 37)) t mp root 0 := (hbwV.block t htl).trans ht
    have crb : ((W3.alloc (.cells #[.pointer (some ⟨t, 0, none⟩)] 26)).alloc (.cells #[.int .i64 0] 37)).heap[W3.heap.size + 1]? = some (.cells #[.int .i64 0] 37 (0, 0)) := by
      have := heap_alloc_new (W3.alloc (.cells #[.pointer (some ⟨t, 0, none⟩)] 26)) (.cells #[.int .i64 0] 37); rwa [World.size_alloc] at this
    have hch := change_any t 31 #[.pointer (some ⟨w.heap.size, 0, none⟩), .pointer (some ⟨w.heap.size + 1, 0, none⟩), .pointer (some ⟨w.heap.size + 1 + 1, 0, none⟩)] W3
      (fun w' => ∃ W b w2, Below w.heap.size w W ∧ R W b w2 ∧ W3.heap.size + 1 < W.heap.size ∧ W.heap.size ≤ w2.heap.size ∧ SB t mp root 0 w.heap.size (w.heap.size + 1) key w2 ∧ w' = w2.setCell ⟨t, 1, none⟩ (.int .i64 b)) (fun _ _ => by kernel_rfl)
    generalize (W3.alloc (.cells #[.pointer (some ⟨t, 0, none⟩)] 26)).alloc (.cells #[.int .i64 0] 37) = V at *
    have hp1 := put1_of t mp w.heap.size (w.heap.size + 1) (w.heap.size + 1 + 1) root 0 key V (fun b w2 => (∀ g, w.heap.size ≤ g → g < V.drew.heap.size → w2.heap[g]? = V.drew.heap[g]?) ∧ V.drew.heap.size ≤ w2.heap.size ∧ R V.drew b w2) ⟨ctr, c0, c1⟩ ((HE.out V.drew w.heap.size (w.heap.size + 1) (w.heap.size + 1 + 1) hbwV.drew (Nat.le_refl _) (by omega) (by omega) ⟨ctr, c0, c1⟩ c2).mono fun e w1 ⟨v, h1, h2, h3⟩ => ⟨v, h1, h2, h3.mono fun e2 w2 ⟨b, k1, k2, k3, k4, k5⟩ => ⟨b, k1, k2, k3, k4, k5⟩⟩)
    refine (hch (hp1.mono ?_)).mono ?_
    · rintro e w' ⟨rfl, b, w2, ⟨k3, k4, k5⟩, hS2, rfl⟩
      refine ⟨rfl, ⟨V.drew, b, w2, hbwV.drew, k5, (by show _ < V.heap.size; omega), k4, hS2, rfl⟩, ?_⟩
      rw [Below.heap_setCell _ _ _ _ (by simp; omega)]
      exact (k3 _ (by omega) (by show _ < V.heap.size; omega)).trans crb
    · rintro e w' ⟨rfl, w1, ⟨W, b, w2, q1, q2, q3, q4, q5, rfl⟩, hk⟩
      have hk5 : Keep (· = t) w2 (w2.setCell ⟨t, 1, none⟩ (.int .i64 b)) := Keep.setCell (M := (· = t)) (p := ⟨t, 1, none⟩) (Keep.refl _ _) (.inr rfl) _
      refine ⟨rfl, W, b, w2, W3.heap.size + 1, q1, q2, by omega, q3, q4, (hk5.mono (fun _ _ h => .inr h)).trans hk (fun _ _ h => .inl h), ?_⟩
      have h5 : (w2.setCell ⟨t, 1, none⟩ (.int .i64 b)).heap[t]? = some (.cells #[.iface 24 (.pointer (some ⟨mp, 0, none⟩)), .int .i64 b, .int .i64 0] 61 (0, 0)) := by
        have := q5.tr; unfold TreeAt at this
        simp [World.setCell, Array.getElem?_modify, this]
      exact (hk.block t (Array.getElem?_eq_some_iff.1 h5).1 (by omega)).trans h5
  have hC := Lib.hid (hcb _ rfl); clear hcb
  go_enter Tryz.func14, Tryz.ntmps14
  go_wp2_with (first
    | (go_at_call 22; go_must ((refine (usable_any t mp root 0 _ ht3).mono ?_); rintro e w1 ⟨rfl, hw⟩; subst w1))
    | (go_at_call 29; go_must ((refine (goodKey_yes key _ hk1 hk2).mono ?_); rintro e w1 ⟨rfl, hw⟩; subst w1))
    | (go_at_call 30; go_must (refine hC.out.mono ?_; rintro e w1 ⟨rfl, hres⟩)))
  go_ret
  exact ⟨rfl, hres⟩
end Go.Proofs.YtbldcbakhpdigaaGreat

/- Get: down the tree to a key. -/
namespace Go.Proofs.YtbldcbakhpdigaaGreat
open Go.RowKit

/-- a leaf's value at a key -/
def lookP (ps : List Pr) (key : ByteArray) : Option ByteArray := if isAt ps key then (ps[posAt ps key]?).map (·.2) else none

/-- what lies at a key below a block; at most n levels of inner nodes -/
inductive Look (σ : MSt) (key : ByteArray) : Nat → Int → Option ByteArray → Prop
  | nil {n} : Look σ key n 0 none
  | leaf {n b nd} : Blk σ b nd → nd.kids = [] → RisingP nd.pairs → Look σ key n b (lookP nd.pairs key)
  | inner {n b nd r} (h : kidAt nd.keys key < nd.kids.length) : Blk σ b nd → Rising nd.keys → Look σ key n nd.kids[kidAt nd.keys key] r → Look σ key (n + 1) b r

set_option maxRecDepth 100000 in
set_option maxHeartbeats 4000000 in
theorem get_any (t mp : Nat) (root : Int) (σ : MSt) (S : Nat → Prop) (key : ByteArray) (r : Option ByteArray) (w : World) (h : Inv σ S mp w) (ht : TreeAt w t mp root 0) (hk1 : 1 ≤ key.size) (hk2 : key.size ≤ 128) (n : Nat) (hn : n ≤ 40) (hl : Look σ key n root r) :
    Calls Tryz.prog 15 #[.pointer (some ⟨t, 0, none⟩), .string key] w fun e w' => e = .returned (.tuple #[.string (r.getD ⟨#[]⟩), .bool r.isSome, .int .i64 0]) ∧ Below w.heap.size w w' := by
  obtain ⟨_, c1, _, _, _, _, hlt⟩ := cells3 ht
  have HL := Lib.hid hl; clear hl
  go_enter Tryz.func15, Tryz.ntmps15
  go_wp2_with (first
    | (go_at_call 22; go_must ((refine (usable_any t mp root 0 _ ht).mono ?_); rintro e w1 ⟨rfl, hw⟩; subst w1))
    | (go_at_call 29; go_must ((refine (goodKey_yes key _ hk1 hk2).mono ?_); rintro e w1 ⟨rfl, hw⟩; subst w1)))
  go_loopw [8, 9, 10, 11, 12, 13] (fun x y _ _ _ _ wr => ∃ (b : Int) (d m : Nat), x = .int .i64 b ∧ y = .int .i64 d ∧ Look σ key m b r ∧ d + m ≤ 40 ∧ Below w.heap.size w wr) (fun _ y _ _ _ _ _ => 41 - (intOf y).toNat)
  case atStart => exact ⟨root, 0, n, rfl, rfl, HL.out, by omega, Below.refl _ _⟩
  case round =>
    obtain ⟨b, d, m, rfl, rfl, hl, hdm, hbel⟩ := hrel
    have hIr := h.below hbel
    have htr : TreeAt wr t mp root 0 := (hbel.block t hlt).trans ht
    cases hl with
    | nil =>
      go_wp2_with fail
      go_ret3
      exact ⟨rfl, hbel⟩
    | @leaf _ _ nd hb hk hr =>
      have hb0 : (b == 0) = false := by have := hb.lo; simp; omega
      have hb00 : ¬ b = 0 := by have := hb.lo; omega
      have hke : nd.kids.isEmpty = true := by rw [hk]; rfl
      have hnp := hb.fits.np
      have hd40 : (d : Int) ≤ 40 := by omega
      cases hat : isAt nd.pairs key with
      | false =>
        have hlk : lookP nd.pairs key = none := by unfold lookP; rw [hat]; rfl
        have HLK := Lib.hid hlk; clear hlk
        go_wp2_with (first
          | (go_at_call 23; go_must ((refine (load_any t mp root 0 b d σ S nd _ hIr htr hb hd40).mono ?_); rintro e w1 ⟨nb, rfl, hn1, hb1⟩))
          | (go_at_call 37; go_must ((refine (leaf_any nb nd _ S hn1.isNode).mono ?_); rintro e w2 ⟨rfl, hw⟩; subst w2; rw [hke]))
          | (go_at_call 35; go_must ((refine (find_any nb nd key _ S hn1.isNode hr (by omega)).mono ?_); rw [hat]; rintro e w3 ⟨rfl, hb3⟩)))
        go_ret3
        rw [HLK.out]
        exact ⟨rfl, hbel.trans ((hb1.mono hbel.size).trans (hb3.mono (Nat.le_trans hbel.size hb1.size)))⟩
      | true =>
        obtain ⟨hp, hkey⟩ := isAt_lt hat
        have hlk : lookP nd.pairs key = some nd.pairs[posAt nd.pairs key].2 := by unfold lookP; rw [hat, if_pos rfl, List.getElem?_eq_getElem hp]; rfl
        have HLK := Lib.hid hlk; clear hlk
        generalize hP : posAt nd.pairs key = P at hp hkey HLK
        have HP := Lib.hid hP; clear hP
        go_wp2_with (first
          | (go_at_call 23; go_must ((refine (load_any t mp root 0 b d σ S nd _ hIr htr hb hd40).mono ?_); rintro e w1 ⟨nb, rfl, hn1, hb1⟩))
          | (go_at_call 37; go_must ((refine (leaf_any nb nd _ S hn1.isNode).mono ?_); rintro e w2 ⟨rfl, hw⟩; subst w2; rw [hke]))
          | (go_at_call 35; go_must ((refine (find_any nb nd key _ S hn1.isNode hr (by omega)).mono ?_); rw [hat, HP.out]; rintro e w3 ⟨rfl, hb3⟩; refine Stop.of ?_)))
        refine Stop.on ?_
        obtain ⟨_, x0, x1, x2, hbn, hx0, _, _⟩ := hn1.isNode.below hb3
        obtain ⟨e0, _, _, _, _, _, hlt3⟩ := cells3 hbn
        obtain ⟨ao0, cp0, rfl, m0, m1, _, _⟩ := IsSl.form hx0
        obtain ⟨pb, po, rfl, d1, d2⟩ := hx0.at rfl P hp
        have hpb := World.block_lt_of_cell? w3 _ d2
        go_wp2_with fail
        go_ret3
        rw [HLK.out]
        exact ⟨rfl, hbel.trans ((hb1.mono hbel.size).trans (hb3.mono (Nat.le_trans hbel.size hb1.size)))⟩
    | @inner m _ nd _ hki hb hrs hl2 =>
      have hb0 : (b == 0) = false := by have := hb.lo; simp; omega
      have hb00 : ¬ b = 0 := by have := hb.lo; omega
      have hke : nd.kids.isEmpty = false := by cases hq : nd.kids with | nil => rw [hq] at hki; simp at hki | cons a b => rfl
      have hnk := hb.fits.nk
      have hkk := hb.fits.kk
      have hd40 : (d : Int) ≤ 40 := by omega
      have HL2 := Lib.hid hl2; clear hl2
      generalize hP : kidAt nd.keys key = P at hki HL2
      have HP := Lib.hid hP; clear hP
      have hpw : IntKind.i64.wrap ((d : Int) + 1) = (d : Int) + 1 := IntWalk.i64_in _ (by omega)
      have HKK := Lib.hid hkk; clear hkk
      go_wp2_with (first
        | (go_at_call 23; go_must ((refine (load_any t mp root 0 b d σ S nd _ hIr htr hb hd40).mono ?_); rintro e w1 ⟨nb, rfl, hn1, hb1⟩))
        | (go_at_call 37; go_must ((refine (leaf_any nb nd _ S hn1.isNode).mono ?_); rintro e w2 ⟨rfl, hw⟩; subst w2; rw [hke])))
      have hN1 := hn1.isNode
      obtain ⟨_, x0, x1, x2, hbn, _, _, hx2⟩ := hN1
      obtain ⟨_, _, e2, _, _, _, hlt3⟩ := cells3 hbn
      obtain ⟨ao2, cp2, rfl, m0, m1, _, _⟩ := IsSl.form hx2
      obtain ⟨pb, po, rfl, d2⟩ := hx2.at rfl P hki
      have hpb := World.block_lt_of_cell? w1 _ d2
      have hPi : (P : Int) < (nd.kids.length : Int) := by omega
      have hKid := (kid_any nb nd key w1.drew S (hn1.isNode.below ((Below.refl _ w1).drew)) hrs (by rw [HKK.out]; omega))
      rw [HP.out] at hKid
      have HKid := Lib.hid hKid; clear hKid
      refine wp_region_ord (fun W => Below w1.heap.size w1 W) (fun i => !([6].contains i)) [0, 1, 2, 3, 4, 5, 6, 7, 8, 9] rfl (by kernel_rfl) ((Below.refl _ w1).drew) ?_
      repeat ((refine ord_q (v := ?_) rfl rfl (fun _ _ _ h => h) rfl (fun W hW => ?_) ?_); rotate_left; (focus ((try dsimp only at hW); have q0 := (hW.cell (p := ⟨nb, 2, none⟩) hlt3).trans e2; have q1 := Nat.lt_of_lt_of_le hlt3 hW.size; have q2 := (hW.cell (p := ⟨pb, po + P, none⟩) hpb).trans d2; have q3 := Nat.lt_of_lt_of_le hpb hW.size; first | (go_simp; first | done | with_reducible rfl))); (try simp only [Act.put, List.setIfInBounds_toArray, List.set_cons_zero, List.set_cons_succ]))
      refine ord_e rfl rfl rfl ?_; intro K hK; go_simp
      refine HKid.out.mono ?_; rintro e w4 ⟨rfl, hb4⟩
      have hb4' : Below w1.heap.size w1 w4 := ((Below.refl _ w1).drew).trans hb4
      refine hK.out _ _ hb4' ?_
      repeat ((refine ord_q (v := ?_) rfl rfl (fun _ _ _ h => h) rfl (fun W hW => ?_) ?_); rotate_left; (focus ((try dsimp only at hW); have q0 := (hW.cell (p := ⟨nb, 2, none⟩) hlt3).trans e2; have q1 := Nat.lt_of_lt_of_le hlt3 hW.size; have q2 := (hW.cell (p := ⟨pb, po + P, none⟩) hpb).trans d2; have q3 := Nat.lt_of_lt_of_le hpb hW.size; first | (go_simp; first | done | with_reducible rfl))); (try simp only [Act.put, List.setIfInBounds_toArray, List.set_cons_zero, List.set_cons_succ]))
      refine ord_nil ?_
      go_wp2_with fail
      go_roundw
      case rel => exact ⟨nd.kids[P], d + 1, m, rfl, by go_num, HL2.out, by omega, hbel.trans ((hb1.mono hbel.size).trans (hb4'.mono (Nat.le_trans hbel.size hb1.size)))⟩
      case measure => simp [intOf]; omega
end Go.Proofs.YtbldcbakhpdigaaGreat

/- Scan's closure. -/
namespace Go.Proofs.YtbldcbakhpdigaaGreat
open Go.RowKit

/-- what Scan has gathered: a variable with a slice of pairs, and the most that are wanted -/
structure Acc (w : World) (S : Nat → Prop) (B ob mb : Nat) (v : Value) (O : List Pr) (most : Int) : Prop where
  out : w.heap[ob]? = some (.cells #[v] 29 (0, 0))
  own : OwnSl w S B 53 2 v O.length (prCells O)
  mst : w.heap[mb]? = some (.cells #[.int .i64 most] 3 (0, 0))
  nob : ¬ S ob
  nmb : ¬ S mb

/-- of the blocks that were there only the variable's and the slice's have changed -/
def YStep (ob : Nat) (v v' : Value) (w w' : World) : Prop := Keep (fun g => g = ob ∨ v.ownBlock = some g) w w' ∧ ∀ g, v'.ownBlock = some g → v.ownBlock = some g ∨ w.heap.size ≤ g
theorem YStep.refl (ob : Nat) (v : Value) (w : World) : YStep ob v v w w := ⟨Keep.refl _ _, fun _ h => .inl h⟩
theorem YStep.trans {ob : Nat} {v v' v'' : Value} {a b c : World} (h : YStep ob v v' a b) (k : YStep ob v' v'' b c) : YStep ob v v'' a c :=
  ⟨h.1.trans k.1 (fun i hi x => x.elim .inl (fun y => (h.2 i y).elim .inr (fun z => absurd hi (Nat.not_lt.2 z)))),
   fun g hg => (k.2 g hg).elim (fun x => h.2 g x) (fun x => .inr (Nat.le_trans h.1.size x))⟩
theorem YStep.below {ob : Nat} {v : Value} {w w' : World} (h : Below w.heap.size w w') : YStep ob v v w w' := ⟨Keep.of_below h _, fun _ h => .inl h⟩
theorem Acc.below {w w' : World} {S : Nat → Prop} {B ob mb : Nat} {v : Value} {O : List Pr} {most : Int} (h : Acc w S B ob mb v O most) (hb : Below w.heap.size w w') : Acc w' S B ob mb v O most :=
  ⟨(hb.block _ (Array.getElem?_eq_some_iff.1 h.out).1).trans h.out, h.own.below hb, (hb.block _ (Array.getElem?_eq_some_iff.1 h.mst).1).trans h.mst, h.nob, h.nmb⟩

set_option maxRecDepth 100000 in
set_option maxHeartbeats 2000000 in
theorem yield_any (B ob mb : Nat) (v : Value) (O : List Pr) (most : Int) (p : Pr) (S : Nat → Prop) (w : World) (hsub : ∀ g, S g → g < w.heap.size) (h : Acc w S B ob mb v O most) (hB : B ≤ w.heap.size) (hl : O.length ≤ 999999) :
    Calls Tryz.prog 28 #[.agg #[.string p.1, .string p.2], .pointer (some ⟨ob, 0, none⟩), .pointer (some ⟨mb, 0, none⟩)] w fun e w' => e = .returned (.bool (decide (((O.length + 1 : Nat) : Int) < most))) ∧ ∃ v', Acc w' S B ob mb v' (O ++ [p]) most ∧ YStep ob v v' w w' := by
  have hbw := below_two w (.cells #[.string p.1, .string p.2] 53) (.cells #[.string p.1, .string p.2] 53)
  obtain ⟨o1, o2, o3, o4, o5⟩ := h
  have hol := (Array.getElem?_eq_some_iff.1 o1).1
  have hml := (Array.getElem?_eq_some_iff.1 o3).1
  have c0 : w.cell? ⟨ob, 0, none⟩ = some v := by simp [World.cell?, o1]
  have c1 : w.cell? ⟨mb, 0, none⟩ = some (.int .i64 most) := by simp [World.cell?, o3]
  have f0 : w.frozen? ⟨ob, 0, none⟩ = false := by simp [World.frozen?, o1]
  obtain ⟨ao0, cp0, rfl, n0, m0, _, _⟩ := o2.isSl.form
  go_enter Tryz.func28, Tryz.ntmps28
  have hsrc := src_new (P := Tryz.prog) (w := w.alloc (.cells #[.string p.1, .string p.2] 53)) [.string p.1, .string p.2] 53 2 1 1 (tx := 29) (World.size_alloc _ _) Tryz.underlying29 rfl (by intro u hu; simp at hu; rcases hu with rfl | rfl <;> rfl)
  have hsub2 : ∀ g, S g → g < ((w.alloc (.cells #[.string p.1, .string p.2] 53)).alloc (.cells #[.string p.1, .string p.2] 53)).heap.size := fun g hg => Nat.lt_of_lt_of_le (hsub g hg) hbw.size
  have hOl : O.length ≤ 999999 := hl
  go_wp2_with (first
    | (at_builtin; go_must ((refine wpList_app rfl (.tmp 5) (.tmp 7) 29 29 rfl S B 53 2 32 _ Tryz.underlying29 info_pair rfl (.slice ao0 O.length cp0) O.length (prCells O) rfl (o2.below hbw) (.slice (some ⟨w.heap.size + 1, 0, none⟩) 1 1) 1 [.string p.1, .string p.2] rfl hsrc hsub2 (Nat.le_trans hB hbw.size) ?_ ?_ ?_); (focus (simp only [maxLen]; omega)); (focus omega); intro ao1 cp1 w3 hown3 hk3 hb3 hd3; refine Stop.of ?_)))
  have hno : (Value.slice ao0 O.length cp0).ownBlock ≠ some ob := o2.ne o1 (by decide)
  have hnm : (Value.slice ao0 O.length cp0).ownBlock ≠ some mb := o2.ne o3 (by decide)
  have o1' := (hk3.block ob (Nat.lt_of_lt_of_le hol hbw.size) hno).trans ((hbw.block ob hol).trans o1)
  have o3' := (hk3.block mb (Nat.lt_of_lt_of_le hml hbw.size) hnm).trans ((hbw.block mb hml).trans o3)
  have hobm : ob ≠ mb := fun e => by rw [e] at o1; rw [o1] at o3; cases o3
  have d0 : w3.cell? ⟨ob, 0, none⟩ = some (.slice ao0 O.length cp0) := by simp [World.cell?, o1']
  have d1 : w3.cell? ⟨mb, 0, none⟩ = some (.int .i64 most) := by simp [World.cell?, o3']
  have d2 : w3.frozen? ⟨ob, 0, none⟩ = false := by simp [World.frozen?, o1']
  have hol3 := (Array.getElem?_eq_some_iff.1 o1').1
  have hml3 := (Array.getElem?_eq_some_iff.1 o3').1
  have hk4 : Keep (· = ob) w3 (w3.setCell ⟨ob, 0, none⟩ (.slice ao1 (O.length + 1) cp1)) := Keep.setCell (M := (· = ob)) (p := ⟨ob, 0, none⟩) (Keep.refl _ _) (.inr rfl) _
  have o14 : (w3.setCell ⟨ob, 0, none⟩ (.slice ao1 (O.length + 1) cp1)).heap[ob]? = some (.cells #[.slice ao1 (O.length + 1) cp1] 29 (0, 0)) := by simp [World.setCell, Array.getElem?_modify, o1']
  have o34 := (hk4.block mb hml3 (fun e => hobm e.symm)).trans o3'
  have e0 : (w3.setCell ⟨ob, 0, none⟩ (.slice ao1 (O.length + 1) cp1)).cell? ⟨ob, 0, none⟩ = some (.slice ao1 (O.length + 1) cp1) := by simp [World.cell?, o14]
  have e1 : (w3.setCell ⟨ob, 0, none⟩ (.slice ao1 (O.length + 1) cp1)).cell? ⟨mb, 0, none⟩ = some (.int .i64 most) := by simp [World.cell?, o34]
  have hown4 := hown3.keep (w' := w3.setCell ⟨ob, 0, none⟩ (.slice ao1 (O.length + 1) cp1)) (S' := S) (fun g hg hl hs => ⟨hk4.block g hl (fun e => hown3.ne o1' (by decide) (by rw [hg, e])), hs⟩)
  refine Stop.on ?_
  go_wp2_with fail
  go_ret
  refine ⟨by simp, .slice ao1 (O.length + 1) cp1, ⟨o14, ?_, o34, o4, o5⟩, ⟨?_, fun g hg => ?_⟩⟩
  · rw [List.length_append, prCells_append]; exact hown4
  · exact ((Keep.of_below hbw _).trans (hk3.mono (fun _ _ h => .inr h)) (fun _ _ h => h)).trans hk4 (fun _ _ h => .inl h)
  · by_cases hgl : g < w.heap.size
    · by_cases hv : (Value.slice ao0 O.length cp0).ownBlock = some g
      · exact .inl hv
      · exact absurd hg (hd3 g (Nat.lt_of_lt_of_le hgl hbw.size) hv)
    · exact .inr (Nat.not_lt.1 hgl)
end Go.Proofs.YtbldcbakhpdigaaGreat

/- walk: through the pairs from a key on. -/
namespace Go.Proofs.YtbldcbakhpdigaaGreat
open Go.RowKit

/-- the pairs below a block from a key on -/
inductive WalkL (σ : MSt) (key : ByteArray) : Nat → Int → List Pr → Prop
  | leaf {n b nd} : Blk σ b nd → nd.kids = [] → RisingP nd.pairs → WalkL σ key n b (nd.pairs.drop (posAt nd.pairs key))
  | inner {n b nd} (Ls : List (List Pr)) : Blk σ b nd → nd.kids ≠ [] → Rising nd.keys → Ls.length = (nd.kids.drop (kidAt nd.keys key)).length → (∀ i (h : i < (nd.kids.drop (kidAt nd.keys key)).length) (h' : i < Ls.length), WalkL σ key n (nd.kids.drop (kidAt nd.keys key))[i] Ls[i]) → WalkL σ key (n + 1) b Ls.flatten

/-- what walk answers -/
def WalkPost (S : Nat → Prop) (B ob mb : Nat) (v : Value) (O L : List Pr) (most : Int) (w : World) (e : Ending) (w' : World) : Prop :=
  e = .returned (.tuple #[.bool (decide (((O.length + L.length : Nat) : Int) < most)), .int .i64 0]) ∧ ∃ v', Acc w' S B ob mb v' (O ++ L.take (most - O.length).toNat) most ∧ YStep ob v v' w w'

theorem after_ex {w : World} {S : Nat → Prop} {k n c : Nat} {ao : Option Addr} {xs : List Value} (h : IsSl w S k (.slice ao n c) n xs) (i : Nat) (hi : i ≤ n) : ∃ ao', (if c = i then ao else ao.map fun x => x.add (i * k)) = ao' ∧ IsSl w S k (.slice ao' (n - i) (c - i)) (n - i) (xs.drop (i * k)) := ⟨_, rfl, IsSl.after h i hi⟩

set_option maxRecDepth 100000 in
set_option maxHeartbeats 4000000 in
theorem walk_leaf (t mp B ob mb : Nat) (root err b deep : Int) (σ : MSt) (S : Nat → Prop) (key : ByteArray) (v : Value) (O : List Pr) (most : Int) (nd : Nd) (w : World) (h : Inv σ S mp w) (ht : TreeAt w t mp root err) (hb : Blk σ b nd) (hk : nd.kids = []) (hr : RisingP nd.pairs) (hd : deep ≤ 40)
    (hA : Acc w S B ob mb v O most) (hB : B ≤ w.heap.size) (hO : (O.length : Int) < most) (hl : O.length + (nd.pairs.drop (posAt nd.pairs key)).length ≤ 999999) :
    Calls Tryz.prog 27 #[.pointer (some ⟨t, 0, none⟩), .int .i64 b, .int .i64 deep, .string key, .func (.func 28) #[] #[.pointer (some ⟨ob, 0, none⟩), .pointer (some ⟨mb, 0, none⟩)]] w (WalkPost S B ob mb v O (nd.pairs.drop (posAt nd.pairs key)) most w) := by
  have hke : nd.kids.isEmpty = true := by rw [hk]; rfl
  have hnp := hb.fits.np
  have hp := posAt_le nd.pairs key
  generalize hP : posAt nd.pairs key = P at hp hl
  have HP := Lib.hid hP; clear hP
  have hsub := h.sub
  go_enter Tryz.func27, Tryz.ntmps27
  go_wp2_with (first
    | (go_at_call 23; go_must ((refine (load_any t mp root err b deep σ S nd _ h ht hb hd).mono ?_); rintro e w1 ⟨nb, rfl, hn1, hb1⟩))
    | (go_at_call 37; go_must ((refine (leaf_any nb nd _ S hn1.isNode).mono ?_); rintro e w2 ⟨rfl, hw⟩; subst w2; rw [hke]))
    | (go_at_call 35; go_must ((refine (find_any nb nd key _ S hn1.isNode hr (by omega)).mono ?_); rw [HP.out]; rintro e w3 ⟨rfl, hb3⟩; refine Stop.of ?_)))
  obtain ⟨_, hnB, x0, x1, x2, hbn, hx0, _, _⟩ := hn1.step (Step.of_below hb3)
  obtain ⟨e0, _, _, _, _, _, hlt3⟩ := cells3 hbn
  obtain ⟨ao0, cp0, rfl, m0, m1, _, _⟩ := IsSl.form hx0.isSl
  obtain ⟨ao', ha1, ha2⟩ := after_ex hx0.isSl P hp
  generalize hD : nd.pairs.drop P = D at hl
  have hDl : D.length = nd.pairs.length - P := by rw [← hD, List.length_drop]
  have hDs : IsPrs w3 S (.slice ao' (nd.pairs.length - P) (cp0 - P)) D := by
    unfold IsPrs; rw [hDl, ← hD, prCells_drop]; exact ha2
  have hblk : ∀ g o, ao' = some ⟨g, o, none⟩ → w.heap.size ≤ g := by
    intro g o e
    have : ∃ o', ao0 = some ⟨g, o', none⟩ := by
      rw [e] at ha1
      split at ha1
      · exact ⟨o, ha1⟩
      · rcases hx0.1.2 with ⟨e1, _⟩ | ⟨g', cap, cur, e1, _⟩
        · have e2 : ao0 = none := by injection e1
          rw [e2] at ha1; cases ha1
        · have e2 : ao0 = some ⟨g', 0, none⟩ := by injection e1
          rw [e2, Option.map_some, Addr.add_lit] at ha1; cases ha1; exact ⟨_, e2⟩
    obtain ⟨o', rfl⟩ := this
    exact hx0.lo g rfl
  have hvl : ∀ g, v.ownBlock = some g → g < w.heap.size := fun g hg => Nat.not_le.1 (fun hh => hA.own.lt' hh hg)
  have hobl : ob < w.heap.size := (Array.getElem?_eq_some_iff.1 hA.out).1
  have hb3w : Below w.heap.size w w3 := hb1.trans (hb3.mono hb1.size)
  have HDs := Lib.hid hDs; clear hDs ha2
  have HDl := Lib.hid hDl
  have HD := Lib.hid hD; clear hD
  have HA3 := Lib.hid (hA.below hb3w)
  have HY0 : YStep ob v v w w3 := YStep.below hb3w
  have hsub3 : ∀ g, S g → g < w3.heap.size := fun g hg => Nat.lt_of_lt_of_le (hsub g hg) hb3w.size
  have hB3 : B ≤ w3.heap.size := Nat.le_trans hB hb3w.size
  have hBl : ∀ g, v.ownBlock = some g → B ≤ g := hA.own.lo
  have hO2 := Lib.hid hO; clear hO
  clear hDl
  refine Stop.on ?_
  go_wp2_with fail
  go_loopw [17, 47] (fun _ i wr => ∃ (k : Nat) (vk : Value), k ≤ nd.pairs.length - P ∧ i = .int .i64 k ∧ Acc wr S B ob mb vk (O ++ D.take k) most ∧ ((O.length + k : Nat) : Int) < most ∧ YStep ob v vk w3 wr) (fun _ i _ => (nd.pairs.length - P) - (intOf i).toNat)
  case atStart => exact ⟨0, v, Nat.zero_le _, rfl, by rw [List.take_zero, List.append_nil]; exact HA3.out, by rw [Nat.add_zero]; exact hO2.out, YStep.refl _ _ _⟩
  case round =>
    obtain ⟨k, vk, hkn, rfl, hAk, hOk, hY⟩ := hrel
    by_cases hlt : k < nd.pairs.length - P
    · have hkD : k < D.length := by rw [HDl.out]; exact hlt
      obtain ⟨pb, po, rfl, d1, d2⟩ := HDs.out.at rfl k hkD
      have hpw : w.heap.size ≤ pb := hblk pb po rfl
      have hpb3 := World.block_lt_of_cell? w3 _ d1
      have hnM : ¬ (pb = ob ∨ v.ownBlock = some pb) := fun x => x.elim (fun e => by omega) (fun e => by have := hvl _ e; omega)
      have g1 := (hY.1.cell (p := ⟨pb, po + k * 2, none⟩) hpb3 hnM).trans d1
      have g2 := (hY.1.cell (p := ⟨pb, po + k * 2 + 1, none⟩) hpb3 hnM).trans d2
      have hpbr := Nat.lt_of_lt_of_le hpb3 hY.1.size
      have hbn' := below_one wr (.cells #[.string D[k].1, .string D[k].2] 53)
      have hy := yield_any B ob mb vk (O ++ D.take k) most D[k] S (wr.alloc (.cells #[.string D[k].1, .string D[k].2] 53)) (fun g hg => Nat.lt_of_lt_of_le (hsub3 g hg) (Nat.le_trans hY.1.size hbn'.size)) (hAk.below hbn') (Nat.le_trans hB3 (Nat.le_trans hY.1.size hbn'.size)) (by rw [List.length_append, List.length_take]; omega)
      rw [show (O ++ D.take k).length + 1 = O.length + (k + 1) from by rw [List.length_append, List.length_take]; omega, show O ++ D.take k ++ [D[k]] = O ++ D.take (k + 1) from by rw [List.take_succ_eq_append_getElem hkD, List.append_assoc]] at hy
      have hY1 : YStep ob vk vk wr (wr.alloc (.cells #[.string D[k].1, .string D[k].2] 53)) := YStep.below hbn'
      have Hy := Lib.hid hy; clear hy
      clear d1 d2
      by_cases hmo : ((O.length + (k + 1) : Nat) : Int) < most
      · have hmo' := decide_eq_true hmo
        have Hmo := Lib.hid hmo'; clear hmo'
        go_wp2_with ((refine Hy.out.mono ?_); rw [Hmo.out]; rintro e w4 ⟨rfl, v4, hA4, hY4⟩)
        go_roundw
        case rel => exact ⟨k + 1, v4, hlt, by go_num, hA4, hmo, (hY.trans hY1).trans hY4⟩
        case measure => simp [intOf]; omega
      · have hmo' := decide_eq_false hmo
        have Hmo := Lib.hid hmo'; clear hmo'
        go_wp2_with ((refine Hy.out.mono ?_); rw [Hmo.out]; rintro e w4 ⟨rfl, v4, hA4, hY4⟩)
        go_ret2
        have hDlen := HDl.out
        rw [HD.out]
        refine ⟨by rw [decide_eq_false (by omega)]; rfl, v4, ?_, HY0.trans ((hY.trans hY1).trans hY4)⟩
        rw [show (most - (O.length : Int)).toNat = k + 1 from by omega]
        exact hA4
    · obtain rfl : k = nd.pairs.length - P := by omega
      go_wp2_with fail
      go_ret2
      have hDlen := HDl.out
      rw [HD.out]
      refine ⟨by rw [decide_eq_true (by omega)]; rfl, vk, ?_, HY0.trans hY⟩
      rw [List.take_of_length_le (by omega)]
      rw [List.take_of_length_le (by omega)] at hAk
      exact hAk
end Go.Proofs.YtbldcbakhpdigaaGreat

