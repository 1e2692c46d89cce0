/- spread: the walk. -/
import Derived.Test.YtbldcbakhpdigaaSpread
namespace Go.Proofs.Ytbldcbakhpdigaa
open Go.RowKit

/-- what spread answers -/
def SprPost (mp : Nat) (σ : MSt) (S : Nat → Prop) (nd : Nd) (least : ByteArray) (w : World) (e : Ending) (w' : World) : Prop :=
  ∃ v ps zs σ' S', e = .returned v ∧ OwnSl w' S' w.heap.size 104 2 v ps.length (pcCells ps) ∧ Spr nd least zs ∧ Puts σ ps zs σ' ∧ Inv σ' S' mp w' ∧ Step S S' w w'

set_option maxRecDepth 100000 in
set_option maxHeartbeats 4000000 in
theorem spread_none (t mp : Nat) (σ : MSt) (S : Nat → Prop) (nb : Nat) (nd : Nd) (least : ByteArray) (w : World) (h : Inv σ S mp w) (hn : IsNode w S nb nd) (hk : nd.kids = []) (hp : nd.pairs = []) :
    Calls Try.prog 52 #[.pointer (some ⟨t, 0, none⟩), .pointer (some ⟨nb, 0, none⟩), .string least] w (SprPost mp σ S nd least w) := by
  have hN := hn
  obtain ⟨_, v0, v1, v2, hb, h0, h1, h2⟩ := hn
  obtain ⟨c0, c1, c2, _, _, _, hlt⟩ := cells3 hb
  obtain ⟨ao0, cp0, rfl, n0, m0, _, _⟩ := IsSl.form h0
  have hke : nd.kids.isEmpty = true := by rw [hk]; rfl
  have hpl : nd.pairs.length = 0 := by rw [hp]; rfl
  go_enter Try.func52, Try.ntmps52
  go_wp2_with (first
    | (go_at_call 48; go_must ((refine (leaf_any nb nd _ S hN).mono ?_); rintro e w1 ⟨rfl, hw⟩; subst w1; rw [hke])))
  go_ret
  exact ⟨_, [], [], σ, S, rfl, OwnSl.nil _ _ _ _ _, .none hk hp, rfl, h, Step.refl S w⟩

set_option maxRecDepth 100000 in
set_option maxHeartbeats 4000000 in
theorem spread_one (t mp : Nat) (root err : Int) (σ : MSt) (S : Nat → Prop) (nb : Nat) (nd : Nd) (least : ByteArray) (w : World) (h : Inv σ S mp w) (ht : TreeAt w t mp root err) (hst : ¬ S t) (hn : IsNode w S nb nd) (ok : nd.Ok) (hne : nd.kids ≠ [] ∨ nd.pairs ≠ []) (hs : nd.size ≤ 512) (hroom : Maps.size σ.D < σ.most) :
    Calls Try.prog 52 #[.pointer (some ⟨t, 0, none⟩), .pointer (some ⟨nb, 0, none⟩), .string least] w (SprPost mp σ S nd least w) := by
  have hN := hn
  obtain ⟨_, v0, v1, v2, hb, h0, h1, h2⟩ := hn
  obtain ⟨c0, c1, c2, _, _, _, hlt⟩ := cells3 hb
  obtain ⟨ao0, cp0, rfl, n0, m0, _, _⟩ := IsSl.form h0
  have hfit := ok.fits hs hne
  have HR := Lib.hid hroom; clear hroom
  have hcond : (nd.kids.isEmpty && nd.pairs.isEmpty) = false := by
    rcases hne with hne | hne <;> cases h1 : nd.kids <;> cases h2 : nd.pairs <;> simp_all
  have hne2 := Lib.hid (show nd.kids = [] → nd.pairs ≠ [] from fun x y => hne.elim (fun z => z x) (fun z => z y))
  have htl : t < w.heap.size := (Array.getElem?_eq_some_iff.1 ht).1
  have hs2 : (nd.size : Int) ≤ 512 := by omega
  go_enter Try.func52, Try.ntmps52
  have hdone : ∀ (f : Nat) (σ' : MSt) (S' : Nat → Prop) (w' : World), Wrote σ f nd σ' → Inv σ' S' mp w' → Step S S' w w' → SprPost mp σ S nd least w (.returned (.slice (some ⟨w'.heap.size, 0, none⟩) 1 1)) (w'.alloc (.cells #[.int .i64 f, .string (leastOf nd least)] 104)) := by
    intro f σ' S' w' h1 h2 h3
    refine ⟨_, [((f : Int), leastOf nd least)], _, σ', S', rfl, ?_, .one hne hs, ⟨σ', rfl, h1, rfl⟩, h2.below (below_one _ _), h3.trans (Step.of_below (below_one _ _))⟩
    have := own_new (w := w') (S := S') (B := w.heap.size) (e := 104) (k := 2) (pcCells [((f : Int), leastOf nd least)]) 1 1 rfl rfl (Nat.le_refl _) (by simp [maxLen]) h3.1.size h2.sub
    exact this
  cases hk : nd.kids.isEmpty with
  | true =>
    have hpl : ¬ nd.pairs.length = 0 := by
      rw [hk] at hcond; intro e; rw [List.eq_nil_of_length_eq_zero e] at hcond; simp at hcond
    have hpl' : ¬ ((nd.pairs.length : Int) = 0) := by omega
    go_wp2_with (first
      | (go_at_call 48; go_must ((refine (leaf_any nb nd _ S hN).mono ?_); rintro e w1 ⟨rfl, hw⟩; subst w1; rw [hk]))
      | (go_at_call 67; go_must ((refine (size_any nb nd _ S hN ok.size_le).mono ?_); rintro e w1 ⟨rfl, hbel1⟩))
      | (go_at_call 69; go_must ((refine (least_any nb nd least _ S (hN.below hbel1) hne2.out).mono ?_); rintro e w2 ⟨rfl, hw⟩; subst w2))
      | (go_at_call 68; go_must ((refine (write_any t mp root err σ S nb nd _ _ (h.below hbel1) ((hbel1.block _ htl).trans ht) hst (hN.below hbel1) hfit hs HR.out).mono ?_); rintro e w3 ⟨f, σ', S', rfl, hW, hI, hS⟩)))
    go_ret
    exact hdone f σ' S' w3 hW hI ((Step.of_below hbel1).trans hS)
  | false =>
    go_wp2_with (first
      | (go_at_call 48; go_must ((refine (leaf_any nb nd _ S hN).mono ?_); rintro e w1 ⟨rfl, hw⟩; subst w1; rw [hk]))
      | (go_at_call 67; go_must ((refine (size_any nb nd _ S hN ok.size_le).mono ?_); rintro e w1 ⟨rfl, hbel1⟩))
      | (go_at_call 69; go_must ((refine (least_any nb nd least _ S (hN.below hbel1) hne2.out).mono ?_); rintro e w2 ⟨rfl, hw⟩; subst w2))
      | (go_at_call 68; go_must ((refine (write_any t mp root err σ S nb nd _ _ (h.below hbel1) ((hbel1.block _ htl).trans ht) hst (hN.below hbel1) hfit hs HR.out).mono ?_); rintro e w3 ⟨f, σ', S', rfl, hW, hI, hS⟩)))
    go_ret
    exact hdone f σ' S' w3 hW hI ((Step.of_below hbel1).trans hS)
end Go.Proofs.Ytbldcbakhpdigaa
