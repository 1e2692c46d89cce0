/- write: a node into a new block of the store. -/
import Derived.Test.YtbldcbakhpdigaaLoad
namespace Go.Proofs.Ytbldcbakhpdigaa
open Go.RowKit

theorem Inv.keepM {σ : MSt} {S M : Nat → Prop} {mp : Nat} {w w' : World} (h : Inv σ S mp w) (hk : Keep M w w') (hM : ∀ g, S g → ¬ M g) : Inv σ S mp w' := by
  have hb : ∀ g, S g → w'.heap[g]? = w.heap[g]? := fun g hg => hk.block g (h.sub g hg) (hM g hg)
  refine ⟨fun g hg => Nat.lt_of_lt_of_le (h.sub g hg) hk.size, h.smp, h.sbb, h.shb, h.ne, (hb _ h.smp).trans h.blk, ?_, ?_, h.szD, h.cap, h.hold, ?_⟩
  · obtain ⟨es, cl, hbm, r⟩ := h.own
    exact ⟨es, cl, (hb _ h.sbb).trans hbm, r⟩
  · obtain ⟨es, cl, hbm, r⟩ := h.oh
    exact ⟨es, cl, (hb _ h.shb).trans hbm, r⟩
  · intro b z hb2
    obtain ⟨g, r1, r2, r3, r4⟩ := h.rows b z hb2
    exact ⟨g, r1, r2, r3, (hb _ r2).trans r4⟩

set_option maxRecDepth 100000 in
set_option maxHeartbeats 4000000 in
theorem write_any (t mp : Nat) (root err : Int) (σ : MSt) (S : Nat → Prop) (nb : Nat) (nd : Nd) (least : ByteArray) (w : World) (h : Inv σ S mp w) (ht : TreeAt w t mp root err) (hst : ¬ S t) (hn : IsNode w S nb nd) (hfit : nd.Fits) (hs : nd.size ≤ 512) (hroom : Maps.size σ.D < σ.most) :
    Calls Try.prog 68 #[.pointer (some ⟨t, 0, none⟩), .pointer (some ⟨nb, 0, none⟩), .string least] w fun e w' => ∃ (f : Nat) (σ' : MSt) (S' : Nat → Prop), e = .returned (.agg #[.int .i64 f, .string least]) ∧ Wrote σ f nd σ' ∧ Inv σ' S' mp w' ∧ Step S S' w w' := by
  obtain ⟨c0, _, _, _, _, _, hlt⟩ := cells3 ht
  have hnb : nb < w.heap.size := by obtain ⟨_, _, _, _, hb, _⟩ := hn; exact (Array.getElem?_eq_some_iff.1 hb).1
  have hsub := h.sub
  have HR := Lib.hid hroom; clear hroom
  go_enter Try.func68, Try.ntmps68
  have hmT : ∀ w, (method 283 24 (.pointer (some ⟨mp, 0, none⟩)) "Take").run Try.prog w = .ok (11, .pointer (some ⟨mp, 0, none⟩)) w := fun _ => by kernel_rfl
  have hmW : ∀ w, (method 283 24 (.pointer (some ⟨mp, 0, none⟩)) "Write").run Try.prog w = .ok (14, .pointer (some ⟨mp, 0, none⟩)) w := fun _ => by kernel_rfl
  have hb0 := below_one w (.cells #[.int .i64 0, .string ⟨#[]⟩] 104)
  go_wp2_with (first
    | (go_at_call 11; go_must ((refine (take_ok mp σ S _ (h.below hb0) HR.out).mono ?_); rintro e w1 ⟨f, g, S1, rfl, f1, f2, f3, f4, hI1, hs1⟩))
    | (go_at_call 53; go_must ((refine (must_ok _).mono ?_); rintro e w2 ⟨rfl, hw⟩; subst w2)))
  have hstep1 : Step S S1 w w1 := (Step.of_below hb0).trans hs1
  have ht1 := ht.step hst hstep1
  have hn1 := hn.step hstep1
  have hsub1 := hI1.sub
  have hcellr : w1.heap[w.heap.size]? = some (.cells #[.int .i64 0, .string ⟨#[]⟩] 104 (0, 0)) := (hs1.1.block _ (by rw [World.size_alloc]; exact Nat.lt_succ_self _) (fun x => absurd (hsub _ x) (Nat.lt_irrefl _))).trans (heap_alloc_new _ _)
  obtain ⟨c1, _, _, _, _, _, hlt1⟩ := cells3 ht1.1
  have hnb1 : nb < w1.heap.size := Nat.lt_of_lt_of_le hnb hstep1.1.size
  have hcap := h.cap
  have HF2 := Lib.hid f2
  have f5 : f ≤ 4096 := by omega
  clear f2 c0
  have hwf := wf_nat (f : Int) (by omega) (by omega)
  refine wp_region_ord (fun W => W.cell? ⟨t, 0, none⟩ = some (.iface 24 (.pointer (some ⟨mp, 0, none⟩))) ∧ t < W.heap.size) (fun i => !([6, 9, 10].contains i)) [0, 1, 2, 3, 4, 5, 7, 8, 6, 9, 10] rfl (by kernel_rfl) ⟨c1, hlt1⟩ ?_
  repeat ((refine ord_q (v := ?_) rfl rfl (fun _ _ _ h => h) rfl (fun W hW => ?_) ?_); rotate_left; (focus ((try dsimp only at hW); have q0 := hW.1; have q1 := hW.2; first | (go_simp; first | done | with_reducible rfl))); (try simp only [Act.put, List.setIfInBounds_toArray, List.set_cons_zero, List.set_cons_succ]))
  have hE := encode_any nb nd w1.drew S1 hsub1 hn1 (by omega) hfit.kd
  refine ord_e rfl rfl rfl ?_; intro K hK; go_simp
  refine hE.mono ?_; rintro e w2 ⟨v, rfl, hv, hbel2⟩
  have hI2 : Inv (σ.put f g (List.replicate 512 0)) S1 mp w2 := hI1.below (((Below.refl _ w1).drew).trans hbel2)
  have hs2 : Step S1 S1 w1 w2 := Step.of_below (((Below.refl _ w1).drew).trans hbel2)
  have ht2 := ht1.1.step ht1.2 hs2
  obtain ⟨c2, _, _, _, _, _, hlt2⟩ := cells3 ht2.1
  refine hK.out _ _ ⟨c2, hlt2⟩ ?_
  have hvb : IsBytes w2 NoS v nd.enc := by
    obtain ⟨ao, c, e1, e2, e3, e4, e5, e6, e7⟩ := hv.isSl
    exact ⟨ao, c, e1, e2, e3, e4, e5, fun ad h => ⟨(e6 ad h).1, (e6 ad h).2.1, id⟩, e7⟩
  have hel : nd.enc.length ≤ 512 := by rw [Nd.enc_length]; exact hs
  have hWr := write_has mp _ S1 w2 f v nd.enc hI2 hwf (Maps.has_put_same (h.own.tidy keyed_int).isMap (isKey_int _) _) (h.hold f f3) hvb hel
  have HWr := Lib.hid hWr; clear hWr hE
  refine ord_e rfl rfl rfl ?_; intro K hK; go_simp
  refine HWr.out.mono ?_; rintro e w3 ⟨rfl, g2, S2, hI3, hs3⟩
  have hs13 : Step S1 S2 w1 w3 := hs2.trans hs3
  have ht3 := ht1.1.step ht1.2 hs13
  obtain ⟨c3, _, _, _, _, _, hlt3⟩ := cells3 ht3.1
  refine hK.out _ _ ⟨c3, hlt3⟩ ?_
  refine ord_e rfl rfl rfl ?_; intro K hK; go_simp
  refine (must_ok _).mono ?_; rintro e w4 ⟨rfl, hw⟩; subst w4
  refine hK.out _ _ ⟨c3, hlt3⟩ ?_
  refine ord_nil ?_
  have hw1 : w.heap.size < w1.heap.size := (Array.getElem?_eq_some_iff.1 hcellr).1
  have hS1r : ¬ S1 w.heap.size := fun x => (hs1.2 _ x).elim (fun y => absurd (hsub _ y) (Nat.lt_irrefl _)) (fun y => by rw [World.size_alloc] at y; omega)
  have hr3 : w3.heap[w.heap.size]? = some (.cells #[.int .i64 0, .string ⟨#[]⟩] 104 (0, 0)) := (hs13.1.block _ hw1 hS1r).trans hcellr
  have hr3lt : w.heap.size < w3.heap.size := (Array.getElem?_eq_some_iff.1 hr3).1
  have r0 : w3.cell? ⟨w.heap.size, 0, none⟩ = some (.int .i64 0) := by simp [World.cell?, hr3]
  have r1 : w3.cell? ⟨w.heap.size, 1, none⟩ = some (.string ⟨#[]⟩) := by simp [World.cell?, hr3]
  have g0 : w3.frozen? ⟨w.heap.size, 0, none⟩ = false := by simp [World.frozen?, hr3]
  have g1 : w3.frozen? ⟨w.heap.size, 1, none⟩ = false := by simp [World.frozen?, hr3]
  have hi3 := hI3.sub
  clear c1 c2 c3 hcellr
  go_wp2_with fail
  have hk5 : Keep (· = w.heap.size) w3 ((w3.setCell ⟨w.heap.size, 0, none⟩ (.int .i64 f)).setCell ⟨w.heap.size, 1, none⟩ (.string least)) := ((Keep.refl (· = w.heap.size) w3).setCell (p := ⟨w.heap.size, 0, none⟩) (.inr rfl) _).setCell (p := ⟨w.heap.size, 1, none⟩) (.inr rfl) _
  have hfin : ((w3.setCell ⟨w.heap.size, 0, none⟩ (.int .i64 f)).setCell ⟨w.heap.size, 1, none⟩ (.string least)).heap[w.heap.size]? = some (.cells #[.int .i64 f, .string least] 104 (0, 0)) := by
    simp [World.setCell, Array.getElem?_modify, hr3]
  refine bodyPost_ret (results_cell_row rfl _ _ _ 104 #[.int .i64 f, .string least] (0, 0) _ rfl hfin Try.underlying104 rfl rfl) rfl ?_
  have hS2r : ¬ S2 w.heap.size := fun x => (hs13.2 _ x).elim hS1r (fun y => by omega)
  have hst3 : Step S S2 w w3 := hstep1.trans hs13
  refine ⟨f, _, S2, rfl, ?_, hI3.keepM hk5 (fun g hg e => hS2r (by rw [← e]; exact hg)), hst3.1.trans hk5 (fun i hi e => absurd hi (by rw [e]; exact Nat.lt_irrefl _)), hst3.2⟩
  have hT := h.own.tidy keyed_int
  have hT1 := hT.put (k := kI f) (isKey_int _) (.lit (.int .i64 g))
  have hne : ∀ x : Int, x ≠ f → kI x ≠ kI f := fun x hx e => hx (by injection e)
  refine ⟨f3, ⟨Maps.has_put_same hT1.isMap (isKey_int _) _, by omega, by omega, ⟨_, by simp only [MSt.put, if_true]; rfl⟩, hfit⟩, fun x hx => ⟨?_, ?_⟩, ?_, rfl, rfl⟩
  · exact (Maps.has_put_other (hne x hx) _).trans (Maps.has_put_other (hne x hx) _)
  · simp only [MSt.put, if_neg hx]
  · show Maps.size ((σ.D.put (kI f) _).put (kI f) _) = _
    rw [Maps.size_put hT1, Maps.has_put_same hT.isMap (isKey_int _), if_pos rfl, Maps.size_put hT, f3]
    rfl
end Go.Proofs.Ytbldcbakhpdigaa
