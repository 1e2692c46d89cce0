/- The store in memory: Take, Used. -/
import Derived.Test.YtbldcbakhpdigaaStoW
import Derived.Test.YtbldcbakhpdigaaRegion
namespace Go.Proofs.Ytbldcbakhpdigaa
open Go.RowKit

theorem wf_nat (b : Int) (h0 : -1000000 ≤ b) (h1 : b ≤ 1000000) : (Lit.int .i64 b).wf = true := by
  simp only [Lit.wf, Bool.and_eq_true, decide_eq_true_eq]
  constructor
  · exact Int.le_trans (by decide) h0
  · exact Int.le_trans h1 (by decide)

theorem wp_mapUpdate {P : Program} {w : World} {o : Oper} {a : Act} {K : Act → World → Prop} {Q : Exit → Act → World → Prop} (m x v : Operand) (t : TypeId) (hop : o.op = Op.mapUpdate t m x v)
    (k e : TypeId) (Ky : Maps.Keyed P k) (ht : P.underlying t = some (.map k e)) (R : Value → Option (DataW Unit × List MemPlace)) (b n : Nat) (D : DataW Unit)
    (hm : a.eval m = .map (some b)) (hown : w.ownsMap P k R b n D) (hn : n < maxLen) (key val : Value) (kl : Lit) (hx : a.eval x = key) (hv : a.eval v = val) (hkey : keyOf P k key = some kl)
    (d : DataW Unit) (ps : List MemPlace) (hval : R val = some (d, ps))
    (hK : ∀ w', w'.ownsMap P k R b (n + 1) (D.put kl d) → w.grownBy w' (some b) → K (a.put o.dst undef) w') : o.wp P a w K Q := by
  obtain ⟨w', hrun, r1, r2⟩ := hown.update Ky ht hn hkey hval
  unfold Oper.wp
  simp [execOp, hop, hm, hx, hv, hrun, Result.andThen]
  exact hK _ r1 r2

theorem many_size (n : Nat) : ∀ D : DataW Unit, Maps.Tidy D → (∀ i : Nat, 1 ≤ i → i ≤ n → Maps.has D (kI i) = true) → n ≤ Maps.size D := by
  induction n with
  | zero => intro D _ _; exact Nat.zero_le _
  | succ n ih =>
    intro D hT h
    have h1 := ih (D.del (kI ((n + 1 : Nat) : Int))) (hT.del _) (fun i h1 h2 => by
      rw [Maps.has_del_other (fun e => by simp [kI] at e; omega)]
      exact h i h1 (by omega))
    have h2 := Maps.size_del (k := kI ((n + 1 : Nat) : Int)) hT
    rw [h (n + 1) (by omega) (Nat.le_refl _)] at h2
    rw [if_pos rfl] at h2
    omega

theorem least_free (D : DataW Unit) (hT : Maps.Tidy D) : ∃ f : Nat, 1 ≤ f ∧ f ≤ Maps.size D + 1 ∧ Maps.has D (kI f) = false ∧ ∀ i : Nat, 1 ≤ i → i < f → Maps.has D (kI i) = true := by
  have key : ∀ n : Nat, (∃ f : Nat, 1 ≤ f ∧ f ≤ n ∧ Maps.has D (kI f) = false ∧ ∀ i : Nat, 1 ≤ i → i < f → Maps.has D (kI i) = true) ∨ ∀ i : Nat, 1 ≤ i → i ≤ n → Maps.has D (kI i) = true := by
    intro n
    induction n with
    | zero => exact .inr (fun i h1 h2 => by omega)
    | succ n ih =>
      rcases ih with ⟨f, h1, h2, h3, h4⟩ | h
      · exact .inl ⟨f, h1, by omega, h3, h4⟩
      · cases hh : Maps.has D (kI ((n + 1 : Nat) : Int))
        · exact .inl ⟨n + 1, by omega, Nat.le_refl _, hh, fun i h1 h2 => h i h1 (by omega)⟩
        · exact .inr (fun i h1 h2 => by
            by_cases e : i = n + 1
            · rw [e]; exact hh
            · exact h i h1 (by omega))
  rcases key (Maps.size D + 1) with h | h
  · exact h
  · have := many_size _ D hT h; omega

set_option maxRecDepth 100000 in
theorem take_full (mp : Nat) (σ : MSt) (S : Nat → Prop) (w : World) (h : Inv σ S mp w) (hf : σ.most ≤ Maps.size σ.D) :
    Calls Try.prog 11 #[.pointer (some ⟨mp, 0, none⟩)] w fun e w' => e = .returned (.tuple #[.int .i64 0, .int .i64 12]) ∧ w' = w.drew := by
  have hm := h.blk
  have hlt : mp < w.heap.size := h.sub _ h.smp
  have c0 : w.drew.cell? ⟨mp, 0, none⟩ = some (.int .i64 σ.most) := by show w.cell? _ = _; simp [World.cell?, hm]
  have c1 : w.drew.cell? ⟨mp, 1, none⟩ = some (.map (some σ.bb)) := by show w.cell? _ = _; simp [World.cell?, hm]
  have hlen := h.own.drew.len (t := 70) Try.underlying70
  have hle : (σ.most : Int) ≤ (Maps.size σ.D : Int) := by omega
  go_enter Try.func11, Try.ntmps11
  go_wp2_with fail
  refine wp_region_ord (fun W => W = w.drew) (fun _ => true) [0, 1, 2, 3, 4, 5, 6, 7, 8, 9] rfl (by kernel_rfl) rfl ?_
  repeat ((refine ord_q (v := ?_) rfl rfl (fun _ _ _ h => h) rfl (fun W hW => ?_) ?_); rotate_left; (focus ((try dsimp only at hW); subst hW; have q0 := hlen; first | exact hlen _ | (go_simp; first | done | with_reducible rfl))); (try simp only [Act.put, List.setIfInBounds_toArray, List.set_cons_zero, List.set_cons_succ]))
  refine ord_nil ?_
  go_wp2_with fail
  go_ret2
  exact ⟨rfl, rfl⟩

theorem Inv.below {σ : MSt} {S : Nat → Prop} {mp : Nat} {w w' : World} (h : Inv σ S mp w) (hb : Below w.heap.size w w') : Inv σ S mp w' := by
  refine ⟨fun g hg => Nat.lt_of_lt_of_le (h.sub g hg) hb.size, h.smp, h.sbb, h.shb, h.ne, (hb.block _ (h.sub _ h.smp)).trans h.blk, ?_, ?_, h.szD, h.cap, h.hold, ?_⟩
  · obtain ⟨es, cl, hbm, r⟩ := h.own
    exact ⟨es, cl, (hb.block _ (h.sub _ h.sbb)).trans hbm, r⟩
  · obtain ⟨es, cl, hbm, r⟩ := h.oh
    exact ⟨es, cl, (hb.block _ (h.sub _ h.shb)).trans hbm, r⟩
  · intro b z hb2
    obtain ⟨g, r1, r2, r3, r4⟩ := h.rows b z hb2
    exact ⟨g, r1, r2, r3, (hb.block _ (h.sub _ r2)).trans r4⟩

set_option maxRecDepth 100000 in
theorem take_ok (mp : Nat) (σ : MSt) (S : Nat → Prop) (w : World) (h : Inv σ S mp w) (hf : Maps.size σ.D < σ.most) :
    Calls Try.prog 11 #[.pointer (some ⟨mp, 0, none⟩)] w fun e w' => ∃ (f : Nat) (g : Nat) (S' : Nat → Prop), e = .returned (.tuple #[.int .i64 f, .int .i64 0]) ∧ 1 ≤ f ∧ f ≤ σ.most ∧ Maps.has σ.D (kI f) = false ∧ (∀ i : Nat, 1 ≤ i → i < f → Maps.has σ.D (kI i) = true) ∧
      Inv (σ.put f g (List.replicate 512 0)) S' mp w' ∧ Step S S' w w' := by
  have hm := h.blk
  have hlt : mp < w.heap.size := h.sub _ h.smp
  have c0 : w.drew.cell? ⟨mp, 0, none⟩ = some (.int .i64 σ.most) := by show w.cell? _ = _; simp [World.cell?, hm]
  have c1 : w.drew.cell? ⟨mp, 1, none⟩ = some (.map (some σ.bb)) := by show w.cell? _ = _; simp [World.cell?, hm]
  have hlen := h.own.drew.len (t := 70) Try.underlying70
  have hle : ¬ (σ.most ≤ Maps.size σ.D) := by omega
  obtain ⟨f, f1, f2, f3, f4⟩ := least_free σ.D (h.own.tidy keyed_int)
  have hcap := h.cap
  have hf3 : f ≤ 4096 := by omega
  have HF := Lib.hid hf; clear hf
  go_enter Try.func11, Try.ntmps11
  go_wp2_with fail
  refine wp_region_ord (fun W => W = w.drew) (fun _ => true) [0, 1, 2, 3, 4, 5, 6, 7, 8, 9] rfl (by kernel_rfl) rfl ?_
  repeat ((refine ord_q (v := ?_) rfl rfl (fun _ _ _ h => h) rfl (fun W hW => ?_) ?_); rotate_left; (focus ((try dsimp only at hW); subst hW; have q0 := hlen; first | exact hlen _ | (go_simp; first | done | with_reducible rfl))); (try simp only [Act.put, List.setIfInBounds_toArray, List.set_cons_zero, List.set_cons_succ]))
  refine ord_nil ?_
  go_wp2_with fail
  clear c0 c1 hlen hle
  go_loopw [4, 5, 6] (fun i _ _ wr => ∃ k : Nat, 1 ≤ k ∧ k ≤ f ∧ i = .int .i64 k ∧ Below w.heap.size w wr) (fun i _ _ _ => f - (intOf i).toNat)
  case atStart => exact ⟨1, Nat.le_refl _, f1, rfl, (Below.refl _ _).drew⟩
  case round =>
    obtain ⟨k, k1, k2, rfl, hbel⟩ := hrel
    have hI := h.below hbel
    have hlt' := hI.sub _ hI.smp
    have c1 : wr.cell? ⟨mp, 1, none⟩ = some (.map (some σ.bb)) := by simp [World.cell?, hI.blk]
    have hz : (zeroValue 34).run Try.prog wr = .ok (.slice none 0 0) wr := by kernel_rfl
    have hkw := wf_nat (k : Int) (by omega) (by omega)
    by_cases hkf : k = f
    · subst hkf
      go_wp2_with (at_lookup; go_must (refine wpList_lookup_own_ok _ rfl _ _ 70 rfl 3 34 keyed_int Try.underlying70 rB hz (.lit (.int .i64 (-1))) [] rB_nil σ.bb 5000 σ.D rfl hI.own _ _ rfl (key_int k hkw) ?_; intro v ps hv; rw [f3]))
      have hS : ∀ W : World, Below w.heap.size w W → W.cell? ⟨mp, 1, none⟩ = some (.map (some σ.bb)) ∧ mp < W.heap.size := fun W hW => by
        have hI := h.below hW
        exact ⟨by simp [World.cell?, hI.blk], hI.sub _ hI.smp⟩
      refine wp_region_ord (fun W => Below w.heap.size w W) (fun i => !([5, 6].contains i)) [0, 1, 2, 3, 4, 5, 6] rfl (by kernel_rfl) hbel.drew ?_
      repeat ((refine ord_q (v := ?_) rfl rfl (fun _ _ _ h => h) rfl (fun W hW => ?_) ?_); rotate_left; (focus ((try dsimp only at hW); have q0 := (hS W hW).1; have q1 := (hS W hW).2; first | (go_simp; first | done | with_reducible rfl))); (try simp only [Act.put, List.setIfInBounds_toArray, List.set_cons_zero, List.set_cons_succ]))
      have hmk := make512 wr.drew
      refine ord_e rfl rfl rfl ?_; intro K hK; go_simp
      have hk1 : Keep NoS w (wr.drew.alloc (.cells (bCells (List.replicate 512 0)).toArray 5)) := (Keep.of_below hbel NoS).drew.alloc _
      have hr1 : Row (wr.drew.alloc (.cells (bCells (List.replicate 512 0)).toArray 5)) wr.heap.size 5 (bCells (List.replicate 512 0)) := heap_alloc_new wr.drew _
      refine hK.out _ _ hk1.below ?_
      refine ord_l rfl rfl rfl (by kernel_rfl) ?_; intro K hK
      refine wp_mapUpdate _ _ _ 70 rfl 3 34 keyed_int Try.underlying70 rB σ.bb 5000 σ.D rfl (h.below hk1.below).own (by simp [maxLen]) _ _ (kI k) rfl rfl (key_int k hkw) (.lit (.int .i64 wr.heap.size)) [] (rB_mk _) ?_
      intro w3 hown3 hgr3
      refine hK.out _ _ ?_
      refine ord_nil ?_
      go_wp2_with fail
      go_ret2
      have q := h.put k wr.heap.size _ hk1 hr1 List.length_replicate hbel.size (.inr HF.out) hown3 hgr3
      exact ⟨k, _, _, rfl, k1, by have := HF.out; omega, f3, f4, q.1, q.2⟩
    · have hh := f4 k k1 (by omega)
      go_wp2_with (at_lookup; go_must (refine wpList_lookup_own_ok _ rfl _ _ 70 rfl 3 34 keyed_int Try.underlying70 rB hz (.lit (.int .i64 (-1))) [] rB_nil σ.bb 5000 σ.D rfl hI.own _ _ rfl (key_int k hkw) ?_; intro v ps hv; rw [hh]))
      go_roundw
      case rel => exact ⟨k + 1, by omega, by omega, by go_num, hbel⟩
      case measure => simp [intOf]; omega
end Go.Proofs.Ytbldcbakhpdigaa
