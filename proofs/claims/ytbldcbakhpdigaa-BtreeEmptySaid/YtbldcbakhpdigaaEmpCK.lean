/- BtreeEmpty: whatever the input, the call returns true; the input reads as it did. No condition. -/
import Derived.Test.YtbldcbakhpdigaaJ9
import Derived.Test.YtbldcbakhpdigaaRows
import Derived.ProofKit
/- BtreeEmpty: the walk. -/
namespace Go.Proofs.Ytbldcbakhpdigaa
open Go.RowKit

theorem look_none {rs : List Pr} (hr : RisingP rs) {key : ByteArray} (h : ∀ p ∈ rs, p.1 ≠ key) : lookP rs key = none := by
  cases hq : lookP rs key with
  | none => rfl
  | some x => exact absurd rfl (h _ ((lookP_some hr).1 hq))
theorem del_front {p : Pr} {r : List Pr} (hr : RisingP (p :: r)) : delP (p :: r) p.1 = r ∧ lookP (p :: r) p.1 = some p.2 ∧ lookP r p.1 = none := by
  obtain ⟨h1, h2⟩ := List.pairwise_cons.1 hr
  have hne : ∀ q ∈ r, q.1 ≠ p.1 := fun q hq e => lt_ne (h1 q hq) e.symm
  refine ⟨?_, (lookP_some hr).2 (by simp), look_none h2 hne⟩
  rw [← filter_del hr, List.filter_cons, if_neg (by rw [eqS rfl]; simp), List.filter_eq_self.2 fun q hq => by rw [neS (hne q hq)]; rfl]
theorem del_last {p : Pr} {r : List Pr} (hr : RisingP (r ++ [p])) : delP (r ++ [p]) p.1 = r ∧ lookP (r ++ [p]) p.1 = some p.2 ∧ lookP r p.1 = none := by
  obtain ⟨h1, _, h3⟩ := List.pairwise_append.1 hr
  have hne : ∀ q ∈ r, q.1 ≠ p.1 := fun q hq e => lt_ne (h3 q hq p (by simp)) e
  refine ⟨?_, (lookP_some hr).2 (by simp), look_none h1 hne⟩
  rw [← filter_del hr, List.filter_append, List.filter_cons, if_neg (by rw [eqS rfl]; simp), List.filter_nil, List.append_nil, List.filter_eq_self.2 fun q hq => by rw [neS (hne q hq)]; rfl]

/-- all keys and values are good -/
def Gd (cs : List Pr) : Prop := ∀ p ∈ cs, GoodKV p.1 p.2
theorem putP_gd {cs : List Pr} (h : Gd cs) (key value : ByteArray) : Gd (putP cs key value) := by
  unfold putP
  split
  · rename_i hg
    intro p hp
    unfold insP at hp
    split at hp
    · rcases List.mem_or_eq_of_mem_set hp with hp | rfl
      · exact h p hp
      · exact hg
    · rcases List.mem_append.1 hp with hp | hp
      · exact h p (List.mem_of_mem_take hp)
      · rcases List.mem_cons.1 hp with rfl | hp
        · exact hg
        · exact h p (List.mem_of_mem_drop hp)
  · exact h

theorem prs_nx {w w' : World} {S S' : Nat → Prop} {v : Value} {ps : List Pr} {t mp : Nat} {root err : Int} (h : IsPrs w S v ps) (ht : TreeAt w t mp root err) (hx : Nx S S' t w w') : IsPrs w' S' v ps := by
  by_cases hp : ps = []
  · subst hp
    obtain ⟨ao, c, rfl, h1, h2, h3, h4, h5, h6⟩ := h
    refine ⟨ao, c, rfl, h1, h2, h3, h4, fun ad had => ?_, fun j u hu => by simp [prCells] at hu⟩
    have := h5 ad had
    exact ⟨this.1, Nat.lt_of_lt_of_le this.2.1 hx.1.size, fun x => (hx.2 _ x).elim this.2.2 (fun y => absurd this.2.1 (Nat.not_lt.2 y))⟩
  · have hne : v.ownBlock ≠ some t := by
      obtain ⟨p, r, rfl⟩ := List.exists_cons_of_ne_nil hp
      obtain ⟨ao, c, rfl, _, _, _, _, _, h6⟩ := h
      obtain ⟨b, o, rfl, hc⟩ := h6 0 (.string p.1) rfl
      intro e
      cases e
      rw [Nat.add_zero] at hc
      unfold TreeAt at ht
      rcases o with _ | _ | _ | o <;> simp [World.cell?, ht] at hc
    refine IsSl.keep h fun g hg hl hs => ⟨hx.1.block g hl (fun y => y.elim hs (fun e => hne (by rw [hg, e]))), fun x => (hx.2 g x).elim hs (fun y => absurd hl (Nat.not_lt.2 y))⟩

set_option maxRecDepth 100000 in
set_option maxHeartbeats 8000000 in
theorem empty_walk (v0 : Value) (ps : List Pr) (bk : Bool) (w : World) (hps : IsPL w v0 ps) :
    Calls Try.prog 6 #[v0, .bool bk] w fun e w' => e = .returned (.bool true) ∧ Below w.heap.size w w' := by
  obtain ⟨ao, cp, rfl, _, _⟩ := hps.form
  go_enter Try.func6, Try.ntmps6
  by_cases hlen : 200 < ps.length
  · have x1 : (200 : Int) < (ps.length : Int) := by omega
    go_wp2_with (first
      | (go_at_call 9; (refine (fixed_any w).mono ?_); rintro e w1 ⟨rfl, hb1⟩)
      | (go_at_call 9; (refine (fixed_any _).mono ?_); rintro e w2 ⟨rfl, hb2⟩))
    go_ret
    exact ⟨rfl, hb1.trans (hb2.mono hb1.size)⟩
  · have x1 : decide ((200 : Int) < (ps.length : Int)) = false := decide_eq_false (by omega)
    go_upto_region 5 with (first
      | (go_at_call 9; (refine (fixed_any w).mono ?_); rintro e w1 ⟨rfl, hb1⟩)
      | (go_at_call 10; go_must ((refine (newmem_any 4096 w1).mono ?_); rintro e w2 ⟨rfl, hI2, hs2, hb2⟩; have HS2 := Lib.hid hs2; clear hs2))
      | (go_at_call 16; go_must ((refine (open_any (w1.heap.size + 2) 0 w2 (by omega)).mono ?_); rintro e w3 ⟨rfl, hT3, hs3, hb3⟩; have HS3 := Lib.hid hs3; clear hs3)))
    have hTS0 := TS.new hb1 hI2 HS2.out hb2 hT3 hb3 rfl
    clear hI2 hT3 HS2 HS3 hb2 hb3
    generalize w1.heap.size + 2 = mp at hTS0 ⊢
    generalize w2.heap.size = t at hTS0 ⊢
    generalize (fun g => w1.heap.size ≤ g ∧ g < w1.heap.size + 3) = S0 at hTS0
    clear hb1 x1
    go_wp2_with fail
    go_loopw [7] (fun i wr => ∃ (k : Nat) (S : Nat → Prop) (cs : List Pr), k ≤ ps.length ∧ i = .int .i64 k ∧ TS w t mp S cs wr ∧ cs.length ≤ k ∧ Gd cs) (fun i _ => ps.length - (intOf i).toNat)
    case atStart => exact ⟨0, S0, [], Nat.zero_le _, rfl, hTS0, Nat.le_refl _, fun p hp => by cases hp⟩
    case round =>
      clear hTS0
      obtain ⟨k, S, cs, hk, rfl, hTS, hcl, hgd⟩ := hrel
      by_cases hlt : k < ps.length
      · obtain ⟨b, o, rfl, d1, d2⟩ := hps.at rfl k hlt
        have hlt' : (k : Int) < (ps.length : Int) := by omega
        have hbl := World.block_lt_of_cell? w _ d1
        have hP := (hTS.below ((Below.refl _ wr).drew)).put ps[k].1 ps[k].2 (by omega)
        have HP := Lib.hid hP; clear hP
        go_wp2_with fail
        refine wp_region_ord (fun W => Below w.heap.size w W) (fun i => !([11].contains i)) [0, 1, 2, 3, 4, 5, 6, 7, 8, 9, 10, 11] rfl (by kernel_rfl) hTS.bel.drew ?_
        repeat ((refine ord_q (v := ?_) rfl rfl (fun _ _ _ h => h) rfl (fun W hW => ?_) ?_); rotate_left; (focus ((try dsimp only at hW); have q0 := (hW.cell (p := ⟨b, o + k * 2, none⟩) hbl).trans d1; have q1 := (hW.cell (p := ⟨b, o + k * 2 + 1, none⟩) hbl).trans d2; have q2 := Nat.lt_of_lt_of_le hbl hW.size; first | (go_simp; first | done | with_reducible rfl))); (try simp only [Act.put, List.setIfInBounds_toArray, List.set_cons_zero, List.set_cons_succ]))
        refine ord_e rfl rfl rfl ?_; intro K hK; go_simp
        refine HP.out.mono ?_; rintro e w4 ⟨rfl, S', hTS4, _⟩
        refine hK.out _ _ hTS4.bel ?_
        refine ord_nil ?_
        go_wp2_with fail
        go_roundw
        case rel => exact ⟨k + 1, S', _, by omega, by go_num, hTS4, by have := putP_len cs ps[k].1 ps[k].2; omega, putP_gd hgd _ _⟩
        case measure => simp [intOf]; omega
      · obtain rfl : k = ps.length := by omega
        have x1 : ¬ (ps.length : Int) < (ps.length : Int) := by omega
        have hn2 : cs.length ≤ 200 := by omega
        have hw := hTS.whole (by omega)
        have HW := Lib.hid hw; clear hw
        go_wp2_with (go_at_call 21; go_must (refine HW.out.mono ?_; rintro e w4 ⟨v, rfl, hv, hb4⟩; refine Stop.of ?_))
        refine Stop.on ?_
        have hTS4 := hTS.below hb4
        obtain ⟨vo, vc, rfl, _, _, _, _⟩ := IsSl.form hv
        have hr := hTS.rise
        clear hTS HW hcl hlt x1
        go_wp2_with fail
        go_loopw [10, 11, 12, 13, 14, 15] (fun i _ _ _ _ _ wr2 => ∃ (k : Nat) (S2 : Nat → Prop), k ≤ cs.length ∧ i = .int .i64 k ∧ TS w t mp S2 (if bk then cs.take (cs.length - k) else cs.drop k) wr2 ∧ IsPrs wr2 S2 (.slice vo cs.length vc) cs) (fun i _ _ _ _ _ _ => cs.length - (intOf i).toNat)
        case atStart => exact ⟨0, S, Nat.zero_le _, rfl, by simpa using hTS4, hv⟩
        case round =>
          clear hTS4 hv
          obtain ⟨k, S2, hk2, rfl, hTS2, hv2⟩ := hrel
          by_cases hlt2 : k < cs.length
          · obtain ⟨b, o, rfl, d1, d2⟩ := hv2.at rfl k hlt2
            have hlt' : (k : Int) < (cs.length : Int) := by omega
            have hbl := World.block_lt_of_cell? wr _ d1
            clear d2
            cases bk with
            | false =>
              rw [if_neg (by simp)] at hTS2
              have hds : cs.drop k = cs[k] :: cs.drop (k + 1) := List.drop_eq_getElem_cons hlt2
              have hgk := hgd cs[k] (List.getElem_mem _)
              have hdd := del_front (p := cs[k]) (r := cs.drop (k + 1)) (by rw [← hds]; exact hTS2.rise)
              rw [← hds] at hdd
              have HDD := Lib.hid hdd; clear hdd
              have HDS := Lib.hid hds; clear hds
              have hd1 := hTS2.del cs[k].1 (by simp; omega) ⟨hgk.1.1, hgk.1.2⟩
              rw [HDD.out.2.1, HDD.out.1] at hd1
              simp only [Option.isSome_some] at hd1
              have HD1 := Lib.hid hd1; clear hd1
              go_wp2_with (go_at_call 23; go_must (refine HD1.out.mono ?_; rintro e w5 ⟨rfl, S3, hTS3, hNx3⟩; refine Stop.of ?_))
              refine Stop.on ?_
              have hd2 := hTS3.del cs[k].1 (by simp; omega) ⟨hgk.1.1, hgk.1.2⟩
              rw [HDD.out.2.2, delP_none HDD.out.2.2] at hd2
              simp only [Option.isSome_none] at hd2
              have HD2 := Lib.hid hd2; clear hd2
              obtain ⟨_, _, _, _, hTA, _⟩ := hTS2.is
              have hv3 := prs_nx hv2 hTA hNx3
              obtain ⟨_, _, _, _, hTA3, _⟩ := hTS3.is
              go_wp2_with (go_at_call 23; go_must (refine HD2.out.mono ?_; rintro e w6 ⟨rfl, S4, hTS4, hNx4⟩))
              have hv4 := prs_nx hv3 hTA3 hNx4
              go_roundw
              case rel => exact ⟨k + 1, S4, by omega, by go_num, by rw [if_neg (by simp)]; exact hTS4, hv4⟩
              case measure => simp [intOf]; omega
            | true =>
              rw [if_pos rfl] at hTS2
              obtain ⟨m, hm⟩ : ∃ m, cs.length = k + 1 + m := ⟨cs.length - (k + 1), by omega⟩
              have hmi : (cs.length : Int) - 1 - (k : Int) = (m : Int) := by omega
              have hml : m < cs.length := by omega
              have hds : cs.take (cs.length - k) = cs.take m ++ [cs[m]] := by rw [show cs.length - k = m + 1 from by omega, List.take_succ_eq_append_getElem hml]
              have HM := Lib.hid hm; clear hm
              have hml' : (m : Int) < (cs.length : Int) := by omega
              obtain ⟨_, _, e, d3, _⟩ := hv2.at rfl m hml
              cases e
              have hgk := hgd cs[m] (List.getElem_mem _)
              have hdd := del_last (p := cs[m]) (r := cs.take m) (by rw [← hds]; exact hTS2.rise)
              rw [← hds] at hdd
              have HDD := Lib.hid hdd; clear hdd
              have HDS := Lib.hid hds; clear hds
              have hd1 := hTS2.del cs[m].1 (by simp; omega) ⟨hgk.1.1, hgk.1.2⟩
              rw [HDD.out.2.1, HDD.out.1] at hd1
              simp only [Option.isSome_some] at hd1
              have HD1 := Lib.hid hd1; clear hd1
              go_wp2_with (go_at_call 23; go_must (refine HD1.out.mono ?_; rintro e w5 ⟨rfl, S3, hTS3, hNx3⟩; refine Stop.of ?_))
              refine Stop.on ?_
              have hd2 := hTS3.del cs[m].1 (by simp; omega) ⟨hgk.1.1, hgk.1.2⟩
              rw [HDD.out.2.2, delP_none HDD.out.2.2] at hd2
              simp only [Option.isSome_none] at hd2
              have HD2 := Lib.hid hd2; clear hd2
              obtain ⟨_, _, _, _, hTA, _⟩ := hTS2.is
              have hv3 := prs_nx hv2 hTA hNx3
              obtain ⟨_, _, _, _, hTA3, _⟩ := hTS3.is
              go_wp2_with (go_at_call 23; go_must (refine HD2.out.mono ?_; rintro e w6 ⟨rfl, S4, hTS4, hNx4⟩))
              have hv4 := prs_nx hv3 hTA3 hNx4
              go_roundw
              case rel => exact ⟨k + 1, S4, by omega, by go_num, by have e : cs.length - (k + 1) = m := (by have := HM.out; omega); simp only [e]; exact hTS4, hv4⟩
              case measure => simp [intOf]; omega
          · obtain rfl : k = cs.length := by omega
            have x1 : ¬ (cs.length : Int) < (cs.length : Int) := by omega
            have hTE : TS w t mp S2 [] wr := by
              have := hTS2
              cases bk <;> simpa using this
            have hb := hTE.bare
            have HB1 := Lib.hid hb.1
            have HB2 := Lib.hid hb.2
            clear hb
            go_wp2_with (first
              | (go_at_call 12; go_must (refine HB1.out.mono ?_; rintro e w6 ⟨rfl, hw⟩; subst w6))
              | (go_at_call 24; go_must (refine HB2.out.mono ?_; rintro e w6 ⟨rfl, hw⟩; subst w6)))
            go_ret
            exact ⟨rfl, hTE.bel⟩
end Go.Proofs.Ytbldcbakhpdigaa

namespace Go.Proofs.Ytbldcbakhpdigaa
open Go.RowKit Go.ChangeShapes Go.WideShapes Go.ChangeAt Go.Joins
open Go.ChangeMaps (open_string shut_string)

theorem laid_outE : laidOutB Try.prog = true := by kernel_rfl
theorem own_noneE : ownKnob Try.prog.godebug = none := by kernel_rfl

set_option maxRecDepth 100000 in
set_option maxHeartbeats 2000000 in
theorem empty_lifted (os : Os) (started : os.Started) (H : Type) (enc : TypeId × Value → H) :
    ReturnsInHanded {} Try.checked os 6 .any (Rows.btreeEmptySpec.pre6 enc Try.prog Try.f6 Rows.btreeEmptyRow.domain false) (Rows.btreeEmptySpec.post enc Try.prog Try.f6 false true false false) := by
  refine returnsInHanded_of_change (C := Try.checked) own_noneE started (by kernel_rfl) Try.func6
    (ChangeSpec.witness6 (enc := enc) (C := Try.checked) false ⟨#[], #[.slice none 0 0, .bool false], []⟩ 8 (by kernel_rfl) (by kernel_rfl) (by kernel_rfl) (by kernel_rfl)) ?_
  intro W base args ds gs before hval0 hW hcnd _
  have hval : ∀ (j : Nat) t v, Try.f6.params[j]? = some t → args[j]? = some v → Value.okWide Try.prog W .any base t v := hval0
  have hW' := hW
  obtain ⟨p, q, hA0, hV, rfl, hfz, hnd⟩ := hW
  have hA : DataW.TrodAll enc Try.prog W 0 (fun _ => true) true Try.f6.params.toList args.toList ds p := hA0
  rw [Try.params6] at hA hval
  obtain ⟨v0, v1, d0, d1, p0, p1, rfl, rfl, rfl, h0, h1⟩ := trodAll_two hA
  obtain ⟨rfl, rfl⟩ := trodVars_none hV
  simp only [List.append_nil] at hW'
  obtain ⟨bk, rfl, rfl, rfl⟩ := open_bool Try.underlying4 (hval 1 4 v1 rfl rfl) h1
  have hlt : ∀ x ∈ p0, x.block < W.heap.size := fun x hx => by have := hW'.lt x (by simpa using hx); simpa using this
  have h0k := h0
  obtain ⟨a0, len, cap, rfl⟩ := okWide_slice Try.underlying40 (hval 0 40 v0 rfl rfl)
  obtain ⟨fuel, hf⟩ := h0
  obtain ⟨v, ps, e1, hps⟩ := open_prs (by simpa [Value.cells] using hf)
  simp at e1
  subst e1
  clear hA0 hval0
  refine (empty_walk _ ps bk W hps).mono fun e W' ⟨he, hb⟩ => ?_
  subst he
  refine ⟨_, rfl, _, _, _, [], p0 ++ [], [], hW', ?_, ?_, rfl, hb.frame _, fun h => by cases h⟩
  · exact trodAll_mk1 (shut_bool Try.underlying4 true)
  · exact trodAll_mk2 (Below.trod laid_outE (by kernel_rfl) (of_decide_eq_true (by kernel_rfl)) h0k hb hlt) (shut_bool Try.underlying4 bk)

theorem empty_holds : Rows.BtreeEmptySaid :=
  OpenClaim.holds_of_wide (p := Try.pinned) (s := Rows.btreeEmptySpec) (c := Rows.btreeEmptyRow) 6 Try.f6 rfl rfl rfl rfl rfl rfl rfl ⟨rfl, rfl, rfl, rfl, rfl⟩ rfl rfl rfl rfl rfl (by kernel_rfl) Try.func6 (by kernel_rfl)
    (of_decide_eq_true (by kernel_rfl)) (by unfold Func.isWrapper; first | (rw [if_pos (by decide +kernel)]; kernel_rfl) | (rw [if_neg (by decide +kernel)]; exact ⟨rfl, rfl⟩))
    (fun os started H enc _ => empty_lifted os started H enc)
#print axioms empty_holds
end Go.Proofs.Ytbldcbakhpdigaa

