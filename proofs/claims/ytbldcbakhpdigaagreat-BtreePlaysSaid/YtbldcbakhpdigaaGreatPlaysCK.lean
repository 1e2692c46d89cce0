/- BtreePlays: whatever the input, the call returns true; the input reads as it did. No condition. -/
import Derived.Test.YtbldcbakhpdigaaGreatJ9
import Derived.BigQuiet
import Derived.Test.YtbldcbakhpdigaaGreatRows
import Derived.ProofKit
/- BtreePlays: the walk. -/
namespace Go.Proofs.YtbldcbakhpdigaaGreat
open Go.RowKit

theorem BL.blk {σ : MSt} {n : Nat} {L T : List Int} (h : BL σ n L T) : ∀ x ∈ T, ∃ nd, Blk σ x nd := by
  induction h with
  | done => simp
  | @step n L nds T h1 h2 h3 _ ih =>
    intro x hx
    rcases List.mem_append.1 hx with hx | hx
    · obtain ⟨i, hi, rfl⟩ := List.mem_iff_getElem.1 hx
      exact ⟨_, h3 i hi (by omega)⟩
    · exact ih x hx

section
variable {w0 : World} {t mp r : Nat} {root0 : Int} {cs0 : List Pr} {bs0 : List Int} {S : Nat → Prop} {cs : List Pr} {w : World}
theorem TG.used (h : TG w0 t mp 0 (.map []) root0 cs0 bs0 S cs w) :
    ∃ n : Nat, n ≤ 2 * cs.length ∧ Calls Tryz.prog 8 #[.pointer (some ⟨mp, 0, none⟩)] w fun e w' => e = .returned (.int .i64 n) ∧ w' = w := by
  obtain ⟨σ, root, bs, hI, hT, hR, hn, hH, hD, hm, _⟩ := h.is
  refine ⟨Maps.size σ.D, ?_, used_any mp σ S w hI⟩
  rw [hD, nh_none hH, Nat.zero_add]
  exact hR.count
end

theorem blocks_all (t mp : Nat) (root : Int) (σ : MSt) (S : Nat → Prop) (w : World) (h : Inv σ S mp w) (ht : TreeAt w t mp root 0) (n : Nat) (T : List Int) (hn : n ≤ 12) (hB : BL σ n (if root = 0 then [] else [root]) T) (hl : T.length ≤ 9000) :
    Calls Tryz.prog 9 #[.pointer (some ⟨t, 0, none⟩)] w fun e w' => ∃ v, e = .returned (.tuple #[v, .int .i64 0]) ∧ IsInts w' S v (srtI T) ∧ Below w.heap.size w w' := by
  by_cases hr : root = 0
  · subst hr
    rw [if_pos rfl] at hB
    have hT : T = [] := by
      generalize hL : ([] : List Int) = L at hB
      cases hB with
      | done => rfl
      | step h1 _ _ _ => exact absurd hL.symm h1
    subst hT
    exact blocks_zero t mp S w ht
  · rw [if_neg hr] at hB
    exact blocks_some t mp root σ S w h ht hr n T hn hB hl

set_option maxRecDepth 100000 in
set_option maxHeartbeats 8000000 in
theorem plays_walk (v0 : Value) (os1 : List OpV) (w : World) (h1 : IsOps w v0 os1) (hw1 : ∀ o ∈ os1, 0 ≤ o.1 ∧ o.1 ≤ 255) :
    Calls Tryz.prog 3 #[v0] w fun e w' => e = .returned (.bool true) ∧ Below w.heap.size w w' := by
  obtain ⟨ao, ac, rfl, _, hac, _⟩ := id h1
  have hac' : ac ≤ 9223372036854775807 := by simpa [maxLen] using hac
  go_enter Tryz.func3, Tryz.ntmps3
  by_cases hlen : 2000 < os1.length
  · have x1 : (2000 : Int) < (os1.length : Int) := by omega
    go_wp2_with (first
      | (go_at_call 4; (refine (fixed_any w).mono ?_); rintro e w1 ⟨rfl, hb1⟩)
      | (go_at_call 4; (refine (fixed_any _).mono ?_); rintro e w2 ⟨rfl, hb2⟩))
    go_ret
    exact ⟨rfl, hb1.trans (hb2.mono hb1.size)⟩
  · have x1 : decide ((2000 : Int) < (os1.length : Int)) = false := decide_eq_false (by omega)
    go_upto_region 5 with (first
      | (go_at_call 4; (refine (fixed_any w).mono ?_); rintro e w1 ⟨rfl, hb1⟩)
      | (go_at_call 5; go_must ((refine (newmem_any 4096 w1).mono ?_); rintro e w2 ⟨rfl, hI2, hs2, hb2⟩; have HS2 := Lib.hid hs2; clear hs2))
      | (go_at_call 6; go_must ((refine (open_any (w1.heap.size + 2) 0 w2 (by omega)).mono ?_); rintro e w3 ⟨rfl, hT3, hs3, hb3⟩; have HS3 := Lib.hid hs3; clear hs3)))
    have hb6 := below_one w3 (.cells #[.slice none 0 0] 31)
    have hTr : TGR w w2.heap.size (w1.heap.size + 2) 0 w3.heap.size (.map []) 0 [] [] (fun g => w1.heap.size ≤ g ∧ g < w1.heap.size + 3) [] (w3.alloc (.cells #[.slice none 0 0] 31)) := by
      have e1 := HS2.out; have e2 := HS3.out
      have hTS := TS.new hb1 hI2 HS2.out hb2 hT3 hb3 rfl
      refine ⟨⟨hTS.bel.trans (hb6.mono hTS.bel.size), hTS.lo, hTS.tlo, hTS.nt, MSt.new 4096 w1.heap.size, 0, [], ((hI2.below hb3).below hb6), (hb6.block _ (by omega)).trans hT3, .inl ⟨rfl, rfl, rfl⟩, List.nodup_nil, rfl, by simp [MSt.new, Maps.size_eq, nh], rfl, .inl ⟨rfl, rfl, rfl⟩, by simp⟩, ⟨fun hu => by rcases hu with hu | hu <;> omega, _, heap_alloc_new w3 _, IsSl.nil _ _ _⟩, hTS.bel.size⟩
    clear hI2 hT3 HS2 HS3 hb1 hb2 hb3 hb6 x1
    generalize w1.heap.size + 2 = mp at hTr ⊢
    generalize (fun g => w1.heap.size ≤ g ∧ g < w1.heap.size + 3) = S0 at hTr
    generalize w3.alloc (.cells #[.slice none 0 0] 31) = w4 at hTr ⊢
    generalize w2.heap.size = t at hTr ⊢
    generalize w3.heap.size = r at hTr ⊢
    go_wp2_with fail
    go_loopw [6] (fun i wr => ∃ (k : Nat) (S : Nat → Prop) (cs : List Pr), k ≤ os1.length ∧ i = .int .i64 k ∧ TGR w t mp 0 r (.map []) 0 [] [] S cs wr ∧ cs.length ≤ k) (fun i _ => os1.length - (intOf i).toNat)
    case atStart => exact ⟨0, S0, [], Nat.zero_le _, rfl, hTr, Nat.le_refl _⟩
    case round =>
      clear hTr
      obtain ⟨k, S, cs, hk, rfl, hTr, hcl⟩ := hrel
      by_cases hlt : k < os1.length
      · obtain ⟨b, o, rfl, d0, d1, d2, d3⟩ := h1.at rfl k hlt
        have hlt' : (k : Int) < (os1.length : Int) := by omega
        have hbl : b < w.heap.size := World.block_lt_of_cell? w _ d0
        have d0 := (hTr.g.bel.cell (p := ⟨b, o + k * 4, none⟩) hbl).trans d0
        have d1 := (hTr.g.bel.cell (p := ⟨b, o + k * 4 + 1, none⟩) hbl).trans d1
        have d2 := (hTr.g.bel.cell (p := ⟨b, o + k * 4 + 2, none⟩) hbl).trans d2
        have d3 := (hTr.g.bel.cell (p := ⟨b, o + k * 4 + 3, none⟩) hbl).trans d3
        have hbl := Nat.lt_of_lt_of_le hbl hTr.g.bel.size
        have hkd := hw1 _ (List.getElem_mem hlt)
        have hTd := hTr.below ((Below.refl _ wr).drew)
        have hS := step_any hTd os1[k].1 os1[k].2.1 os1[k].2.2.1 os1[k].2.2.2 hkd.1 hkd.2 (by omega)
        have hsl := stepL_len cs os1[k].1 os1[k].2.1 os1[k].2.2.1
        generalize stepL cs os1[k].1 os1[k].2.1 os1[k].2.2.1 = cs2 at hS hsl
        have HS := Lib.hid hS; clear hS hTd hTr
        go_wp2_with fail
        refine wp_region_piv (fun W => W.cell? ⟨b, o + k * 4, none⟩ = some (.int .u8 os1[k].1) ∧ W.cell? ⟨b, o + k * 4 + 1, none⟩ = some (.string os1[k].2.1) ∧ W.cell? ⟨b, o + k * 4 + 2, none⟩ = some (.string os1[k].2.2.1) ∧ W.cell? ⟨b, o + k * 4 + 3, none⟩ = some (.int .i64 os1[k].2.2.2) ∧ b < W.heap.size) (fun i => !([6, 10].contains i)) [0, 1, 2, 3, 4, 5, 6, 7, 8, 9, 11, 12, 13, 14, 15, 16, 10, 17, 18] rfl (by kernel_rfl) ⟨d0, d1, d2, d3, hbl⟩ ?_
        clear d0 d1 d2 d3 hbl
        repeat ((refine piv_q (v := ?_) rfl rfl (fun _ _ _ h => h) rfl (fun W hW => ?_) ?_); rotate_left; (focus ((try dsimp only at hW); obtain ⟨q0, q1, q2, q3, q4⟩ := hW; first | (go_simp; first | done | with_reducible rfl))); (try simp only [Act.put, List.setIfInBounds_toArray, List.set_cons_zero, List.set_cons_succ]))
        refine piv_p rfl rfl rfl (by kernel_rfl) ?_; intro K hK; go_simp
        refine HS.out.mono ?_; rintro e w5 ⟨rfl, S', hT', _⟩
        obtain ⟨_, rv, hrb, hrv⟩ := hT'.ref
        obtain ⟨c0, _, lr⟩ := cellR hrb
        obtain ⟨xo, xc, rfl, _, _, _, _⟩ := IsSl.form hrv
        obtain ⟨u, hu, hU⟩ := hT'.g.used
        have HU := Lib.hid hU; clear hU hrb hrv
        have hc2 : cs2.length ≤ 2000 := by omega
        have hui : ¬ (2 * (cs2.length : Int) < (u : Int)) := by omega
        have hwr : IntKind.i64.wrap (2 * (cs2.length : Int)) = 2 * (cs2.length : Int) := IntWalk.i64_in _ (by omega)
        refine hK.out (fun W => W.cell? ⟨r, 0, none⟩ = some (.slice xo cs2.length xc) ∧ r < W.heap.size) _ _ ⟨c0, lr⟩ ?_
        (try simp only [Act.put, List.setIfInBounds_toArray, List.set_cons_zero, List.set_cons_succ])
        repeat ((refine piv_q (v := ?_) rfl rfl (fun _ _ _ h => h) rfl (fun W hW => ?_) ?_); rotate_left; (focus ((try dsimp only at hW); obtain ⟨q0, q1⟩ := hW; first | (go_simp; first | done | with_reducible rfl))); (try simp only [Act.put, List.setIfInBounds_toArray, List.set_cons_zero, List.set_cons_succ]))
        refine piv_e rfl rfl rfl ?_; intro K2 hK2; go_simp
        refine HU.out.mono ?_; rintro e w6 ⟨rfl, rfl⟩
        refine hK2.out _ _ ⟨c0, lr⟩ ?_
        (try simp only [Act.put, List.setIfInBounds_toArray, List.set_cons_zero, List.set_cons_succ])
        repeat ((refine piv_q (v := ?_) rfl rfl (fun _ _ _ h => h) rfl (fun W hW => ?_) ?_); rotate_left; (focus ((try dsimp only at hW); obtain ⟨q0, q1⟩ := hW; first | (go_simp; first | done | with_reducible rfl))); (try simp only [Act.put, List.setIfInBounds_toArray, List.set_cons_zero, List.set_cons_succ]))
        refine piv_nil ?_
        go_wp2_with fail
        go_roundw
        case rel => exact ⟨k + 1, S', cs2, by omega, by go_num, hT', by omega⟩
        case measure => simp [intOf]; omega
      · obtain rfl : k = os1.length := by omega
        have x1 : ¬ (os1.length : Int) < (os1.length : Int) := by omega
        have hn2 : cs.length ≤ 2000 := by omega
        obtain ⟨σ, root, bs, hI, hT, hR, hn, hH, hD, hm, _, _⟩ := hTr.g.is
        obtain ⟨n, T, hn12, hBL, hperm⟩ := hR.bl (by omega)
        have hTl : T.length = bs.length := hperm.length_eq
        have hcnt := hR.count
        have hBk := blocks_all t mp root σ S wr hI hT n T hn12 hBL (by omega)
        have HBk := Lib.hid hBk; clear hBk
        have hrise := srtI_rise (hperm.nodup_iff.2 hn)
        have hZl : (srtI T).length = bs.length := by rw [srtI_len, hTl]
        have hblk : ∀ x ∈ srtI T, (∃ nd, Blk σ x nd) ∧ Maps.has σ.D (kI x) = true := fun x hx => by
          obtain ⟨nd, hb⟩ := hBL.blk x (srtI_mem x |>.1 hx)
          exact ⟨⟨nd, hb⟩, hb.has⟩
        generalize srtI T = Z at HBk hrise hZl hblk
        have HBLK := Lib.hid hblk; clear hblk
        have HRI := Lib.hid hrise; clear hrise
        clear hBL hperm
        have hsz : Maps.size σ.D = Z.length := by rw [hD, nh_none hH, Nat.zero_add, hZl]
        have hrz : cs.length = 0 → root = 0 := fun hc => by
          rcases hR with ⟨h0, _⟩ | ⟨h, ht⟩
          · exact h0
          · exact absurd (List.eq_nil_of_length_eq_zero hc) ht.content.ne
        have HRZ := Lib.hid hrz; clear hrz
        have HD := Lib.hid hD; clear hD
        have HZL := Lib.hid hZl; clear hZl
        go_wp2_with (first
          | (go_at_call 9; go_must (refine HBk.out.mono ?_; rintro e wB ⟨bv, rfl, hbv, hbB⟩; refine Stop.of ?_)))
        refine Stop.on ?_
        have hTrB := hTr.below hbB
        have hIB := hI.below hbB
        have hTB : TreeAt wB t mp root 0 := (hbB.block t (Array.getElem?_eq_some_iff.1 hT).1).trans hT
        obtain ⟨bo, bc, rfl, _, hbc, _, _⟩ := IsSl.form hbv
        obtain ⟨_, rv, hrb, hrv⟩ := hTrB.ref
        obtain ⟨c0, _, lr⟩ := cellR hrb
        obtain ⟨xo, xc, rfl, _, _, _, _⟩ := IsSl.form hrv
        have hus := used_any mp σ S wB hIB
        rw [hsz] at hus
        have HUS := Lib.hid hus; clear hus
        have hrt := root_any t mp root 0 wB hTB
        have HRT := Lib.hid hrt; clear hrt
        have hrl := hR.root_le
        have hcs : cs.length = 0 ∨ 0 < cs.length := Nat.eq_zero_or_pos _
        have HZ9 : Z.length ≤ 9000 := by rw [HZL.out]; omega
        have hE : ∀ wk : World, Below wB.heap.size wB wk → True := fun _ _ => trivial
        rcases hcs with hc | hc
        all_goals
          first
          | (have hc1 : ((cs.length : Int) == 0) = true := by simp [hc]
             have hrt0 := HRT.out
             rw [HRZ.out hc] at hrt0
             have HRT := Lib.hid hrt0; clear hrt0
             have HC := Lib.hid hc; clear hc)
          | (have hc1 : ((cs.length : Int) == 0) = false := by (simp; intro e; simp [e] at hc)
             have HC := Lib.hid hc; clear hc)
        all_goals
          go_wp2_with (first
            | (go_at_call 8; go_must (refine HUS.out.mono ?_; rintro e w6 ⟨rfl, hw⟩; subst w6))
            | (go_at_call 10; go_must (refine HRT.out.mono ?_; rintro e w6 ⟨rfl, hw⟩; subst w6)))
        all_goals (try clear hc1)
        all_goals
          go_loopw [9, 10, 11] (fun i _ _ wk => ∃ k : Nat, k ≤ Z.length ∧ i = .int .i64 k ∧ Below wB.heap.size wB wk) (fun i _ _ _ => Z.length - (intOf i).toNat)
          case atStart => exact ⟨0, by omega, rfl, Below.refl _ _⟩
          case round =>
            obtain ⟨k, hk, rfl, hbk⟩ := hrel
            have hIk := hIB.below hbk
            by_cases hkl : k < Z.length
            · have hkli : (k : Int) < (Z.length : Int) := by omega
              have hk9 : k ≤ 9000 := by omega
              obtain ⟨zb, zo, rfl, d1⟩ := IsInts.at (zs := Z) (IsSl.below hbv hbk) rfl k hkl
              have hzb := World.block_lt_of_cell? wr _ d1
              obtain ⟨⟨nd, hbd⟩, hhas⟩ := HBLK.out _ (List.getElem_mem hkl)
              have hrd := read_has mp σ S wr Z[k] hIk (wf_nat _ (by have := hbd.lo; omega) (by have := hbd.hi; omega)) hhas
              have HRD := Lib.hid hrd; clear hrd hbd hhas
              go_wp2_with (first
                | (go_at_call 11; go_must (refine HRD.out.mono ?_; rintro e w7 ⟨rv7, rfl, _, hb7⟩; refine Stop.of ?_)))
              refine Stop.on ?_
              have hbk7 := hbk.trans (hb7.mono hbk.size)
              have d1' := (hb7.cell (p := ⟨zb, zo + k, none⟩) hzb).trans d1
              have hzb7 := Nat.lt_of_lt_of_le hzb hb7.size
              clear d1 hzb
              rcases Nat.eq_zero_or_pos k with hk0 | hk0
              · subst hk0
                go_wp2_with fail
                go_quiet (fail)
                go_wp2_with fail
                go_roundw
                case rel => exact ⟨1, by omega, rfl, below_drewN hbk7 _⟩
                case measure => simp [intOf]; omega
              · obtain ⟨m, hm⟩ : ∃ m, k = m + 1 := ⟨k - 1, by omega⟩
                have hm2 : m < Z.length := by omega
                obtain ⟨_, _, e, d2⟩ := IsInts.at (zs := Z) (IsSl.below (IsSl.below hbv hbk) hb7) rfl m hm2
                cases e
                have hgt : decide (Z[k] ≤ Z[m]) = false := decide_eq_false (by have := List.pairwise_iff_getElem.1 HRI.out m k hm2 hkl (by omega); omega)
                have hmi : (k : Int) - 1 = (m : Int) := by omega
                have hmw : IntKind.i64.wrap ((k : Int) - 1) = (m : Int) := by rw [hmi]; exact IntWalk.i64_in _ (by omega)
                have hmq : (m : Int) < (Z.length : Int) := by omega
                have hk0' : (0 : Int) < (k : Int) := by omega
                have hkd : decide ((0 : Int) < (k : Int)) = true := decide_eq_true hk0'
                have HM := Lib.hid hm; clear hm
                go_wp2_with fail
                go_quiet (fail)
                go_wp2_with fail
                go_roundw
                case rel => exact ⟨k + 1, by omega, by go_num, below_drewN hbk7 _⟩
                case measure => simp [intOf]; omega
            · obtain rfl : k = Z.length := by omega
              have x9 : ¬ (Z.length : Int) < (Z.length : Int) := by omega
              have hTk : TreeAt wr t mp root 0 := (hbk.block t (Array.getElem?_eq_some_iff.1 hTB).1).trans hTB
              have c0k := (hbk.cell (p := ⟨r, 0, none⟩) lr).trans c0
              have lrk := Nat.lt_of_lt_of_le lr hbk.size
              have hpe : posAt cs ⟨#[]⟩ = 0 := by
                cases cs with
                | nil => rfl
                | cons p r => simp [posAt, lt_empty]
              have HPE := Lib.hid hpe; clear hpe
              clear c0 lr hkl hk
              go_wp2_with (first
                | (go_at_call 10; go_must ((refine (root_any t mp root 0 wr hTk).mono ?_); rintro e wc ⟨rfl, hw⟩; subst wc))
                | (go_at_call 6; go_must ((refine (open_any mp root wr hrl).mono ?_); rintro e wd ⟨rfl, hTd, hsd, hbd⟩; clear hsd; refine Stop.of ?_)))
              refine Stop.on ?_
              have hsB := scan_tree wr.heap.size mp root σ S cs bs ⟨#[]⟩ 1073741824 wd (hIk.below hbd) hTd hR (by omega)
              rw [HPE.out, List.drop_zero, List.take_of_length_le (by omega)] at hsB
              have HsB := Lib.hid hsB; clear hsB
              go_wp2_with (first
                | (go_at_call 12; go_must (refine HsB.out.mono ?_; rintro e we ⟨vb, rfl, hvB, hbe⟩; refine Stop.of ?_)))
              refine Stop.on ?_
              have hbde := hbd.trans (hbe.mono hbd.size)
              have c0e := (hbde.cell (p := ⟨r, 0, none⟩) lrk).trans c0k
              have lre := Nat.lt_of_lt_of_le lrk hbde.size
              have hrvE := IsSl.below (IsSl.below hrv hbk) hbde
              clear c0k lrk
              go_wp2_with (first
                | (go_at_call 13; go_must ((refine (same_yes vb _ cs we _ _ hvB hrvE).mono ?_); rintro e wg ⟨rfl, hbg⟩)))
              go_ret
              have hbB2 := hTrB.g.bel.trans ((hbk.trans (hbde.mono hbk.size)).mono hTrB.g.bel.size)
              exact ⟨rfl, hbB2.trans (hbg.mono hbB2.size)⟩
end Go.Proofs.YtbldcbakhpdigaaGreat

namespace Go.Proofs.YtbldcbakhpdigaaGreat
open Go.RowKit Go.ChangeShapes Go.WideShapes Go.ChangeAt Go.Joins
open Go.ChangeMaps (open_string shut_string)

theorem laid_outY : laidOutB Tryz.prog = true := by kernel_rfl
theorem own_noneY : ownKnob Tryz.prog.godebug = none := by kernel_rfl

set_option maxRecDepth 100000 in
set_option maxHeartbeats 2000000 in
theorem plays_lifted (os : Os) (started : os.Started) (H : Type) (enc : TypeId × Value → H) :
    ReturnsInHanded {} Tryz.checked os 3 .any (Rows.btreePlaysSpec.pre6 enc Tryz.prog Tryz.f3 Rows.btreePlaysRow.domain false) (Rows.btreePlaysSpec.post enc Tryz.prog Tryz.f3 false true false false) := by
  refine returnsInHanded_of_change (C := Tryz.checked) own_noneY started (by kernel_rfl) Tryz.func3
    (ChangeSpec.witness6 (enc := enc) (C := Tryz.checked) false ⟨#[], #[.slice none 0 0], []⟩ 8 (by kernel_rfl) (by kernel_rfl) (by kernel_rfl) (by kernel_rfl)) ?_
  intro W base args ds gs before hval0 hW hcnd _
  have hval : ∀ (j : Nat) t v, Tryz.f3.params[j]? = some t → args[j]? = some v → Value.okWide Tryz.prog W .any base t v := hval0
  have hW' := hW
  obtain ⟨p, q, hA0, hV, rfl, hfz, hnd⟩ := hW
  have hA : DataW.TrodAll enc Tryz.prog W 0 (fun _ => true) true Tryz.f3.params.toList args.toList ds p := hA0
  rw [Tryz.params3] at hA hval
  obtain ⟨v0, d0, rfl, rfl, h0⟩ := trodAll_one hA
  obtain ⟨rfl, rfl⟩ := trodVars_none hV
  simp only [List.append_nil] at hW'
  have hlt : ∀ x ∈ p, x.block < W.heap.size := fun x hx => by have := hW'.lt x (by simpa using hx); simpa using this
  have h0k := h0
  obtain ⟨a0, len, cap, rfl⟩ := okWide_slice Tryz.underlying22 (hval 0 22 v0 rfl rfl)
  obtain ⟨fuel, hf⟩ := h0
  obtain ⟨v, ops, e1, hops, hwf, _⟩ := open_ops (by simpa [Value.cells] using hf)
  simp at e1
  subst e1
  clear hA0 hval0
  refine (plays_walk _ ops W hops (fun o ho => ⟨(hwf o ho).1, (hwf o ho).2.1⟩)).mono fun e W' ⟨he, hb⟩ => ?_
  subst he
  refine ⟨_, rfl, _, _, _, [], p, [], hW', ?_, ?_, rfl, hb.frame _, fun h => by cases h⟩
  · exact trodAll_mk1 (shut_bool Tryz.underlying4 true)
  · exact trodAll_mk1 (Below.trod laid_outY (by kernel_rfl) (of_decide_eq_true (by kernel_rfl)) h0k hb hlt)

theorem plays_holds : Rows.BtreePlaysSaid :=
  OpenClaim.holds_of_wide (p := Tryz.pinned) (s := Rows.btreePlaysSpec) (c := Rows.btreePlaysRow) 3 Tryz.f3 rfl rfl rfl rfl rfl rfl rfl ⟨rfl, rfl, rfl, rfl, rfl⟩ rfl rfl rfl rfl rfl (by kernel_rfl) Tryz.func3 (by kernel_rfl)
    (of_decide_eq_true (by kernel_rfl)) (by unfold Func.isWrapper; first | (rw [if_pos (by decide +kernel)]; kernel_rfl) | (rw [if_neg (by decide +kernel)]; exact ⟨rfl, rfl⟩))
    (fun os started H enc _ => plays_lifted os started H enc)
#print axioms plays_holds
end Go.Proofs.YtbldcbakhpdigaaGreat

