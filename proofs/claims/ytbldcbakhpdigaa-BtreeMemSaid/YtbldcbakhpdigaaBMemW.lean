/- BtreeMem: the walk. -/
import Derived.Test.YtbldcbakhpdigaaBTook
import Derived.Deep.CutRange
import Derived.Deep.CutBlock
namespace Go.Proofs.Ytbldcbakhpdigaa
open Go.RowKit

theorem MR.there {n : Nat} {w0 : World} {σ : MSt} {S : Nat → Prop} {mp : Nat} {ao7 : Option Addr} {n7 c7 : Nat} {v8 : Value} {tk : List Bool} {da : List ByteArray} {wr : World} (h : MR n w0 σ S mp (.slice ao7 n7 c7) v8 tk da wr) (b : Int) (h1 : 1 ≤ b) (h2 : b < tk.length) :
    ∃ g, ao7 = some ⟨g, 0, none⟩ ∧ g < wr.heap.size ∧ wr.cell? ⟨g, b.toNat, none⟩ = some (.bool (thereB tk b)) := by
  obtain ⟨hb, e⟩ := thereB_in h1 h2
  obtain ⟨g, c, e1, _, _, _, hl⟩ := h.t7.form2 (by omega)
  cases e1
  obtain ⟨b', o', e2, hc⟩ := h.t7.isSl.at1 rfl b.toNat (.bool tk[b.toNat]) (by simp [hb])
  cases e2
  refine ⟨g, rfl, hl, ?_⟩
  rw [e]
  simpa using hc

set_option maxRecDepth 100000 in
set_option maxHeartbeats 40000000 in
theorem mem_walk (blocks : Int) (v : Value) (os : List OpV) (w : World) (h : IsOps w v os) (hwf : ∀ o ∈ os, 0 ≤ o.1 ∧ o.1 ≤ 255 ∧ (Lit.int .i64 o.2.2.2).wf = true) (hkz : ∀ o ∈ os, o.2.1.size ≤ maxLen) :
    Calls Try.prog 3 #[.int .i64 blocks, v] w fun e w' => e = .returned (.bool true) ∧ Below w.heap.size w w' := by
  have h' := h
  obtain ⟨ao, c, rfl, q1, q2', _⟩ := h'
  have q2 : c ≤ 9223372036854775807 := by simpa [maxLen] using q2'
  clear q2'
  have HO := Lib.hid h; clear h
  have HWF := Lib.hid hwf; clear hwf
  have HKZ := Lib.hid hkz; clear hkz
  go_enter Try.func3, Try.ntmps3
  go_upto_region 4 with (first
    | (go_at_call 9; go_must ((refine (fixed_any _).mono ?_); rintro e w1 ⟨rfl, hb1⟩))
    | (go_at_call 10; go_must ((refine (newmem_any blocks w1).mono ?_); rintro e w2 ⟨rfl, hI2, hs2, hb2⟩; have HS2 := Lib.hid hs2; clear hs2)))
  go_cut [6] from 23 to 210 (fun x wx => x = .int .i64 (min (max blocks 0) 4096) ∧ wx = w2)
  case first =>
    go_wp2_with fail
    all_goals
      go_meet
      exact ⟨by congr 1; omega, rfl⟩
  case rest =>
    obtain ⟨rfl, rfl⟩ := hcut
    have hbw : Below w.heap.size w w1 := hb1
    have hM0 : MR (MSt.new blocks w1.heap.size).most w (MSt.new blocks w1.heap.size) (fun g => w1.heap.size ≤ g ∧ g < w1.heap.size + 3) (w1.heap.size + 2) (.slice none 0 0) (.slice none 0 0) [] [] wc :=
      ⟨hI2, hbw.trans (hb2.mono hbw.size), fun g hg => Nat.le_trans hbw.size hg.1, OwnSl.nil _ _ _ _ _, OwnSl.nil _ _ _ _ _, rfl, Nat.zero_le _, by simp [MSt.new]; omega, rfl, rfl, rfl, rfl, fun b => by simp [MSt.new, Maps.has_eq, thereB], fun b hb => by simp [thereB] at hb⟩
    obtain ⟨n, hn⟩ : ∃ n : Nat, (MSt.new blocks w1.heap.size).most = n := ⟨_, rfl⟩
    rw [hn] at hM0
    have hNn : min (max blocks 0) 4096 = (n : Int) := by rw [← hn]; simp [MSt.new]; omega
    rw [hNn]
    have HM0 := Lib.hid hM0
    clear hM0 hn hNn hI2 hb2 HS2
    generalize w1.heap.size + 2 = mp at *
    go_wp2_with fail
    go_loopw [7, 8, 9, 10, 11, 12, 13, 14, 15, 16, 17, 18] (fun t d i _ _ _ _ _ _ _ _ _ wr => ∃ (k : Nat) (σ : MSt) (S : Nat → Prop) (tk : List Bool) (da : List ByteArray), i = .int .i64 k ∧ k ≤ os.length ∧ MR n w σ S mp t d tk da wr) (fun _ _ i _ _ _ _ _ _ _ _ _ _ => os.length - (intOf i).toNat)
    case atStart => exact ⟨0, _, _, [], [], rfl, Nat.zero_le _, HM0.out⟩
    case round =>
      obtain ⟨k, σ, S, tk, da, rfl, hk, hM⟩ := hrel
      by_cases hk1 : (k : Int) < (os.length : Int)
      · by_cases hk2 : (k : Int) < 300
        · have hko : k < os.length := by omega
          obtain ⟨ob, oo, rfl, d0, d1, d2, d3⟩ := HO.out.at rfl k hko
          have hobl := World.block_lt_of_cell? w _ d0
          have hwf := HWF.out _ (List.getElem_mem hko)
          have hbel := hM.bel
          have e0 := (hbel.cell (p := ⟨ob, oo + k * 4, none⟩) hobl).trans d0
          have e1 := (hbel.cell (p := ⟨ob, oo + k * 4 + 1, none⟩) hobl).trans d1
          have e3 := (hbel.cell (p := ⟨ob, oo + k * 4 + 3, none⟩) hobl).trans d3
          have hobr := Nat.lt_of_lt_of_le hobl hbel.size
          clear d0 d1 d2 d3
          generalize os[k].1 = kind at e0 hwf
          have hks := HKZ.out _ (List.getElem_mem hko)
          generalize os[k].2.1 = key at e1 hks
          generalize os[k].2.2.2 = b at e3 hwf
          have HM := Lib.hid hM
          obtain ⟨ao7, c7, rfl, g1, g2, _, _⟩ := hM.t7.isSl.form
          obtain ⟨ao8, c8, rfl, g3, g4, _, _⟩ := hM.t8.isSl.form
          have Hlen := Lib.hid HM.out.len
          clear hM
          go_upto_region 11 with fail
          go_cut [11] from 26 to 210 (fun x wx => x = .bool (thereB tk b) ∧ wx = wr)
          case first =>
            by_cases h1 : 1 ≤ b
            · by_cases h2 : b < (tk.length : Int)
              · obtain ⟨g, rfl, hgl, hcell⟩ := HM.out.there b h1 h2
                go_wp2_with fail
                go_meet
                exact ⟨rfl, rfl⟩
              · have hf := thereB_false (tk := tk) (b := b) (.inr h2)
                go_wp2_with fail
                go_meet
                exact ⟨by rw [hf], rfl⟩
            · have hf := thereB_false (tk := tk) (b := b) (.inl h1)
              go_wp2_with fail
              go_meet
              exact ⟨by rw [hf], rfl⟩
          case rest =>
            obtain ⟨rfl, rfl⟩ := hcut
            go_upto_region 12 with fail
            go_cut [60] from 26 to 210 (fun x wx => x = .int .u8 (kind % 4) ∧ wx = wc)
            case first =>
              go_wp2_with fail
              go_meet
              exact ⟨rfl, rfl⟩
            case rest =>
              obtain ⟨rfl, rfl⟩ := hcut
              have hkr : kind % 4 = 0 ∨ kind % 4 = 1 ∨ kind % 4 = 2 ∨ kind % 4 = 3 := by omega
              have hB := HM.out.bel.size
              rcases hkr with hkr | hkr | hkr | hkr
              · rw [hkr]
                as_aux_lemma =>
                  have HKR := Lib.hid hkr; clear hkr
                  obtain ⟨f, f1, f2, f3, f4⟩ := least_free σ.D (HM.out.inv.own.tidy keyed_int)
                  rw [HM.out.has] at f3
                  have F4 := Lib.hid (show ∀ i : Nat, 1 ≤ i → i < f → thereB tk i = true from fun i h1 h2 => by rw [← HM.out.has]; exact f4 i h1 h2)
                  have hcnt := HM.out.cnt
                  have hle := HM.out.le
                  have hn4 := HM.out.n4
                  have hf97 : f ≤ 4098 := by have := HM.out.inv.szD; have := HM.out.most; omega
                  have F2 := Lib.hid f2
                  have HCNT := Lib.hid hcnt
                  have HLE := Lib.hid hle
                  clear f4 f2 hcnt hle
                  go_upto_block 3 with fail
                  go_cut [12] from 26 to 210 (fun x wx => x = .int .i64 f ∧ wx = wc)
                  case first =>
                    go_wp2_with fail
                    go_loopw [12] (fun x wr2 => ∃ i : Nat, 1 ≤ i ∧ i ≤ f ∧ x = .int .i64 i ∧ wr2 = wc) (fun x _ => f - (intOf x).toNat)
                    case atStart => exact ⟨1, Nat.le_refl _, f1, rfl, rfl⟩
                    case round =>
                      obtain ⟨i, i1, i2, rfl, hw⟩ := hrel
                      subst hw
                      by_cases hif : i = f
                      · subst hif
                        by_cases hl : (i : Int) < (tk.length : Int)
                        · obtain ⟨g, rfl, hgl, hcell⟩ := HM.out.there i (by omega) hl
                          rw [f3, Int.toNat_natCast] at hcell
                          go_wp2_with fail
                          go_meet
                          first | exact ⟨rfl, rfl⟩ | exact ⟨rfl, trivial⟩
                        · go_wp2_with fail
                          go_meet
                          first | exact ⟨rfl, rfl⟩ | exact ⟨rfl, trivial⟩
                      · have ht := F4.out i i1 (by omega)
                        have hbb := thereB_lt ht
                        have hl := hbb.2
                        obtain ⟨g, rfl, hgl, hcell⟩ := HM.out.there i hbb.1 hl
                        rw [ht, Int.toNat_natCast] at hcell
                        go_wp2_with fail
                        go_roundw
                        case rel => exact ⟨i + 1, by omega, by omega, by go_num, by first | rfl | trivial⟩
                        case measure => simp [intOf]; omega
                  case rest =>
                    obtain ⟨rfl, rfl⟩ := hcut
                    by_cases hfull : n ≤ Maps.size σ.D
                    · have hfn : ¬ f ≤ n := fun hh => by have := count_lt tk n f HLE.out HM.out.zero f1 hh f3; have := HCNT.out; omega
                      have hfn2 : n < f := by omega
                      have hfi : (n : Int) < (f : Int) := by omega
                      have hfi2 : ¬ (f : Int) ≤ (n : Int) := by omega
                      have hu : ¬ n < Maps.size σ.D := by have := HM.out.inv.szD; have := HM.out.most; omega
                      have hu2 : ¬ (n : Int) < (Maps.size σ.D : Int) := by omega
                      go_wp2_with (first
                        | (go_at_call 11; go_must ((refine (take_full mp σ S _ HM.out.inv (by rw [HM.out.most]; exact hfull)).mono ?_); rintro e w5 ⟨rfl, hw⟩; subst w5))
                        | (go_at_call 12; go_must ((refine (used_any mp σ S _ HM.out.drew.inv).mono ?_); rintro e w6 ⟨rfl, hw⟩; subst w6)))
                      go_loopw [7, 8] (fun x y wr3 => x = .slice ao7 tk.length c7 ∧ y = .slice ao8 da.length c8 ∧ MR n w σ S mp (.slice ao7 tk.length c7) (.slice ao8 da.length c8) tk da wr3) (fun _ _ _ => 0)
                      case atStart => exact ⟨rfl, rfl, HM.out.drew⟩
                      case round =>
                        obtain ⟨rfl, rfl, hM3⟩ := hrel
                        have HM3 := Lib.hid hM3; clear hM3
                        go_wp2_with fail
                        go_roundw
                        case rel => exact ⟨k + 1, σ, S, tk, da, by go_num, hko, HM3.out⟩
                        case measure => simp [intOf]; omega
                    · have hroom : Maps.size σ.D < σ.most := by have := HM.out.most; omega
                      have Hroom := Lib.hid hroom; clear hroom
                      have HF3 := Lib.hid f3; clear f3
                      have HMm := Lib.hid HM.out.most
                      have HhS := Lib.hid HM.out.hS
                      go_wp2_with (first
                        | (go_at_call 11; go_must ((refine (take_ok mp σ S _ HM.out.inv Hroom.out).mono ?_); rintro e w5 ⟨f', gg, S', rfl, t1, t2, t3, t4, hI5, hs5⟩; obtain rfl : f' = f := (by
                            rcases Nat.lt_trichotomy f' f with hh | hh | hh
                            · have := F4.out f' t1 hh; rw [HM.out.has, this] at t3; cases t3
                            · exact hh
                            · have := t4 f f1 hh; rw [HM.out.has, HF3.out] at this; cases this); clear t3 t4; obtain ⟨σ5, hσ5⟩ : ∃ x, x = σ.put (f' : Int) gg (List.replicate 512 0) := ⟨_, rfl⟩; rw [← hσ5] at hI5; have hm5 : σ5.most = σ.most := (by rw [hσ5]; rfl); have Hσ5 := Lib.hid hσ5; clear hσ5; have hfn : f' ≤ n := (by rw [← HMm.out]; exact t2); have hfi : (f' : Int) ≤ (n : Int) := (by omega); have hfi2 : ¬ (n : Int) < (f' : Int) := (by omega); have hfi3 : ¬ n < f' := (by omega); have hu : ¬ n < Maps.size σ5.D := (by have := hI5.szD; have h2 := HMm.out; omega); have hu2 : ¬ (n : Int) < (Maps.size σ5.D : Int) := (by omega); clear hm5; have HI5 := Lib.hid hI5; clear hI5 t2))
                        | (go_at_call 12; go_must ((refine (used_any mp _ S' _ HI5.out).mono ?_); rintro e w6 ⟨rfl, hw⟩; subst w6; refine Stop.of ?_)))
                      have hbel5 : Below w.heap.size w w5 := HM.out.bel.trans (hs5.1.toBelow HM.out.bel.size (fun x hx hS => absurd (HhS.out x hS) (Nat.not_le.2 hx)))
                      have hS' : ∀ g, S' g → w.heap.size ≤ g := fun x hx => (hs5.2 x hx).elim (HhS.out x) (fun y => Nat.le_trans HM.out.bel.size y)
                      have hG0 : GR w σ5 S' mp (.slice ao7 tk.length c7) (.slice ao8 da.length c8) tk da 0 w5 :=
                        ⟨HI5.out, hbel5, by simpa using HM.out.t7.step hs5, by simpa using HM.out.t8.step hs5⟩
                      have HG0 := Lib.hid hG0; clear hG0
                      have HS' := Lib.hid hS'; clear hS'
                      refine Stop.on ?_
                      go_wp2_with fail
                      go_loopw [7, 8] (fun x y wr3 => ∃ j : Nat, GR w σ5 S' mp x y tk da j wr3 ∧ (tk.length + j ≤ f' + 1 ∨ j = 0)) (fun x _ _ => f' + 1 - slLen x)
                      case atStart => exact ⟨0, HG0.out, .inr rfl⟩
                      case round =>
                        obtain ⟨j, hG, hjj⟩ := hrel
                        have HG := Lib.hid hG
                        obtain ⟨ao7', c7', rfl, r1, r2, _, _⟩ := hG.t7.isSl.form
                        obtain ⟨ao8', c8', rfl, r3, r4, _, _⟩ := hG.t8.isSl.form
                        have hBw := hG.bel.size
                        have hsubj := hG.inv.sub
                        clear hG
                        by_cases hjf : tk.length + j ≤ f'
                        · have hji : ((tk.length + j : Nat) : Int) ≤ (f' : Int) := by omega
                          have hba := below_one wr (.cells #[.bool false] 4)
                          have hsrc7 := src_new (P := Try.prog) (w := wr) [.bool false] 4 1 1 1 (tx := 26) rfl Try.underlying26 rfl (by intro u hu; simp at hu; subst hu; rfl)
                          have hsb7 : ∀ g, S' g → g < (wr.alloc (.cells #[.bool false] 4)).heap.size := fun g hg => Nat.lt_of_lt_of_le (hsubj g hg) hba.size
                          have hl97 : tk.length + j ≤ 4098 := by omega
                          have hd97 : da.length + j ≤ 4098 := by have := Hlen.out; omega
                          go_wp2_with (first
                            | (at_builtin; go_must ((refine wpList_app rfl (.tmp 115) (.tmp 116) 26 26 rfl S' w.heap.size 4 1 1 _ Try.underlying26 info_bool rfl (.slice ao7' (tk.length + j) c7') (tk.length + j) _ rfl (HG.out.t7.below hba) (.slice (some ⟨wr.heap.size, 0, none⟩) 1 1) 1 [.bool false] rfl hsrc7 hsb7 (Nat.le_trans hBw hba.size) ?_ ?_ ?_); (focus (simp only [maxLen]; omega)); (focus omega); intro ao9 c9 w7 hown7 hk7 hb7 hd7; refine Stop.of ?_)))
                          have hbb := below_one w7 (.cells #[.string ⟨#[]⟩] 9)
                          have hsrc8 := src_new (P := Try.prog) (w := w7) [.string ⟨#[]⟩] 9 1 1 1 (tx := 27) rfl Try.underlying27 rfl (by intro u hu; simp at hu; subst hu; rfl)
                          have hsz7 : wr.heap.size ≤ w7.heap.size := Nat.le_trans hba.size hb7.size
                          have hsb8 : ∀ g, S' g → g < (w7.alloc (.cells #[.string ⟨#[]⟩] 9)).heap.size := fun g hg => Nat.lt_of_lt_of_le (hsubj g hg) (Nat.le_trans hsz7 hbb.size)
                          have t8b := ((HG.out.t8.below hba).keep (w' := w7) (S' := S') (fun g hg hl hs => ⟨hk7.block g hl (fun e => OwnSl.ne2 HG.out.t8 HG.out.t7 (by decide) _ hg e), hs⟩)).below hbb
                          refine Stop.on ?_
                          go_wp2_with (first
                            | (at_builtin; go_must ((refine wpList_app rfl (.tmp 118) (.tmp 119) 27 27 rfl S' w.heap.size 9 1 16 _ Try.underlying27 info_str rfl (.slice ao8' (da.length + j) c8') (da.length + j) _ rfl t8b (.slice (some ⟨w7.heap.size, 0, none⟩) 1 1) 1 [.string ⟨#[]⟩] rfl hsrc8 hsb8 (Nat.le_trans hBw (Nat.le_trans hsz7 hbb.size)) ?_ ?_ ?_); (focus (simp only [maxLen]; omega)); (focus omega); intro ao10 c10 w8 hown8 hk8 hb8 hd8)))
                          go_roundw
                          case rel => exact ⟨j + 1, HG.out.next hba hown7 hk7 hb7 hbb hown8 hk8 hb8, .inl (by omega)⟩
                          case measure => simp [slLen]; omega
                        · have hji : ¬ ((tk.length + j : Nat) : Int) ≤ (f' : Int) := by omega
                          have Hjf := Lib.hid hjf
                          obtain ⟨g7, rfl⟩ : ∃ g7, ao7' = some ⟨g7, 0, none⟩ := by
                            obtain ⟨g, c, e, _⟩ := HG.out.t7.form2 (by omega)
                            cases e; exact ⟨g, rfl⟩
                          obtain ⟨g8, rfl⟩ : ∃ g8, ao8' = some ⟨g8, 0, none⟩ := by
                            obtain ⟨g, c, e, _⟩ := HG.out.t8.form2 (by have := Hlen.out; omega)
                            cases e; exact ⟨g, rfl⟩
                          have hfl7 : (f' : Int) < ((tk.length + j : Nat) : Int) := by omega
                          have hfl8 : (f' : Int) < ((da.length + j : Nat) : Int) := by have := Hlen.out; omega
                          obtain ⟨hMd, ⟨x1, ⟨x2, x3⟩, x4⟩, ⟨y1, ⟨y2, y3⟩, y4⟩⟩ := GR.done HM.out HF3.out f1 hfn (by omega) hjj HS'.out (by rw [← Hσ5.out]; exact HG.out) (.cells Row512 5)
                          have HMd := Lib.hid hMd; clear hMd
                          have hmk := make512' (wr.setCell ⟨g7, f', none⟩ (.bool true))
                          have hsz : (wr.setCell ⟨g7, f', none⟩ (.bool true)).heap.size = wr.heap.size := by simp
                          have hz := str512 ((wr.setCell ⟨g7, f', none⟩ (.bool true)).alloc (.cells Row512 5)) (wr.setCell ⟨g7, f', none⟩ (.bool true)).heap.size (heap_alloc_new _ _)
                          rw [hsz] at hz hmk
                          clear hsz
                          go_wp2_with fail
                          go_roundw
                          case rel => exact ⟨k + 1, _, S', _, _, by go_num, hko, HMd.out⟩
                          case measure => simp [intOf]; omega
              · rw [hkr]
                as_aux_lemma =>
                  have HKR := Lib.hid hkr; clear hkr
                  have hat := HM.out.has b
                  cases hth : thereB tk b with
                  | false =>
                    rw [hth] at hat
                    go_wp2_with (first
                      | (go_at_call 13; go_must ((refine (free_not mp σ S _ b HM.out.inv hwf.2.2 hat).mono ?_); rintro e w5 ⟨rfl, hw⟩; subst w5)))
                    go_roundw
                    case rel => exact ⟨k + 1, σ, S, tk, da, by go_num, hko, HM.out⟩
                    case measure => simp [intOf]; omega
                  | true =>
                    rw [hth] at hat
                    have hbnd := thereB_lt hth
                    go_wp2_with (first
                      | (go_at_call 13; go_must ((refine (free_any mp σ S _ b HM.out.inv hwf.2.2 hat).mono ?_); rintro e w5 ⟨rfl, hI5, hs5⟩; refine Stop.of ?_)))
                    obtain ⟨g, rfl, hgl, _⟩ := HM.out.there b hbnd.1 hbnd.2
                    have hbn : b.toNat < tk.length := by omega
                    obtain ⟨_, _, x2, ⟨x3, x4⟩, x5, _⟩ := (HM.out.t7.step hs5).set1 b.toNat hbn (.bool false)
                    have hM6 := Lib.hid (HM.out.free b hth hI5 hs5)
                    have hb0 : 0 ≤ b := by omega
                    refine Stop.on ?_
                    go_wp2_with fail
                    go_roundw
                    case rel => exact ⟨k + 1, σ.free b, S, tk.set b.toNat false, da, by go_num, hko, hM6.out⟩
                    case measure => simp [intOf]; omega
              · rw [hkr]
                as_aux_lemma =>
                  have HKR := Lib.hid hkr; clear hkr
                  have hat := HM.out.has b
                  obtain ⟨cp5, w5, hcv, hb5, hib⟩ := bytes_of wc key hks
                  have e15 := (hb5.cell (p := ⟨ob, oo + k * 4 + 1, none⟩) hobr).trans e1
                  have hobr5 := Nat.lt_of_lt_of_le hobr hb5.size
                  have HM5 := Lib.hid (HM.out.below hb5)
                  rw [show key.data.toList.length = key.size from length_bytes key] at hib
                  have Hib := Lib.hid hib; clear hib
                  cases hth : thereB tk b with
                  | false =>
                    rw [hth] at hat
                    go_wp2_with (first
                      | (go_at_call 14; go_must ((refine (write_not mp σ S _ b _ HM5.out.inv hwf.2.2 hat).mono ?_); rintro e w6 ⟨rfl, hw⟩; subst w6)))
                    go_roundw
                    case rel => exact ⟨k + 1, σ, S, tk, da, by go_num, hko, HM5.out⟩
                    case measure => simp [intOf]; omega
                  | true =>
                    rw [hth] at hat
                    have hbnd := thereB_lt hth
                    by_cases hks2 : key.size ≤ 512
                    · have hki : (key.size : Int) ≤ 512 := by omega
                      obtain ⟨g8, rfl, hg8, hc8⟩ := HM.out.datum b.toNat (by have := Hlen.out; omega)
                      have hbi : (b : Int) < (da.length : Int) := by have := Hlen.out; omega
                      have hb0 : 0 ≤ b := by omega
                      have hbn : b.toNat < da.length := by omega
                      have hobS : ¬ S ob := fun x => absurd (HM.out.hS _ x) (Nat.not_le.2 hobl)
                      go_wp2_with (first
                        | (go_at_call 14; go_must ((refine (write_has mp σ S _ b _ key.data.toList HM5.out.inv hwf.2.2 hat (by rw [HM.out.held]; rfl) Hib.out (by rw [length_bytes]; exact hks2)).mono ?_); rintro e w6 ⟨rfl, gg, S6, hI6, hs6⟩; have e16 := (hs6.1.cell (p := ⟨ob, oo + k * 4 + 1, none⟩) hobr5 hobS).trans e15; have hobr6 := Nat.lt_of_lt_of_le hobr5 hs6.1.size)))
                      have hmk := makeN w6.drew (512 - (key.size : Int)) (512 - key.size) (by omega) (by omega)
                      have hbN : Below w6.heap.size w6 (w6.alloc (.cells (bCells (List.replicate (512 - key.size) 0)).toArray 5)).drew := (below_one w6 _).drew
                      have hz := str_zeros (w6.alloc (.cells (bCells (List.replicate (512 - key.size) 0)).toArray 5)).drew w6.heap.size (512 - key.size) (heap_alloc_new w6 _)
                      have hM8 := HM5.out.write b hth key (w6 := (w6.alloc (.cells (bCells (List.replicate (512 - key.size) 0)).toArray 5)).drew) hI6 hs6 hbN
                      obtain ⟨_, _, x2, ⟨x3, x4⟩, x5, _⟩ := ((HM5.out.t8.step hs6).below hbN).set1 b.toNat hbn (.string (padS key (512 - key.size)))
                      have HM8 := Lib.hid hM8; clear hM8
                      have y1 := (hbN.cell (p := ⟨ob, oo + k * 4 + 1, none⟩) hobr6).trans e16
                      have y2 := Nat.lt_of_lt_of_le hobr6 hbN.size
                      have hsub : IntKind.i64.wrap ((512 : Int) - (key.size : Int)) = (512 : Int) - (key.size : Int) := IntWalk.i64_in _ (by omega)
                      refine wp_region_ord (fun W => W.cell? ⟨ob, oo + k * 4 + 1, none⟩ = some (.string key) ∧ ob < W.heap.size) (fun i => !([14, 15, 18].contains i)) [0, 1, 2, 3, 4, 5, 6, 7, 8, 9, 10, 11, 12, 13, 14, 15, 16, 17, 18] rfl (by kernel_rfl) ⟨e16, hobr6⟩ ?_
                      repeat (refine ord_q (v := ?_) rfl rfl (fun _ _ _ h => h) rfl (fun W hW => ?_) ?_; rotate_left; (focus ((try dsimp only at hW); have q0 := hW.1; have q1 := hW.2; first | (go_simp; first | done | with_reducible rfl))); (try simp only [Act.put, List.setIfInBounds_toArray, List.set_cons_zero, List.set_cons_succ]))
                      refine ord_e rfl rfl rfl ?_; intro K hK; go_simp
                      refine hK.out _ _ ⟨y1, y2⟩ ?_
                      refine ord_e rfl rfl rfl ?_; intro K hK; go_simp
                      refine hK.out _ _ ⟨y1, y2⟩ ?_
                      repeat (refine ord_q (v := ?_) rfl rfl (fun _ _ _ h => h) rfl (fun W hW => ?_) ?_; rotate_left; (focus ((try dsimp only at hW); have q0 := hW.1; have q1 := hW.2; first | (go_simp; first | done | with_reducible rfl))); (try simp only [Act.put, List.setIfInBounds_toArray, List.set_cons_zero, List.set_cons_succ]))
                      refine ord_l rfl rfl rfl (by kernel_rfl) ?_; intro K hK; go_simp
                      refine hK.out _ _ ?_
                      refine ord_nil ?_
                      go_wp2_with fail
                      go_roundw
                      case rel => exact ⟨k + 1, _, S6, tk, _, by go_num, hko, HM8.out⟩
                      case measure => simp [intOf]; omega
                    · have hki : ¬ (key.size : Int) ≤ 512 := by omega
                      go_wp2_with (first
                        | (go_at_call 14; go_must ((refine (write_long mp σ S _ b _ _ _ HM5.out.inv hwf.2.2 hat (by omega)).mono ?_); rintro e w6 ⟨rfl, hw⟩; subst w6)))
                      go_roundw
                      case rel => exact ⟨k + 1, σ, S, tk, da, by go_num, hko, HM5.out⟩
                      case measure => simp [intOf]; omega
              · rw [hkr]
                as_aux_lemma =>
                  have HKR := Lib.hid hkr; clear hkr
                  have hat := HM.out.has b
                  cases hth : thereB tk b with
                  | false =>
                    rw [hth] at hat
                    go_wp2_with (first
                      | (go_at_call 15; go_must ((refine (read_not mp σ S _ b HM.out.inv hwf.2.2 hat).mono ?_); rintro e w5 ⟨rfl, hw⟩; subst w5)))
                    refine wp_region_ord (fun W => True) (fun _ => true) [0, 1, 2, 3, 4, 5, 6, 7, 8, 9, 10, 11, 12, 13, 14, 15] rfl (by kernel_rfl) trivial ?_
                    repeat (first
                      | (refine ord_skip rfl rfl (fun _ _ _ h => h) rfl ?_; (try simp only [Act.put, List.setIfInBounds_toArray, List.set_cons_zero, List.set_cons_succ]))
                      | (refine ord_q (v := ?_) rfl rfl (fun _ _ _ h => h) rfl (fun W hW => ?_) ?_; rotate_left; (focus ((try dsimp only at hW); first | (go_simp; first | done | with_reducible rfl))); (try simp only [Act.put, List.setIfInBounds_toArray, List.set_cons_zero, List.set_cons_succ])))
                    refine ord_nil ?_
                    go_wp2_with fail
                    go_roundw
                    case rel => exact ⟨k + 1, σ, S, tk, da, by go_num, hko, HM.out.drew⟩
                    case measure => simp [intOf]; omega
                  | true =>
                    rw [hth] at hat
                    have hbnd := thereB_lt hth
                    have hbn : b.toNat < da.length := by have := Hlen.out; omega
                    have hmem := HM.out.mem b hth
                    go_wp2_with (first
                      | (go_at_call 15; go_must ((refine (read_has mp σ S _ b HM.out.inv hwf.2.2 hat).mono ?_); rw [hmem]; rintro e w5 ⟨v5, rfl, hv5, hb5⟩; refine Stop.of ?_)))
                    obtain ⟨g8, rfl, hg8, hc8⟩ := HM.out.datum b.toNat hbn
                    have hM5 := HM.out.below hb5
                    have hlen5 := hv5.1.1
                    have hstr := str_back hv5.isSl (by have := hv5.1.1; rw [bCells_length, length_bytes] at this; omega) (by omega)
                    have hstr' : ∀ W, W = w5.drew → (convert 34 9 v5).run Try.prog W = .ok (.string (da.getD b.toNat ⟨#[]⟩)) W := fun W hW => by
                      subst hW
                      exact str_back (hv5.drew).isSl (by have := hv5.1.1; rw [bCells_length, length_bytes] at this; omega) (by omega)
                    have f0 : w5.drew.cell? ⟨g8, b.toNat, none⟩ = some (.string (da.getD b.toNat ⟨#[]⟩)) := (hb5.cell (p := ⟨g8, b.toNat, none⟩) hg8).trans hc8
                    have hg85 := Nat.lt_of_lt_of_le hg8 hb5.size
                    have hbi : (b : Int) < (da.length : Int) := by omega
                    have hb0 : 0 ≤ b := by omega
                    have HM5 := Lib.hid hM5
                    clear hM5 hlen5 hstr
                    generalize da.getD b.toNat ⟨#[]⟩ = x at *
                    refine Stop.on ?_
                    go_wp2_with fail
                    refine wp_region_ord (fun W => W = w5.drew) (fun _ => true) [0, 1, 2, 3, 4, 5, 6, 7, 8, 9, 10, 11, 12, 13, 14, 15] rfl (by kernel_rfl) rfl ?_
                    repeat (refine ord_q (v := ?_) rfl rfl (fun _ _ _ h => h) rfl (fun W hW => ?_) ?_; rotate_left; (focus ((try dsimp only at hW); have q0 := hstr' W hW; subst hW; first | (go_simp; first | done | with_reducible rfl))); (try simp only [Act.put, List.setIfInBounds_toArray, List.set_cons_zero, List.set_cons_succ]))
                    refine ord_nil ?_
                    go_wp2_with fail
                    go_roundw
                    case rel => exact ⟨k + 1, σ, S, tk, da, by go_num, hko, HM5.out.drew⟩
                    case measure => simp [intOf]; omega
        · go_wp2_with fail
          go_ret
          exact ⟨rfl, hM.bel⟩
      · go_wp2_with fail
        go_ret
        exact ⟨rfl, hM.bel⟩
end Go.Proofs.Ytbldcbakhpdigaa
