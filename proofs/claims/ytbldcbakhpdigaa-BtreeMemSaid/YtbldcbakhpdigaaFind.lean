/- node.find: the place of a key among a leaf's pairs. -/
import Derived.Test.YtbldcbakhpdigaaSmall
namespace Go.Proofs.Ytbldcbakhpdigaa
open Go.RowKit

theorem findC_enters (args : Array Value) (w : World) : (callFunc 58 args).run Try.prog w = .ok (.enter 58 args) w := by
  kernel_rfl

set_option maxRecDepth 100000 in
set_option maxHeartbeats 1000000 in
theorem bsearch_any (v : Value) (ps : List (ByteArray × ByteArray)) (key : ByteArray) (w : World) (S : Nat → Prop) (h : IsPrs w S v ps) (hr : RisingP ps) (hn : ps.length ≤ 1000000) :
    Calls Try.prog 57 #[v, .string key, .func (.func 58) #[] #[]] w fun e w' => e = .returned (.tuple #[.int .i64 (posAt ps key), .bool (isAt ps key)]) ∧ Below w.heap.size w w' := by
  have hP := h
  obtain ⟨ao, c, rfl, n1, m1, _, _⟩ := IsSl.form h
  obtain ⟨f1, f2⟩ := posAt_facts key ps hr
  have hpl := posAt_le ps key
  have F1 := Lib.hid f1; clear f1
  have F2 := Lib.hid f2; clear f2
  go_enter Try.func57, Try.ntmps57
  go_wp2
  go_loopw [9, 10] (fun a b wr => ∃ i j : Nat, a = .int .i64 i ∧ b = .int .i64 j ∧ i ≤ posAt ps key ∧ posAt ps key ≤ j ∧ j ≤ ps.length ∧ Below w.heap.size w wr) (fun a b _ => ((intOf b) - (intOf a)).toNat)
  case atStart => exact ⟨0, ps.length, rfl, rfl, Nat.zero_le _, hpl, Nat.le_refl _, Below.refl _ _⟩
  case round =>
    obtain ⟨i, j, rfl, rfl, him, hmj, hjn, hbel⟩ := hrel
    by_cases hij : i < j
    · obtain ⟨d, hd⟩ : ∃ d, d = (i + j) / 2 := ⟨_, rfl⟩
      have hdc : ((i : Int) + (j : Int)) / 2 = (d : Int) := by omega
      have hd1 : i ≤ d := by omega
      have hd2 : d < j := by omega
      have hd3 : d < ps.length := by omega
      obtain ⟨b', o', rfl, hc1, hc2⟩ := hP.at rfl d hd3
      have d1 := (hbel.cell (p := ⟨b', o' + d * 2, none⟩) (World.block_lt_of_cell? w _ hc1)).trans hc1
      have d2 := (hbel.cell (p := ⟨b', o' + d * 2 + 1, none⟩) (World.block_lt_of_cell? w _ hc2)).trans hc2
      clear hd hc1 hc2
      have Hdc := Lib.hid hdc; clear hdc
      by_cases hmd : posAt ps key ≤ d
      · have hp := F2.out d hd3 hmd
        have hp' : ¬ cmpS ps[d].1 key < 0 := by rw [cmpS_neg, hp]; simp
        have hp2 : decide (cmpS ps[d].1 key < 0) = false := by simpa using hp'
        go_wp2_with (first | (rw [Hdc.out]) | (go_at_call 58; refine (findC_any _ _ _ _).mono ?_; rintro e w1 ⟨rfl, hb1⟩))
        go_roundw
        case rel => exact ⟨i, d, rfl, rfl, by omega, hmd, by omega, hbel.trans (hb1.mono hbel.size)⟩
        case measure => simp [intOf]; omega
      · have hp := F1.out d hd3 (by omega)
        have hp' : cmpS ps[d].1 key < 0 := by rw [cmpS_neg, hp]
        have hp2 : decide (cmpS ps[d].1 key < 0) = true := by simpa using hp'
        go_wp2_with (first | (rw [Hdc.out]) | (go_at_call 58; refine (findC_any _ _ _ _).mono ?_; rintro e w1 ⟨rfl, hb1⟩))
        go_roundw
        case rel => exact ⟨d + 1, j, by go_num, rfl, by omega, by omega, by omega, hbel.trans (hb1.mono hbel.size)⟩
        case measure => simp [intOf]; omega
    · obtain rfl : i = posAt ps key := by omega
      obtain rfl : j = posAt ps key := by omega
      by_cases hin : posAt ps key < ps.length
      · obtain ⟨b', o', rfl, hc1, hc2⟩ := hP.at rfl _ hin
        have d1 := (hbel.cell (p := ⟨b', o' + posAt ps key * 2, none⟩) (World.block_lt_of_cell? w _ hc1)).trans hc1
        have d2 := (hbel.cell (p := ⟨b', o' + posAt ps key * 2 + 1, none⟩) (World.block_lt_of_cell? w _ hc2)).trans hc2
        have hat : isAt ps key = (cmpS ps[posAt ps key].1 key == 0) := by
          unfold isAt
          rw [List.getElem?_eq_getElem hin]
          rw [Bool.eq_iff_iff]; simp [cmpS_zero]
        have Hat := Lib.hid hat; clear hat hc1 hc2
        go_wp2_with (first | (go_at_call 58; refine (findC_any _ _ _ _).mono ?_; rintro e w1 ⟨rfl, hb1⟩))
        go_ret2
        exact ⟨by rw [Hat.out]; rfl, hbel.trans (hb1.mono hbel.size)⟩
      · have hat : isAt ps key = false := by
          unfold isAt
          rw [List.getElem?_eq_none (by omega)]
        have Hat := Lib.hid hat; clear hat
        go_wp2
        go_ret2
        exact ⟨by rw [Hat.out]; rfl, hbel⟩

theorem find_any (b : Nat) (nd : Nd) (key : ByteArray) (w : World) (S : Nat → Prop) (h : IsNode w S b nd) (hr : RisingP nd.pairs) (hn : nd.pairs.length ≤ 1000000) :
    Calls Try.prog 40 #[.pointer (some ⟨b, 0, none⟩), .string key] w fun e w' => e = .returned (.tuple #[.int .i64 (posAt nd.pairs key), .bool (isAt nd.pairs key)]) ∧ Below w.heap.size w w' := by
  obtain ⟨hSb, v0, v1, v2, hb, h0, hk, h2⟩ := h
  obtain ⟨c0, c1, c2, _, _, _, hlt⟩ := cells3 hb
  go_enter Try.func40, Try.ntmps40
  go_wp2_with (go_at_call 57; refine (bsearch_any _ nd.pairs _ _ S h0 hr hn).mono ?_; rintro e w1 ⟨rfl, hb1⟩)
  go_ret2
  exact ⟨rfl, hb1⟩
end Go.Proofs.Ytbldcbakhpdigaa
