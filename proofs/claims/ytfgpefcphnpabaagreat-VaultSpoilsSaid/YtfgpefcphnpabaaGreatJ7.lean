/- parts -/
import Derived.Test.YtfgpefcphnpabaaGreatJ6
namespace Go.Proofs.YtfgpefcphnpabaaGreat
open Go.RowKit
set_option maxRecDepth 100000
set_option maxHeartbeats 8000000
def Dk.Free (σ : Dk) : Prop := σ.dead = false ∧ σ.fuel = -1
theorem Dk.Free.burn {σ : Dk} (h : σ.Free) : σ.burn = σ := by
 unfold Dk.burn
 rw [if_neg (by rw [h.2]; omega), if_neg (by rw [h.2]; omega)]
theorem Dk.Free.write {σ : Dk} (h : σ.Free) (i : Nat) (l : List UInt8) (hi : i < σ.n) (hl : l.length ≤ 512) : σ.write i l = (σ.put i l, 0) := by
 unfold Dk.write
 rw [h.burn, h.1]
 rw [if_neg (by simp), if_neg (by omega), if_neg (by omega), if_neg (by simp)]
 simp
theorem Dk.Free.sync {σ : Dk} (h : σ.Free) : σ.sync = (σ.flush, 0) := by
 unfold Dk.sync
 rw [h.burn, h.1]
 simp
theorem Dk.Free.put {σ : Dk} (h : σ.Free) (i : Nat) (l : List UInt8) : (σ.put i l).Free := h
theorem Dk.Free.flush {σ : Dk} (h : σ.Free) : σ.flush.Free := h
theorem Lg.mark_free {σ : Dk} (h : σ.Free) (l : Lg) (hl : l.frm < σ.n) : l.mark σ = ((σ.put l.frm l.markB).flush, l, 0) := by
 unfold Lg.mark
 rw [h.write _ _ hl (by rw [l.markB_length]; omega)]
 simp only [if_true, (h.put _ _).sync]
def Lg.new (frm n : Nat) : Lg := ⟨frm, n, 0, 0, [], 0, 0, false⟩
theorem Lg.Ok.new {frm n : Nat} (h1 : 2 ≤ n) (h2 : frm + n ≤ 4096) : (Lg.new frm n).Ok :=
 ⟨h1, h2, by show 0 < n - 1; omega, Nat.zero_le _, by show 0 ≤ _; omega, Nat.le_refl _, (fun e he => by cases he), rfl⟩
theorem log_cells (d frm n : Nat) : (Tryz.zeroCells226.setIfInBounds 0 (.pointer (some ⟨d, 0, none⟩)) |>.setIfInBounds 1 (.int .i64 (frm : Int)) |>.setIfInBounds 2 (.int .i64 (n : Int))) = (tabBlk (lgHead d (Lg.new frm n) (.slice none 0 0)) false 0 []).toArray := by kernel_rfl
theorem wmake (d : Nat) (σ : Dk) (Sd : Nat → Prop) (frm n : Nat) (w : World) (h : Dsk w Sd d σ) (hf : σ.Free) (h1 : 2 ≤ n) (h2 : frm + n ≤ σ.n) (hcap : σ.waits.length ≤ 100000) :
  Calls Tryz.prog 87 #[.pointer (some ⟨d, 0, none⟩), .int .i64 frm, .int .i64 n] w fun e w' => ∃ lg Sd' Sl', e = .returned (.tuple #[.pointer (some ⟨lg, 0, none⟩), .int .i64 0]) ∧
   LogAt w' Sd' Sl' lg d ((σ.flush.put frm (Lg.new frm n).markB).flush) (Lg.new frm n) ∧ Step Sd (fun g => Sd' g ∨ Sl' g) w w' := by
 have HR := Lib.hid (wregion d σ Sd frm n w h h1 h2)
 have hok := Lg.Ok.new h1 (Nat.le_trans h2 h.ok.hi)
 have HH := Lib.hid h; have HFR := Lib.hid hf
 have hsync := hf.sync
 have HSy := Lib.hid hsync
 clear h hf hsync
 go_enter Tryz.func87, Tryz.ntmps87
 go_wp2_with (first
  | (go_at_call 132; go_must (refine HR.out.mono ?_; rintro e w1 ⟨rfl, hw1⟩; subst w1)))
 rw [log_cells d frm n]
 obtain ⟨w1, HW1⟩ : ∃ w1 : World, Hid (w.alloc (.cells (tabBlk (lgHead d (Lg.new frm n) (.slice none 0 0)) false 0 []).toArray 226) = w1) := ⟨_, Lib.hid rfl⟩
 have hb1 : Below w.heap.size w w1 := by rw [← HW1.out]; exact below_one w _
 have hr1 : Row w1 w.heap.size 226 (tabBlk (lgHead d (Lg.new frm n) (.slice none 0 0)) false 0 []) := by rw [← HW1.out]; exact Row.new w _ _
 have hl1 : w.heap.size < w1.heap.size := hr1.lt
 have hL1 : LgAt w1 (fun g => g = w.heap.size) w.heap.size d (Lg.new frm n) :=
  ⟨_, _, _, hok, (fun g hg => hg ▸ hl1), rfl, hr1, fun _ => OffSl.nil _ _ _, fun _ g hg => by cases hg⟩
 have hA1 : LogAt w1 Sd (fun g => g = w.heap.size) w.heap.size d σ (Lg.new frm n) := ⟨HH.out.below hb1, hL1, fun g hg e => absurd (HH.out.sub g hg) (by rw [e]; exact Nat.lt_irrefl _), h2⟩
 have HF := Lib.hid (dflush d σ Sd w1 hA1.dk (by omega))
 rw [HSy.out] at HF
 have HA1 := Lib.hid hA1; have HB1 := Lib.hid hb1
 clear hr1 hl1 hL1 hA1 hb1
 rw [HW1.out]
 refine HF.out.mono ?_; rintro e w2 ⟨rfl, hD2, hs2⟩
 have hA2 := HA1.out.disk hD2 hs2 rfl
 have hM := wmark w.heap.size d σ.flush (Lg.new frm n) Sd (fun g => g = w.heap.size) w2 hA2.1 rfl (by simp [Dk.flush])
 rw [Lg.mark_free HFR.out.flush (Lg.new frm n) (by show frm < σ.n; omega)] at hM
 have HM := Lib.hid hM; have HT2 := Lib.hid hA2.2
 clear hM hA2 hD2 hs2
 go_wp2_with (first
  | (go_at_call 133; go_must (refine HM.out.mono ?_; rintro e w3 ⟨rfl, Sd3, Sl3, hA3, hT3⟩)))
 go_ret2
 refine ⟨_, Sd3, Sl3, rfl, hA3, ?_⟩
 have hT := HT2.out.trans hT3
 refine ⟨⟨hT.1.os.trans HB1.out.os, hT.1.tape.trans HB1.out.tape, hT.1.output.trans HB1.out.output, Nat.le_trans HB1.out.size hT.1.size, fun g hg hn => ?_⟩, fun g hg => ?_⟩
 ·rw [hT.1.block g (Nat.lt_of_lt_of_le hg HB1.out.size) (fun e => e.elim hn (fun e => absurd hg (by rw [e]; exact Nat.lt_irrefl _)))]
  exact HB1.out.block g hg
 ·rcases hT.2 g hg with (hg | hg) | hg
  ·exact .inl hg
  ·exact .inr (by rw [hg]; exact Nat.le_refl _)
  ·exact .inr (Nat.le_trans HB1.out.size hg)
end Go.Proofs.YtfgpefcphnpabaaGreat
