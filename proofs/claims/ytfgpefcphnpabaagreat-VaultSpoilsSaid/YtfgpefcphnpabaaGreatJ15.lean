/- parts -/
import Derived.Test.YtfgpefcphnpabaaGreatJ14
import Derived.Lib.BitFns
import Derived.Laws.BitsAllLaws
namespace Go.Proofs.YtfgpefcphnpabaaGreat
open Go.RowKit
set_option maxRecDepth 100000
set_option maxHeartbeats 8000000
def byteB (b0 b1 b2 b3 b4 b5 b6 b7 : Bool) : Nat := b0.toNat + 2 * b1.toNat + 4 * b2.toNat + 8 * b3.toNat + 16 * b4.toNat + 32 * b5.toNat + 64 * b6.toNat + 128 * b7.toNat
theorem byteB_lt (b0 b1 b2 b3 b4 b5 b6 b7 : Bool) : byteB b0 b1 b2 b3 b4 b5 b6 b7 < 256 := by
 unfold byteB
 have := b0.toNat_le; have := b1.toNat_le; have := b2.toNat_le; have := b3.toNat_le; have := b4.toNat_le; have := b5.toNat_le; have := b6.toNat_le; have := b7.toNat_le
 omega
def byteN (f : Nat → Bool) (i : Nat) : Nat := byteB (f (8 * i)) (f (8 * i + 1)) (f (8 * i + 2)) (f (8 * i + 3)) (f (8 * i + 4)) (f (8 * i + 5)) (f (8 * i + 6)) (f (8 * i + 7))
theorem byteN_lt (f : Nat → Bool) (i : Nat) : byteN f i < 256 := byteB_lt _ _ _ _ _ _ _ _
def bytesOf (f : Nat → Bool) : List UInt8 := (List.range 512).map fun i => UInt8.ofNat (byteN f i)
theorem bytesOf_length (f : Nat → Bool) : (bytesOf f).length = 512 := by simp [bytesOf]
theorem bytesOf_at (f : Nat → Bool) (i : Nat) (hi : i < 512) : (bytesOf f)[i]? = some (UInt8.ofNat (byteN f i)) := by
 simp [bytesOf, hi]
theorem ofNat_byte (f : Nat → Bool) (i : Nat) : (UInt8.ofNat (byteN f i)).toNat = byteN f i := by
 rw [UInt8.toNat_ofNat', Nat.mod_eq_of_lt (byteN_lt f i)]
def bitB (b0 b1 b2 b3 b4 b5 b6 b7 : Bool) (j : Nat) : Bool := match j with | 0 => b0 | 1 => b1 | 2 => b2 | 3 => b3 | 4 => b4 | 5 => b5 | 6 => b6 | _ => b7
theorem bitN (f : Nat → Bool) (b : Nat) : bitB (f (8 * (b / 8))) (f (8 * (b / 8) + 1)) (f (8 * (b / 8) + 2)) (f (8 * (b / 8) + 3)) (f (8 * (b / 8) + 4)) (f (8 * (b / 8) + 5)) (f (8 * (b / 8) + 6)) (f (8 * (b / 8) + 7)) (b % 8) = f b := by
 have h := Nat.mod_lt b (show 8 > 0 by decide)
 have e : b = 8 * (b / 8) + b % 8 := by omega
 generalize b % 8 = j at *
 generalize b / 8 = i at *
 subst e
 match j, h with
 | 0, _ => rfl
 | 1, _ => rfl
 | 2, _ => rfl
 | 3, _ => rfl
 | 4, _ => rfl
 | 5, _ => rfl
 | 6, _ => rfl
 | 7, _ => rfl
theorem bit_has : ∀ (b0 b1 b2 b3 b4 b5 b6 b7 : Bool) (j : Fin 8), byteB b0 b1 b2 b3 b4 b5 b6 b7 / 2 ^ j.val % 2 = (bitB b0 b1 b2 b3 b4 b5 b6 b7 j.val).toNat := by decide +kernel
theorem byteN_has (f : Nat → Bool) (b : Nat) : byteN f (b / 8) / 2 ^ (b % 8) % 2 = (f b).toNat := by
 have h := Nat.mod_lt b (show 8 > 0 by decide)
 have := bit_has (f (8 * (b / 8))) (f (8 * (b / 8) + 1)) (f (8 * (b / 8) + 2)) (f (8 * (b / 8) + 3)) (f (8 * (b / 8) + 4)) (f (8 * (b / 8) + 5)) (f (8 * (b / 8) + 6)) (f (8 * (b / 8) + 7)) ⟨b % 8, h⟩
 rw [bitN] at this
 exact this
def setB (f : Nat → Bool) (b : Nat) (v : Bool) : Nat → Bool := fun x => if x = b then v else f x
theorem bit_put : ∀ (b0 b1 b2 b3 b4 b5 b6 b7 : Bool), bits .or .u8 (byteB b0 b1 b2 b3 b4 b5 b6 b7 : Nat) 1 = (byteB true b1 b2 b3 b4 b5 b6 b7 : Nat) ∧ bits .or .u8 (byteB b0 b1 b2 b3 b4 b5 b6 b7 : Nat) 2 = (byteB b0 true b2 b3 b4 b5 b6 b7 : Nat) ∧ bits .or .u8 (byteB b0 b1 b2 b3 b4 b5 b6 b7 : Nat) 4 = (byteB b0 b1 true b3 b4 b5 b6 b7 : Nat) ∧ bits .or .u8 (byteB b0 b1 b2 b3 b4 b5 b6 b7 : Nat) 8 = (byteB b0 b1 b2 true b4 b5 b6 b7 : Nat) ∧
  bits .or .u8 (byteB b0 b1 b2 b3 b4 b5 b6 b7 : Nat) 16 = (byteB b0 b1 b2 b3 true b5 b6 b7 : Nat) ∧ bits .or .u8 (byteB b0 b1 b2 b3 b4 b5 b6 b7 : Nat) 32 = (byteB b0 b1 b2 b3 b4 true b6 b7 : Nat) ∧ bits .or .u8 (byteB b0 b1 b2 b3 b4 b5 b6 b7 : Nat) 64 = (byteB b0 b1 b2 b3 b4 b5 true b7 : Nat) ∧ bits .or .u8 (byteB b0 b1 b2 b3 b4 b5 b6 b7 : Nat) 128 = (byteB b0 b1 b2 b3 b4 b5 b6 true : Nat) := by decide +kernel
theorem bit_cut : ∀ (b0 b1 b2 b3 b4 b5 b6 b7 : Bool), bits .andNot .u8 (byteB b0 b1 b2 b3 b4 b5 b6 b7 : Nat) 1 = (byteB false b1 b2 b3 b4 b5 b6 b7 : Nat) ∧ bits .andNot .u8 (byteB b0 b1 b2 b3 b4 b5 b6 b7 : Nat) 2 = (byteB b0 false b2 b3 b4 b5 b6 b7 : Nat) ∧ bits .andNot .u8 (byteB b0 b1 b2 b3 b4 b5 b6 b7 : Nat) 4 = (byteB b0 b1 false b3 b4 b5 b6 b7 : Nat) ∧ bits .andNot .u8 (byteB b0 b1 b2 b3 b4 b5 b6 b7 : Nat) 8 = (byteB b0 b1 b2 false b4 b5 b6 b7 : Nat) ∧
  bits .andNot .u8 (byteB b0 b1 b2 b3 b4 b5 b6 b7 : Nat) 16 = (byteB b0 b1 b2 b3 false b5 b6 b7 : Nat) ∧ bits .andNot .u8 (byteB b0 b1 b2 b3 b4 b5 b6 b7 : Nat) 32 = (byteB b0 b1 b2 b3 b4 false b6 b7 : Nat) ∧ bits .andNot .u8 (byteB b0 b1 b2 b3 b4 b5 b6 b7 : Nat) 64 = (byteB b0 b1 b2 b3 b4 b5 false b7 : Nat) ∧ bits .andNot .u8 (byteB b0 b1 b2 b3 b4 b5 b6 b7 : Nat) 128 = (byteB b0 b1 b2 b3 b4 b5 b6 false : Nat) := by decide +kernel
theorem byteN_set_other (f : Nat → Bool) (b i : Nat) (v : Bool) (h : i ≠ b / 8) : byteN (setB f b v) i = byteN f i := by
 unfold byteN setB
 congr 1 <;> (rw [if_neg (by omega)])
theorem byteN_put (f : Nat → Bool) (b : Nat) : bits .or .u8 (byteN f (b / 8) : Nat) ((2 ^ (b % 8) : Nat) : Int) = (byteN (setB f b true) (b / 8) : Nat) := by
 have h := Nat.mod_lt b (show 8 > 0 by decide)
 have e : b = 8 * (b / 8) + b % 8 := by omega
 generalize hj : b % 8 = j at *
 generalize hi : b / 8 = i at *
 subst e
 have q := bit_put (f (8 * i)) (f (8 * i + 1)) (f (8 * i + 2)) (f (8 * i + 3)) (f (8 * i + 4)) (f (8 * i + 5)) (f (8 * i + 6)) (f (8 * i + 7))
 unfold byteN setB
 match j, h with
 | 0, _ => simpa using q.1
 | 1, _ => simpa using q.2.1
 | 2, _ => simpa using q.2.2.1
 | 3, _ => simpa using q.2.2.2.1
 | 4, _ => simpa using q.2.2.2.2.1
 | 5, _ => simpa using q.2.2.2.2.2.1
 | 6, _ => simpa using q.2.2.2.2.2.2.1
 | 7, _ => simpa using q.2.2.2.2.2.2.2
theorem byteN_cut (f : Nat → Bool) (b : Nat) : bits .andNot .u8 (byteN f (b / 8) : Nat) ((2 ^ (b % 8) : Nat) : Int) = (byteN (setB f b false) (b / 8) : Nat) := by
 have h := Nat.mod_lt b (show 8 > 0 by decide)
 have e : b = 8 * (b / 8) + b % 8 := by omega
 generalize hj : b % 8 = j at *
 generalize hi : b / 8 = i at *
 subst e
 have q := bit_cut (f (8 * i)) (f (8 * i + 1)) (f (8 * i + 2)) (f (8 * i + 3)) (f (8 * i + 4)) (f (8 * i + 5)) (f (8 * i + 6)) (f (8 * i + 7))
 unfold byteN setB
 match j, h with
 | 0, _ => simpa using q.1
 | 1, _ => simpa using q.2.1
 | 2, _ => simpa using q.2.2.1
 | 3, _ => simpa using q.2.2.2.1
 | 4, _ => simpa using q.2.2.2.2.1
 | 5, _ => simpa using q.2.2.2.2.2.1
 | 6, _ => simpa using q.2.2.2.2.2.2.1
 | 7, _ => simpa using q.2.2.2.2.2.2.2
theorem bytesOf_set (f : Nat → Bool) (b : Nat) (v : Bool) (hb : b < 4096) : (bytesOf f).set (b / 8) (UInt8.ofNat (byteN (setB f b v) (b / 8))) = bytesOf (setB f b v) := by
 apply List.ext_getElem?
 intro i
 rw [List.getElem?_set]
 by_cases h : b / 8 = i
 ·subst h
  rw [if_pos rfl, if_pos (by rw [bytesOf_length]; omega), bytesOf_at _ _ (by omega)]
 ·rw [if_neg h]
  unfold bytesOf
  rw [List.getElem?_map, List.getElem?_map]
  rcases Nat.lt_or_ge i 512 with hi | hi
  ·rw [List.getElem?_range hi]
   simp only [Option.map_some]
   rw [byteN_set_other f b i v (fun e => h e.symm)]
  ·simp [hi]
def countB (f : Nat → Bool) (n : Nat) : Nat := ((List.range n).filter f).length
theorem ones_byte : ∀ (b0 b1 b2 b3 b4 b5 b6 b7 : Bool), Lib.onesCount (byteB b0 b1 b2 b3 b4 b5 b6 b7) = b0.toNat + b1.toNat + b2.toNat + b3.toNat + b4.toNat + b5.toNat + b6.toNat + b7.toNat := by decide +kernel
theorem countB_succ (f : Nat → Bool) (n : Nat) : countB f (n + 1) = countB f n + (f n).toNat := by
 unfold countB
 rw [List.range_succ, List.filter_append, List.length_append]
 cases h : f n <;> simp [h]
theorem countB_byte (f : Nat → Bool) (i : Nat) : countB f (8 * (i + 1)) = countB f (8 * i) + Lib.onesCount (byteN f i) := by
 have e : 8 * (i + 1) = 8 * i + 1 + 1 + 1 + 1 + 1 + 1 + 1 + 1 := by omega
 rw [e]
 simp only [countB_succ]
 unfold byteN
 rw [ones_byte]
 omega
theorem countB_le (f : Nat → Bool) (n : Nat) : countB f n ≤ n := by
 unfold countB
 have := List.length_filter_le f (List.range n)
 simpa using this
theorem ntz_byte : ∀ (b0 b1 b2 b3 b4 b5 b6 b7 : Bool), byteB b0 b1 b2 b3 b4 b5 b6 b7 ≠ 255 → Lib.trailingZeros8 (255 - byteB b0 b1 b2 b3 b4 b5 b6 b7) < 8 ∧ bitB b0 b1 b2 b3 b4 b5 b6 b7 (Lib.trailingZeros8 (255 - byteB b0 b1 b2 b3 b4 b5 b6 b7)) = false ∧ ∀ j : Fin 8, j.val < Lib.trailingZeros8 (255 - byteB b0 b1 b2 b3 b4 b5 b6 b7) → bitB b0 b1 b2 b3 b4 b5 b6 b7 j.val = true := by decide +kernel
theorem full_byte : ∀ (b0 b1 b2 b3 b4 b5 b6 b7 : Bool), byteB b0 b1 b2 b3 b4 b5 b6 b7 = 255 → ∀ j : Fin 8, bitB b0 b1 b2 b3 b4 b5 b6 b7 j.val = true := by decide +kernel
theorem bitN' (f : Nat → Bool) (i j : Nat) (hj : j < 8) : bitB (f (8 * i)) (f (8 * i + 1)) (f (8 * i + 2)) (f (8 * i + 3)) (f (8 * i + 4)) (f (8 * i + 5)) (f (8 * i + 6)) (f (8 * i + 7)) j = f (8 * i + j) := by
 have := bitN f (8 * i + j)
 rwa [show (8 * i + j) / 8 = i by omega, show (8 * i + j) % 8 = j by omega] at this
theorem byteN_least (f : Nat → Bool) (i : Nat) (h : byteN f i ≠ 255) : Lib.trailingZeros8 (255 - byteN f i) < 8 ∧ f (8 * i + Lib.trailingZeros8 (255 - byteN f i)) = false ∧ ∀ j, j < Lib.trailingZeros8 (255 - byteN f i) → f (8 * i + j) = true := by
 obtain ⟨h1, h2, h3⟩ := ntz_byte _ _ _ _ _ _ _ _ h
 refine ⟨h1, ?_, fun j hj => ?_⟩
 ·have := bitN' f i _ h1
  exact this.symm.trans h2
 ·have hj8 : j < 8 := Nat.lt_trans hj h1
  exact (bitN' f i j hj8).symm.trans (h3 ⟨j, hj8⟩ hj)
theorem byteN_full (f : Nat → Bool) (i : Nat) (h : byteN f i = 255) (j : Nat) (hj : j < 8) : f (8 * i + j) = true :=
 (bitN' f i j hj).symm.trans (full_byte _ _ _ _ _ _ _ _ h ⟨j, hj⟩)
theorem bit_or (b c : Bool) (n m : Nat) : (b.toNat + 2 * n) ||| (c.toNat + 2 * m) = (b || c).toNat + 2 * (n ||| m) := by
 have h : ∀ (x : Bool) (k : Nat), (x.toNat + 2 * k) / 2 = k ∧ (x.toNat + 2 * k) % 2 = x.toNat := by
  intro x k
  have := x.toNat_le
  omega
 apply Nat.eq_of_testBit_eq
 intro i
 rw [Nat.testBit_or]
 cases i with
 | zero =>
  simp only [Nat.testBit_zero, (h _ _).2]
  cases b <;> cases c <;> rfl
 | succ i => simp only [Nat.testBit_succ, (h _ _).1, Nat.testBit_or]
theorem byteB_nest (x0 x1 x2 x3 x4 x5 x6 x7 : Bool) : byteB x0 x1 x2 x3 x4 x5 x6 x7 = x0.toNat + 2 * (x1.toNat + 2 * (x2.toNat + 2 * (x3.toNat + 2 * (x4.toNat + 2 * (x5.toNat + 2 * (x6.toNat + 2 * x7.toNat)))))) := by
 unfold byteB; omega
theorem byteB_or (a0 a1 a2 a3 a4 a5 a6 a7 b0 b1 b2 b3 b4 b5 b6 b7 : Bool) : byteB a0 a1 a2 a3 a4 a5 a6 a7 ||| byteB b0 b1 b2 b3 b4 b5 b6 b7 = byteB (a0 || b0) (a1 || b1) (a2 || b2) (a3 || b3) (a4 || b4) (a5 || b5) (a6 || b6) (a7 || b7) := by
 rw [byteB_nest, byteB_nest, byteB_nest]
 simp only [bit_or]
 cases a7 <;> cases b7 <;> rfl
theorem byteN_or (f g : Nat → Bool) (i : Nat) : byteN f i ||| byteN g i = byteN (fun x => f x || g x) i := byteB_or _ _ _ _ _ _ _ _ _ _ _ _ _ _ _ _
theorem ones_any (x : Int) (w : World) (h0 : 0 ≤ x) (h1 : x ≤ 255) :
  Calls Tryz.prog 116 #[.int .u8 x] w fun e w' => e = .returned (.int .i64 (Lib.onesCount x.toNat)) ∧ w' = w := by
 have hq : wrap64 (Lib.pop8 x) = (Lib.onesCount x.toNat : Int) := by
  have e := Lib.pop8_int x h0 h1
  generalize Lib.pop8 x = y at e ⊢
  unfold wrap64
  exact e
 go_enter Tryz.func116, Tryz.ntmps116
 go_wp2
 rw [hq]
 go_ret
 exact ⟨rfl, rfl⟩
theorem ntz_any (x : Int) (w : World) (h0 : 0 ≤ x) (h1 : x ≤ 255) :
  Calls Tryz.prog 266 #[.int .u8 x] w fun e w' => e = .returned (.int .i64 (Lib.trailingZeros8 x.toNat)) ∧ w' = w := by
 have hq : wrap64 (Lib.ntz8 x) = (Lib.trailingZeros8 x.toNat : Int) := by
  have e := Lib.ntz8_int x h0 h1
  generalize Lib.ntz8 x = y at e ⊢
  unfold wrap64
  exact e
 go_enter Tryz.func266, Tryz.ntmps266
 go_wp2
 rw [hq]
 go_ret
 exact ⟨rfl, rfl⟩
theorem has_eq (f : Nat → Bool) (b : Nat) : (bits .and .u8 (((byteN f (b / 8) : Nat) : Int) / 2 ^ (b % 8)) 1 == 1) = f b := by
 have h := byteN_has f b
 have hl := byteN_lt f (b / 8)
 have e : (((byteN f (b / 8) : Nat) : Int) / 2 ^ (b % 8)) = ((byteN f (b / 8) / 2 ^ (b % 8) : Nat) : Int) := by
  rw [Int.natCast_ediv, Int.natCast_pow]; rfl
 have hl2 : byteN f (b / 8) / 2 ^ (b % 8) < 256 := Nat.lt_of_le_of_lt (Nat.div_le_self _ _) hl
 rw [e]
 have := u8_and_nat (byteN f (b / 8) / 2 ^ (b % 8)) 1 hl2 (by omega)
 rw [show ((1 : Nat) : Int) = 1 from rfl] at this
 rw [this, Nat.and_one_is_mod, h]
 cases f b <;> rfl
theorem bhas (mp off : Nat) (f : Nat → Bool) (b : Nat) (w : World) (hb : b < 4096) (hc : w.cell? ⟨mp, off + b / 8, none⟩ = some (.int .u8 (byteN f (b / 8)))) :
  Calls Tryz.prog 101 #[.pointer (some ⟨mp, off, none⟩), .int .i64 b] w fun e w' => e = .returned (.bool (f b)) ∧ w' = w := by
 have hlt := World.block_lt_of_cell? w _ hc
 have hlt' : mp < w.heap.size := hlt
 have HQ := Lib.hid (has_eq f b)
 go_enter Tryz.func101, Tryz.ntmps101
 go_wp2
 rw [HQ.out]
 go_ret
 exact ⟨rfl, rfl⟩
theorem one_shl (j : Nat) (hj : j < 8) : IntKind.u8.wrap ((1 : Int) * 2 ^ j) = ((2 ^ j : Nat) : Int) := by
 match j, hj with
 | 0, _ => rfl
 | 1, _ => rfl
 | 2, _ => rfl
 | 3, _ => rfl
 | 4, _ => rfl
 | 5, _ => rfl
 | 6, _ => rfl
 | 7, _ => rfl
theorem bput (mp off : Nat) (f : Nat → Bool) (b : Nat) (w : World) (hb : b < 4096) (hc : w.cell? ⟨mp, off + b / 8, none⟩ = some (.int .u8 (byteN f (b / 8)))) (hfz : w.frozen? ⟨mp, off + b / 8, none⟩ = false) :
  Calls Tryz.prog 267 #[.pointer (some ⟨mp, off, none⟩), .int .i64 b] w fun e w' => e = .returned (.tuple #[]) ∧ w' = w.drew.setCell ⟨mp, off + b / 8, none⟩ (.int .u8 (byteN (setB f b true) (b / 8))) := by
 have hlt := World.block_lt_of_cell? w _ hc
 have hlt' : mp < w.drew.heap.size := hlt
 have hp := byteN_put f b
 obtain ⟨n1, hn1⟩ : ∃ n, Hid (byteN (setB f b true) (b / 8) = n) := ⟨_, Lib.hid rfl⟩
 rw [hn1.out] at hp ⊢
 obtain ⟨n0, hn0⟩ : ∃ n, Hid (byteN f (b / 8) = n) := ⟨_, Lib.hid rfl⟩
 rw [hn0.out] at hp hc
 have q1 : IntKind.i64.wrap ((b : Int) / 8) = ((b / 8 : Nat) : Int) := by rw [IntWalk.i64_in _ (by omega)]; omega
 have q2 : Int.tmod (b : Int) 8 = ((b % 8 : Nat) : Int) := by rw [Int.tmod_eq_emod_of_nonneg (by omega)]; omega
 have hj8 : b % 8 < 8 := by omega
 have q3 := one_shl (b % 8) hj8
 have hi5 : b / 8 < 512 := by omega
 generalize b % 8 = j at *
 generalize b / 8 = i at *
 have hi6 : (i : Int) < 512 := by omega
 have hc' : w.drew.cell? ⟨mp, off + i, none⟩ = some (.int .u8 n0) := hc
 have hf' : w.drew.frozen? ⟨mp, off + i, none⟩ = false := hfz
 go_enter Tryz.func267, Tryz.ntmps267
 go_wp2_with fail
 refine wp_region_ord (fun W => W = w.drew) (fun i => !([12].contains i)) [0, 1, 2, 3, 4, 5, 6, 7, 8, 9, 10, 11, 12] rfl (by kernel_rfl) rfl ?_
 repeat ((refine ord_q (v := ?_) rfl rfl (fun _ _ _ h => h) rfl (fun W hW => ?_) ?_); rotate_left; (focus ((try dsimp only at hW); subst hW; (try rw [q1]); (try rw [q2]); (go_simp; first | done | with_reducible rfl))); (try simp only [Act.put, List.setIfInBounds_toArray, List.set_cons_zero, List.set_cons_succ]))
 have q4 : IntKind.u8.wrap ((2 : Int) ^ j) = ((2 ^ j : Nat) : Int) := by
  simpa using q3
 rw [q4, hp]
 refine ord_l rfl rfl rfl (by kernel_rfl) ?_; intro K hK; go_simp
 refine hK.out _ _ ?_
 refine ord_nil ?_
 go_wp2_with fail
 go_end0
 exact ⟨rfl, rfl⟩
theorem bcut (mp off : Nat) (f : Nat → Bool) (b : Nat) (w : World) (hb : b < 4096) (hc : w.cell? ⟨mp, off + b / 8, none⟩ = some (.int .u8 (byteN f (b / 8)))) (hfz : w.frozen? ⟨mp, off + b / 8, none⟩ = false) :
  Calls Tryz.prog 265 #[.pointer (some ⟨mp, off, none⟩), .int .i64 b] w fun e w' => e = .returned (.tuple #[]) ∧ w' = w.drew.setCell ⟨mp, off + b / 8, none⟩ (.int .u8 (byteN (setB f b false) (b / 8))) := by
 have hlt := World.block_lt_of_cell? w _ hc
 have hlt' : mp < w.drew.heap.size := hlt
 have hp := byteN_cut f b
 obtain ⟨n1, hn1⟩ : ∃ n, Hid (byteN (setB f b false) (b / 8) = n) := ⟨_, Lib.hid rfl⟩
 rw [hn1.out] at hp ⊢
 obtain ⟨n0, hn0⟩ : ∃ n, Hid (byteN f (b / 8) = n) := ⟨_, Lib.hid rfl⟩
 rw [hn0.out] at hp hc
 have q1 : IntKind.i64.wrap ((b : Int) / 8) = ((b / 8 : Nat) : Int) := by rw [IntWalk.i64_in _ (by omega)]; omega
 have q2 : Int.tmod (b : Int) 8 = ((b % 8 : Nat) : Int) := by rw [Int.tmod_eq_emod_of_nonneg (by omega)]; omega
 have hj8 : b % 8 < 8 := by omega
 have q3 := one_shl (b % 8) hj8
 have hi5 : b / 8 < 512 := by omega
 generalize b % 8 = j at *
 generalize b / 8 = i at *
 have hi6 : (i : Int) < 512 := by omega
 have hc' : w.drew.cell? ⟨mp, off + i, none⟩ = some (.int .u8 n0) := hc
 have hf' : w.drew.frozen? ⟨mp, off + i, none⟩ = false := hfz
 go_enter Tryz.func265, Tryz.ntmps265
 go_wp2_with fail
 refine wp_region_ord (fun W => W = w.drew) (fun i => !([12].contains i)) [0, 1, 2, 3, 4, 5, 6, 7, 8, 9, 10, 11, 12] rfl (by kernel_rfl) rfl ?_
 repeat ((refine ord_q (v := ?_) rfl rfl (fun _ _ _ h => h) rfl (fun W hW => ?_) ?_); rotate_left; (focus ((try dsimp only at hW); subst hW; (try rw [q1]); (try rw [q2]); (go_simp; first | done | with_reducible rfl))); (try simp only [Act.put, List.setIfInBounds_toArray, List.set_cons_zero, List.set_cons_succ]))
 have q4 : IntKind.u8.wrap ((2 : Int) ^ j) = ((2 ^ j : Nat) : Int) := by
  simpa using q3
 rw [q4, hp]
 refine ord_l rfl rfl rfl (by kernel_rfl) ?_; intro K hK; go_simp
 refine hK.out _ _ ?_
 refine ord_nil ?_
 go_wp2_with fail
 go_end0
 exact ⟨rfl, rfl⟩
theorem index_arr (cs : List Value) (i : Nat) (n : Int) (hi : i < 512) (h : cs[i]? = some (.int .u8 n)) (W : World) : (Instr.index 165 (.agg cs.toArray) (.int .i64 (i : Int))).run Tryz.prog W = .ok (.int .u8 n) W := by
 have hl := (List.getElem?_eq_some_iff.1 h).1
 have e1 : (0 : Int) ≤ (i : Int) ∧ (i : Int) < 512 := by omega
 simp [Instr.index, run_underlying Tryz.underlying165, asIntOf, e1, part, go_sem, h]
 omega
theorem onesCount_le8 (n : Nat) (h : n < 256) : Lib.onesCount n ≤ 8 := Lib.onesCount_le8 ⟨n, h⟩
def mpCells (n : Nat) (now old : Nat → Bool) : List Value := .int .i64 n :: (bCells (bytesOf now) ++ bCells (bytesOf old))
def MpAt (w : World) (mp n : Nat) (now old : Nat → Bool) : Prop := Row w mp 167 (mpCells n now old)
theorem bytesOf_cell (f : Nat → Bool) (i : Nat) (hi : i < 512) : (bCells (bytesOf f))[i]? = some (.int .u8 (byteN f i)) := by
 unfold bCells
 rw [List.getElem?_map, bytesOf_at f i hi]
 simp only [Option.map_some, ofNat_byte]
theorem bytesOf_cells (f : Nat → Bool) : (bCells (bytesOf f)).length = 512 := by rw [bCells_length, bytesOf_length]
theorem mpCells_now (n : Nat) (now old : Nat → Bool) (i : Nat) (hi : i < 512) : (mpCells n now old)[1 + i]? = some (.int .u8 (byteN now i)) := by
 unfold mpCells
 rw [Nat.add_comm, List.getElem?_cons_succ, List.getElem?_append_left (by rw [bytesOf_cells]; exact hi)]
 exact bytesOf_cell now i hi
theorem mpCells_old (n : Nat) (now old : Nat → Bool) (i : Nat) (hi : i < 512) : (mpCells n now old)[513 + i]? = some (.int .u8 (byteN old i)) := by
 unfold mpCells
 rw [show 513 + i = (512 + i) + 1 by omega, List.getElem?_cons_succ, List.getElem?_append_right (by rw [bytesOf_cells]; omega), bytesOf_cells, Nat.add_sub_cancel_left]
 exact bytesOf_cell old i hi
theorem MpAt.cells {w : World} {mp n : Nat} {now old : Nat → Bool} (h : MpAt w mp n now old) : w.cell? ⟨mp, 0, none⟩ = some (.int .i64 n) ∧ mp < w.heap.size ∧ (∀ j, w.frozen? ⟨mp, j, none⟩ = false) ∧ (∀ i, i < 512 → w.cell? ⟨mp, 1 + i, none⟩ = some (.int .u8 (byteN now i))) ∧ ∀ i, i < 512 → w.cell? ⟨mp, 513 + i, none⟩ = some (.int .u8 (byteN old i)) := by
 refine ⟨?_, h.lt, h.frozen, fun i hi => ?_, fun i hi => ?_⟩
 ·rw [h.cell]; rfl
 ·rw [h.cell]; exact mpCells_now n now old i hi
 ·rw [h.cell]; exact mpCells_old n now old i hi
theorem MpAt.keep {w w' : World} {mp n : Nat} {now old : Nat → Bool} (h : MpAt w mp n now old) (hb : w'.heap[mp]? = w.heap[mp]?) : MpAt w' mp n now old := hb.trans h
theorem bCells_set (l : List UInt8) (i : Nat) (x : UInt8) : (bCells l).set i (.int .u8 x.toNat) = bCells (l.set i x) := by
 unfold bCells
 rw [List.map_set]
theorem MpAt.set {w : World} {mp n : Nat} {now old : Nat → Bool} (h : MpAt w mp n now old) (b : Nat) (v : Bool) (hb : b < 4096) : MpAt (w.setCell ⟨mp, 1 + b / 8, none⟩ (.int .u8 (byteN (setB now b v) (b / 8)))) mp n (setB now b v) old := by
 have e : (mpCells n now old).set (1 + b / 8) (.int .u8 (byteN (setB now b v) (b / 8))) = mpCells n (setB now b v) old := by
  unfold mpCells
  rw [Nat.add_comm, List.set_cons_succ, List.set_append_left _ _ (by rw [bytesOf_cells]; omega)]
  have := bCells_set (bytesOf now) (b / 8) (UInt8.ofNat (byteN (setB now b v) (b / 8)))
  rw [ofNat_byte, bytesOf_set now b v hb] at this
  rw [this]
 unfold MpAt Row at *
 rw [← e]
 simp [World.setCell, Array.getElem?_modify, h]
theorem mhas (mp n : Nat) (now old : Nat → Bool) (b : Nat) (w : World) (h : MpAt w mp n now old) (hn : n ≤ 4096) (hb : b ≤ 4096) :
  Calls Tryz.prog 81 #[.pointer (some ⟨mp, 0, none⟩), .int .i64 b] w fun e w' => e = .returned (.bool (decide (b < n) && now b)) ∧ w' = w := by
 obtain ⟨c0, hlt, hfz, hnow, _⟩ := h.cells
 by_cases hbn : b < n
 ·have HB := Lib.hid (bhas mp 1 now b w (by omega) (hnow _ (by omega)))
  have x1 : (0 : Int) ≤ (b : Int) := by omega
  have x2 : (b : Int) < (n : Int) := by omega
  have x3 : (decide (b < n) && now b) = now b := by simp [hbn]
  rw [x3]
  clear h hnow
  go_enter Tryz.func81, Tryz.ntmps81
  go_wp2_with (first
   | (go_at_call 101; go_must (refine HB.out.mono ?_; rintro e w1 ⟨rfl, hw1⟩; subst w1)))
  go_ret
  exact ⟨rfl, rfl⟩
 ·have x1 : (0 : Int) ≤ (b : Int) := by omega
  have x2 : ¬ (b : Int) < (n : Int) := by omega
  have x3 : (decide (b < n) && now b) = false := by simp [hbn]
  rw [x3]
  clear h hnow
  go_enter Tryz.func81, Tryz.ntmps81
  go_wp2_with fail
  go_ret
  exact ⟨rfl, rfl⟩
theorem mfree (mp n : Nat) (now old : Nat → Bool) (b : Nat) (w : World) (h : MpAt w mp n now old) (hn : n ≤ 4096) (hb2 : 2 ≤ b) (hb : b < n) (hnow : now b = true) :
  Calls Tryz.prog 263 #[.pointer (some ⟨mp, 0, none⟩), .int .i64 b] w fun e w' => e = .returned (.int .i64 0) ∧ MpAt w' mp n (setB now b false) old ∧ Keep (· = mp) w w' := by
 have HM := mhas mp n now old b w h hn (by omega)
 rw [hnow, decide_eq_true hb] at HM
 have HM := Lib.hid HM
 obtain ⟨c0, hlt, hfz, hc, _⟩ := h.cells
 have HC := Lib.hid (bcut mp 1 now b w (by omega) (hc _ (by omega)) (hfz _))
 have HS := Lib.hid (MpAt.set (w := w.drew) (show MpAt w.drew mp n now old from h) b false (by omega))
 have x1 : ¬ (b : Int) < 2 := by omega
 have x2 : ¬ b < 2 := by omega
 clear h hc
 go_enter Tryz.func263, Tryz.ntmps263
 go_wp2_with (first
  | (go_at_call 81; go_must (refine HM.out.mono ?_; rintro e w1 ⟨rfl, hw1⟩; subst w1))
  | (go_at_call 265; go_must (refine HC.out.mono ?_; rintro e w1 ⟨rfl, hw1⟩; subst w1)))
 go_ret
 exact ⟨rfl, HS.out, ((Keep.refl (· = mp) w).drew).setCell (p := ⟨mp, 1 + b / 8, none⟩) (.inr rfl) _⟩
theorem info_set : (Tryz.prog.info? 165).map (fun i => i.size) = some 512 := by kernel_rfl
theorem mused (mp n : Nat) (now old : Nat → Bool) (w : World) (h : MpAt w mp n now old) :
  Calls Tryz.prog 66 #[.pointer (some ⟨mp, 0, none⟩)] w fun e w' => e = .returned (.int .i64 (countB now 4096)) ∧ w' = w := by
 obtain ⟨c0, hlt, hfz, hc, _⟩ := h.cells
 have hrg : w.rangeAt mp 1 (bCells (bytesOf now)) := Row.range (off := 1) (n := 512) h (by
  unfold mpCells
  rw [List.drop_one, List.tail_cons, List.take_append_of_le_length (by rw [bytesOf_cells]; exact Nat.le_refl _), List.take_of_length_le (by rw [bytesOf_cells]; exact Nat.le_refl _)])
 have hbl := bytesOf_cells now
 have hat := Lib.hid (fun i (hi : i < 512) (W : World) => index_arr (bCells (bytesOf now)) i _ hi (bytesOf_cell now i hi) W)
 obtain ⟨C, HC⟩ : ∃ C, Hid (bCells (bytesOf now) = C) := ⟨_, Lib.hid rfl⟩
 rw [HC.out] at hrg hbl hat
 have HL := Lib.hid hbl
 clear h hc hbl
 go_enter Tryz.func66, Tryz.ntmps66
 go_wp2_with (first
  | ((refine in_list rfl ?_); intro K hK; (refine wp_load_mid 165 _ rfl mp 1 rfl C _ hrg Tryz.underlying165 rfl (info_set.trans (congrArg some HL.out.symm)) ?_); refine hK _ _ ?_))
 go_loopw [3, 5, 12] (fun s _ i wr => ∃ k : Nat, k ≤ 512 ∧ i = .int .i64 k ∧ s = .int .i64 (countB now (8 * k)) ∧ wr = w) (fun _ _ i _ => 512 - (intOf i).toNat)
 case atStart => exact ⟨0, by omega, rfl, rfl, rfl⟩
 case round =>
  obtain ⟨k, hk, rfl, rfl, rfl⟩ := hrel
  have hcl := countB_le now (8 * k)
  by_cases hk5 : k < 512
  ·have x1 : (k : Int) < 512 := by omega
   have hidx := hat.out k hk5
   have hon := ones_any (byteN now k : Int) wr (by omega) (by have := byteN_lt now k; omega)
   rw [Int.toNat_natCast] at hon
   have HON := Lib.hid hon; clear hon
   have HCB := Lib.hid (countB_byte now k)
   have hbl := onesCount_le8 (byteN now k) (byteN_lt now k)
   go_wp2_with (first
    | (go_at_call 116; go_must (refine HON.out.mono ?_; rintro e w1 ⟨rfl, hw1⟩; subst w1)))
   go_roundw
   case rel => exact ⟨k + 1, by omega, by go_num, by rw [HCB.out]; go_num, by trivial⟩
   case measure => simp [intOf]; omega
  ·obtain rfl : k = 512 := by omega
   go_wp2_with fail
   go_ret
   exact ⟨rfl, rfl⟩
theorem MpAt.below {w w' : World} {mp n : Nat} {now old : Nat → Bool} (h : MpAt w mp n now old) (hb : Below w.heap.size w w') : MpAt w' mp n now old := h.keep (hb.block _ h.lt)
theorem xor255 : ∀ a : Fin 256, 255 ^^^ a.val = 255 - a.val := by decide +kernel
theorem not_u8 (n : Nat) (h : n < 256) : bits .xor .u8 (if IntKind.u8.signed = true then -1 else IntKind.u8.max) (n : Int) = ((255 - n : Nat) : Int) := by
 have e : (if IntKind.u8.signed = true then (-1 : Int) else IntKind.u8.max) = ((255 : Nat) : Int) := rfl
 rw [e, u8_xor_nat 255 n (by omega) h, xor255 ⟨n, h⟩]
theorem mtake (mp n : Nat) (now old : Nat → Bool) (w : World) (h : MpAt w mp n now old) (hn : n ≤ 4096) :
  Calls Tryz.prog 264 #[.pointer (some ⟨mp, 0, none⟩)] w fun e w' =>
   (∃ b : Nat, b < n ∧ (now b || old b) = false ∧ (∀ x, x < b → (now x || old x) = true) ∧ e = .returned (.tuple #[.int .i64 b, .int .i64 0]) ∧ MpAt w' mp n (setB now b true) old ∧ Keep (· = mp) w w') ∨
   ((∀ x, x < n → (now x || old x) = true) ∧ e = .returned (.tuple #[.int .i64 0, .int .i64 12]) ∧ Below w.heap.size w w') := by
 obtain ⟨_, hlt0, _⟩ := h.cells
 have HM := Lib.hid (fun (W : World) (hW : Below w.heap.size w W) => (h.below hW))
 clear h
 go_enter Tryz.func264, Tryz.ntmps264
 go_wp2_with fail
 go_loopw [4, 5, 6, 9] (fun _ _ _ i wr => ∃ k : Nat, k ≤ 512 ∧ i = .int .i64 k ∧ Below w.heap.size w wr ∧ ∀ x, x < 8 * k → (now x || old x) = true) (fun _ _ _ i _ => 512 - (intOf i).toNat)
 case atStart => exact ⟨0, by omega, rfl, Below.refl _ _, fun x hx => by omega⟩
 case round =>
  obtain ⟨k, hk, rfl, hb, hall⟩ := hrel
  have HA := Lib.hid hall; clear hall
  have HB := Lib.hid hb; clear hb
  by_cases hk5 : k < 512
  ·have x1 : (k : Int) < 512 := by omega
   obtain ⟨f, hf⟩ : ∃ f : Nat → Bool, f = fun x => now x || old x := ⟨_, rfl⟩
   have hor : bits .or .u8 (byteN now k : Int) (byteN old k : Int) = (byteN f k : Int) := by
    rw [u8_or_nat _ _ (byteN_lt _ _) (byteN_lt _ _), byteN_or, hf]
   have hfl := byteN_lt f k
   have HCC := Lib.hid (fun (W : World) (hW : Below w.heap.size w W) => (show W.cell? ⟨mp, 0, none⟩ = some (.int .i64 n) ∧ mp < W.heap.size ∧ W.cell? ⟨mp, 1 + k, none⟩ = some (.int .u8 (byteN now k)) ∧ W.cell? ⟨mp, 513 + k, none⟩ = some (.int .u8 (byteN old k)) from by
    obtain ⟨a, b, c, d, e⟩ := (HM.out W hW).cells
    exact ⟨a, b, d k hk5, e k hk5⟩))
   go_wp2_with fail
   refine wp_region_ord (fun W => Below w.heap.size w W) (fun _ => true) [0, 1, 2, 3, 4, 5, 6, 7, 8, 9, 10, 11, 12, 13, 14] rfl (by kernel_rfl) HB.out.drew ?_
   repeat ((refine ord_q (v := ?_) rfl rfl (fun _ _ _ h => h) rfl (fun W hW => ?_) ?_); rotate_left; (focus ((try dsimp only at hW); obtain ⟨r0, r1, r2, r3⟩ := HCC.out W hW; (try rw [hor]); (go_simp; first | done | with_reducible rfl))); (try simp only [Act.put, List.setIfInBounds_toArray, List.set_cons_zero, List.set_cons_succ]))
   refine ord_nil ?_
   have hxor : bits .xor .u8 (if IntKind.u8.signed = true then -1 else IntKind.u8.max) ((byteN (fun x => now x || old x) k : Nat) : Int) = ((255 - byteN f k : Nat) : Int) := by
    rw [← hf]; exact not_u8 _ hfl
   rw [hxor]
   clear hor hxor
   by_cases hfull : byteN f k = 255
   ·have y1 : 255 - byteN f k = 0 := by omega
    rw [y1]
    have HF := Lib.hid hfull; clear hfull hfl y1
    go_wp2_with fail
    go_roundw
    case rel =>
     refine ⟨k + 1, by omega, by go_num, HB.out.drew, fun x hx => ?_⟩
     rcases Nat.lt_or_ge x (8 * k) with hx8 | hx8
     ·exact HA.out x hx8
     ·have := byteN_full f k HF.out (x - 8 * k) (by omega)
      rw [show 8 * k + (x - 8 * k) = x by omega, hf] at this
      exact this
    case measure => simp [intOf]; omega
   ·obtain ⟨t1, t2, t3⟩ := byteN_least f k hfull
    obtain ⟨m, hm⟩ : ∃ m, m = 255 - byteN f k := ⟨_, rfl⟩
    rw [← hm] at t1 t2 t3 ⊢
    obtain ⟨tz, htz⟩ : ∃ z, z = Lib.trailingZeros8 m := ⟨_, rfl⟩
    rw [← htz] at t1 t2 t3
    have hm0 : ¬ m = 0 := by omega
    have hm1 : m ≤ 255 := by omega
    have hnt := ntz_any (m : Int) wr.drew (by omega) (by omega)
    rw [Int.toNat_natCast, ← htz] at hnt
    have HNT := Lib.hid hnt
    have HT2 := Lib.hid t2; have HT3 := Lib.hid t3; have HHF := Lib.hid hf
    have hcm : (m : Int) ≠ 0 := by omega
    have hc0 := (HCC.out _ HB.out.drew).1
    have hc1 := (HCC.out _ HB.out.drew).2.1
    clear hf hm htz hnt t2 t3 hfl hfull
    by_cases hbn : 8 * k + tz < n
    ·have z1 : ¬ (n : Int) ≤ 8 * (k : Int) + (tz : Int) := by omega
     have hput := bput mp 1 now (8 * k + tz) wr.drew (by omega) (by
      obtain ⟨a, b, c, d, e⟩ := (HM.out _ HB.out.drew).cells
      exact d _ (by omega)) (by
      obtain ⟨a, b, c, d, e⟩ := (HM.out _ HB.out.drew).cells
      exact c _)
     have hcast : ((8 * k + tz : Nat) : Int) = 8 * (k : Int) + (tz : Int) := by omega
     rw [hcast] at hput
     have HPUT := Lib.hid hput; clear hput hcast
     have HSET := Lib.hid (MpAt.set (HM.out _ (HB.out.drew.drew)) (8 * k + tz) true (by omega))
     go_wp2_with (first
      | (go_at_call 266; go_must (refine HNT.out.mono ?_; rintro e w1 ⟨rfl, hw1⟩; subst w1))
      | (go_at_call 267; go_must (refine HPUT.out.mono ?_; rintro e w1 ⟨rfl, hw1⟩; subst w1)))
     go_ret2
     refine .inl ⟨8 * k + tz, hbn, ?_, fun x hx => ?_, by go_num, HSET.out, ?_⟩
     ·have := HT2.out; rw [HHF.out] at this; exact this
     ·rcases Nat.lt_or_ge x (8 * k) with hx8 | hx8
      ·exact HA.out x hx8
      ·have := HT3.out (x - 8 * k) (by omega)
       rw [show 8 * k + (x - 8 * k) = x by omega, HHF.out] at this
       exact this
     ·exact (Keep.of_below HB.out (· = mp)).drew.drew.setCell (p := ⟨mp, 1 + (8 * k + tz) / 8, none⟩) (.inr rfl) _
    ·have z1 : (n : Int) ≤ 8 * (k : Int) + (tz : Int) := by omega
     go_wp2_with (first
      | (go_at_call 266; go_must (refine HNT.out.mono ?_; rintro e w1 ⟨rfl, hw1⟩; subst w1)))
     go_ret2
     refine .inr ⟨fun x hx => ?_, rfl, HB.out.drew⟩
     rcases Nat.lt_or_ge x (8 * k) with hx8 | hx8
     ·exact HA.out x hx8
     ·have := HT3.out (x - 8 * k) (by omega)
      rw [show 8 * k + (x - 8 * k) = x by omega, HHF.out] at this
      exact this
  ·obtain rfl : k = 512 := by omega
   go_wp2_with fail
   go_ret2
   exact .inr ⟨fun x hx => HA.out x (by omega), rfl, HB.out⟩
theorem spcheck (t n : Nat) (w : World) (h2 : 2 ≤ n) (hn : n ≤ 4096) :
  Calls Tryz.prog 88 #[.iface 97 (.pointer (some ⟨t, 0, none⟩)), .int .i64 n] w fun e w' => e = .returned (.int .i64 0) ∧ w' = w := by
 have x1 : ¬ (n : Int) < 2 := by omega
 have x2 : ¬ (4096 : Int) < (n : Int) := by omega
 have x3 : ¬ n < 2 := by omega
 have x4 : ¬ 4096 < n := by omega
 go_enter Tryz.func88, Tryz.ntmps88
 go_wp2_with fail
 go_ret
 exact ⟨rfl, rfl⟩
def two (b : Nat) : Bool := decide (b < 2)
theorem two_bytes : bytesOf two = pad [3] := by decide +kernel
theorem spmake (t pg d : Nat) (σ : Dk) (l : Lg) (p : Pg) (op : Value) (im : Im) (S T : Nat → Prop) (w : World) (h : PgAt w S pg d σ l p op) (ht : TxAt w T t pg im (p.blocks σ)) (hd : p.dead = false) (h2 : 2 ≤ p.blocks σ) :
  Calls Tryz.prog 50 #[.iface 97 (.pointer (some ⟨t, 0, none⟩)), .int .i64 (p.blocks σ)] w fun e w' => e = .returned (.int .i64 0) ∧ TxAt w' T t pg (im.put 0 (bytesOf two)) (p.blocks σ) ∧ Step T T w w' := by
 have hbl : p.blocks σ ≤ 4096 := by have := h.ok.2.1.hi; unfold Pg.blocks; omega
 have HC := Lib.hid (spcheck t (p.blocks σ) w h2 hbl)
 have hb1 := below_one w (.cells #[.int .u8 3] 5)
 have hv : IsSl (w.alloc (.cells #[.int .u8 3] 5)) NoS 1 (.slice (some ⟨w.heap.size, 0, none⟩) 1 1) ([3] : List UInt8).length (bCells [3]) := by
  have hr : Row (w.alloc (.cells #[.int .u8 3] 5)) w.heap.size 5 (bCells [3]) := heap_alloc_new w _
  exact hr.isSl (S := NoS) (k := 1) (off := 0) 1 1 (by simp [bCells]) id (Nat.le_refl _) (by simp [maxLen])
 have HW := Lib.hid (twrite t pg d σ l p op im S T 0 _ [3] _ (h.below hb1) (ht.below hb1) hd (by omega) hv (by simp))
 rw [← two_bytes] at HW
 have hm : ∀ w, (method 458 97 (.pointer (some ⟨t, 0, none⟩)) "Write").run Tryz.prog w = .ok (64, .pointer (some ⟨t, 0, none⟩)) w := fun _ => by kernel_rfl
 go_enter Tryz.func50, Tryz.ntmps50
 go_wp2_with (first
  | (go_at_call 88; go_must (refine HC.out.mono ?_; rintro e w1 ⟨rfl, hw1⟩; subst w1))
  | (go_at_call 64; go_must (refine HW.out.mono ?_; rintro e w1 ⟨rfl, ht1, hs1⟩)))
 go_ret
 exact ⟨rfl, ht1, (Step.of_below hb1).trans hs1⟩
theorem built_map (i : Int) : Tryz.prog.built 167 [(0, .int .i64 i)] = some (Value.int .i64 i :: (bCells zB ++ bCells zB)).toArray := by kernel_rfl
theorem splice_now (i : Int) (l : List UInt8) (hl : l.length = 512) : splice (Value.int .i64 i :: (bCells zB ++ bCells zB)) 1 (bCells l) = Value.int .i64 i :: (bCells l ++ bCells zB) := by
 have h1 : (bCells l).length = 512 := by rw [bCells_length, hl]
 have h2 : (bCells zB).length = 512 := by rw [bCells_length, zB_length]
 unfold splice
 rw [h1, List.take_succ_cons, List.take_zero, show 1 + 512 = 512 + 1 by rfl, List.drop_succ_cons, List.drop_append_of_le_length (Nat.le_of_eq h2.symm), ← h2, List.drop_length]
 simp
theorem splice_old (i : Int) (l : List UInt8) (hl : l.length = 512) : splice (Value.int .i64 i :: (bCells l ++ bCells zB)) 513 (bCells l) = Value.int .i64 i :: (bCells l ++ bCells l) := by
 have h1 : (bCells l).length = 512 := by rw [bCells_length, hl]
 have h2 : (bCells zB).length = 512 := by rw [bCells_length, zB_length]
 unfold splice
 rw [h1, show 513 = 512 + 1 by rfl, List.take_succ_cons, show 512 + 1 + 512 = 1024 + 1 by rfl, List.drop_succ_cons, List.take_append_of_le_length (Nat.le_of_eq h1.symm), ← h1, List.take_length, List.drop_of_length_le (by rw [List.length_append, h1, h2]; omega)]
 simp
theorem spload (t pg d : Nat) (σ : Dk) (l : Lg) (p : Pg) (op : Value) (im : Im) (S T : Nat → Prop) (f : Nat → Bool) (w : World) (h : PgAt w S pg d σ l p op) (ht : TxAt w T t pg im (p.blocks σ)) (hd : p.dead = false) (hsd : σ.dead = false) (h2 : 2 ≤ p.blocks σ)
  (hf : p.look im σ 0 = bytesOf f) (hhi : ∀ b, p.blocks σ ≤ b → f b = false) (h0 : f 0 = true) (h1 : f 1 = true) :
  Calls Tryz.prog 54 #[.iface 97 (.pointer (some ⟨t, 0, none⟩)), .int .i64 (p.blocks σ)] w fun e w' => ∃ mp, e = .returned (.tuple #[.pointer (some ⟨mp, 0, none⟩), .int .i64 0]) ∧ MpAt w' mp (p.blocks σ) f f ∧ w.heap.size ≤ mp ∧ Below w.heap.size w w' := by
 have hbl : p.blocks σ ≤ 4096 := by have := h.ok.2.1.hi; unfold Pg.blocks; omega
 have HC := Lib.hid (spcheck t (p.blocks σ) w h2 hbl)
 have HR := tread t pg d σ l p op im S T 0 w h ht hd hsd (by omega)
 rw [hf] at HR
 have HR := Lib.hid HR
 obtain ⟨n, hn⟩ : ∃ n, n = p.blocks σ := ⟨_, rfl⟩
 rw [← hn] at HC h2 hhi hbl ⊢
 have HHI := Lib.hid hhi; have H0 := Lib.hid h0; have H1 := Lib.hid h1
 have hlb := bytesOf_length f
 have hm : ∀ w, (method 458 97 (.pointer (some ⟨t, 0, none⟩)) "Read").run Tryz.prog w = .ok (56, .pointer (some ⟨t, 0, none⟩)) w := fun _ => by kernel_rfl
 clear h ht hf hhi h0 h1 hn
 go_enter Tryz.func54, Tryz.ntmps54
 go_wp2_with (first
  | (go_at_call 88; go_must (refine HC.out.mono ?_; rintro e w1 ⟨rfl, hw1⟩; subst w1))
  | (go_at_call 56; go_must (refine HR.out.mono ?_; rintro e w1 ⟨v, rfl, hv, hvb, hb1⟩; obtain ⟨ao, cp, rfl, n0, m0, _, _⟩ := IsSl.form hv))
  | ((refine in_list rfl ?_); intro K hK; (refine wp_build_row 167 _ rfl (Value.int .i64 (n : Int) :: (bCells zB ++ bCells zB)) (built_map n) ?_); refine hK _ _ ?_)
  | ((refine in_list rfl ?_); intro K hK; (refine wp_box_row 167 _ rfl (Value.int .i64 (n : Int) :: (bCells zB ++ bCells zB)) rfl ?_); refine hK _ _ (Stop.of ?_)))
 refine Stop.on ?_
 obtain ⟨mp, HMP⟩ : ∃ mp, Hid (w1.heap.size = mp) := ⟨_, Lib.hid rfl⟩
 obtain ⟨w2, HW2⟩ : ∃ w2 : World, Hid (w1.alloc (.cells (Value.int .i64 (n : Int) :: (bCells zB ++ bCells zB)).toArray 167) = w2) := ⟨_, Lib.hid rfl⟩
 have hr2 : Row w2 mp 167 (Value.int .i64 (n : Int) :: (bCells zB ++ bCells zB)) := by rw [← HW2.out, ← HMP.out]; exact Row.new w1 _ _
 have hb2 : Below w1.heap.size w1 w2 := by rw [← HW2.out]; exact below_one w1 _
 rw [HW2.out, HMP.out]
 have hv2 := IsSl.below hv hb2
 have hlen := Lib.hid (bytesOf_cells f)
 have hfst := hv2.first (P := Tryz.prog) 512 (Nat.le_refl _)
 rw [Nat.mul_one, List.take_of_length_le (Nat.le_of_eq hlen.out)] at hfst
 have hfst := Lib.hid hfst
 have hz2 := Lib.hid (show (Value.int .i64 (n : Int) :: (bCells zB ++ bCells zB)).length = 1025 by rw [List.length_cons, List.length_append, bCells_length, zB_length])
 go_wp2_with (first
  | ((refine in_list rfl ?_); intro K hK; (refine wp_copyRow (.tmp 31) (.tmp 32) 86 86 rfl 5 1 1 (.int .u8 0) Tryz.underlying86 info_u8 mp 1 167 512 512 512 (some ⟨mp, 1, none⟩) _ rfl hr2 (.slice ao 512 cp) rfl 512 (bCells (bytesOf f)) rfl ?_ ?_ hfst.out (fun _ => rfl) ?_ (one_bytes _) ?_); go_must ((focus rfl); (focus (rw [hlen.out, Nat.mul_one])); (focus (rw [hlen.out, hz2.out]; omega)); intro w3 hr3 hk3; refine hK _ _ (Stop.of ?_))))
 refine Stop.on ?_
 rw [splice_now _ _ hlb] at hr3
 have hb3 : Below w.heap.size w w3 := by
  have hk2 : Keep NoS w1 w3 := (Keep.of_below hb2 NoS).trans hk3 (fun i hi e => absurd hi (by rw [e, HMP.out]; exact Nat.lt_irrefl _))
  exact hb1.trans (hk2.below.mono hb1.size)
 have hmpw : w.heap.size ≤ mp := by rw [← HMP.out]; exact hb1.size
 have HR3 := Lib.hid hr3; have HB3 := Lib.hid hb3
 have hcell : ∀ i, i < 512 → w3.cell? ⟨mp, 1 + i, none⟩ = some (.int .u8 (byteN f i)) := fun i hi => by
  rw [hr3.cell, Nat.add_comm, List.getElem?_cons_succ, List.getElem?_append_left (by rw [hlen.out]; exact hi)]
  exact bytesOf_cell f i hi
 have hlt3 := hr3.lt
 have HBH := Lib.hid (fun b (hb : b < 4096) => bhas mp 1 f b w3 hb (hcell _ (by omega)))
 have hrg : w3.rangeAt mp 1 (bCells (bytesOf f)) := Row.range (off := 1) (n := 512) hr3 (by
  rw [List.drop_one, List.tail_cons, List.take_append_of_le_length (by rw [hlen.out]; exact Nat.le_refl _), List.take_of_length_le (by rw [hlen.out]; exact Nat.le_refl _)])
 have hz3 := Lib.hid (show (Value.int .i64 (n : Int) :: (bCells (bytesOf f) ++ bCells zB)).length = 1025 by rw [List.length_cons, List.length_append, bCells_length, bCells_length, hlb, zB_length])
 have hone := one_bytes (bytesOf f)
 clear hr3 hb3 hk3 hcell hr2 hb2 hv2 hv hb1 hfst HW2 HR HC hm hz2
 obtain ⟨C, HCC⟩ : ∃ C, Hid (bCells (bytesOf f) = C) := ⟨_, Lib.hid rfl⟩
 rw [HCC.out] at hrg hlen hone HR3 hz3
 obtain ⟨Z, HZ⟩ : ∃ Z, Hid (bCells zB = Z) := ⟨_, Lib.hid rfl⟩
 rw [HZ.out] at HR3 hz3
 go_wp2_with fail
 go_loopw [10] (fun i wr => ∃ k : Nat, n ≤ k ∧ k ≤ 4096 ∧ i = .int .i64 k ∧ wr = w3) (fun i _ => 4096 - (intOf i).toNat)
 case atStart => exact ⟨n, Nat.le_refl _, hbl, rfl, rfl⟩
 case round =>
  obtain ⟨k, hk1, hk2, rfl, rfl⟩ := hrel
  by_cases hk5 : k < 4096
  ·have x1 : (k : Int) < 4096 := by omega
   have hh := HBH.out k hk5
   rw [HHI.out k hk1] at hh
   have HH := Lib.hid hh; clear hh
   go_wp2_with (first
    | (go_at_call 101; go_must (refine HH.out.mono ?_; rintro e w1 ⟨rfl, hw1⟩; subst w1)))
   go_roundw
   case rel => exact ⟨k + 1, by omega, by omega, by go_num, by trivial⟩
   case measure => simp [intOf]; omega
  ·have x1 : ¬ (k : Int) < 4096 := by omega
   have x2 : ¬ k < 4096 := hk5
   have h0 := HBH.out 0 (by omega)
   have h1 := HBH.out 1 (by omega)
   rw [H0.out] at h0
   rw [H1.out] at h1
   have HH0 := Lib.hid h0; have HH1 := Lib.hid h1; clear h0 h1
   go_wp2_with (first
    | (go_at_call 101; go_must (refine HH0.out.mono ?_; rintro e w1 ⟨rfl, hw1⟩; subst w1; refine Stop.of ?_)))
   refine Stop.on ?_
   go_wp2_with (first
    | (go_at_call 101; go_must (refine HH1.out.mono ?_; rintro e w1 ⟨rfl, hw1⟩; subst w1))
    | ((refine in_list rfl ?_); intro K hK; (refine wp_load_mid 165 _ rfl mp 1 rfl C _ hrg Tryz.underlying165 rfl (info_set.trans (congrArg some hlen.out.symm)) ?_); refine hK _ _ ?_)
    | ((refine in_list rfl ?_); intro K hK; (refine wp_store_row 165 _ _ rfl mp 513 167 _ C rfl rfl HR3.out (info_set.trans (congrArg some hlen.out.symm)) (by rw [hz3.out, hlen.out]; omega) hone ?_); intro w4 hr4 hk4; refine hK _ _ (Stop.of ?_)))
   refine Stop.on ?_
   rw [← HCC.out, ← HZ.out, splice_old _ _ hlb] at hr4
   have HR4 := Lib.hid hr4; have HK4 := Lib.hid hk4
   clear hr4 hk4
   go_wp2_with fail
   go_ret2
   exact ⟨mp, rfl, HR4.out, hmpw, HB3.out.trans (HK4.out.toBelow HB3.out.size (fun i hi e => absurd hi (Nat.not_lt.2 (by rw [e]; exact hmpw))))⟩
theorem zero_set (w : World) : (zeroValue 165).run Tryz.prog w = .ok (.agg (bCells zB).toArray) w := by kernel_rfl
theorem pad_full {l : List UInt8} (h : l.length = 512) : pad l = l := by simp [pad, h]
theorem spstore (t pg d mp n : Nat) (now old : Nat → Bool) (σ : Dk) (l : Lg) (p : Pg) (op : Value) (im : Im) (S T : Nat → Prop) (w : World) (h : PgAt w S pg d σ l p op) (ht : TxAt w T t pg im (p.blocks σ)) (hd : p.dead = false) (h2 : 0 < p.blocks σ) (hmp : MpAt w mp n now old) :
  Calls Tryz.prog 65 #[.pointer (some ⟨mp, 0, none⟩), .iface 97 (.pointer (some ⟨t, 0, none⟩))] w fun e w' => e = .returned (.int .i64 0) ∧ TxAt w' T t pg (im.put 0 (bytesOf now)) (p.blocks σ) ∧ Step T T w w' := by
 obtain ⟨c0, hlt, hfz, hc, _⟩ := hmp.cells
 have hrg : w.rangeAt mp 1 (bCells (bytesOf now)) := Row.range (off := 1) (n := 512) hmp (by
  unfold mpCells
  rw [List.drop_one, List.tail_cons, List.take_append_of_le_length (by rw [bytesOf_cells]; exact Nat.le_refl _), List.take_of_length_le (by rw [bytesOf_cells]; exact Nat.le_refl _)])
 have hlen := Lib.hid (bytesOf_cells now)
 have hone := one_bytes (bytesOf now)
 have hlb := bytesOf_length now
 have hr1 : Row (w.alloc (.cells (bCells zB).toArray 165)) w.heap.size 165 (bCells zB) := Row.new w _ _
 have hz1 := Lib.hid (show (bCells zB).length = 512 by rw [bCells_length, zB_length])
 have HW := Lib.hid (fun (W : World) (hW : Below w.heap.size w W) (hv : IsSl W NoS 1 (.slice (some ⟨w.heap.size, 0, none⟩) 512 512) (bytesOf now).length (bCells (bytesOf now))) => twrite t pg d σ l p op im S T 0 _ (bytesOf now) W (h.below hW) (ht.below hW) hd h2 hv (by omega))
 rw [pad_full hlb] at HW
 have hm : ∀ w, (method 458 97 (.pointer (some ⟨t, 0, none⟩)) "Write").run Tryz.prog w = .ok (64, .pointer (some ⟨t, 0, none⟩)) w := fun _ => by kernel_rfl
 have hmf : ∀ (fn : Fn) (first cap : Array Value) (w : World), (Instr.makeFunc fn first cap).run Tryz.prog w = .ok (.func fn first cap) w := fun _ _ _ _ => rfl
 obtain ⟨C, HC⟩ : ∃ C, Hid (bCells (bytesOf now) = C) := ⟨_, Lib.hid rfl⟩
 rw [HC.out] at hrg hlen hone
 clear h ht hmp hc
 go_enter Tryz.func65, Tryz.ntmps65
 go_wp2_with (first
  | ((refine in_list rfl ?_); intro K hK; (refine wp_load_mid 165 _ rfl mp 1 rfl C _ hrg Tryz.underlying165 rfl (info_set.trans (congrArg some hlen.out.symm)) ?_); refine hK _ _ ?_)
  | ((refine in_list rfl ?_); intro K hK; (refine wp_alloc_row 165 rfl _ zero_set ?_); refine hK _ _ ?_)
  | ((refine in_list rfl ?_); intro K hK; (refine wp_store_row 165 _ _ rfl w.heap.size 0 165 _ C rfl rfl hr1 (info_set.trans (congrArg some hlen.out.symm)) (by rw [hz1.out, hlen.out]; omega) hone ?_); intro w3 hr3 hk3; refine hK _ _ (Stop.of ?_)))
 refine Stop.on ?_
 rw [splice_all _ _ (hz1.out.trans hlen.out.symm), ← HC.out] at hr3
 have hb3 : Below w.heap.size w w3 := (((Keep.refl NoS w).alloc _).trans hk3 (fun i hi e => absurd hi (by rw [e]; exact Nat.lt_irrefl _))).below
 have hv3 : IsSl w3.drew NoS 1 (.slice (some ⟨w.heap.size, 0, none⟩) 512 512) (bytesOf now).length (bCells (bytesOf now)) := by
  have hr3' : Row w3.drew w.heap.size 165 (bCells (bytesOf now)) := hr3
  have := hr3'.isSl (S := NoS) (k := 1) (off := 0) 512 512 (by rw [bytesOf_cells]; omega) id (Nat.le_refl _) (by simp [maxLen])
  rw [List.drop_zero, List.take_of_length_le (by rw [bytesOf_cells]; omega)] at this
  rw [hlb]; exact this
 have HWW := Lib.hid (HW.out _ hb3.drew hv3)
 clear hr3 hk3 hv3 HW hr1 hz1 hrg hone
 go_wp2_with fail
 refine wp_region_ord (fun _ => True) (fun i => !([5].contains i)) [0, 1, 2, 3, 4, 5, 6] rfl (by kernel_rfl) trivial ?_
 have hna : ∀ w, (nilAhead 458 97 (.pointer (some ⟨t, 0, none⟩)) "Write").run Tryz.prog w = .ok (some false) w := fun _ => by kernel_rfl
 repeat ((refine ord_q (v := ?_) rfl rfl (fun _ _ _ h => h) rfl (fun W hW => ?_) ?_); rotate_left; (focus ((try dsimp only at hW); have := hna; (go_simp; first | done | with_reducible rfl))); (try simp only [Act.put, List.setIfInBounds_toArray, List.set_cons_zero, List.set_cons_succ]))
 refine ord_e rfl rfl rfl ?_; intro K hK; go_simp
 refine HWW.out.mono ?_; rintro e w4 ⟨rfl, ht4, hs4⟩
 refine hK.out _ _ trivial ?_
 repeat ((refine ord_q (v := ?_) rfl rfl (fun _ _ _ h => h) rfl (fun W hW => ?_) ?_); rotate_left; (focus ((try dsimp only at hW); have := hna; (go_simp; first | done | with_reducible rfl))); (try simp only [Act.put, List.setIfInBounds_toArray, List.set_cons_zero, List.set_cons_succ]))
 refine ord_nil ?_
 go_wp2_with fail
 go_ret
 exact ⟨rfl, ht4, (Step.of_below hb3.drew).trans hs4⟩
end Go.Proofs.YtfgpefcphnpabaaGreat
