/- parts -/
import Derived.Test.YtfgpefcphnpabaaGreatJ20
import Derived.Laws.IdiomStrings
namespace Go.Proofs.YtfgpefcphnpabaaGreat
open Go.RowKit
set_option maxRecDepth 100000
set_option maxHeartbeats 8000000
theorem chunk_length (t : List UInt8) (k : Nat) : (chunk t k).length = min 512 (t.length - 512 * k) := by simp [chunk]
theorem take_chunk (t : List UInt8) (k : Nat) : t.take (512 * k) ++ chunk t k = t.take (512 * (k + 1)) := by
 unfold chunk
 rw [show 512 * (k + 1) = 512 * k + 512 by omega, List.take_add]
theorem bReadAt (mp : VS) (σ : MSt) (S : Nat → Prop) (w : World) (head : Nat) (t : List UInt8) (rs : List (Nat × Nat)) (h : Inv σ S mp w) (hh : BlobAt σ head t rs) :
  Calls Tryz.prog 157 #[.iface 113 mp.agg, .int .i64 head, .int .i64 0, .int .i64 49152] w fun e w' => e = .returned (.tuple #[.string ⟨t.toArray⟩, .int .i64 0]) ∧ Below w.heap.size w w' := by
 have hsub := h.sub
 have HL := Lib.hid (bload mp σ S w head t.length rs h hh.hd)
 have hlo := hh.hd.lo
 have hs1 := hh.hd.s1
 have hs2 := hh.hd.s2
 have HLEN := Lib.hid hh.hd.len
 have hrl := hh.hd.runs
 obtain ⟨hrl, hbl⟩ := hrl
 have HOK := Lib.hid hh.hd.ok
 have HI := Lib.hid h
 have HBK := Lib.hid hh.blk
 have x1 : ¬ (head : Int) < 0 := by omega
 have x2 : decide ((head : Int) < 0) = false := decide_eq_false x1
 have m1 : min (0 : Int) (t.length : Int) = 0 := by omega
 have m2 : min (49152 : Int) (t.length : Int) = (t.length : Int) := by omega
 have hm : ∀ w, (method 458 113 mp.agg "Read").run Tryz.prog w = .ok (56, .pointer (some ⟨mp.tx, 0, none⟩)) w := fun _ => by kernel_rfl
 clear h hh
 go_enter Tryz.func157, Tryz.ntmps157
 go_wp2_with (first
  | (go_at_call 126; go_must (refine HL.out.mono ?_; rintro e w1 ⟨lb, v, rfl, hA, hb1⟩; refine Stop.of ?_)))
 refine Stop.on ?_
 have hlb : w1.cell? ⟨lb, 0, none⟩ = some (.int .i64 t.length) := by have := hA.obj; simp [World.cell?, this]
 have hll : lb < w1.heap.size := (Array.getElem?_eq_some_iff.1 hA.obj).1
 have HA := Lib.hid hA; clear hA
 go_upto_region 11 with (fail)
 obtain ⟨bb, HBB⟩ : ∃ bb, Hid (w1.heap.size = bb) := ⟨_, Lib.hid rfl⟩
 obtain ⟨w2, HW2⟩ : ∃ w2 : World, Hid (w1.alloc (.cells #[.pointer none, .slice none 0 0] 296) = w2) := ⟨_, Lib.hid rfl⟩
 have hb2 : Below w1.heap.size w1 w2 := by rw [← HW2.out]; exact below_one w1 _
 have hB2 : w2.heap[bb]? = some (.cells #[.pointer none, .slice none 0 0] 296 (0, 0)) := by rw [← HW2.out, ← HBB.out]; exact heap_alloc_new w1 _
 rw [HW2.out, HBB.out]
 have hbbw : w.heap.size ≤ bb := by rw [← HBB.out]; exact hb1.size
 have hbb2 : bb < w2.heap.size := (Array.getElem?_eq_some_iff.1 hB2).1
 have hS2 : ∀ g, S g → g < w2.heap.size := fun g hg => Nat.lt_of_lt_of_le (hsub g hg) (Nat.le_trans hbbw (Nat.le_of_lt hbb2))
 have HBL := Lib.hid (bblocks lb t.length rs v w.heap.size S w2 (HA.out.below hb2) hS2 HOK.out (by omega))
 clear hlb hll
 go_wp2_with (first
  | (go_at_call 127; go_must (refine HBL.out.mono ?_; rintro e w3 ⟨bv, rfl, hown3, hb3⟩; refine Stop.of ?_)))
 refine Stop.on ?_
 obtain ⟨xo, xc, rfl, _, _, _, _⟩ := IsSl.form hown3.isSl
 have hB3 := (hb3.block bb hbb2).trans hB2
 have hI3 := HI.out.below (hb1.trans ((hb2.trans (hb3.mono (by rw [HBB.out]; omega))).mono hb1.size))
 have hnS : ¬ S bb := fun x => absurd (hsub bb x) (Nat.not_lt.2 hbbw)
 have hbl0 : BldAt w3 S w3.heap.size bb (t.take (512 * 0)) := ⟨hnS, _, _, .inl rfl, hB3, by rw [Nat.mul_zero, List.take_zero]; exact OwnSl.nil _ _ _ _ _⟩
 have HO := Lib.hid hown3
 have hbw3 : Below w.heap.size w w3 := (hb1.trans (hb2.mono hb1.size)).trans (hb3.mono (by omega))
 have HI3 := Lib.hid hI3
 obtain ⟨C, HC⟩ : ∃ C, Hid (w3.heap.size = C) := ⟨_, Lib.hid rfl⟩
 rw [HC.out] at hbl0
 have hCb : bb < C := by rw [← HC.out]; exact Nat.lt_of_lt_of_le hbb2 hb3.size
 have hS3 : ∀ g, S g → g < w.heap.size := hsub
 clear hown3 hI3 hB3 hB2
 go_wp2_with fail
 go_loopw [14, 15, 16, 17, 18, 19, 62] (fun _ _ _ _ _ _ i wr => ∃ k : Nat, k ≤ (runsB rs).length ∧ i = .int .i64 k ∧ BldAt wr S C bb (t.take (512 * k)) ∧ Keep (fun g => g = bb ∨ C ≤ g) w3 wr) (fun _ _ _ _ _ _ i _ => (runsB rs).length - (intOf i).toNat)
 case atStart => exact ⟨0, by omega, rfl, hbl0, Keep.refl _ _⟩
 case round =>
  clear hbl0
  obtain ⟨k, hk, rfl, hbl, hkk⟩ := hrel
  by_cases hkl : k < (runsB rs).length
  ·have y1 : (k : Int) < ((runsB rs).length : Int) := by omega
   have hor : OwnSl wr S w2.heap.size 3 1 (.slice xo (runsB rs).length xc) (runsB rs).length (ints (runsB rs)) := HO.out.keep fun g hg hl hs => ⟨hkk.block g hl (fun e => by
    have := HO.out.lo g hg
    rcases e with e | e
    ·omega
    ·rw [← HC.out] at e; omega), hs⟩
   have hil := hor.isSl
   rw [ints_eq] at hil
   have hil' : IsInts wr S (.slice xo (runsB rs).length xc) ((runsB rs).map fun (b : Nat) => (b : Int)) := by unfold IsInts; rw [List.length_map]; exact hil
   obtain ⟨pb, po, rfl, d1⟩ := hil'.at rfl k (by simpa using hkl)
   rw [List.getElem_map] at d1
   have hpb := World.block_lt_of_cell? wr _ d1
   obtain ⟨has, hb2', hmem⟩ := HBK.out k hkl
   have hIr : Inv σ S mp wr := HI3.out.keepM hkk (fun g hg e => by
    have := hS3 g hg
    rcases e with e | e
    ·omega
    ·omega)
   have hrd := read_has mp σ S wr ((runsB rs)[k] : Nat) hIr has
   rw [hmem] at hrd
   have HRD := Lib.hid hrd
   obtain ⟨bk, HBKK⟩ : ∃ bk : Nat, Hid ((runsB rs)[k] = bk) := ⟨_, Lib.hid rfl⟩
   rw [HBKK.out] at d1 HRD
   have hcl := chunk_length t k
   have hk512 : 512 * k < t.length := by have hlen := HLEN.out; unfold nblk at hlen; omega
   obtain ⟨hi, hhi⟩ : ∃ hi : Nat, hi = min 512 (t.length - 512 * k) := ⟨_, rfl⟩
   have m3 : max (-((k : Int) * 512)) 0 = 0 := by omega
   have m4 : min ((t.length : Int) - (k : Int) * 512) 512 = (hi : Int) := by omega
   have HHI := Lib.hid hhi
   have z1 : ¬ (hi : Int) ≤ 0 := by omega
   have z2 : ¬ hi = 0 := by omega
   have z3 : hi ≤ 512 := by omega
   clear hhi hrd hmem hor hil hb2' has hcl
   go_upto_region 15 with (fail)
   have z4 : ¬ (512 : Int) < (hi : Int) := by omega
   have z5 : (hi : Int) ≤ 512 := by omega
   go_wp2_with (refine HRD.out.mono ?_; rintro e w4 ⟨dv, rfl, hdv, hdb, hb4⟩; refine Stop.of ?_)
   refine Stop.on ?_
   obtain ⟨vo, vc, rfl, n1, m1', _, _⟩ := IsSl.form hdv
   have hup' := IsSl.upto (IsSl.loose hdv) hi z3
   have hpl : (bCells (pad (chunk t k))).take (hi * 1) = bCells (chunk t k) := by
    rw [Nat.mul_one]
    unfold bCells pad
    rw [← List.map_take, List.take_append_of_le_length (by rw [chunk_length, HHI.out]; exact Nat.le_refl _), List.take_of_length_le (by rw [chunk_length, HHI.out]; exact Nat.le_refl _)]
   rw [hpl] at hup'
   have hcl2 : (chunk t k).length = hi := by rw [chunk_length, HHI.out]
   have hbl4 := hbl.below hb4
   have hBC4 : C ≤ w4.heap.size := by have a := hkk.size; have b := hb4.size; rw [← HC.out]; omega
   have hS4 : ∀ g, S g → g < w4.heap.size := fun g hg => by have := hS3 g hg; have a := hbbw; omega
   have hWR := bld_write C bb (t.take (512 * k)) (chunk t k) (.slice vo hi vc) S w4 hbl4 hBC4 hS4 (by rw [hcl2]; exact hup') (fun g hg => by
    have h1 := hdb g (by cases vo <;> exact hg)
    have h2 := hkk.size
    rw [HC.out] at h2
    omega) (by simp; omega) (by rw [hcl2]; omega)
   have HWR := Lib.hid hWR
   have z6 : (hi : Int) ≤ (vc : Int) := by omega
   clear hdv hup' hpl hcl2 hWR hbl4
   go_upto_region 21 with (fail)
   go_wp2_with (first
    | (go_at_call 193; go_must (refine HWR.out.mono ?_; rintro e w5 ⟨rfl, hbl5, hk5⟩)))
   go_roundw
   case rel => exact ⟨k + 1, by omega, by go_num, by rw [← take_chunk]; exact hbl5, (hkk.trans (Keep.of_below hb4 (fun g => g = bb ∨ C ≤ g)) (fun _ _ e => e)).trans hk5 (fun _ _ e => e)⟩
   case measure => simp [intOf]; omega
  ·obtain rfl : k = (runsB rs).length := by omega
   have y1 : ¬ ((runsB rs).length : Int) < ((runsB rs).length : Int) := by omega
   have htt : t.take (512 * (runsB rs).length) = t := List.take_of_length_le (by rw [HLEN.out]; unfold nblk; omega)
   rw [htt] at hbl
   have HST := Lib.hid (bld_string C bb t S wr hbl)
   have HTT := Lib.hid htt
   clear htt
   go_wp2_with (first
    | (go_at_call 194; go_must (refine HST.out.mono ?_; rintro e w5 ⟨rfl, hb5⟩)))
   go_ret2
   refine ⟨rfl, ?_⟩
   have h1 : Below w.heap.size w3 wr := hkk.toBelow hbw3.size (fun i hi e => by
    have := HC.out
    have := hbw3.size
    omega)
   exact (hbw3.trans h1).trans (hb5.mono (by
    have := HC.out
    have := hbw3.size
    omega))
theorem bRead (mp : VS) (σ : MSt) (S : Nat → Prop) (w : World) (head : Nat) (t : List UInt8) (rs : List (Nat × Nat)) (h : Inv σ S mp w) (hh : BlobAt σ head t rs) :
  Calls Tryz.prog 120 #[.iface 113 mp.agg, .int .i64 head] w fun e w' => e = .returned (.tuple #[.string ⟨t.toArray⟩, .int .i64 0]) ∧ Below w.heap.size w w' := by
 have HR := Lib.hid (bReadAt mp σ S w head t rs h hh)
 clear h hh
 go_enter Tryz.func120, Tryz.ntmps120
 go_wp2_with (first
  | (go_at_call 157; go_must (refine HR.out.mono ?_; rintro e w1 ⟨rfl, hb⟩)))
 go_ret2
 exact ⟨rfl, hb⟩
def intsL (l : List Nat) : List Int := l.map fun (b : Nat) => (b : Int)
theorem ints_intsL (l : List Nat) : ints l = (intsL l).map (.int .i64) := ints_eq l
theorem intsL_nodup {l : List Nat} (h : l.Nodup) : (intsL l).Nodup := List.Pairwise.map _ (fun a b (e : a ≠ b) => by show (a : Int) ≠ (b : Int); omega) h
structure WV (w : World) (S : Nat → Prop) (B tkb sb : Nat) (mp : VS) (bs : List Nat) : Prop where
 tk : ∃ v, w.heap[tkb]? = some (.cells #[v] 133 (0, 0)) ∧ OwnSl w S B 3 1 v bs.length (ints bs)
 st : w.heap[sb]? = some (.cells #[.iface 113 mp.agg] 171 (0, 0))
 n1 : ¬ S tkb
 n2 : ¬ S sb
theorem WV.step {w w' : World} {S S' : Nat → Prop} {B tkb sb : Nat} {mp : VS} {bs : List Nat} (h : WV w S B tkb sb mp bs) (hs : Step S S' w w') : WV w' S' B tkb sb mp bs := by
 obtain ⟨⟨v, h1, h2⟩, h3, h4, h5⟩ := h
 have l1 := (Array.getElem?_eq_some_iff.1 h1).1
 have l2 := (Array.getElem?_eq_some_iff.1 h3).1
 exact ⟨⟨v, (hs.1.block _ l1 h4).trans h1, h2.step hs⟩, (hs.1.block _ l2 h5).trans h3, fun x => (hs.2 _ x).elim h4 (fun y => absurd l1 (Nat.not_lt.2 y)), fun x => (hs.2 _ x).elim h5 (fun y => absurd l2 (Nat.not_lt.2 y))⟩
theorem bback (mp : VS) (σ : MSt) (S : Nat → Prop) (w : World) (B tkb sb : Nat) (bs : List Nat) (er : Int) (h : Inv σ S mp w) (hv : WV w S B tkb sb mp bs) (hn : bs.Nodup) (hl : bs.length ≤ 1000) (hall : ∀ b ∈ bs, σ.hasB (b : Nat) = true ∧ 2 ≤ b) :
  Calls Tryz.prog 104 #[.int .i64 er, .pointer (some ⟨tkb, 0, none⟩), .pointer (some ⟨sb, 0, none⟩)] w fun e w' => e = .returned (.tuple #[.int .i64 0, .int .i64 er]) ∧ Inv (σ.frees (intsL bs)) S mp w' ∧ Step S S w w' := by
 have HV := Lib.hid hv
 obtain ⟨⟨v, h1, h2⟩, h3, h4, h5⟩ := hv
 obtain ⟨xo, xc, rfl, _, _, _, _⟩ := IsSl.form h2.isSl
 have c1 : w.cell? ⟨tkb, 0, none⟩ = some (.slice xo bs.length xc) := by simp [World.cell?, h1]
 have l1 := (Array.getElem?_eq_some_iff.1 h1).1
 have HALL := Lib.hid hall
 have HI := Lib.hid h
 have HND := Lib.hid (intsL_nodup hn)
 have HO := Lib.hid h2
 have H3 := Lib.hid h3
 have HLL := Lib.hid (show (intsL bs).length = bs.length by simp [intsL])
 have hm : ∀ w, (method 458 113 mp.agg "Free").run Tryz.prog w = .ok (263, .pointer (some ⟨mp.mp, 0, none⟩)) w := fun _ => by kernel_rfl
 clear h h2 h3 hall
 go_enter Tryz.func104, Tryz.ntmps104
 go_wp2_with fail
 go_loopw [7, 10] (fun _ i wr => ∃ k : Nat, k ≤ bs.length ∧ i = .int .i64 k ∧ Inv (σ.frees ((intsL bs).take k)) S mp wr ∧ Step S S w wr) (fun _ i _ => bs.length - (intOf i).toNat)
 case atStart => exact ⟨0, by omega, rfl, HI.out, Step.refl _ _⟩
 case round =>
  obtain ⟨k, hk, rfl, hIk, hsk⟩ := hrel
  by_cases hkl : k < bs.length
  ·have y1 : (k : Int) < (bs.length : Int) := by omega
   have hki : k < (intsL bs).length := by rw [HLL.out]; exact hkl
   have HT := Lib.hid (frees_take σ (intsL bs) k hki)
   have hval : (intsL bs)[k] = ((bs[k] : Nat) : Int) := by simp [intsL]
   have hx := HALL.out bs[k] (List.getElem_mem hkl)
   have hxn : (intsL bs)[k] ∉ (intsL bs).take k := fun e => by
    obtain ⟨i, hi, e2⟩ := List.getElem_of_mem e
    rw [List.length_take] at hi
    rw [List.getElem_take] at e2
    have := (List.getElem_inj HND.out).1 e2
    omega
   have hhas : (σ.frees ((intsL bs).take k)).hasB (bs[k] : Nat) = true := by
    rw [← hval, frees_hasB _ _ _ (fun y hy => by
     obtain ⟨b, _, rfl⟩ := List.mem_map.1 (List.mem_of_mem_take hy)
     omega) hxn, hval]
    exact hx.1
   have HFR := Lib.hid (free_any mp (σ.frees ((intsL bs).take k)) S wr (bs[k] : Nat) hIk (by omega) hhas)
   have hil := (HO.out.step hsk).isSl
   rw [ints_intsL] at hil
   have hil' : IsInts wr S (.slice xo bs.length xc) (intsL bs) := by unfold IsInts; rw [HLL.out]; exact hil
   obtain ⟨pb, po, rfl, d1⟩ := hil'.at rfl k hki
   rw [hval] at d1
   have hpb := World.block_lt_of_cell? wr _ d1
   have hsr := (hsk.1.block sb (Array.getElem?_eq_some_iff.1 H3.out).1 h5).trans H3.out
   have s0 : wr.cell? ⟨sb, 0, none⟩ = some (.iface 113 mp.agg) := by simp [World.cell?, hsr]
   have sl := (Array.getElem?_eq_some_iff.1 hsr).1
   rw [hval] at HT
   clear hx hxn hhas hil hil' hki hval
   go_wp2_with (refine HFR.out.mono ?_; rintro e w2 ⟨rfl, hI2, hs2⟩)
   go_roundw
   case rel => exact ⟨k + 1, by omega, by go_num, by rw [HT.out]; exact hI2, hsk.trans hs2⟩
   case measure => simp [intOf]; omega
  ·have hke : k = bs.length := by omega
   subst hke
   rw [← HLL.out, List.take_length] at hIk
   have y1 : ¬ (bs.length : Int) < (bs.length : Int) := by omega
   go_wp2_with fail
   go_ret2
   exact ⟨rfl, hIk, hsk⟩
theorem bytes_of (s : ByteArray) (W : World) (hs : s.size ≤ 1000000) : ∃ (c : Nat) (w' : World), (convert 9 86 (.string s)).run Tryz.prog W = .ok (.slice (some ⟨W.heap.size, 0, none⟩) s.size c) w' ∧ IsSl w' NoS 1 (.slice (some ⟨W.heap.size, 0, none⟩) s.size c) s.data.toList.length (bCells s.data.toList) ∧ Below W.heap.size W w' := by
 refine ⟨_, _, run_bytes_of_string W 9 86 5 s Tryz.underlying9 Tryz.underlying86 Tryz.underlying5, ?_, ?_⟩
 ·have hsz : s.data.toList.length = s.size := by show s.data.toList.length = s.data.size; simp
  rw [hsz]
  refine ⟨_, _, rfl, grownCap_ge _ _ _ _, grownCap_le_maxLen _ _ _ _ (by simp only [maxLen]; omega), by rw [bCells_length, hsz, Nat.mul_one], (fun e => by cases e), fun ad hh => ?_, fun j u hu => ?_⟩
  ·cases hh
   exact ⟨rfl, by simp, id⟩
  ·have hj : j < s.data.size := by
    have := (List.getElem?_eq_some_iff.1 hu).1
    rw [bCells_length] at this
    simpa using this
   refine ⟨_, _, rfl, ?_⟩
   have hb := bytesRow_at s (grownCap W s.size 0 5) j hj
   have hu2 : u = .int .u8 (s.data[j].toNat : Int) := by
    unfold bCells at hu
    rw [List.getElem?_map] at hu
    simp at hu
    obtain ⟨a, h1, rfl⟩ := hu
    rw [Array.getElem?_eq_getElem hj] at h1
    cases h1; rfl
   rw [hu2, ← hb, Nat.zero_add]
   unfold World.cell?
   have : (W.drew.alloc (.cells (bytesRow s (grownCap W s.size 0 5)) 5 ((bytesRow s (grownCap W s.size 0 5)).size, (bytesRow s (grownCap W s.size 0 5)).size + 1))).heap[W.heap.size]? = some (.cells (bytesRow s (grownCap W s.size 0 5)) 5 ((bytesRow s (grownCap W s.size 0 5)).size, (bytesRow s (grownCap W s.size 0 5)).size + 1)) := heap_alloc_new W.drew _
   simp only [this]
   rfl
 ·exact ((Below.refl _ W).drew).trans (below_one W.drew _)
theorem chg_took {σ : MSt} {f : Nat} (h1 : σ.hasB f = false) (h2 : σ.held f = false) (h3 : f < σ.most) : Chg σ (σ.took f) [] [(f : Int)] := by
 have hnow : σ.now f = false := by unfold MSt.hasB at h1; simpa [h3] using h1
 have hold : σ.H.old f = false := by unfold MSt.held at h2; simpa using h2
 have hs : ∀ x, (σ.took f).hasB x = (σ.hasB x || decide (x = (f : Int))) := fun x => by
  show (decide (0 ≤ x) && (decide (x.toNat < σ.most) && setB σ.now f true x.toNat)) = _
  unfold MSt.hasB setB
  by_cases hx : x = (f : Int)
  ·subst hx; simp [h3]
  ·by_cases h0 : 0 ≤ x
   ·rw [if_neg (by omega)]; simp [hx]
   ·simp [h0, hx]
 refine ⟨rfl, rfl, fun x hx _ => ⟨by rw [hs, hx]; rfl, rfl⟩, fun x hx => ?_, fun _ => by simp, ?_, fun x hx => ?_⟩
 ·rw [List.mem_singleton.1 hx]
  exact ⟨by rw [hs]; simp, .inr h1⟩
 ·show countB (fun x => setB σ.now f true x || σ.H.old x) σ.most + _ = countB (fun x => σ.now x || σ.H.old x) σ.most + _
  have e := countB_on (f := fun x => σ.now x || σ.H.old x) (b := f) (by rw [hnow, hold]; rfl) _ h3
  have e2 : countB (fun x => setB σ.now f true x || σ.H.old x) σ.most = countB (setB (fun x => σ.now x || σ.H.old x) f true) σ.most := countB_congr _ (fun x _ => by unfold setB; split <;> simp)
  rw [e2, e]
  simp [nh, h2]
 ·rw [hs, Bool.or_eq_true, decide_eq_true_eq] at hx
  rcases hx with hx | hx
  ·exact .inr ⟨hx, by simp⟩
  ·exact .inl (by rw [hx]; exact List.mem_cons_self ..)
theorem chg_wrt {σ : MSt} {us : List Int} {b : Nat} {l : List UInt8} (h : ∀ x ∈ us, σ.hasB x = true) (hb : (b : Int) ∈ us) (h2 : 2 ≤ b) : Chg σ (σ.wrote b l) us us := by
 refine ⟨rfl, rfl, fun x hx hn => ⟨hx, ?_⟩, fun x hx => ⟨h x hx, .inl hx⟩, id, rfl, fun x hx => by
  by_cases hu : x ∈ us
  ·exact .inl hu
  ·exact .inr ⟨hx, hu⟩⟩
 show σ.H.pg.look (σ.im.put b l) σ.H.dk x.toNat = σ.H.pg.look σ.im σ.H.dk x.toNat
 rw [look_put, if_neg]
 intro e
 exact (hn.resolve_right id) (by rw [show x = (b : Int) by omega]; exact hb)
theorem WV.keep {w w' : World} {S : Nat → Prop} {B tkb sb : Nat} {mp : VS} {bs : List Nat} (h : WV w S B tkb sb mp bs) (hk : Keep (fun g => S g ∨ w.heap.size ≤ g) w w') : WV w' S B tkb sb mp bs := by
 obtain ⟨⟨v, h1, h2⟩, h3, h4, h5⟩ := h
 have l1 := (Array.getElem?_eq_some_iff.1 h1).1
 have l2 := (Array.getElem?_eq_some_iff.1 h3).1
 exact ⟨⟨v, (hk.block _ l1 (fun e => e.elim h4 (fun e => absurd l1 (Nat.not_lt.2 e)))).trans h1, h2.keep fun g hg hl hs => ⟨hk.block g hl (fun e => e.elim hs (fun e => absurd hl (Nat.not_lt.2 e))), hs⟩⟩, (hk.block _ l2 (fun e => e.elim h5 (fun e => absurd l2 (Nat.not_lt.2 e)))).trans h3, h4, h5⟩
structure TKs (σ σk : MSt) (bs : List Nat) : Prop where
 chg : Chg σ σk [] (intsL bs)
 two : ∀ b ∈ bs, 2 ≤ b ∧ b < σ.most
 nheld : ∀ b ∈ bs, σ.held (b : Nat) = false
 tk : σk.tk ≤ max σ.tk σk.sz
theorem TKs.nd {σ σk : MSt} {bs : List Nat} (h : TKs σ σk bs) : bs.Nodup := by
 have := h.chg.nd List.nodup_nil
 unfold intsL at this
 exact List.Pairwise.of_map _ (fun a b (e : (a : Int) ≠ b) => fun h => e (by rw [h])) this
theorem TKs.sz {σ σk : MSt} {bs : List Nat} (h : TKs σ σk bs) : σk.sz = σ.sz + bs.length := by
 have := h.chg.size
 have e : nh σ (intsL bs) = bs.length := by
  unfold nh intsL
  rw [List.filter_eq_self.2 (fun x hx => by
   obtain ⟨b, hb, rfl⟩ := List.mem_map.1 hx
   rw [h.nheld b hb]; rfl)]
  simp
 rw [e] at this
 simpa [nh] using this
theorem TKs.has {σ σk : MSt} {bs : List Nat} (h : TKs σ σk bs) : ∀ b ∈ bs, σk.hasB (b : Nat) = true ∧ 2 ≤ b := fun b hb => ⟨(h.chg.new _ (List.mem_map_of_mem hb)).1, (h.two b hb).1⟩
theorem TKs.more {σ σk : MSt} {bs : List Nat} (h : TKs σ σk bs) {f : Nat} (h1 : σk.hasB f = false) (h2 : σk.held f = false) (h3 : 2 ≤ f) (h4 : f < σk.most) : TKs σ (σk.took f) (bs ++ [f]) := by
 have hm := h.chg.most
 have c1 := chg_took h1 h2 h4
 have c2 := c1.left (rs := intsL bs) (by simpa using h.chg.nd List.nodup_nil) (fun x hx => (h.chg.new x hx).1)
 have c3 := (h.chg.trans (by simpa using c2)).perm (List.Perm.refl _) (bs' := intsL (bs ++ [f])) (by
  unfold intsL
  rw [List.map_append]
  show ([(f : Int)] ++ bs.map fun (b : Nat) => (b : Int)).Perm ((bs.map fun (b : Nat) => (b : Int)) ++ [(f : Int)])
  exact List.perm_append_comm)
 refine ⟨c3, fun b hb => ?_, fun b hb => ?_, ?_⟩
 ·rcases List.mem_append.1 hb with hb | hb
  ·exact h.two b hb
  ·rw [List.mem_singleton.1 hb]; exact ⟨h3, by omega⟩
 ·rcases List.mem_append.1 hb with hb | hb
  ·exact h.nheld b hb
  ·rw [List.mem_singleton.1 hb, ← held_eq h.chg.H]; exact h2
 ·have e1 := h.tk
  have e2 := c1.size
  simp [nh] at e2
  have e3 : (σk.took f).tk = max σk.tk (σk.took f).sz := rfl
  omega
def WrPost (mp : VS) (σ : MSt) (S : Nat → Prop) (t : List UInt8) (w : World) (e : Ending) (w' : World) : Prop :=
 (∃ (head : Nat) (rs : List (Nat × Nat)) (σ' : MSt), e = .returned (.tuple #[.int .i64 head, .int .i64 0]) ∧ BlobAt σ' head t rs ∧ Chg σ σ' [] (blobB head rs) ∧ σ'.tk ≤ max σ.tk (σ.sz + (1 + nblk t.length)) ∧ Inv σ' S mp w' ∧ Step S S w w') ∨
 (e = .returned (.tuple #[.int .i64 0, .int .i64 12]) ∧ σ.most < σ.sz + (1 + nblk t.length) ∧ ∃ σ', Inv σ' S mp w' ∧ Step S S w w' ∧ σ'.H = σ.H ∧ σ'.most = σ.most)
theorem wp_bytes {P : Program} {o : Oper} {a : Act} {w w' : World} {K : Act → World → Prop} {Q : Exit → Act → World → Prop} (src dst : TypeId) (x : Operand) (hop : o.op = .convert src dst x) (s : ByteArray) (hx : a.eval x = .string s) (v : Value) (hr : (convert src dst (.string s)).run P w = .ok v w') (hK : K (a.put o.dst v) w') : o.wp P a w K Q := by
 unfold Oper.wp
 simp [execOp, hop, hx, hr, Result.andThen]
 exact hK
theorem mem_wrote (σ : MSt) (b x : Nat) (l : List UInt8) : (σ.wrote b l).mem (x : Nat) = if x = b then l else σ.mem (x : Nat) := by
 show σ.H.pg.look (σ.im.put b l) σ.H.dk ((x : Nat) : Int).toNat = _
 rw [look_put, Int.toNat_natCast]
 rfl
theorem blobB_perm (hd : Nat) (rs : List (Nat × Nat)) : (intsL (hd :: runsB rs)).Perm (blobB hd rs) := by
 show (intsL ([hd] ++ runsB rs)).Perm (intsL (runsB rs ++ [hd]))
 exact List.perm_append_comm.map _
theorem blob_made {σ2 : MSt} {hd : Nat} {tl : List Nat} {rs : List (Nat × Nat)} {t : List UInt8} (hrt : runsB rs = tl) (ok : RunsOk rs) (hl : tl.length = nblk t.length) (h1 : 1 ≤ t.length) (h2 : t.length ≤ 49152) (hnd : (hd :: tl).Nodup) (htwo : ∀ b ∈ hd :: tl, 2 ≤ b) (hhas : ∀ b ∈ hd :: tl, σ2.hasB (b : Nat) = true) (hmem : ∀ j (hj : j < tl.length), σ2.mem (tl[j] : Nat) = pad (chunk t j)) :
  BlobAt (σ2.wrote hd (pad (encR t.length rs))) hd t rs := by
 subst hrt
 refine ⟨⟨htwo hd (List.mem_cons_self ..), hhas hd (List.mem_cons_self ..), ⟨List.replicate (512 - (encR t.length rs).length) 0, ?_⟩, ok, hl, h1, h2⟩, ?_, fun i hi => ⟨hhas _ (List.mem_cons_of_mem _ (List.getElem_mem hi)), htwo _ (List.mem_cons_of_mem _ (List.getElem_mem hi)), ?_⟩⟩
 ·rw [mem_wrote, if_pos rfl]; rfl
 ·exact (blobB_perm hd rs).nodup_iff.1 (intsL_nodup hnd)
 ·rw [mem_wrote, if_neg]
  ·exact hmem i hi
  ·intro e
   exact (List.nodup_cons.1 hnd).1 (e ▸ List.getElem_mem hi)
theorem bWrite (mp : VS) (σ : MSt) (S : Nat → Prop) (w : World) (data : ByteArray) (h : Inv σ S mp w) (h1 : 1 ≤ data.size) (h2 : data.size ≤ 49152) :
  Calls Tryz.prog 61 #[.iface 113 mp.agg, .string data] w (WrPost mp σ S data.data.toList w) := by
 have hsub := h.sub
 have HI := Lib.hid h
 have x1 : ¬ (49152 : Int) < (data.size : Int) := by omega
 have x2 : data.toList.isEmpty = false := by
  rw [toList_eq]
  cases hq : data.data.toList with
  | nil =>
    have : data.size = 0 := by (show data.data.size = 0); rw [← Array.length_toList, hq]; rfl
    omega
  | cons a b => rfl
 obtain ⟨nb, hnb⟩ : ∃ nb, nb = nblk data.size := ⟨_, rfl⟩
 have hnb1 : 1 ≤ nb ∧ nb ≤ 96 := by rw [hnb]; unfold nblk; omega
 have q1 : (1 : Int) + ((data.size : Int) + 512 - 1) / 512 = ((nb + 1 : Nat) : Int) := by rw [hnb]; unfold nblk; omega
 have HNB := Lib.hid hnb
 have hmT : ∀ w, (method 458 113 mp.agg "Take").run Tryz.prog w = .ok (264, .pointer (some ⟨mp.mp, 0, none⟩)) w := fun _ => by kernel_rfl
 have hmf : ∀ (fn : Fn) (first cap : Array Value) (w : World), (Instr.makeFunc fn first cap).run Tryz.prog w = .ok (.func fn first cap) w := fun _ _ _ _ => rfl
 clear h hnb
 go_enter Tryz.func61, Tryz.ntmps61
 go_upto_region 9 with (fail)
 obtain ⟨sb, HSB⟩ : ∃ sb, Hid (w.heap.size = sb) := ⟨_, Lib.hid rfl⟩
 have hb0 := below_two w (.cells #[.iface 113 mp.agg] 171) (.cells #[.slice none 0 0] 133)
 have hst0 : ((w.alloc (.cells #[.iface 113 mp.agg] 171)).alloc (.cells #[.slice none 0 0] 133)).heap[sb]? = some (.cells #[.iface 113 mp.agg] 171 (0, 0)) := by
  rw [← HSB.out]; exact ((below_one (w.alloc _) _).block _ (by simp)).trans (heap_alloc_new w _)
 have htk0 : ((w.alloc (.cells #[.iface 113 mp.agg] 171)).alloc (.cells #[.slice none 0 0] 133)).heap[sb + 1]? = some (.cells #[.slice none 0 0] 133 (0, 0)) := by
  rw [← HSB.out]; have := heap_alloc_new (w.alloc (.cells #[.iface 113 mp.agg] 171)) (.cells #[.slice none 0 0] 133); rwa [World.size_alloc] at this
 rw [HSB.out]
 generalize (w.alloc (.cells #[.iface 113 mp.agg] 171)).alloc (.cells #[.slice none 0 0] 133) = w0 at hb0 hst0 htk0 ⊢
 have hns0 : ¬ S sb := fun x => absurd (hsub sb x) (by rw [HSB.out]; exact Nat.lt_irrefl _)
 have hns1 : ¬ S (sb + 1) := fun x => absurd (hsub (sb + 1) x) (by rw [HSB.out]; omega)
 have hwv0 : WV w0 S sb (sb + 1) sb mp [] := ⟨⟨_, htk0, OwnSl.nil _ _ _ _ _⟩, hst0, hns1, hns0⟩
 have hI0 := HI.out.below hb0
 have hT0 : TKs σ σ [] := ⟨Chg.refl (by simp), by simp, by simp, Nat.le_max_left _ _⟩
 have hs0 : Step S S w w0 := Step.of_below hb0
 clear hst0 htk0 hb0
 go_wp2_with fail
 go_loopw [4, 5, 8, 9, 32] (fun _ _ _ _ i wr => ∃ (bs : List Nat) (σk : MSt), bs.length ≤ nb + 1 ∧ i = .int .i64 bs.length ∧ Inv σk S mp wr ∧ WV wr S sb (sb + 1) sb mp bs ∧ TKs σ σk bs ∧ Step S S w wr) (fun _ _ _ _ i _ => nb + 1 - (intOf i).toNat)
 case atStart => exact ⟨[], σ, by simp, rfl, hI0, hwv0, hT0, hs0⟩
 case round =>
  clear hI0 hwv0 hT0 hs0
  obtain ⟨bs, σk, hk, rfl, hIk, hwv, hTk, hsk⟩ := hrel
  have HTK := Lib.hid hTk; have HWV := Lib.hid hwv
  obtain ⟨⟨tv, t1, t2⟩, t3, t4, t5⟩ := hwv
  obtain ⟨xo, xc, rfl, _, _, _, _⟩ := IsSl.form t2.isSl
  have s0 : wr.cell? ⟨sb, 0, none⟩ = some (.iface 113 mp.agg) := by simp [World.cell?, t3]
  have sl := (Array.getElem?_eq_some_iff.1 t3).1
  have tkl := (Array.getElem?_eq_some_iff.1 t1).1
  have HT1 := Lib.hid t1; have HT2 := Lib.hid t2; have HT3 := Lib.hid t3
  clear t1 t2 t3 hTk
  by_cases hkl : bs.length < nb + 1
  ·have y1 : (bs.length : Int) < ((nb + 1 : Nat) : Int) := by omega
   go_wp2_with (refine (take_is mp σk S wr hIk).mono ?_; rintro e w1 (⟨f, rfl, f1, f2, f3, f4, f6, hI1, hs1⟩ | ⟨rfl, hfull, hI1, hs1⟩) <;> refine Stop.of ?_)
   ·refine Stop.on ?_
    have hob1 := (hs1.1.block (sb + 1) tkl t4).trans HT1.out
    have hst1 := (hs1.1.block sb sl t5).trans HT3.out
    have hown1 := HT2.out.step hs1
    have e1 : w1.cell? ⟨sb + 1, 0, none⟩ = some (.slice xo bs.length xc) := by simp [World.cell?, hob1]
    have el1 := (Array.getElem?_eq_some_iff.1 hob1).1
    have hS1 : ∀ g, S g → g < w1.heap.size := hI1.sub
    have hsb1 : sb ≤ w1.heap.size := by omega
    have hTn := HTK.out.more f3 f4 f1 f2
    have HTN := Lib.hid hTn
    have HIN := Lib.hid (show ints bs ++ [.int .i64 (f : Int)] = ints (bs ++ [f]) by simp [ints])
    clear hTn s0
    go_wp2_with (first
     | (at_builtin; go_must ((refine wpList_app rfl (.tmp 46) (.tmp 48) 133 133 rfl S sb 3 1 8 _ Tryz.underlying133 info_int rfl (.slice xo bs.length xc) _ _ rfl (hown1.below (below_one _ _)) _ 1 _ rfl (src_new [.int .i64 (f : Int)] _ 1 1 1 (by simp) Tryz.underlying133 rfl ?_) (sub_alloc hS1 _) ?_ ?_ ?_ ?_); (focus (simp [Value.oneCell'])); (focus (simp only [World.size_alloc]; omega)); (focus (unfold maxLen; omega)); (focus omega); intro ao3 c3 w3 hown3 hk3 hb3 hd3; refine Stop.of ?_)))
    refine Stop.on ?_
    have hownA := hown1.below (w' := w1.alloc (.cells #[.int .i64 (f : Int)] 3)) (below_one _ _)
    have hobA := ((below_one w1 (.cells #[.int .i64 (f : Int)] 3)).block (sb + 1) el1).trans hob1
    have hstA := ((below_one w1 (.cells #[.int .i64 (f : Int)] 3)).block sb (Array.getElem?_eq_some_iff.1 hst1).1).trans hst1
    have hob3 : w3.heap[sb + 1]? = _ := (hk3.block _ (Array.getElem?_eq_some_iff.1 hobA).1 (hownA.ne hobA (by decide))).trans hobA
    have hst3 : w3.heap[sb]? = _ := (hk3.block _ (Array.getElem?_eq_some_iff.1 hstA).1 (hownA.ne hstA (by decide))).trans hstA
    have g1 : w3.cell? ⟨sb + 1, 0, none⟩ = some (.slice xo bs.length xc) := by simp [World.cell?, hob3]
    have gf : w3.frozen? ⟨sb + 1, 0, none⟩ = false := by simp [World.frozen?, hob3]
    have gl := (Array.getElem?_eq_some_iff.1 hob3).1
    rw [HIN.out] at hown3
    have HO3 := Lib.hid hown3
    clear hown3
    go_wp2_with fail
    have hk5 : Keep (· = sb + 1) w3 (w3.setCell ⟨sb + 1, 0, none⟩ (.slice ao3 (bs.length + 1) c3)) := (Keep.refl (· = sb + 1) _).setCell (p := ⟨sb + 1, 0, none⟩) (.inr rfl) _
    have hb13 : Below sb w1 (w3.setCell ⟨sb + 1, 0, none⟩ (.slice ao3 (bs.length + 1) c3)) := ((below_one w1 (.cells #[.int .i64 (f : Int)] 3) |>.mono hsb1).trans hb3).setCell (by show sb ≤ sb + 1; omega) _
    have hne := HO3.out.ne hob3 (by decide)
    have hlen2 : (bs ++ [f]).length = bs.length + 1 := by simp
    go_roundw
    case rel =>
     refine ⟨bs ++ [f], σk.took f, by rw [hlen2]; omega, by rw [hlen2]; go_num, hI1.keepB hb13 (fun g hg => by rw [← HSB.out]; exact hsub g hg), ⟨⟨_, by simp [World.setCell, Array.getElem?_modify, hob3]; rfl, ?_⟩, (hk5.block sb (Array.getElem?_eq_some_iff.1 hst3).1 (by omega)).trans hst3, t4, t5⟩, HTN.out, ?_⟩
     ·rw [hlen2]
      exact HO3.out.keep fun g hg hl hs => ⟨hk5.block g hl (fun e => hne (by rw [hg, e])), hs⟩
     ·exact (hsk.trans hs1).thenB (by rw [HSB.out]; exact hb13)
    case measure => simp [intOf]; omega
   ·refine Stop.on ?_
    have hwv1 := HWV.out.step hs1
    have HBK := Lib.hid (bback mp σk S w1 sb (sb + 1) sb bs 12 hI1 hwv1 HTK.out.nd (by omega) HTK.out.has)
    have hent : ∀ args w, (callFunc 104 args).run Tryz.prog w = .ok (.enter 104 args) w := fun _ _ => by kernel_rfl
    go_wp2_with (first
     | (go_at_call 104; go_must (refine HBK.out.mono ?_; rintro e w2 ⟨rfl, hI2, hs2⟩)))
    go_ret2
    have htl : data.data.toList.length = data.size := by show data.data.toList.length = data.data.size; simp
    have hz := HTK.out.sz
    have hm := HTK.out.chg.most
    have hall := HTK.out.has
    have cf := chg_frees (intsL bs) σk (fun x hx => by obtain ⟨b, hb, rfl⟩ := List.mem_map.1 hx; exact (hall b hb).1) (intsL_nodup HTK.out.nd)
    refine .inr ⟨rfl, ?_, _, hI2, (hsk.trans hs1).trans hs2, cf.H.trans HTK.out.chg.H, cf.most.trans hm⟩
    rw [htl, ← HNB.out]
    omega
  ·have hke : bs.length = nb + 1 := by omega
   clear hkl
   obtain ⟨hd, tl, rfl⟩ : ∃ hd tl, bs = hd :: tl := by
    cases bs with
    | nil => simp at hke
    | cons a b => exact ⟨a, b, rfl⟩
   have htl : tl.length = nb := by simpa using hke
   obtain ⟨wo, rfl⟩ : ∃ x : World, x = wr := ⟨_, rfl⟩
   have hn1 : (hd :: tl).length = nb + 1 := hke
   rw [hn1] at HT1 HT2 ⊢
   have y0 : ¬ (((nb + 1 : Nat) : Int)) < ((nb + 1 : Nat) : Int) := by omega
   obtain ⟨lb, HLB⟩ : ∃ lb, Hid (wo.heap.size = lb) := ⟨_, Lib.hid rfl⟩
   have hb2 := below_one wo (.cells #[.int .i64 data.size, .slice none 0 0] 179)
   have hL2 : (wo.alloc (.cells #[.int .i64 data.size, .slice none 0 0] 179)).heap[lb]? = some (.cells #[.int .i64 data.size, .slice none 0 0] 179 (0, 0)) := by rw [← HLB.out]; exact heap_alloc_new wo _
   have hsl : ¬ S lb := fun x => absurd (hIk.sub lb x) (by rw [HLB.out]; exact Nat.lt_irrefl _)
   have hA2 : ListAt (wo.alloc (.cells #[.int .i64 data.size, .slice none 0 0] 179)) S lb lb data.size [] (.slice none 0 0) := ⟨hL2, OwnSl.nil _ _ _ _ _, Nat.le_refl _, hsl⟩
   have hI2 := hIk.below hb2
   have hW2 := HWV.out.step (Step.of_below (S := S) hb2)
   have hs2 : Step S S w (wo.alloc (.cells #[.int .i64 data.size, .slice none 0 0] 179)) := hsk.trans (Step.of_below hb2)
   obtain ⟨pb, po, hxo, d0⟩ : ∃ pb po, xo = some ⟨pb, po, none⟩ ∧ ∀ i (hi : i < (hd :: tl).length), wo.cell? ⟨pb, po + i, none⟩ = some (.int .i64 ((hd :: tl)[i] : Nat)) := by
    have hil : IsInts wo S (.slice xo (nb + 1) xc) (intsL (hd :: tl)) := by
     have := HT2.out.isSl
     rw [ints_intsL] at this
     unfold IsInts
     rw [show (intsL (hd :: tl)).length = nb + 1 by simp [intsL]; exact htl]
     exact this
    obtain ⟨pb, po, e, _⟩ := hil.at rfl 0 (by simp [intsL])
    refine ⟨pb, po, e, fun i hi => ?_⟩
    obtain ⟨pb', po', e', d⟩ := hil.at rfl i (by simpa [intsL] using hi)
    rw [e] at e'
    cases e'
    have hv : (intsL (hd :: tl))[i]'(by simpa [intsL] using hi) = (((hd :: tl)[i] : Nat) : Int) := by unfold intsL; rw [List.getElem_map]
    rw [hv] at d
    exact d
   subst hxo
   have HD0 := Lib.hid d0
   have hpb : pb < wo.heap.size := World.block_lt_of_cell? wo _ (d0 0 (by simp))
   have hpS : ¬ S pb := (HT2.out.2 pb rfl)
   have hpsb : sb ≤ pb := HT2.out.lo pb rfl
   have hobr := HT1.out
   have e1 : wo.cell? ⟨sb + 1, 0, none⟩ = some (.slice (some ⟨pb, po, none⟩) (nb + 1) xc) := by simp [World.cell?, hobr]
   have E1 := (hb2.cell (p := ⟨sb + 1, 0, none⟩) tkl).trans e1
   have tkl2 := Nat.lt_of_lt_of_le tkl hb2.size
   have hxc1 : ¬ xc = 1 := by omega
   have hxc2 : (1 : Int) ≤ (xc : Int) := by omega
   generalize hw2 : wo.alloc (.cells #[.int .i64 data.size, .slice none 0 0] 179) = w2 at hb2 hL2 hA2 hI2 hW2 hs2 E1 tkl2
   have HWW2 := Lib.hid hw2
   have HWV2 := Lib.hid hW2
   have HSB2 := Lib.hid ((hb2.block sb sl).trans HT3.out)
   have HTB2 := Lib.hid ((hb2.block (sb + 1) tkl).trans HT1.out)
   have HPB2 := Lib.hid (fun i (hi : i < (hd :: tl).length) => (hb2.cell (p := ⟨pb, po + i, none⟩) hpb).trans (d0 i hi))
   clear d0 hL2 e1 s0 hobr hW2
   have HHB := Lib.hid hb2
   clear hb2
   go_upto_region 17 with (fail)
   rw [HLB.out]
   have hlb2 : lb < w2.heap.size := by rw [← hw2, ← HLB.out]; simp
   have hlbs : sb + 1 < lb := by rw [← HLB.out]; exact tkl
   have hpbl : pb < lb := by rw [← HLB.out]; exact hpb
   clear hw2
   obtain ⟨t, ht⟩ : ∃ t, t = data.data.toList := ⟨_, rfl⟩
   have htL : t.length = data.size := by rw [ht]; show data.data.toList.length = data.data.size; simp
   rw [← ht]
   have HTL := Lib.hid htL; have HTT := Lib.hid ht
   have HSO := Lib.hid (show ∀ g, S g → g < lb from fun g hg => by have := hIk.sub g hg; rwa [HLB.out] at this)
   have HNDD := Lib.hid HTK.out.nd
   have HTW := Lib.hid HTK.out.two
   have hmW : ∀ w, (method 458 113 mp.agg "Write").run Tryz.prog w = .ok (64, .pointer (some ⟨mp.tx, 0, none⟩)) w := fun _ => by kernel_rfl
   have hna : ∀ w, (nilAhead 458 113 mp.agg "Write").run Tryz.prog w = .ok (some false) w := fun _ => by kernel_rfl
   have hC0 : Chg σ σk [] (intsL (hd :: tl)) := HTK.out.chg
   have hend : (nb : Int) + 1 - 1 = (nb : Int) := by omega
   go_wp2_with fail
   go_loopw [11, 12, 13, 58] (fun _ _ _ i wk => ∃ (k : Nat) (rs : List (Nat × Nat)) (v : Value) (σ2 : MSt), k ≤ nb ∧ i = .int .i64 k ∧ ListAt wk S lb lb data.size rs v ∧ runsB rs = tl.take k ∧ RunsOk rs ∧ Inv σ2 S mp wk ∧ Chg σ σ2 [] (intsL (hd :: tl)) ∧ σ2.tk = σk.tk ∧ (∀ j (hj : j < tl.length), j < k → σ2.mem (tl[j] : Nat) = pad (chunk t j)) ∧ Keep (fun g => S g ∨ lb ≤ g) w2 wk) (fun _ _ _ i _ => nb - (intOf i).toNat)
   case atStart => exact ⟨0, [], _, σk, by omega, rfl, hA2, by simp [runsB], (fun r hr => by cases hr), hI2, hC0, rfl, fun j hj h0 => by omega, Keep.refl _ _⟩
   case round =>
    clear hA2 hI2 hC0
    obtain ⟨k, rs, v, σ2, hk2, rfl, hA, hrs, hok, hIw, hCw, htkw, hmemw, hkw⟩ := hrel
    have hlw : lb < wr.heap.size := (Array.getElem?_eq_some_iff.1 hA.obj).1
    by_cases hkl : k < nb
    ·have y1 : (k : Int) < (nb : Int) := by omega
     have hkt : k < tl.length := by omega
     obtain ⟨b, hbq⟩ : ∃ b, b = tl[k] := ⟨_, rfl⟩
     have hbm : b ∈ hd :: tl := by rw [hbq]; exact List.mem_cons_of_mem _ (List.getElem_mem hkt)
     obtain ⟨hb2', hbM⟩ := HTW.out b hbm
     have dk : wr.cell? ⟨pb, po + 1 + k, none⟩ = some (.int .i64 (b : Int)) := by
      have := HPB2.out (k + 1) (by simp; omega)
      rw [List.getElem_cons_succ, ← hbq, show po + (k + 1) = po + 1 + k by omega] at this
      exact (hkw.cell (p := ⟨pb, po + 1 + k, none⟩) (Nat.lt_trans hpbl hlb2) (fun e => e.elim hpS (fun e => absurd hpbl (Nat.not_lt.2 e)))).trans this
     have hpk : pb < wr.heap.size := Nat.lt_trans hpbl hlw
     have HSBk := (hkw.block sb (by omega) (fun e => e.elim t5 (fun e => by omega))).trans HSB2.out
     have s0k : wr.cell? ⟨sb, 0, none⟩ = some (.iface 113 mp.agg) := by simp [World.cell?, HSBk]
     have slk := (Array.getElem?_eq_some_iff.1 HSBk).1
     obtain ⟨lo, hlo⟩ : ∃ lo : Nat, lo = k * 512 := ⟨_, rfl⟩
     obtain ⟨k1, hk1⟩ : ∃ k1 : Nat, k1 = k + 1 := ⟨_, rfl⟩
     obtain ⟨up, hup⟩ : ∃ up : Nat, up = k1 * 512 := ⟨_, rfl⟩
     obtain ⟨hi, hhi⟩ : ∃ hi : Nat, hi = min up data.size := ⟨_, rfl⟩
     have hnbk : k * 512 < data.size := by have := HNB.out; unfold nblk at this; omega
     have r1 : IntKind.i64.wrap ((k : Int) * 512) = (lo : Int) := by rw [IntWalk.i64_in _ (by omega)]; omega
     have r2 : IntKind.i64.wrap ((k : Int) + 1) = (k1 : Int) := by rw [IntWalk.i64_in _ (by omega)]; omega
     have r3 : IntKind.i64.wrap ((k1 : Int) * 512) = (up : Int) := by rw [IntWalk.i64_in _ (by omega)]; omega
     have r4 : min (up : Int) (data.size : Int) = (hi : Int) := by omega
     have r5 : (0 : Int) ≤ (lo : Int) := by omega
     have r6 : (lo : Int) ≤ (hi : Int) := by omega
     have r7 : (hi : Int) ≤ (data.size : Int) := by omega
     have r8 : lo ≤ hi := by omega
     have r9 : hi ≤ data.size := by omega
     have hch : (data.extract lo hi).data.toList = chunk t k := by
      rw [HTT.out]
      unfold chunk
      rw [ByteArray.data_extract, Array.toList_extract, hhi, hup, hk1, hlo]
      show ((data.data.toList.drop (k * 512)).take (min ((k + 1) * 512) data.size - k * 512)) = _
      rw [Nat.mul_comm k 512, List.take_eq_take_iff, List.length_drop, Array.length_toList]
      show min (min ((k + 1) * 512) data.size - 512 * k) (data.size - 512 * k) = min 512 (data.size - 512 * k)
      omega
     obtain ⟨piece, hpc⟩ : ∃ p, p = data.extract lo hi := ⟨_, rfl⟩
     have HCH := Lib.hid hch
     have HPC := Lib.hid hpc
     clear hlo hk1 hup hhi hch hpc
     have HHA := Lib.hid hA
     have HHI := Lib.hid hIw
     have HREL := Lib.hid (And.intro hrs (And.intro hok (And.intro hmemw (And.intro htkw hCw))))
     clear hA hIw hrs hok hmemw htkw hCw
     go_upto_region 20 with (fail)
     refine wp_region_ord (fun W => W.cell? ⟨sb, 0, none⟩ = some (.iface 113 mp.agg) ∧ sb < W.heap.size) (fun i => !([12, 16].contains i)) [0, 1, 2, 3, 4, 5, 6, 7, 8, 9, 10, 11, 13, 14, 15, 12, 16, 17] rfl (by kernel_rfl) ⟨s0k, slk⟩ ?_
     repeat ((refine ord_q (v := ?_) rfl rfl (fun _ _ _ h => h) rfl (fun W hW => ?_) ?_); rotate_left; (focus ((try dsimp only at hW); obtain ⟨z0, z1⟩ := hW; have := hna; (go_simp; first | done | with_reducible rfl))); (try simp only [Act.put, List.setIfInBounds_toArray, List.set_cons_zero, List.set_cons_succ]))
     have hpsz : piece.size ≤ 1000000 := by rw [HPC.out, ByteArray.size_extract]; omega
     obtain ⟨pc, w4, hcv, hpv, hb4⟩ := bytes_of piece wr.drew hpsz
     have hpl : piece.data.toList = chunk t k := by rw [HPC.out]; exact HCH.out
     have hps : piece.size = (chunk t k).length := by rw [← hpl]; show piece.data.size = _; simp
     rw [hpl] at hpv
     rw [hps] at hcv hpv
     rw [← HPC.out]
     have hb4' : Below wr.heap.size wr w4 := ((Below.refl _ wr).drew).trans hb4
     have HCV := Lib.hid hcv; have HPV := Lib.hid hpv; have HB4 := Lib.hid hb4'
     clear hcv hpv hb4 hb4'
     refine ord_e rfl rfl rfl ?_; intro K hK
     refine wp_bytes 9 86 (.tmp 74) rfl piece rfl _ HCV.out ?_
     clear hps hpl
     have s04 := (HB4.out.cell (p := ⟨sb, 0, none⟩) slk).trans s0k
     have sl4 := Nat.lt_of_lt_of_le slk HB4.out.size
     refine hK.out _ _ ⟨s04, sl4⟩ ?_
     (try simp only [Act.put, List.setIfInBounds_toArray, List.set_cons_zero, List.set_cons_succ])
     have hI4 := HHI.out.below HB4.out
     have hcl : (chunk t k).length ≤ 512 := by rw [chunk_length]; omega
     have hmost2 : tl[k] < σ2.most := by
      rw [HREL.out.2.2.2.2.most, ← hbq]; exact hbM
     have HWR := Lib.hid (write_has mp σ2 S w4 tl[k] _ (chunk t k) hI4 hmost2 HPV.out hcl (MSt.own_of (HREL.out.2.2.2.2.new _ (List.mem_map_of_mem (List.mem_cons_of_mem _ (List.getElem_mem hkt)))).1 ((held_eq HREL.out.2.2.2.2.H _).trans (HTK.out.nheld _ (List.mem_cons_of_mem _ (List.getElem_mem hkt))))))
     obtain ⟨cl, hcln⟩ : ∃ n, Hid ((chunk t k).length = n) := ⟨_, Lib.hid rfl⟩
     obtain ⟨vb4, hvb4⟩ : ∃ g, Hid (wr.drew.heap.size = g) := ⟨_, Lib.hid rfl⟩
     rw [hcln.out, hvb4.out] at HWR ⊢
     obtain ⟨bk, hbk⟩ : ∃ g : Nat, Hid (tl[k] = g) := ⟨_, Lib.hid rfl⟩
     rw [hbk.out] at HWR ⊢
     refine ord_e rfl rfl rfl ?_; intro K hK; go_simp
     refine HWR.out.mono ?_; rintro e w5 ⟨rfl, hI5, hs5⟩
     have s05 : w5.cell? ⟨sb, 0, none⟩ = some (.iface 113 mp.agg) := by
      have := (hs5.1.block sb sl4 t5).trans ((HB4.out.block sb slk).trans HSBk)
      simp [World.cell?, this]
     refine hK.out _ _ ⟨s05, Nat.lt_of_lt_of_le sl4 hs5.1.size⟩ ?_
     (try simp only [Act.put, List.setIfInBounds_toArray, List.set_cons_zero, List.set_cons_succ])
     repeat ((refine ord_q (v := ?_) rfl rfl (fun _ _ _ h => h) rfl (fun W hW => ?_) ?_); rotate_left; (focus ((try dsimp only at hW); obtain ⟨z0, z1⟩ := hW; (go_simp; first | done | with_reducible rfl))); (try simp only [Act.put, List.setIfInBounds_toArray, List.set_cons_zero, List.set_cons_succ]))
     refine ord_nil ?_
     have hA5 := (HHA.out.below HB4.out).step hs5
     have hrl : rs.length ≤ 1000 := by
      have a := HREL.out.2.1.le
      rw [HREL.out.1, List.length_take] at a
      omega
     have hS5 : ∀ g, S g → g < w5.heap.size := hI5.sub
     have hbk5 : bk ≤ 65535 := by have := hbk.out; have := HHI.out.cap; omega
     have HBA := Lib.hid (badd lb data.size bk rs v lb S w5 hA5 hS5 HREL.out.2.1 hrl hbk5)
     clear hrl r1 r2 r3 r4 r5 r6 r7 r8 r9 hcl
     go_wp2_with (first
      | (go_at_call 105; go_must (refine HBA.out.mono ?_; rintro e w6 ⟨rfl, ⟨v6, hA6⟩, hb6⟩)))
     have hbkm : (bk : Int) ∈ intsL (hd :: tl) := by
      rw [← hbk.out]
      exact List.mem_map_of_mem (List.mem_cons_of_mem _ (List.getElem_mem hkt))
     have hbk2 : 2 ≤ bk := by rw [← hbk.out, ← hbq]; exact hb2'
     have hcw := chg_wrt (σ := σ2) (us := intsL (hd :: tl)) (b := bk) (l := pad (chunk t k)) (fun x hx => (HREL.out.2.2.2.2.new x hx).1) hbkm hbk2
     go_roundw
     case rel =>
      refine ⟨k + 1, addR rs bk, v6, σ2.wrote bk (pad (chunk t k)), by omega, by go_num, hA6, ?_, HREL.out.2.1.add bk (by omega), hI5.keepB hb6 HSO.out, HREL.out.2.2.2.2.trans hcw, ?_, ?_, ?_⟩
      ·rw [runsB_addR, HREL.out.1, List.take_succ_eq_append_getElem hkt, hbk.out]
      ·exact HREL.out.2.2.2.1
      ·intro j hj hjk
       show σ2.H.pg.look (σ2.im.put bk (pad (chunk t k))) σ2.H.dk ((tl[j] : Nat) : Int).toNat = _
       rw [look_put, Int.toNat_natCast]
       by_cases hje : j = k
       ·subst hje
        rw [if_pos hbk.out]
       ·rw [if_neg (fun e => by
         have hnd := (List.nodup_cons.1 HNDD.out).2
         rw [← hbk.out] at e
         exact hje ((List.getElem_inj hnd).1 e))]
        exact HREL.out.2.2.1 j hj (by omega)
      ·refine ((hkw.trans (Keep.of_below HB4.out (fun g => S g ∨ lb ≤ g)) (fun _ _ e => e)).trans (hs5.1.mono (fun _ _ e => .inl e)) (fun _ _ e => e)).trans ?_ (fun _ _ e => e)
       exact ⟨hb6.os, hb6.tape, hb6.output, hb6.size, fun g _ hn => hb6.block g (Nat.lt_of_not_le (fun e => hn (.inr e)))⟩
     case measure => simp [intOf]; omega
    ·obtain rfl : k = nb := by omega
     have hrt : runsB rs = tl := by rw [hrs]; exact List.take_of_length_le (by omega)
     have hrl96 : rs.length ≤ 96 := by have := hok.le; rw [hrt] at this; omega
     have HSBk := (hkw.block sb (by omega) (fun e => e.elim t5 (fun e => by omega))).trans HSB2.out
     have HTBk := (hkw.block (sb + 1) (by omega) (fun e => e.elim t4 (fun e => by omega))).trans HTB2.out
     have d0 : wr.cell? ⟨pb, po, none⟩ = some (.int .i64 (hd : Int)) := by
      have := HPB2.out 0 (by simp)
      exact (hkw.cell (p := ⟨pb, po, none⟩) (Nat.lt_trans hpbl hlb2) (fun e => e.elim hpS (fun e => absurd hpbl (Nat.not_lt.2 e)))).trans this
     have hpk : pb < wr.heap.size := Nat.lt_trans hpbl hlw
     have slk := (Array.getElem?_eq_some_iff.1 HSBk).1
     have tlk := (Array.getElem?_eq_some_iff.1 HTBk).1
     have HP := Lib.hid (show ∀ (W : World), (∀ g, g < lb → ¬ S g → W.heap[g]? = wr.heap[g]?) → wr.heap.size ≤ W.heap.size → (W.cell? ⟨sb, 0, none⟩ = some (.iface 113 mp.agg) ∧ W.cell? ⟨sb + 1, 0, none⟩ = some (.slice (some ⟨pb, po, none⟩) (k + 1) xc) ∧ W.cell? ⟨pb, po, none⟩ = some (.int .i64 (hd : Int)) ∧ sb < W.heap.size ∧ sb + 1 < W.heap.size ∧ pb < W.heap.size) from fun W hW hz => by
      have a := (hW sb (by omega) t5).trans HSBk
      have b := (hW (sb + 1) (by omega) t4).trans HTBk
      exact ⟨by simp [World.cell?, a], by simp [World.cell?, b], (World.cell?_of_block (w := wr) (a := ⟨pb, po, none⟩) (hW pb hpbl hpS)).trans d0, by omega, by omega, by omega⟩)
     have HEN := Lib.hid (bencode lb data.size rs v lb S wr.drew ⟨hA.obj, hA.own.drew, hA.lo, hA.ns⟩ hIw.sub (by omega) hok (by omega))
     have HIW := Lib.hid hIw; have HCW := Lib.hid hCw
     have HREL := Lib.hid (And.intro hok (And.intro hmemw htkw))
     have HRT := Lib.hid hrt
     have hel := encR_length data.size rs
     have helle : (encR data.size rs).length ≤ 512 := by omega
     have z0 : (0 : Int) < ((k + 1 : Nat) : Int) := by omega
     have z1 : (0 : Int) < (k : Int) + 1 := by omega
     have HHA := Lib.hid hA
     clear hA hIw hCw hok hmemw htkw hrs hrt hel hkl HSBk HTBk d0
     go_upto_region 25 with (fail)
     refine wp_region_ord (fun W => W.cell? ⟨sb, 0, none⟩ = some (.iface 113 mp.agg) ∧ W.cell? ⟨sb + 1, 0, none⟩ = some (.slice (some ⟨pb, po, none⟩) (k + 1) xc) ∧ W.cell? ⟨pb, po, none⟩ = some (.int .i64 (hd : Int)) ∧ sb < W.heap.size ∧ sb + 1 < W.heap.size ∧ pb < W.heap.size) (fun i => !([5, 9].contains i)) [0, 1, 2, 3, 4, 6, 7, 8, 5, 9, 10] rfl (by kernel_rfl) (HP.out wr.drew (fun g _ _ => rfl) (Nat.le_refl _)) ?_
     repeat ((refine ord_q (v := ?_) rfl rfl (fun _ _ _ h => h) rfl (fun W hW => ?_) ?_); rotate_left; (focus ((try dsimp only at hW); obtain ⟨a0, a1, a2, a3, a4, a5⟩ := hW; have := hna; (go_simp; first | done | with_reducible rfl))); (try simp only [Act.put, List.setIfInBounds_toArray, List.set_cons_zero, List.set_cons_succ]))
     refine ord_e rfl rfl rfl ?_; intro K hK; go_simp
     refine HEN.out.mono ?_; rintro e w5 ⟨ev, rfl, hown5, hb5⟩
     obtain ⟨eo, ec, rfl, _, _, _, _⟩ := IsSl.form hown5.isSl
     have hb5' : Below wr.heap.size wr w5 := ((Below.refl _ wr).drew).trans hb5
     refine hK.out _ _ (HP.out w5 (fun g hg _ => hb5'.block g (Nat.lt_trans hg hlw)) hb5'.size) ?_
     (try simp only [Act.put, List.setIfInBounds_toArray, List.set_cons_zero, List.set_cons_succ])
     have hI5 := HIW.out.below hb5'
     have hhd := HTW.out hd (List.mem_cons_self ..)
     have hmost2 : hd < σ2.most := by rw [HCW.out.most]; exact hhd.2
     have HWR := Lib.hid (write_has mp σ2 S w5 hd _ (encR data.size rs) hI5 hmost2 (IsSl.loose hown5.isSl) helle (MSt.own_of (HCW.out.new _ (List.mem_map_of_mem (List.mem_cons_self ..))).1 ((held_eq HCW.out.H _).trans (HTK.out.nheld _ (List.mem_cons_self ..)))))
     refine ord_e rfl rfl rfl ?_; intro K hK; go_simp
     refine HWR.out.mono ?_; rintro e w6 ⟨rfl, hI6, hs6⟩
     have hP6 := HP.out w6 (fun g hg hn => (hs6.1.block g (Nat.lt_of_lt_of_le (Nat.lt_trans hg hlw) hb5'.size) hn).trans (hb5'.block g (Nat.lt_trans hg hlw))) (Nat.le_trans hb5'.size hs6.1.size)
     refine hK.out _ _ hP6 ?_
     (try simp only [Act.put, List.setIfInBounds_toArray, List.set_cons_zero, List.set_cons_succ])
     repeat ((refine ord_q (v := ?_) rfl rfl (fun _ _ _ h => h) rfl (fun W hW => ?_) ?_); rotate_left; (focus ((try dsimp only at hW); obtain ⟨a0, a1, a2, a3, a4, a5⟩ := hW; (go_simp; first | done | with_reducible rfl))); (try simp only [Act.put, List.setIfInBounds_toArray, List.set_cons_zero, List.set_cons_succ]))
     refine ord_nil ?_
     obtain ⟨a0, a1, a2, a3, a4, a5⟩ := hP6
     go_wp2_with fail
     go_ret2
     have hcw := chg_wrt (σ := σ2) (us := intsL (hd :: tl)) (b := hd) (l := pad (encR data.size rs)) (fun x hx => (HCW.out.new x hx).1) (List.mem_map_of_mem (List.mem_cons_self ..)) hhd.1
     have hln : tl.length = nblk data.size := by rw [htl, HNB.out]
     have hbl := blob_made (σ2 := σ2) (t := t) HRT.out HREL.out.1 (by rw [HTL.out]; exact hln) (by rw [HTL.out]; exact h1) (by rw [HTL.out]; exact h2) HNDD.out (fun b hb => (HTW.out b hb).1) (fun b hb => (HCW.out.new _ (List.mem_map_of_mem hb)).1) (fun j hj => HREL.out.2.1 j hj (by omega))
     rw [HTL.out] at hbl
     refine .inl ⟨hd, rs, σ2.wrote hd (pad (encR data.size rs)), rfl, ?_, ?_, ?_, hI6, ?_⟩
     ·rw [← HTT.out]; exact hbl
     ·exact (HCW.out.trans hcw).perm (List.Perm.refl _) (by have := blobB_perm hd rs; rwa [HRT.out] at this)
     ·rw [← HTT.out, HTL.out, ← hln, htl]
      show σ2.tk ≤ _
      rw [HREL.out.2.2]
      have a := HTK.out.tk
      have b := HTK.out.sz
      rw [List.length_cons, htl] at b
      omega
     ·have hsz : w.heap.size ≤ lb := by have := HSB.out; omega
      refine ⟨((hs2.1.trans hkw (fun i hi e => e.elim id (fun y => absurd hi (Nat.not_lt.2 (Nat.le_trans hsz y))))).trans (Keep.of_below hb5' S) (fun _ _ e => e)).trans hs6.1 (fun _ _ e => e), fun g hg => .inl hg⟩
def longL : List UInt8 → Option Nat
 | [a, b, c] => if a = 1 then some (b.toNat + 256 * c.toNat) else none
 | _ => none
theorem vlong (s : ByteArray) (w : World) (hs : s.size ≤ 1000000) :
  Calls Tryz.prog 78 #[.string s] w fun e w' => Below w.heap.size w w' ∧ e = .returned (.tuple #[.int .i64 ((longL s.data.toList).getD 0 : Nat), .bool (longL s.data.toList).isSome]) := by
 have hsz : s.data.toList.length = s.size := by show s.data.toList.length = s.data.size; simp
 by_cases h3 : s.size = 3
 ·have y1 : (s.size : Int) = 3 := by omega
  obtain ⟨a, b, c, hl⟩ : ∃ a b c, s.data.toList = [a, b, c] := by
   have := hsz.trans h3
   revert this
   generalize s.data.toList = l
   intro h
   match l, h with
   | [a, b, c], _ => exact ⟨a, b, c, rfl⟩
  have hss : s = strOf [a, b, c] := by
   unfold strOf
   rw [← hl]
  rw [hl]
  clear hsz hl h3
  subst hss
  have i0 : ∀ W : World, (Instr.index 9 (.string (strOf [a, b, c])) (.int .i64 0)).run Tryz.prog W = .ok (.int .u8 (a.toNat : Int)) W := fun W => index_at _ 0 a rfl W
  have i1 : ∀ W : World, (Instr.index 9 (.string (strOf [a, b, c])) (.int .i64 1)).run Tryz.prog W = .ok (.int .u8 (b.toNat : Int)) W := fun W => index_at _ 1 b rfl W
  have i2 : ∀ W : World, (Instr.index 9 (.string (strOf [a, b, c])) (.int .i64 2)).run Tryz.prog W = .ok (.int .u8 (c.toNat : Int)) W := fun W => index_at _ 2 c rfl W
  have hb := b.toNat_lt; have hc := c.toNat_lt
  obtain ⟨t, ht⟩ : ∃ t, Hid (strOf [a, b, c] = t) := ⟨_, Lib.hid rfl⟩
  rw [ht.out] at i0 i1 i2 hs y1 ⊢
  by_cases ha : a = 1
  ·subst ha
   have hl : longL [1, b, c] = some (b.toNat + 256 * c.toNat) := rfl
   rw [hl]
   have j0 : ∀ W : World, (Instr.index 9 (.string t) (.int .i64 0)).run Tryz.prog W = .ok (.int .u8 1) W := i0
   clear i0 hl
   have q1 : IntKind.i64.wrap (b.toNat : Int) = (b.toNat : Int) := IntWalk.i64_in _ (by omega)
   have q2 : IntKind.i64.wrap (c.toNat : Int) = (c.toNat : Int) := IntWalk.i64_in _ (by omega)
   obtain ⟨n1, hn1⟩ : ∃ n, n = b.toNat + 256 * c.toNat := ⟨_, rfl⟩
   have p1 : IntKind.i64.wrap ((c.toNat : Int) * 256) = ((256 * c.toNat : Nat) : Int) := by rw [IntWalk.i64_in _ (by omega)]; omega
   have o1 := or_above b.toNat c.toNat 256 n1 8 rfl hb hn1 (by omega)
   have HN := Lib.hid hn1
   obtain ⟨m1, hm1⟩ : ∃ m : Nat, Hid (256 * c.toNat = m) := ⟨_, Lib.hid rfl⟩
   rw [hm1.out] at p1 o1
   clear hn1 hb hc
   go_enter Tryz.func78, Tryz.ntmps78
   go_wp2_with fail
   refine wp_region_ord (fun W => W = w.drew) (fun i => true) [0, 1, 2, 3, 4, 5, 6, 7, 8, 9] rfl (by kernel_rfl) rfl ?_
   repeat ((refine ord_q (v := ?_) rfl rfl (fun _ _ _ h => h) rfl (fun W hW => ?_) ?_); rotate_left; (focus ((try dsimp only at hW); subst hW; (go_simp; first | done | with_reducible rfl))); (try simp only [Act.put, List.setIfInBounds_toArray, List.set_cons_zero, List.set_cons_succ]))
   refine ord_nil ?_
   go_wp2_with fail
   go_ret2
   refine ⟨(Below.refl _ w).drew, ?_⟩
   rw [← HN.out]
   rfl
  ·have hl : longL [a, b, c] = none := if_neg ha
   rw [hl]
   have hne : ¬ (a.toNat : Int) = 1 := fun e => ha (UInt8.toNat_inj.1 (by show a.toNat = 1; omega))
   clear hb hc hl
   go_enter Tryz.func78, Tryz.ntmps78
   go_wp2_with fail
   go_ret2
   exact ⟨Below.refl _ w, rfl⟩
 ·have y1 : ¬ (s.size : Int) = 3 := by omega
  have hn : longL s.data.toList = none := by
   generalize s.data.toList = l at hsz
   match l, hsz with
   | [a, b, c], h => exact absurd h (by simp; omega)
   | [], _ => rfl
   | [_], _ => rfl
   | [_, _], _ => rfl
   | _ :: _ :: _ :: _ :: _, _ => rfl
  rw [hn]
  go_enter Tryz.func78, Tryz.ntmps78
  go_wp2_with fail
  go_ret2
  exact ⟨Below.refl _ w, rfl⟩
def usableL (er : Int) (key : ByteArray) : Int := if er ≠ 0 then er else if key.size = 0 ∨ 128 < key.size then 1 else 0
def vtCells (mp : VS) (tr : Option Nat) (ch : Bool) (er : Int) : Array Value := #[.pointer (some ⟨mp.tx, 0, none⟩), .pointer (some ⟨mp.mp, 0, none⟩), .pointer (tr.map fun b => ⟨b, 0, none⟩), .bool ch, .int .i64 er]
theorem vusable (t : Nat) (mp : VS) (tr : Nat) (ch : Bool) (er : Int) (key : ByteArray) (w : World) (h : w.heap[t]? = some (.cells (vtCells mp (some tr) ch er) 118 (0, 0))) :
  Calls Tryz.prog 58 #[.pointer (some ⟨t, 0, none⟩), .string key] w fun e w' => w' = w ∧ e = .returned (.int .i64 (usableL er key)) := by
 have c2 : w.cell? ⟨t, 2, none⟩ = some (.pointer (some ⟨tr, 0, none⟩)) := by simp [World.cell?, h, vtCells]
 have c4 : w.cell? ⟨t, 4, none⟩ = some (.int .i64 er) := by simp [World.cell?, h, vtCells]
 have hl := (Array.getElem?_eq_some_iff.1 h).1
 have hk : key.toList.isEmpty = decide (key.size = 0) := by
  rw [toList_eq]
  have : key.data.toList.length = key.size := by show key.data.toList.length = key.data.size; simp
  rw [← this]
  cases key.data.toList <;> simp
 clear h
 by_cases he : er = 0
 ·subst he
  by_cases h0 : key.size = 0
  ·have hu : usableL 0 key = 1 := by unfold usableL; rw [if_neg (by simp), if_pos (.inl h0)]
   rw [hu]
   have hk' : key.toList.isEmpty = true := by rw [hk]; simp [h0]
   clear hk hu
   go_enter Tryz.func58, Tryz.ntmps58
   go_wp2_with fail
   go_ret
   exact ⟨rfl, rfl⟩
  ·have hk' : key.toList.isEmpty = false := by rw [hk]; simp [h0]
   clear hk
   by_cases h1 : 128 < key.size
   ·have hu : usableL 0 key = 1 := by unfold usableL; rw [if_neg (by simp), if_pos (.inr h1)]
    rw [hu]
    have y1 : (128 : Int) < (key.size : Int) := by omega
    clear hu
    go_enter Tryz.func58, Tryz.ntmps58
    go_wp2_with fail
    go_ret
    exact ⟨rfl, rfl⟩
   ·have hu : usableL 0 key = 0 := by unfold usableL; rw [if_neg (by simp), if_neg (by omega)]
    rw [hu]
    have y1 : ¬ (128 : Int) < (key.size : Int) := by omega
    clear hu
    go_enter Tryz.func58, Tryz.ntmps58
    go_wp2_with fail
    go_ret
    exact ⟨rfl, rfl⟩
 ·have hu : usableL er key = er := if_pos he
  rw [hu]
  have hne : (er != 0) = true := by simp [he]
  clear hk hu
  go_enter Tryz.func58, Tryz.ntmps58
  go_wp2_with fail
  go_ret
  exact ⟨rfl, rfl⟩
theorem vusable_nil (key : ByteArray) (w : World) :
  Calls Tryz.prog 58 #[.pointer none, .string key] w fun e w' => w' = w ∧ e = .returned (.int .i64 2) := by
 go_enter Tryz.func58, Tryz.ntmps58
 go_wp2_with fail
 go_ret
 exact ⟨rfl, rfl⟩
theorem vusable_end (t : Nat) (mp : VS) (ch : Bool) (er : Int) (key : ByteArray) (w : World) (h : w.heap[t]? = some (.cells (vtCells mp none ch er) 118 (0, 0))) :
  Calls Tryz.prog 58 #[.pointer (some ⟨t, 0, none⟩), .string key] w fun e w' => w' = w ∧ e = .returned (.int .i64 2) := by
 have c2 : w.cell? ⟨t, 2, none⟩ = some (.pointer none) := by simp [World.cell?, h, vtCells]
 have hl := (Array.getElem?_eq_some_iff.1 h).1
 clear h
 go_enter Tryz.func58, Tryz.ntmps58
 go_wp2_with fail
 go_ret
 exact ⟨rfl, rfl⟩
theorem vspoil (t : Nat) (mp : VS) (tr : Option Nat) (ch : Bool) (er e : Int) (w : World) (h : w.heap[t]? = some (.cells (vtCells mp tr ch er) 118 (0, 0))) :
  Calls Tryz.prog 60 #[.pointer (some ⟨t, 0, none⟩), .int .i64 e] w fun r w' => r = .returned (.int .i64 e) ∧ w'.heap[t]? = some (.cells (vtCells mp tr ch e) 118 (0, 0)) ∧ Keep (· = t) w w' := by
 have c4 : w.cell? ⟨t, 4, none⟩ = some (.int .i64 er) := by simp [World.cell?, h, vtCells]
 have f4 : w.frozen? ⟨t, 4, none⟩ = false := by simp [World.frozen?, h]
 have hl := (Array.getElem?_eq_some_iff.1 h).1
 have HH := Lib.hid h
 clear h
 go_enter Tryz.func60, Tryz.ntmps60
 go_wp2_with fail
 go_ret
 refine ⟨rfl, ?_, (Keep.refl (· = t) _).setCell (p := ⟨t, 4, none⟩) (.inr rfl) _⟩
 simp [World.setCell, Array.getElem?_modify, HH.out]
 rfl
theorem vget_no (tp : Option Addr) (key : ByteArray) (er : Int) (w : World) (hu : Calls Tryz.prog 58 #[.pointer tp, .string key] w fun e w' => w' = w ∧ e = .returned (.int .i64 er)) (her : er ≠ 0) :
  Calls Tryz.prog 18 #[.pointer tp, .string key] w fun e w' => w' = w ∧ e = .returned (.tuple #[.string ByteArray.empty, .bool false, .int .i64 er]) := by
 have hne : (er != 0) = true := by simp [her]
 have HU := Lib.hid hu
 clear hu
 go_enter Tryz.func18, Tryz.ntmps18
 go_wp2_with (first
  | (go_at_call 58; go_must (refine HU.out.mono ?_; rintro e w1 ⟨rfl, rfl⟩)))
 go_ret3
 exact ⟨rfl, rfl⟩
theorem vput_no (tp : Option Addr) (key value : ByteArray) (er : Int) (w : World) (hu : Calls Tryz.prog 58 #[.pointer tp, .string key] w fun e w' => w' = w ∧ e = .returned (.int .i64 er)) (her : er ≠ 0) :
  Calls Tryz.prog 14 #[.pointer tp, .string key, .string value] w fun e w' => w' = w ∧ e = .returned (.int .i64 er) := by
 have hne : (er != 0) = true := by simp [her]
 have HU := Lib.hid hu
 clear hu
 go_enter Tryz.func14, Tryz.ntmps14
 go_wp2_with (first
  | (go_at_call 58; go_must (refine HU.out.mono ?_; rintro e w1 ⟨rfl, rfl⟩)))
 go_ret
 exact ⟨rfl, rfl⟩
theorem vdelete_no (tp : Option Addr) (key : ByteArray) (er : Int) (w : World) (hu : Calls Tryz.prog 58 #[.pointer tp, .string key] w fun e w' => w' = w ∧ e = .returned (.int .i64 er)) (her : er ≠ 0) :
  Calls Tryz.prog 19 #[.pointer tp, .string key] w fun e w' => w' = w ∧ e = .returned (.tuple #[.bool false, .int .i64 er]) := by
 have hne : (er != 0) = true := by simp [her]
 have HU := Lib.hid hu
 clear hu
 go_enter Tryz.func19, Tryz.ntmps19
 go_wp2_with (first
  | (go_at_call 58; go_must (refine HU.out.mono ?_; rintro e w1 ⟨rfl, rfl⟩)))
 go_ret2
 exact ⟨rfl, rfl⟩
theorem vabort_nil (w : World) : Calls Tryz.prog 32 #[.pointer none] w fun e w' => w' = w ∧ e = .returned (.tuple #[]) := by
 go_enter Tryz.func32, Tryz.ntmps32
 go_wp2_with fail
 go_end0
 exact ⟨rfl, rfl⟩
theorem vbegin_nil (w : World) : Calls Tryz.prog 13 #[.pointer none] w fun e w' => w' = w ∧ e = .returned (.tuple #[.pointer none, .int .i64 2]) := by
 go_enter Tryz.func13, Tryz.ntmps13
 go_wp2_with fail
 go_ret2
 exact ⟨rfl, rfl⟩
theorem vsync_nil (w : World) : Calls Tryz.prog 30 #[.pointer none] w fun e w' => w' = w ∧ e = .returned (.int .i64 2) := by
 go_enter Tryz.func30, Tryz.ntmps30
 go_wp2_with fail
 go_ret
 exact ⟨rfl, rfl⟩
theorem vdone_nil (w : World) : Calls Tryz.prog 21 #[.pointer none] w fun e w' => w' = w ∧ e = .returned (.int .i64 0) := by
 go_enter Tryz.func21, Tryz.ntmps21
 go_wp2_with fail
 go_ret
 exact ⟨rfl, rfl⟩
theorem vsynced_nil (w : World) : Calls Tryz.prog 31 #[.pointer none] w fun e w' => w' = w ∧ e = .returned (.int .i64 0) := by
 go_enter Tryz.func31, Tryz.ntmps31
 go_wp2_with fail
 go_ret
 exact ⟨rfl, rfl⟩
theorem vblocks_nil (w : World) : Calls Tryz.prog 24 #[.pointer none] w fun e w' => w' = w ∧ e = .returned (.int .i64 0) := by
 go_enter Tryz.func24, Tryz.ntmps24
 go_wp2_with fail
 go_ret
 exact ⟨rfl, rfl⟩
theorem vvalue_small (tp : Option Addr) (s : ByteArray) (w : World) (hs : s.size ≤ 1000000) (h1 : 1 ≤ s.size) (hl : longL s.data.toList = none) :
  Calls Tryz.prog 68 #[.pointer tp, .string s] w fun e w' => Below w.heap.size w w' ∧ e = .returned (.tuple #[.string (s.extract 1 s.size), .int .i64 0]) := by
 have HL := Lib.hid (vlong s w hs)
 rw [hl] at HL
 have r1 : min (1 : Int) (s.size : Int) = 1 := by omega
 have r2 : (1 : Int) ≤ (s.size : Int) := by omega
 clear hl
 go_enter Tryz.func68, Tryz.ntmps68
 go_wp2_with (first
  | (go_at_call 78; go_must (refine HL.out.mono ?_; rintro e w1 ⟨hb1, rfl⟩)))
 go_ret2
 exact ⟨hb1, rfl⟩
theorem vvalue_long (t : Nat) (mp : VS) (tr : Option Nat) (ch : Bool) (er : Int) (σ : MSt) (S : Nat → Prop) (w : World) (s : ByteArray) (hd : Nat) (l : List UInt8) (rs : List (Nat × Nat)) (h : w.heap[t]? = some (.cells (vtCells mp tr ch er) 118 (0, 0))) (hI : Inv σ S mp w) (hB : BlobAt σ hd l rs) (hs : s.size ≤ 1000000) (hl : longL s.data.toList = some hd) :
  Calls Tryz.prog 68 #[.pointer (some ⟨t, 0, none⟩), .string s] w fun e w' => Below w.heap.size w w' ∧ e = .returned (.tuple #[.string ⟨l.toArray⟩, .int .i64 0]) := by
 have HL := Lib.hid (vlong s w hs)
 rw [hl] at HL
 have HH := Lib.hid h; have HI := Lib.hid hI
 have hlt := (Array.getElem?_eq_some_iff.1 h).1
 clear hl h hI
 go_enter Tryz.func68, Tryz.ntmps68
 go_wp2_with (first
  | (go_at_call 78; go_must (refine HL.out.mono ?_; rintro e w1 ⟨hb1, rfl⟩; refine Stop.of ?_)))
 refine Stop.on ?_
 have h1 := (hb1.block t hlt).trans HH.out
 have hlt1 := Nat.lt_of_lt_of_le hlt hb1.size
 have c0 : w1.cell? ⟨t, 0, none⟩ = some (.pointer (some ⟨mp.tx, 0, none⟩)) := by simp [World.cell?, h1, vtCells]
 have c1 : w1.cell? ⟨t, 1, none⟩ = some (.pointer (some ⟨mp.mp, 0, none⟩)) := by simp [World.cell?, h1, vtCells]
 have HR := Lib.hid (bRead mp σ S w1 hd l rs (HI.out.below hb1) hB)
 clear h1
 go_wp2_with (first
  | (go_at_call 120; go_must (refine HR.out.mono ?_; rintro e w2 ⟨rfl, hb2⟩)))
 go_ret2
 exact ⟨hb1.trans (hb2.mono hb1.size), rfl⟩
def ValAt (σ : MSt) (small v : ByteArray) (vb : List Int) : Prop :=
 (small = strOf (0 :: v.data.toList) ∧ v.size ≤ 63 ∧ vb = []) ∨
 ∃ hd rs, small = strOf [1, UInt8.ofNat hd, UInt8.ofNat (hd / 256)] ∧ (hd < 65536 ∧ 63 < v.size) ∧ BlobAt σ hd v.data.toList rs ∧ vb = blobB hd rs
theorem longL_small (l : List UInt8) : longL (0 :: l) = none := by
 match l with
 | [] => rfl
 | [_] => rfl
 | [_, _] => rfl
 | _ :: _ :: _ :: _ => rfl
theorem longL_long (hd : Nat) (h : hd < 65536) : longL [1, UInt8.ofNat hd, UInt8.ofNat (hd / 256)] = some hd := by
 show some ((UInt8.ofNat hd).toNat + 256 * (UInt8.ofNat (hd / 256)).toNat) = some hd
 rw [UInt8.toNat_ofNat', UInt8.toNat_ofNat']
 congr 1
 omega
theorem small_rest (v : ByteArray) : (strOf (0 :: v.data.toList)).extract 1 (strOf (0 :: v.data.toList)).size = v := by
 have hs : (strOf (0 :: v.data.toList)).size = v.data.toList.length + 1 := by show (0 :: v.data.toList).toArray.size = _; simp
 apply ByteArray.ext
 rw [ByteArray.data_extract]
 apply Array.toList_inj.1
 rw [Array.toList_extract, hs]
 show ((0 :: v.data.toList).drop 1).take (v.data.toList.length + 1 - 1) = v.data.toList
 rw [Nat.add_sub_cancel, List.drop_succ_cons, List.drop_zero]
 exact List.take_length
theorem vvalue (t : Nat) (mp : VS) (tr : Option Nat) (ch : Bool) (er : Int) (σ : MSt) (S : Nat → Prop) (w : World) (small v : ByteArray) (vb : List Int) (h : w.heap[t]? = some (.cells (vtCells mp tr ch er) 118 (0, 0))) (hI : Inv σ S mp w) (hv : ValAt σ small v vb) :
  Calls Tryz.prog 68 #[.pointer (some ⟨t, 0, none⟩), .string small] w fun e w' => Below w.heap.size w w' ∧ e = .returned (.tuple #[.string v, .int .i64 0]) := by
 rcases hv with ⟨rfl, h1, _⟩ | ⟨hd, rs, rfl, h1, h2, _⟩
 ·have hs : (strOf (0 :: v.data.toList)).size = v.size + 1 := by show (0 :: v.data.toList).toArray.size = v.data.size + 1; simp
  have := vvalue_small (some ⟨t, 0, none⟩) (strOf (0 :: v.data.toList)) w (by omega) (by omega) (longL_small _)
  rwa [small_rest] at this
 ·exact vvalue_long t mp tr ch er σ S w _ hd v.data.toList rs h hI h2 (by show [1, UInt8.ofNat hd, UInt8.ofNat (hd / 256)].toArray.size ≤ _; simp) (longL_long hd h1.1)
theorem vget (t tr : Nat) (mp : VS) (root : Int) (ch : Bool) (σ : MSt) (S : Nat → Prop) (w : World) (cs : List Pr) (bs : List Int) (key v : ByteArray) (vb : List Int) (h : w.heap[t]? = some (.cells (vtCells mp (some tr) ch 0) 118 (0, 0))) (hI : Inv σ S mp w) (ht : TreeAt w tr mp root 0) (hT : TrR σ root cs bs) (hl : cs.length ≤ 4090) (hg : 1 ≤ key.size ∧ key.size ≤ 128) (hv : ∀ small, lookP cs key = some small → ValAt σ small v vb) :
  Calls Tryz.prog 18 #[.pointer (some ⟨t, 0, none⟩), .string key] w fun e w' => e = .returned (.tuple #[.string (if (lookP cs key).isSome then v else ByteArray.empty), .bool (lookP cs key).isSome, .int .i64 0]) ∧ Below w.heap.size w w' := by
 have HU := Lib.hid (vusable t mp tr ch 0 key w h)
 have hu : usableL 0 key = 0 := by unfold usableL; rw [if_neg (by simp), if_neg (by omega)]
 rw [hu] at HU
 have HG := Lib.hid (get_tree tr mp root σ S cs bs key w hI ht hT hl hg)
 have c2 : w.cell? ⟨t, 2, none⟩ = some (.pointer (some ⟨tr, 0, none⟩)) := by simp [World.cell?, h, vtCells]
 have hlt := (Array.getElem?_eq_some_iff.1 h).1
 have HH := Lib.hid h; have HI := Lib.hid hI
 clear h hI hu ht
 cases hx : lookP cs key with
 | none =>
  rw [hx] at HG
  clear hv
  go_enter Tryz.func18, Tryz.ntmps18
  go_wp2_with (first
   | (go_at_call 58; go_must (refine HU.out.mono ?_; rintro e w1 ⟨rfl, rfl⟩))
   | (go_at_call 67; go_must (refine HG.out.mono ?_; rintro e w2 ⟨rfl, hb2⟩)))
  go_ret3
  exact ⟨rfl, hb2⟩
 | some small =>
  rw [hx] at HG
  have HV := Lib.hid (hv small hx)
  clear hv
  go_enter Tryz.func18, Tryz.ntmps18
  go_wp2_with (first
   | (go_at_call 58; go_must (refine HU.out.mono ?_; rintro e w1 ⟨rfl, rfl⟩))
   | (go_at_call 67; go_must (refine HG.out.mono ?_; rintro e w2 ⟨rfl, hb2⟩))
   | (go_at_call 68; go_must (refine (vvalue t mp (some tr) ch 0 σ S _ small v vb ((hb2.block t hlt).trans HH.out) (HI.out.below hb2) HV.out).mono ?_; rintro e w3 ⟨hb3, rfl⟩)))
  go_ret3
  exact ⟨rfl, hb2.trans (hb3.mono hb2.size)⟩
theorem vdrop_none (t tr : Nat) (mp : VS) (root : Int) (ch : Bool) (er : Int) (σ : MSt) (S : Nat → Prop) (w : World) (cs : List Pr) (bs : List Int) (key : ByteArray) (h : w.heap[t]? = some (.cells (vtCells mp (some tr) ch er) 118 (0, 0))) (hI : Inv σ S mp w) (ht : TreeAt w tr mp root 0) (hT : TrR σ root cs bs) (hl : cs.length ≤ 4090) (hg : 1 ≤ key.size ∧ key.size ≤ 128) (hv : longL ((lookP cs key).getD ⟨#[]⟩).data.toList = none) (hs : ((lookP cs key).getD ⟨#[]⟩).size ≤ 1000000) :
  Calls Tryz.prog 59 #[.pointer (some ⟨t, 0, none⟩), .string key] w fun e w' => e = .returned (.int .i64 0) ∧ Below w.heap.size w w' := by
 have HG := Lib.hid (get_tree tr mp root σ S cs bs key w hI ht hT hl hg)
 have c2 : w.cell? ⟨t, 2, none⟩ = some (.pointer (some ⟨tr, 0, none⟩)) := by simp [World.cell?, h, vtCells]
 have hlt := (Array.getElem?_eq_some_iff.1 h).1
 obtain ⟨small, hsm⟩ : ∃ s, s = (lookP cs key).getD ⟨#[]⟩ := ⟨_, rfl⟩
 rw [← hsm] at HG hv hs
 have HS := Lib.hid hs
 have HL := Lib.hid hv
 clear h hI ht hv hs hsm
 go_enter Tryz.func59, Tryz.ntmps59
 go_wp2_with (first
  | (go_at_call 67; go_must (refine HG.out.mono ?_; rintro e w2 ⟨rfl, hb2⟩))
  | (go_at_call 78; go_must (refine (vlong small _ HS.out).mono ?_; rw [HL.out]; rintro e w3 ⟨hb3, rfl⟩)))
 go_ret
 exact ⟨rfl, hb2.trans (hb3.mono hb2.size)⟩
theorem vdrop_long (t tr : Nat) (mp : VS) (root : Int) (ch : Bool) (er : Int) (σ : MSt) (S : Nat → Prop) (w : World) (cs : List Pr) (bs : List Int) (key small : ByteArray) (hd : Nat) (l : List UInt8) (rs : List (Nat × Nat)) (h : w.heap[t]? = some (.cells (vtCells mp (some tr) ch er) 118 (0, 0))) (hI : Inv σ S mp w) (ht : TreeAt w tr mp root 0) (hT : TrR σ root cs bs) (hl : cs.length ≤ 4090) (hg : 1 ≤ key.size ∧ key.size ≤ 128) (hx : lookP cs key = some small) (hv : longL small.data.toList = some hd) (hs : small.size ≤ 1000000) (hB : BlobAt σ hd l rs) :
  Calls Tryz.prog 59 #[.pointer (some ⟨t, 0, none⟩), .string key] w fun e w' => e = .returned (.int .i64 0) ∧ Inv (σ.frees (srtI (blobB hd rs))) S mp w' ∧ Step S S w w' := by
 have HG := Lib.hid (get_tree tr mp root σ S cs bs key w hI ht hT hl hg)
 have c2 : w.cell? ⟨t, 2, none⟩ = some (.pointer (some ⟨tr, 0, none⟩)) := by simp [World.cell?, h, vtCells]
 have hlt := (Array.getElem?_eq_some_iff.1 h).1
 have HH := Lib.hid h; have HI := Lib.hid hI
 rw [hx] at HG
 have HS := Lib.hid hs
 have HL := Lib.hid hv
 clear h hI ht hv hs hx
 go_enter Tryz.func59, Tryz.ntmps59
 go_wp2_with (first
  | (go_at_call 67; go_must (refine HG.out.mono ?_; rintro e w2 ⟨rfl, hb2⟩))
  | (go_at_call 78; go_must (refine (vlong small _ HS.out).mono ?_; rw [HL.out]; rintro e w3 ⟨hb3, rfl⟩; refine Stop.of ?_)))
 refine Stop.on ?_
 have hb23 := hb2.trans (hb3.mono hb2.size)
 have h1 := (hb23.block t hlt).trans HH.out
 have hlt1 := Nat.lt_of_lt_of_le hlt hb23.size
 have c0 : w3.cell? ⟨t, 0, none⟩ = some (.pointer (some ⟨mp.tx, 0, none⟩)) := by simp [World.cell?, h1, vtCells]
 have c1 : w3.cell? ⟨t, 1, none⟩ = some (.pointer (some ⟨mp.mp, 0, none⟩)) := by simp [World.cell?, h1, vtCells]
 have HF := Lib.hid (bFree mp σ S w3 hd l rs (HI.out.below hb23) hB)
 clear h1
 go_wp2_with (first
  | (go_at_call 103; go_must (refine HF.out.mono ?_; rintro e w4 ⟨rfl, hI4, hs4⟩)))
 go_ret
 exact ⟨rfl, hI4, (Step.of_below hb23).trans hs4⟩
theorem vabort (t tr : Nat) (mp : VS) (ch : Bool) (er : Int) (σ : MSt) (S : Nat → Prop) (w : World) (h : w.heap[t]? = some (.cells (vtCells mp (some tr) ch er) 118 (0, 0))) (hI : Inv σ S mp w) (hns : ¬ S t) :
  Calls Tryz.prog 32 #[.pointer (some ⟨t, 0, none⟩)] w fun e w' => e = .returned (.tuple #[]) ∧ (∃ Sp, PgAt w' Sp mp.pg mp.d σ.H.dk σ.H.lg σ.H.pg (.pointer none) ∧ ∀ g, Sp g → S g) ∧ w'.heap[t]? = some (.cells (vtCells mp none ch er) 118 (0, 0)) ∧ Keep (fun g => S g ∨ g = t) w w' := by
 obtain ⟨Sp, T, hI, hS⟩ := hI
 have c0 : w.cell? ⟨t, 0, none⟩ = some (.pointer (some ⟨mp.tx, 0, none⟩)) := by simp [World.cell?, h, vtCells]
 have c2 : w.cell? ⟨t, 2, none⟩ = some (.pointer (some ⟨tr, 0, none⟩)) := by simp [World.cell?, h, vtCells]
 have hlt := (Array.getElem?_eq_some_iff.1 h).1
 have HT := Lib.hid (tabort mp.tx mp.pg mp.d _ _ _ _ _ _ Sp T w hI.pg hI.tx hI.dis)
 have HH := Lib.hid h
 have HS := Lib.hid hS
 have hn1 : ¬ Sp t := fun x => hns ((hS t).2 (.inl x))
 have hn2 : ¬ T t := fun x => hns ((hS t).2 (.inr (.inl x)))
 clear h hI hS
 go_enter Tryz.func32, Tryz.ntmps32
 go_wp2_with (first
  | (go_at_call 55; go_must (refine HT.out.mono ?_; rintro e w2 ⟨rfl, hp2, _, hk2⟩; refine Stop.of ?_)))
 refine Stop.on ?_
 have h2 := (hk2.block t hlt (fun e => e.elim hn1 hn2)).trans HH.out
 have hlt2 := (Array.getElem?_eq_some_iff.1 h2).1
 have d2 : w2.cell? ⟨t, 2, none⟩ = some (.pointer (some ⟨tr, 0, none⟩)) := by simp [World.cell?, h2, vtCells]
 have f2 : w2.frozen? ⟨t, 2, none⟩ = false := by simp [World.frozen?, h2]
 have HH2 := Lib.hid h2
 clear h2
 go_wp2_with fail
 go_end0
 have hk3 : Keep (· = t) w2 (w2.setCell ⟨t, 2, none⟩ (.pointer none)) := (Keep.refl (· = t) _).setCell (p := ⟨t, 2, none⟩) (.inr rfl) _
 refine ⟨rfl, ⟨Sp, hp2.keep hk3 (fun g hg e => hn1 (e ▸ hg)), fun g hg => (HS.out g).2 (.inl hg)⟩, ?_, ?_⟩
 ·simp [World.setCell, Array.getElem?_modify, HH2.out]
  rfl
 ·exact (hk2.mono (fun g _ e => .inl ((HS.out g).2 (e.imp id .inl)))).trans (hk3.mono (fun g _ e => .inr e)) (fun _ _ e => e)
theorem vblocks (v pg d : Nat) (σ : Dk) (l : Lg) (p : Pg) (op : Value) (S : Nat → Prop) (w : World) (hv : w.heap[v]? = some (.cells #[.pointer (some ⟨pg, 0, none⟩)] 102 (0, 0))) (h : PgAt w S pg d σ l p op) :
  Calls Tryz.prog 24 #[.pointer (some ⟨v, 0, none⟩)] w fun e w' => e = .returned (.int .i64 (p.blocks σ)) ∧ w' = w.drew := by
 have c0 : w.cell? ⟨v, 0, none⟩ = some (.pointer (some ⟨pg, 0, none⟩)) := by simp [World.cell?, hv]
 have hlt := (Array.getElem?_eq_some_iff.1 hv).1
 have HP := Lib.hid (pblocks pg d σ l p op S w h)
 clear hv h
 go_enter Tryz.func24, Tryz.ntmps24
 go_wp2_with (first
  | (go_at_call 51; go_must (refine HP.out.mono ?_; rintro e w2 ⟨rfl, rfl⟩)))
 go_ret
 exact ⟨rfl, rfl⟩
theorem vdone (v pg d : Nat) (σ : Dk) (l : Lg) (p : Pg) (op : Value) (S : Nat → Prop) (w : World) (hv : w.heap[v]? = some (.cells #[.pointer (some ⟨pg, 0, none⟩)] 102 (0, 0))) (h : PgAt w S pg d σ l p op) (hb : (l.last : Int) ≤ 1000000000000) :
  Calls Tryz.prog 21 #[.pointer (some ⟨v, 0, none⟩)] w fun e w' => e = .returned (.int .i64 ((l.last : Int) - 1)) ∧ w' = w := by
 have c0 : w.cell? ⟨v, 0, none⟩ = some (.pointer (some ⟨pg, 0, none⟩)) := by simp [World.cell?, hv]
 have hlt := (Array.getElem?_eq_some_iff.1 hv).1
 have HP := Lib.hid (pdone pg d σ l p op S w h)
 have q : IntKind.i64.wrap ((l.last : Int) - 1) = (l.last : Int) - 1 := IntWalk.i64_in _ (by omega)
 clear hv h
 go_enter Tryz.func21, Tryz.ntmps21
 go_wp2_with (first
  | (go_at_call 71; go_must (refine HP.out.mono ?_; rintro e w2 ⟨rfl, rfl⟩)))
 go_ret
 exact ⟨rfl, rfl⟩
structure VI (σ : Dk) (l : Lg) (p : Pg) : Prop where
 free : σ.Free
 ld : l.dead = false
 pd : p.dead = false
 wt : σ.waits.length ≤ l.used
theorem Lg.sync_free {σ : Dk} {l : Lg} (h : σ.Free) (hd : l.dead = false) (hf : l.frm < σ.n) : l.sync σ = ((σ.flush.put l.frm l.all.markB).flush, l.all, 0) := by
 unfold Lg.sync
 rw [hd, if_neg (by simp), h.sync]
 dsimp only
 rw [if_pos rfl, Lg.mark_free h.flush l.all hf]
 dsimp only
 rw [if_pos rfl]
 rfl
theorem get_marked (σ : Dk) (f j : Nat) (x : List UInt8) (h : f ≠ j) : ((σ.flush.put f x).flush).get j = σ.get j := by
 rw [Dk.get_flush, Dk.get_put, if_neg h, Dk.get_flush]
theorem Pg.lay_free (p : Pg) : ∀ (r : List Nat) (σ : Dk), σ.Free → (∀ b ∈ r, p.skip + b < σ.n ∧ (p.fresh.img b).length = 512) →
  ∃ σ', p.lay r σ = (σ', 0) ∧ σ'.Free ∧ σ'.n = σ.n ∧ (∀ b, σ'.get (p.skip + b) = if b ∈ r then p.fresh.img b else σ.get (p.skip + b)) ∧ ∀ j, j < p.skip → σ'.get j = σ.get j
 | [], σ, h, _ => ⟨σ, rfl, h, rfl, fun b => by simp, fun _ _ => rfl⟩
 | b :: r, σ, h, hr => by
  obtain ⟨h1, h2⟩ := hr b (List.mem_cons_self ..)
  have hw := h.write (p.skip + b) (p.fresh.img b) h1 (by omega)
  obtain ⟨σ', q1, q2, q3, q4, q5⟩ := Pg.lay_free p r (σ.put (p.skip + b) (p.fresh.img b)) (h.put _ _) (fun c hc => hr c (List.mem_cons_of_mem _ hc))
  refine ⟨σ', ?_, q2, q3, fun c => ?_, fun j hj => ?_⟩
  ·rw [p.lay_cons, hw]
   dsimp only
   rw [if_pos rfl, q1]
  ·rw [q4, Dk.get_put]
   by_cases hc : c ∈ r
   ·rw [if_pos hc, if_pos (List.mem_cons_of_mem _ hc)]
   ·rw [if_neg hc]
    by_cases e : c = b
    ·subst e
     rw [if_pos rfl, if_pos (List.mem_cons_self ..)]
     exact pad_full h2
    ·rw [if_neg (by omega), if_neg (fun x => (List.mem_cons.1 x).elim e hc)]
  ·rw [q5 j hj, Dk.get_put, if_neg (by omega)]
theorem Pg.home_free {σ : Dk} {l : Lg} {p : Pg} (hV : VI σ l p) (hp : p.Ok σ l) :
  ∃ σ', p.home σ l = (σ', l.all.cut l.last, { p with fresh := Im.none }, 0) ∧ σ'.Free ∧ σ'.n = σ.n ∧ σ'.waits = [] ∧ ∀ b, σ'.get (p.skip + b) = (p.fresh.find b).getD (σ.get (p.skip + b)) := by
 have hfit := hp.fit
 have hfrm := hp.frm
 have hskip := hp.skip
 have hring := hp.ring
 have hs := Lg.sync_free hV.free hV.ld (by omega : l.frm < σ.n)
 obtain ⟨σ1, hσ1⟩ : ∃ σ1, σ1 = (σ.flush.put l.frm l.all.markB).flush := ⟨_, rfl⟩
 rw [← hσ1] at hs
 have hF1 : σ1.Free := by rw [hσ1]; exact hV.free
 have hn1 : σ1.n = σ.n := by rw [hσ1]; rfl
 have hg1 : ∀ b, σ1.get (p.skip + b) = σ.get (p.skip + b) := fun b => by rw [hσ1]; exact get_marked _ _ _ _ (by omega)
 obtain ⟨σ2, e2, F2, n2, g2, _⟩ := Pg.lay_free p p.fresh.ks σ1 hF1 (fun b hb => ⟨by have := hp.fresh.hi b hb; omega, hp.fresh.img b hb⟩)
 have hm := Lg.mark_free F2.flush (l.all.cut l.all.last) (by show l.frm < σ2.n; omega)
 have ht : l.all.trim σ2.flush l.all.last = (((σ2.flush).put l.frm (l.all.cut l.all.last).markB).flush, l.all.cut l.all.last, 0) := by
  unfold Lg.trim
  have hd : l.all.dead = false := hV.ld
  rw [hd, if_neg (by simp), if_neg (by show ¬ l.last < l.last; omega), hm]
  dsimp only
  rw [if_pos rfl]
  rfl
 refine ⟨((σ2.flush).put l.frm (l.all.cut l.all.last).markB).flush, ?_, F2, by rw [← hn1, ← n2]; rfl, rfl, fun b => ?_⟩
 ·unfold Pg.home
  rw [hs]
  dsimp only
  rw [if_pos rfl, e2]
  dsimp only
  rw [if_pos rfl, F2.sync]
  dsimp only
  rw [if_pos rfl, ht]
  dsimp only
  rw [if_pos rfl]
  rfl
 ·rw [Dk.get_flush, Dk.get_put, if_neg (by omega), Dk.get_flush, g2, hg1]
  unfold Im.find
  split <;> rfl
theorem Lg.spill_free (l : Lg) (b : List UInt8) (hn : 2 ≤ l.n) : ∀ (k i : Nat) (σ : Dk), σ.Free → l.frm + l.n ≤ σ.n →
  ∃ σ', l.spill b k i σ = (σ', 0) ∧ σ'.Free ∧ σ'.n = σ.n ∧ σ'.waits.length = σ.waits.length + k ∧ ∀ j, l.frm + l.n ≤ j → σ'.get j = σ.get j
 | 0, _, σ, h, _ => ⟨σ, rfl, h, rfl, rfl, fun _ _ => rfl⟩
 | k + 1, i, σ, h, hf => by
  have hr : l.ring (l.start + l.used + i) < l.frm + l.n := by
   unfold Lg.ring
   have := Nat.mod_lt (l.start + l.used + i) (by omega : 0 < l.n - 1)
   omega
  obtain ⟨x, hx⟩ : ∃ x, x = (b.drop (i * 512)).take 512 := ⟨_, rfl⟩
  have hw := h.write (l.ring (l.start + l.used + i)) x (by omega) (by rw [hx, List.length_take]; omega)
  obtain ⟨σ', q1, q2, q3, q4, q5⟩ := Lg.spill_free l b hn k (i + 1) (σ.put (l.ring (l.start + l.used + i)) x) (h.put _ _) hf
  refine ⟨σ', ?_, q2, q3, ?_, fun j hj => ?_⟩
  ·rw [l.spill_succ, ← hx, hw]
   dsimp only
   rw [if_pos rfl, q1]
  ·rw [q4]
   show (σ.waits ++ [_]).length + k = _
   simp; omega
  ·rw [q5 j hj, Dk.get_put, if_neg (by omega)]
theorem Pg.look_none (p : Pg) (σ : Dk) (b : Nat) : p.look Im.none σ b = (p.fresh.find b).getD (σ.get (p.skip + b)) := rfl
theorem Im.over_find (m d : Im) (b : Nat) : (m.over d).find b = if b ∈ d.ks then some (d.img b) else m.find b := by
 unfold Im.find Im.over
 rw [Im.fold_img]
 simp only [Im.fold_ks]
 by_cases h : b ∈ d.ks
 ·simp [h]
 ·simp [h]
theorem Pg.over_look (p : Pg) (d : Im) (σ : Dk) (b : Nat) : ({ p with fresh := p.fresh.over d } : Pg).look Im.none σ b = p.look d σ b := by
 rw [Pg.look_none]
 show ((p.fresh.over d).find b).getD (σ.get (p.skip + b)) = _
 rw [Im.over_find]
 unfold Pg.look
 by_cases h : b ∈ d.ks
 ·have : d.find b = some (d.img b) := if_pos h
  rw [if_pos h, this]; rfl
 ·have : d.find b = none := if_neg h
  rw [if_neg h, this]; rfl
def Pg.over1 (p : Pg) (im : Im) : Prop := p.ring < needOf im.batch ∨ 1024 < im.ks.length
theorem commit_law {σ : Dk} {l : Lg} {p : Pg} {im : Im} (hV : VI σ l p) (hp : p.Ok σ l) (hl : l.Ok) (hi : im.Ok (p.blocks σ)) :
  (im.ks = [] ∧ p.commit σ l im = (σ, l, p, l.last, 0)) ∨
  (im.ks ≠ [] ∧ p.over1 im ∧ p.commit σ l im = (σ, l, p, 0, 13)) ∨
  (im.ks ≠ [] ∧ ¬ p.over1 im ∧ ∃ σ' l' p', p.commit σ l im = (σ', l', p', l.last + 1, 0) ∧ VI σ' l' p' ∧ l'.last = l.last + 1 ∧ p'.skip = p.skip ∧ p'.ring = p.ring ∧ σ'.n = σ.n ∧ ∀ b, p'.look Im.none σ' b = p.look im σ b) := by
 have hfit := hp.fit
 have hfrm := hp.frm
 have hskip := hp.skip
 have hring := hp.ring
 have hn2 := hl.n2
 by_cases hk : im.ks = []
 ·refine .inl ⟨hk, ?_⟩
  unfold Pg.commit
  rw [hV.pd, if_neg (by simp), if_pos hk]
 by_cases ho : p.over1 im
 ·refine .inr (.inl ⟨hk, ho, ?_⟩)
  unfold Pg.commit
  unfold Pg.over1 at ho
  rw [hV.pd, if_neg (by simp), if_neg hk, if_pos ho]
 have ho' : ¬ (p.ring < needOf im.batch ∨ 1024 < im.ks.length) := ho
 refine .inr (.inr ⟨hk, ho, ?_⟩)
 have hk0 : 0 < im.ks.length := List.length_pos_iff.2 hk
 obtain ⟨nd, hnd⟩ : ∃ nd, needOf im.batch = nd := ⟨_, rfl⟩
 rw [hnd] at ho'
 obtain ⟨σ5, l5, p5, hr, V5, F5, hn5, hk5, hrg5, hl5, hf5, hsz5, hroom, hg5⟩ : ∃ σ5 l5 p5, p.ready σ l nd = (σ5, l5, p5, 0) ∧ (l5.dead = false ∧ p5.dead = false ∧ σ5.waits.length ≤ l5.used) ∧ σ5.Free ∧ σ5.n = σ.n ∧ p5.skip = p.skip ∧ p5.ring = p.ring ∧ l5.last = l.last ∧ l5.frm = l.frm ∧ l5.n = l.n ∧ nd ≤ l5.room ∧ ∀ b, p5.look im σ5 b = p.look im σ b := by
  by_cases hrm : l.room < nd
  ·obtain ⟨σ', h1, h2, h3, h4, h5⟩ := Pg.home_free hV hp
   have hz := Pg.home_zero hl (p := p) (σ := σ) (by rw [h1])
   rw [h1] at hz
   refine ⟨σ', l.all.cut l.last, { p with fresh := Im.none }, ?_, ⟨hV.ld, hV.pd, by rw [h4]; exact Nat.zero_le _⟩, h2, h3, rfl, rfl, rfl, rfl, rfl, by have := hz.2.2.2.1; dsimp only at this; omega, fun b => ?_⟩
   ·unfold Pg.ready
    rw [if_pos hrm, h1]
   ·unfold Pg.look
    congr 1
    show σ'.get (p.skip + b) = _
    exact h5 b
  ·refine ⟨σ, l, p, ?_, ⟨hV.ld, hV.pd, hV.wt⟩, hV.free, rfl, rfl, rfl, rfl, rfl, rfl, by omega, fun _ => rfl⟩
   unfold Pg.ready
   rw [if_neg hrm]
 have hbad : l5.bad im.batch = 0 := by
  have := Lg.bad_recs (l := l5) hi V5.1 hk0 (by omega) (by rw [hnd]; exact hroom)
  rwa [recsOf_bs] at this
 obtain ⟨σ6, q1, q2, q3, q4, q5⟩ := Lg.spill_free l5 (batchB (l5.last + 1) im.batch) (by omega) (needOf im.batch) 0 σ5 F5 (by omega)
 have hap : l5.append σ5 im.batch = (σ6, l5.more im.batch, l5.last + 1, 0) := by
  unfold Lg.append
  rw [hbad, if_neg (by simp), q1]
  dsimp only
  rw [if_pos rfl]
 have hc := Pg.commit_eq hV.pd hk hnd (by omega) hr hap
 rw [if_pos rfl] at hc
 refine ⟨σ6, l5.more im.batch, { p5 with fresh := p5.fresh.over im }, ?_, ⟨q2, V5.1, V5.2.1, ?_⟩, ?_, hk5, hrg5, q3.trans hn5, fun b => ?_⟩
 ·rw [hc, hl5]
 ·show _ ≤ l5.used + needOf im.batch
  rw [q4]; have := V5.2.2; omega
 ·show l5.last + 1 = _
  rw [hl5]
 ·rw [Pg.over_look, ← hg5]
  unfold Pg.look
  rw [q5 _ (by omega)]
theorem sync_law {σ : Dk} {l : Lg} {p : Pg} (hV : VI σ l p) (hp : p.Ok σ l) :
  ∃ σ' l', p.sync σ l = (σ', l', p, 0) ∧ VI σ' l' p ∧ l'.last = l.last ∧ l'.synced = l.last ∧ σ'.n = σ.n ∧ ∀ im b, p.look im σ' b = p.look im σ b := by
 have hfit := hp.fit
 have hfrm := hp.frm
 have hskip := hp.skip
 have hring := hp.ring
 unfold Pg.sync
 rw [hV.pd, if_neg (by simp)]
 by_cases h1 : l.synced = l.last ∧ σ.dead = false
 ·rw [if_pos h1]
  exact ⟨σ, l, rfl, hV, rfl, h1.1, rfl, fun _ _ => rfl⟩
 ·rw [if_neg h1, Lg.sync_free hV.free hV.ld (by omega)]
  dsimp only
  rw [if_pos rfl]
  refine ⟨_, _, rfl, ⟨hV.free, hV.ld, hV.pd, Nat.zero_le _⟩, rfl, rfl, rfl, fun im b => ?_⟩
  unfold Pg.look
  rw [get_marked _ _ _ _ (by omega)]
structure Ent where
 k : ByteArray
 s : ByteArray
 v : ByteArray
 b : List Int
def csOf (es : List Ent) : List Pr := es.map fun e => (e.k, e.s)
def kvOf (es : List Ent) : List Pr := es.map fun e => (e.k, e.v)
def bbOf (es : List Ent) : List Int := es.flatMap (·.b)
theorem csOf_append (a b : List Ent) : csOf (a ++ b) = csOf a ++ csOf b := by simp [csOf]
theorem kvOf_append (a b : List Ent) : kvOf (a ++ b) = kvOf a ++ kvOf b := by simp [kvOf]
theorem bbOf_append (a b : List Ent) : bbOf (a ++ b) = bbOf a ++ bbOf b := by simp [bbOf]
theorem bbOf_cons (e : Ent) (b : List Ent) : bbOf (e :: b) = e.b ++ bbOf b := by simp [bbOf]
theorem csOf_length (es : List Ent) : (csOf es).length = es.length := by simp [csOf]
theorem kvOf_length (es : List Ent) : (kvOf es).length = es.length := by simp [kvOf]
def posE (es : List Ent) (key : ByteArray) : Nat := (es.takeWhile fun e => lt e.k key).length
theorem pos_map (f : Ent → Pr) (hf : ∀ e, (f e).1 = e.k) (es : List Ent) (key : ByteArray) : posAt (es.map f) key = posE es key := by
 unfold posAt posE
 rw [List.takeWhile_map, List.length_map]
 congr 2
 funext e
 simp [hf]
theorem ent_at1 (f : Ent → Pr) (hf : ∀ e, (f e).1 = e.k) (es : List Ent) (key : ByteArray) :
  (∀ o, es[posE es key]? = some o → o.k = key → lookP (es.map f) key = some (f o).2 ∧ (∀ x, insP (es.map f) key x = (es.take (posE es key)).map f ++ (key, x) :: (es.drop (posE es key + 1)).map f) ∧ delP (es.map f) key = (es.take (posE es key)).map f ++ (es.drop (posE es key + 1)).map f) ∧
  ((∀ o, es[posE es key]? = some o → o.k ≠ key) → lookP (es.map f) key = none ∧ (∀ x, insP (es.map f) key x = (es.take (posE es key)).map f ++ (key, x) :: (es.drop (posE es key)).map f) ∧ delP (es.map f) key = es.map f) := by
 have hp := pos_map f hf es key
 constructor
 ·intro o ho hk
  obtain ⟨hl, _⟩ := List.getElem?_eq_some_iff.1 ho
  have hat : isAt (es.map f) key = true := by
   unfold isAt
   rw [hp, List.getElem?_map, ho]
   simp [hf, hk]
  refine ⟨?_, fun x => ?_, ?_⟩
  ·unfold lookP
   rw [if_pos hat, hp, List.getElem?_map, ho]; rfl
  ·unfold insP
   rw [if_pos hat, hp, List.set_eq_take_append_cons_drop, if_pos (by rw [List.length_map]; exact hl), List.map_take, List.map_drop]
  ·unfold delP
   rw [if_pos hat, hp, List.map_take, List.map_drop]
 ·intro hno
  have hat : isAt (es.map f) key = false := by
   unfold isAt
   rw [hp, List.getElem?_map]
   cases he : es[posE es key]? with
   | none => rfl
   | some o => simp [hf, hno o he]
  refine ⟨?_, fun x => ?_, ?_⟩
  ·unfold lookP
   rw [if_neg (by rw [hat]; simp)]
  ·unfold insP
   rw [if_neg (by rw [hat]; simp), hp, List.map_take, List.map_drop]
  ·unfold delP
   rw [if_neg (by rw [hat]; simp)]
structure AtKey (es : List Ent) (key : ByteArray) (l o r : List Ent) : Prop where
 eq : es = l ++ o ++ r
 one : o = [] ∨ ∃ e, o = [e] ∧ e.k = key
 ls : lookP (csOf es) key = o.head?.map (·.s)
 lv : lookP (kvOf es) key = o.head?.map (·.v)
 is : ∀ s v b, insP (csOf es) key s = csOf (l ++ ⟨key, s, v, b⟩ :: r)
 iv : ∀ s v b, insP (kvOf es) key v = kvOf (l ++ ⟨key, s, v, b⟩ :: r)
 ds : delP (csOf es) key = csOf (l ++ r)
 dv : delP (kvOf es) key = kvOf (l ++ r)
theorem at_key (es : List Ent) (key : ByteArray) : ∃ l o r, AtKey es key l o r := by
 have hs := ent_at1 (fun e => (e.k, e.s)) (fun _ => rfl) es key
 have hv := ent_at1 (fun e => (e.k, e.v)) (fun _ => rfl) es key
 by_cases h : ∃ o, es[posE es key]? = some o ∧ o.k = key
 ·obtain ⟨o, ho, hk⟩ := h
  obtain ⟨hl, he⟩ := List.getElem?_eq_some_iff.1 ho
  obtain ⟨a1, a2, a3⟩ := hs.1 o ho hk
  obtain ⟨b1, b2, b3⟩ := hv.1 o ho hk
  refine ⟨es.take (posE es key), [o], es.drop (posE es key + 1), ?_, .inr ⟨o, rfl, hk⟩, a1, b1, fun s v b => ?_, fun s v b => ?_, ?_, ?_⟩
  ·rw [← he, List.append_assoc, List.singleton_append, List.getElem_cons_drop, List.take_append_drop]
  ·rw [csOf_append]; exact a2 s
  ·rw [kvOf_append]; exact b2 v
  ·rw [csOf_append]; exact a3
  ·rw [kvOf_append]; exact b3
 ·have hno : ∀ o, es[posE es key]? = some o → o.k ≠ key := fun o ho hk => h ⟨o, ho, hk⟩
  obtain ⟨a1, a2, a3⟩ := hs.2 hno
  obtain ⟨b1, b2, b3⟩ := hv.2 hno
  refine ⟨es.take (posE es key), [], es.drop (posE es key), ?_, .inl rfl, a1, b1, fun s v b => ?_, fun s v b => ?_, ?_, ?_⟩
  ·rw [List.append_nil, List.take_append_drop]
  ·rw [csOf_append]; exact a2 s
  ·rw [kvOf_append]; exact b2 v
  ·rw [List.take_append_drop]; exact a3
  ·rw [List.take_append_drop]; exact b3
theorem HeadAt.keep {σ σ' : MSt} {head size : Nat} {rs : List (Nat × Nat)} (h : HeadAt σ head size rs) (h1 : σ'.hasB head = true) (h2 : σ'.mem head = σ.mem head) : HeadAt σ' head size rs := by
 obtain ⟨a, _, c, d, e, f, g⟩ := h
 exact ⟨a, h1, by rw [h2]; exact c, d, e, f, g⟩
theorem BlobAt.keep {σ σ' : MSt} {head : Nat} {t : List UInt8} {rs : List (Nat × Nat)} (h : BlobAt σ head t rs) (hk : ∀ x ∈ blobB head rs, σ'.hasB x = true ∧ σ'.mem x = σ.mem x) : BlobAt σ' head t rs := by
 have hin : ∀ b ∈ runsB rs ++ [head], ((b : Nat) : Int) ∈ blobB head rs := fun b hb => List.mem_map_of_mem hb
 refine ⟨h.hd.keep (hk _ (hin head (by simp))).1 (hk _ (hin head (by simp))).2, h.nd, fun i hi => ?_⟩
 obtain ⟨a, b, c⟩ := h.blk i hi
 have := hk _ (hin (runsB rs)[i] (List.mem_append_left _ (List.getElem_mem hi)))
 exact ⟨this.1, b, this.2.trans c⟩
theorem ValAt.keep {σ σ' : MSt} {s v : ByteArray} {vb : List Int} (h : ValAt σ s v vb) (hk : ∀ x ∈ vb, σ'.hasB x = true ∧ σ'.mem x = σ.mem x) : ValAt σ' s v vb := by
 rcases h with h | ⟨hd, rs, h1, h2, h3, h4⟩
 ·exact .inl h
 ·exact .inr ⟨hd, rs, h1, h2, h3.keep (fun x hx => hk x (by rw [h4]; exact hx)), h4⟩
theorem ValAt.all {σ : MSt} {s v : ByteArray} {vb : List Int} (h : ValAt σ s v vb) : ∀ x ∈ vb, σ.hasB x = true ∧ 2 ≤ x := by
 rcases h with ⟨_, _, rfl⟩ | ⟨hd, rs, _, _, h3, rfl⟩
 ·intro x hx; cases hx
 ·exact h3.all
theorem RowL.twos {T : ByteArray → Option ByteArray → Int → List Pr → List Int → Prop} (hT : ∀ k z b c x, T k z b c x → ∀ y ∈ x, 2 ≤ y) {hi : Option ByteArray} {l : List (ByteArray × Int)} {cs : List Pr} {bs : List Int} (h : RowL T hi l cs bs) : ∀ y ∈ bs, 2 ≤ y := RowL.has hT h
theorem TrM.two {σ : MSt} : ∀ {h m : Nat} {lo : ByteArray} {hi : Option ByteArray} {b : Int} {cs : List Pr} {bs : List Int}, TrM σ h m lo hi b cs bs → ∀ x ∈ bs, 2 ≤ x
 | 0, _, _, _, _, _, _, ⟨nd, h1, _, _, _, _, _, _, h8⟩ => by
  intro x hx
  rw [h8] at hx
  rw [List.mem_singleton.1 hx]
  exact h1.lo
 | h + 1, _, _, _, _, _, _, ⟨nd, bs', h1, _, _, _, h5, h6⟩ => by
  subst h5
  intro x hx
  rcases List.mem_cons.1 hx with rfl | hx
  ·exact h1.lo
  ·exact RowL.twos (fun _ _ _ _ _ ht => TrM.two ht) h6 x hx
theorem TrR.two {σ : MSt} {root : Int} {cs : List Pr} {bs : List Int} (h : TrR σ root cs bs) : ∀ x ∈ bs, 2 ≤ x := by
 rcases h with ⟨_, _, rfl⟩ | ⟨h, ht⟩
 ·intro x hx; cases hx
 ·exact ht.two
structure Own (σ : MSt) (bs : List Int) : Prop where
 nd : bs.Nodup
 ex : ∀ x, σ.hasB x = true → x = 0 ∨ x = 1 ∨ x ∈ bs
 size : σ.sz = countB σ.H.old σ.most + nh σ bs
theorem Own.chg {σ σ' : MSt} {us bs : List Int} (h : Own σ us) (hc : Chg σ σ' us bs) : Own σ' bs := by
 refine ⟨hc.nd h.nd, fun x hx => ?_, ?_⟩
 ·rcases hc.ex x hx with y | ⟨y, z⟩
  ·exact .inr (.inr y)
  ·exact (h.ex x y).imp id (fun e => e.imp id (fun e => absurd e z))
 ·have a := hc.size
  have b := h.size
  rw [hc.H, hc.most, nh_eq hc.H]
  omega
theorem Own.perm {σ : MSt} {us bs : List Int} (h : Own σ us) (hp : us.Perm bs) : Own σ bs :=
 ⟨hp.nodup_iff.1 h.nd, fun x hx => (h.ex x hx).imp id (fun e => e.imp id hp.mem_iff.1), by rw [← nh_perm hp]; exact h.size⟩
structure Live (σ : MSt) (root : Int) (es : List Ent) (tb : List Int) : Prop where
 tree : TrR σ root (csOf es) tb
 val : ∀ e ∈ es, ValAt σ e.s e.v e.b
 own : Own σ (tb ++ bbOf es)
theorem Live.bb {σ : MSt} {root : Int} {es : List Ent} {tb : List Int} (h : Live σ root es tb) : ∀ x ∈ bbOf es, σ.hasB x = true ∧ 2 ≤ x := by
 intro x hx
 obtain ⟨e, he, hx⟩ := List.mem_flatMap.1 hx
 exact (h.val e he).all x hx
theorem Live.all {σ : MSt} {root : Int} {es : List Ent} {tb : List Int} (h : Live σ root es tb) : ∀ x ∈ tb ++ bbOf es, σ.hasB x = true ∧ 2 ≤ x := by
 intro x hx
 rcases List.mem_append.1 hx with hx | hx
 ·exact ⟨h.tree.has x hx, h.tree.two x hx⟩
 ·exact h.bb x hx
theorem nodup_off {a b : List Int} (h : (a ++ b).Nodup) : ∀ x ∈ b, x ∉ a := fun x hx ha => (List.nodup_append.1 h).2.2 x ha x hx rfl
theorem live_put {σ σ1 σ2 σ3 : MSt} {root root' : Int} {es l o r : List Ent} {tb nb : List Int} {key s v : ByteArray} (hL : Live σ root es tb) (hA : AtKey es key l o r) (h1 : Chg σ σ1 (bbOf o) []) (h2 : Chg σ1 σ2 [] nb) (hv : ValAt σ2 s v nb) {n : Nat} (h3 : TreeTo σ2 tb (insP (csOf es) key s) n σ3 root') :
  ∃ tb', Live σ3 root' (l ++ ⟨key, s, v, nb⟩ :: r) tb' ∧ Chg σ σ3 (tb ++ bbOf es) (tb' ++ bbOf (l ++ ⟨key, s, v, nb⟩ :: r)) := by
 obtain ⟨tb', ht, h3, _⟩ := h3
 have hall := hL.all
 have hn := hL.own.nd
 have hes := hA.eq
 have hbb : bbOf es = bbOf l ++ bbOf o ++ bbOf r := by rw [hes, bbOf_append, bbOf_append]
 obtain ⟨R, hR⟩ : ∃ R, R = tb ++ bbOf l ++ bbOf r := ⟨_, rfl⟩
 have hp1 : (tb ++ bbOf es).Perm (bbOf o ++ R) := by
  rw [hbb, hR]
  have : (tb ++ (bbOf l ++ bbOf o ++ bbOf r)).Perm (tb ++ (bbOf o ++ bbOf l ++ bbOf r)) := ((List.perm_append_comm).append_right _).append_left _
  refine this.trans ?_
  have e1 : tb ++ (bbOf o ++ bbOf l ++ bbOf r) = tb ++ bbOf o ++ (bbOf l ++ bbOf r) := by simp
  have e2 : bbOf o ++ (tb ++ bbOf l ++ bbOf r) = bbOf o ++ tb ++ (bbOf l ++ bbOf r) := by simp
  rw [e1, e2]
  exact List.perm_append_comm.append_right _
 have hn1 := hp1.nodup_iff.1 hn
 have hRa : ∀ x ∈ R, σ.hasB x = true := fun x hx => (hall x (hp1.mem_iff.2 (List.mem_append_right _ hx))).1
 have c1 := h1.left (rs := R) hn1 hRa
 have hR1 : ∀ x ∈ R, σ1.hasB x = true := fun x hx => (c1.new x hx).1
 have c2 := h2.left (rs := R) (c1.nd hn1) hR1
 have hn2 := c2.nd (c1.nd hn1)
 have hp3 : (nb ++ R).Perm (tb ++ (nb ++ bbOf l ++ bbOf r)) := by
  rw [hR]
  have e1 : nb ++ (tb ++ bbOf l ++ bbOf r) = nb ++ tb ++ (bbOf l ++ bbOf r) := by simp
  have e2 : tb ++ (nb ++ bbOf l ++ bbOf r) = tb ++ nb ++ (bbOf l ++ bbOf r) := by simp
  rw [e1, e2]
  exact List.perm_append_comm.append_right _
 have hn3 := hp3.nodup_iff.1 hn2
 have hS2 : ∀ x ∈ nb ++ R, σ2.hasB x = true := fun x hx => (c2.new x hx).1
 have c3 := h3.left (rs := nb ++ bbOf l ++ bbOf r) hn3 (fun x hx => hS2 x (hp3.mem_iff.2 (List.mem_append_right _ hx)))
 have hbb' : bbOf (l ++ ⟨key, s, v, nb⟩ :: r) = bbOf l ++ (nb ++ bbOf r) := by rw [bbOf_append, bbOf_cons]
 have hp4 : (tb' ++ (nb ++ bbOf l ++ bbOf r)).Perm (tb' ++ bbOf (l ++ ⟨key, s, v, nb⟩ :: r)) := by
  rw [hbb', ← List.append_assoc (bbOf l)]
  exact (List.perm_append_comm.append_right _).append_left _
 have C : Chg σ σ3 (tb ++ bbOf es) (tb' ++ bbOf (l ++ ⟨key, s, v, nb⟩ :: r)) := by
  have a : Chg σ σ2 (tb ++ bbOf es) (tb ++ (nb ++ bbOf l ++ bbOf r)) := (c1.trans c2).perm hp1.symm hp3
  exact (a.trans c3).perm (List.Perm.refl _) hp4
 refine ⟨tb', ⟨?_, fun e he => ?_, hL.own.chg C⟩, C⟩
 ·rw [← hA.is s v nb]; exact ht
 ·have hoff : ∀ x ∈ nb ++ bbOf l ++ bbOf r, x ∉ tb := nodup_off hn3
  rcases List.mem_append.1 he with he | he
  ·have hin : ∀ x ∈ e.b, x ∈ bbOf l := fun x hx => List.mem_flatMap.2 ⟨e, he, hx⟩
   refine (hL.val e (by rw [hes]; exact List.mem_append_left _ (List.mem_append_left _ he))).keep fun x hx => ?_
   have hxR : x ∈ R := by rw [hR]; exact List.mem_append_left _ (List.mem_append_right _ (hin x hx))
   have f1 := h1.frame x (hRa x hxR) (.inl (nodup_off hn1 x hxR))
   have f2 := h2.frame x f1.1 (.inl (by simp))
   have f3 := h3.frame x f2.1 (.inl (hoff x (List.mem_append_left _ (List.mem_append_right _ (hin x hx)))))
   exact ⟨f3.1, f3.2.trans (f2.2.trans f1.2)⟩
  ·rcases List.mem_cons.1 he with rfl | he
   ·exact hv.keep fun x hx => h3.frame x (hS2 x (List.mem_append_left _ hx)) (.inl (hoff x (List.mem_append_left _ (List.mem_append_left _ hx))))
   ·have hin : ∀ x ∈ e.b, x ∈ bbOf r := fun x hx => List.mem_flatMap.2 ⟨e, he, hx⟩
    refine (hL.val e (by rw [hes]; exact List.mem_append_right _ he)).keep fun x hx => ?_
    have hxR : x ∈ R := by rw [hR]; exact List.mem_append_right _ (hin x hx)
    have f1 := h1.frame x (hRa x hxR) (.inl (nodup_off hn1 x hxR))
    have f2 := h2.frame x f1.1 (.inl (by simp))
    have f3 := h3.frame x f2.1 (.inl (hoff x (List.mem_append_right _ (hin x hx))))
    exact ⟨f3.1, f3.2.trans (f2.2.trans f1.2)⟩
theorem countB_mem : ∀ (n : Nat) (f : Nat → Bool) (L : List Nat), L.Nodup → (∀ x, x ∈ L ↔ x < n ∧ f x = true) → countB f n = L.length
 | 0, f, L, _, h => by
  cases L with
  | nil => rfl
  | cons a L => exact absurd ((h a).1 (List.mem_cons_self ..)).1 (Nat.not_lt_zero _)
 | n + 1, f, L, hn, h => by
  rw [countB_succ]
  by_cases hf : f n = true
  ·have hm : n ∈ L := (h n).2 ⟨Nat.lt_succ_self n, hf⟩
   have ih := countB_mem n f (L.erase n) (hn.erase n) (fun x => by
    rw [hn.mem_erase_iff, h]
    constructor
    ·rintro ⟨a, b, c⟩; exact ⟨by omega, c⟩
    ·rintro ⟨a, b⟩; exact ⟨by omega, by omega, b⟩)
   rw [ih, hf, List.length_erase_of_mem hm]
   have := List.length_pos_of_mem hm
   simp; omega
  ·have hf' : f n = false := by simpa using hf
   have ih := countB_mem n f L hn (fun x => by
    rw [h]
    constructor
    ·rintro ⟨a, b⟩
     exact ⟨by have : x ≠ n := fun e => hf (e ▸ b); omega, b⟩
    ·rintro ⟨a, b⟩; exact ⟨by omega, b⟩)
   rw [ih, hf']; rfl
theorem Own.count {σ : MSt} {bs : List Int} (h : Own σ bs) (hok : σ.Ok) (hb : ∀ x ∈ bs, σ.hasB x = true ∧ 2 ≤ x) : countB σ.now σ.most = 2 + bs.length := by
 obtain ⟨L, hL⟩ : ∃ L : List Nat, L = bs.map Int.toNat := ⟨_, rfl⟩
 have h2 := hok.two
 have hin : ∀ x ∈ L, 2 ≤ x ∧ x < σ.most ∧ σ.now x = true := by
  intro x hx
  rw [hL] at hx
  obtain ⟨y, hy, rfl⟩ := List.mem_map.1 hx
  obtain ⟨n, e, a, b⟩ := MSt.hasB_nat (hb y hy).1
  have := (hb y hy).2
  rw [e, Int.toNat_natCast]
  exact ⟨by omega, a, b⟩
 have hnd : L.Nodup := by
  rw [hL]
  refine List.Pairwise.map _ (R := fun a b => a ≠ b ∧ 2 ≤ a ∧ 2 ≤ b) (fun a b (hab : a ≠ b ∧ 2 ≤ a ∧ 2 ≤ b) e => hab.1 (by omega)) ?_
  have := h.nd
  exact List.Pairwise.imp_of_mem (fun ha hb' hab => ⟨hab, (hb _ ha).2, (hb _ hb').2⟩) this
 rw [countB_mem σ.most σ.now (0 :: 1 :: L) ?_ fun x => ?_]
 ·rw [hL]; simp; omega
 ·refine List.nodup_cons.2 ⟨fun e => ?_, List.nodup_cons.2 ⟨fun e => ?_, hnd⟩⟩
  ·rcases List.mem_cons.1 e with e | e
   ·cases e
   ·have := (hin 0 e).1; omega
  ·have := (hin 1 e).1; omega
 ·constructor
  ·intro hx
   rcases List.mem_cons.1 hx with rfl | hx
   ·exact ⟨by omega, hok.n0⟩
   ·rcases List.mem_cons.1 hx with rfl | hx
    ·exact ⟨by omega, hok.n1⟩
    ·exact (hin x hx).2
  ·rintro ⟨a, b⟩
   have hh : σ.hasB (x : Int) = true := by unfold MSt.hasB; rw [Int.toNat_natCast, b]; simp [a]
   rcases h.ex x hh with e | e | e
   ·have : x = 0 := by omega
    subst this; exact List.mem_cons_self ..
   ·have : x = 1 := by omega
    subst this; exact List.mem_cons_of_mem _ (List.mem_cons_self ..)
   ·refine List.mem_cons_of_mem _ (List.mem_cons_of_mem _ ?_)
    rw [hL]
    exact List.mem_map.2 ⟨x, e, by simp⟩
end Go.Proofs.YtfgpefcphnpabaaGreat
