/- parts -/
import Derived.Test.YtfgpefcphnpabaaGreatJ21
namespace Go.Proofs.YtfgpefcphnpabaaGreat
open Go.RowKit
set_option maxRecDepth 100000
set_option maxHeartbeats 8000000
theorem tabort_end (t : Nat) (w : World) (h : TxEnd w t) :
  Calls Tryz.prog 55 #[.pointer (some ⟨t, 0, none⟩)] w fun e w' => e = .returned (.tuple #[]) ∧ w' = w := by
 obtain ⟨db, h⟩ := h
 have c0 : w.cell? ⟨t, 0, none⟩ = some (.pointer none) := by simp [World.cell?, h]
 have hlt := (Array.getElem?_eq_some_iff.1 h).1
 clear h
 go_enter Tryz.func55, Tryz.ntmps55
 go_wp2_with fail
 go_end0
 exact ⟨rfl, rfl⟩
theorem bt_open (mp : VS) (root : Int) (w : World) (hr : 0 ≤ root) :
  Calls Tryz.prog 57 #[.iface 113 mp.agg, .int .i64 root] w fun e w' => e = .returned (.pointer (some ⟨w.heap.size, 0, none⟩)) ∧ TreeAt w' w.heap.size mp root 0 ∧ w'.heap.size = w.heap.size + 1 ∧ Below w.heap.size w w' := by
 have hr2 : ¬ root < 0 := by omega
 have heq : ∀ w : World, (binOp BinOp.eql 171 (.iface 113 mp.agg) .nilIface).run Tryz.prog w = .ok (.bool false) w := fun _ => by kernel_rfl
 go_enter Tryz.func57, Tryz.ntmps57
 go_wp2_with fail
 go_ret
 exact ⟨rfl, heap_alloc_new _ _, by simp, below_one _ _⟩
theorem bt_root (t : Nat) (mp : VS) (root err : Int) (w : World) (h : TreeAt w t mp root err) :
  Calls Tryz.prog 63 #[.pointer (some ⟨t, 0, none⟩)] w fun e w' => e = .returned (.int .i64 root) ∧ w' = w := by
 obtain ⟨_, c1, _, _, _, _, hlt⟩ := cells3 h
 go_enter Tryz.func63, Tryz.ntmps63
 go_wp2
 go_ret
 exact ⟨rfl, rfl⟩
def RootAt (l : List UInt8) (root : Nat) : Prop := root < 65536 ∧ ∃ rest, l = [UInt8.ofNat root, UInt8.ofNat (root / 256)] ++ rest
def MSt.start (σ : Dk) (l : Lg) (p : Pg) (f : Nat → Bool) : MSt := ⟨⟨σ, l, p, f⟩, p.blocks σ, Im.none, f, countB f (p.blocks σ)⟩
theorem MSt.Ok.start {σ : Dk} {l : Lg} {p : Pg} {f : Nat → Bool} (hp : p.Ok σ l) (hs : σ.Ok) (hd : p.dead = false) (hsd : σ.dead = false) (h2 : 2 ≤ p.blocks σ) (hhi : ∀ b, p.blocks σ ≤ b → f b = false) (h0 : f 0 = true) (h1 : f 1 = true) : (MSt.start σ l p f).Ok := by
 refine ⟨hd, hsd, rfl, h2, ?_, hhi, hhi, h0, h1, (fun b hb => by cases hb), (fun b _ hn ho => ?_), ?_, fun b _ => ?_⟩
 ·have := hs.hi
  show p.blocks σ ≤ 4096
  unfold Pg.blocks; omega
 ·have hn' : f b = true := hn
  have ho' : f b = false := ho
  rw [hn'] at ho'; cases ho'
 ·show countB (fun x => f x || f x) (p.blocks σ) ≤ countB f (p.blocks σ)
  exact countB_mono _ (fun x _ hx => by simpa using hx)
 ·show (p.look Im.none σ b).length = 512
  rw [Pg.look_none]
  unfold Im.find
  split
  ·exact hp.fresh.img _ ‹_›
  ·exact hs.get _
def BeginPost (pg d : Nat) (σ : Dk) (l : Lg) (p : Pg) (f : Nat → Bool) (root : Nat) (S : Nat → Prop) (w : World) (e : Ending) (w' : World) : Prop :=
 ∃ t tr mp S', e = .returned (.tuple #[.pointer (some ⟨t, 0, none⟩), .int .i64 0]) ∧ mp.pg = pg ∧ mp.d = d ∧ w'.heap[t]? = some (.cells (vtCells mp (some tr) false 0) 118 (0, 0)) ∧ TreeAt w' tr mp root 0 ∧ Inv (MSt.start σ l p f) S' mp w' ∧ Step S S' w w' ∧ ¬ S' t ∧ ¬ S' tr ∧ w.heap.size ≤ t ∧ w.heap.size ≤ tr
theorem vbegin (v pg d : Nat) (σ : Dk) (l : Lg) (p : Pg) (f : Nat → Bool) (root : Nat) (S : Nat → Prop) (w : World) (hv : w.heap[v]? = some (.cells #[.pointer (some ⟨pg, 0, none⟩)] 102 (0, 0))) (hvS : ¬ S v) (h : PgAt w S pg d σ l p (.pointer none)) (hd : p.dead = false) (hsd : σ.dead = false) (h2 : 2 ≤ p.blocks σ) (hf : p.look Im.none σ 0 = bytesOf f) (hhi : ∀ b, p.blocks σ ≤ b → f b = false) (h0 : f 0 = true) (h1 : f 1 = true) (hr : RootAt (p.look Im.none σ 1) root) :
  Calls Tryz.prog 13 #[.pointer (some ⟨v, 0, none⟩)] w (BeginPost pg d σ l p f root S w) := by
 have hok := MSt.Ok.start h.ok.1 h.ok.2.1 hd hsd h2 hhi h0 h1
 have c0 : w.cell? ⟨v, 0, none⟩ = some (.pointer (some ⟨pg, 0, none⟩)) := by simp [World.cell?, hv]
 have hlt := (Array.getElem?_eq_some_iff.1 hv).1
 have HB := Lib.hid (pbegin pg d σ l p S w h hd)
 have HV := Lib.hid hv; have HOK := Lib.hid hok
 have hsub := h.sub
 obtain ⟨hr1, rest, hr2⟩ := hr
 have HF := Lib.hid (And.intro hf (And.intro hhi (And.intro h0 h1)))
 have HR2 := Lib.hid hr2
 clear hv h hok hf hhi h0 h1 hr2
 go_enter Tryz.func13, Tryz.ntmps13
 go_wp2_with (first
  | (go_at_call 49; go_must (refine HB.out.mono ?_; rintro e w1 ⟨tx, T, rfl, hp1, htx1, hs1, hT1⟩; refine Stop.of ?_)))
 refine Stop.on ?_
 have hdis : ∀ g, S g → ¬ T g := fun g hg e => absurd (hT1 g e) (Nat.not_le.2 (hsub g hg))
 have hv1 := (hs1.1.block v hlt hvS).trans HV.out
 have d0 : w1.cell? ⟨v, 0, none⟩ = some (.pointer (some ⟨pg, 0, none⟩)) := by simp [World.cell?, hv1]
 have hl1 := (Array.getElem?_eq_some_iff.1 hv1).1
 have HBK := Lib.hid (pblocks pg d σ l p _ S w1 hp1)
 have HLD := Lib.hid (spload tx pg d σ l p _ Im.none S T f w1.drew (hp1.below ((Below.refl _ w1).drew)) (htx1.below ((Below.refl _ w1).drew)) hd hsd h2 HF.out.1 HF.out.2.1 HF.out.2.2.1 HF.out.2.2.2)
 have HP1 := Lib.hid (And.intro hp1 (And.intro htx1 hs1))
 clear hv1 hp1 htx1 hs1
 go_wp2_with (first
  | (go_at_call 51; go_must (refine HBK.out.mono ?_; rintro e w2 ⟨rfl, hw2⟩; subst w2))
  | (go_at_call 54; go_must (refine HLD.out.mono ?_; rintro e w2 ⟨mp, rfl, hmp2, hmlo, hb2⟩; refine Stop.of ?_)))
 refine Stop.on ?_
 have hb12 : Below w1.heap.size w1 w2 := ((Below.refl _ w1).drew).trans hb2
 have hp2 := HP1.out.1.below hb12
 have htx2 := HP1.out.2.1.below hb12
 have HRD := tread tx pg d σ l p _ Im.none S T 1 w2 hp2 htx2 hd hsd (by omega)
 rw [HR2.out] at HRD
 have HRD := Lib.hid HRD
 go_wp2_with (first
  | (go_at_call 56; go_must (refine HRD.out.mono ?_; rintro e w3 ⟨rv, rfl, hrv3, hro3, hb3⟩; refine Stop.of ?_)))
 refine Stop.on ?_
 obtain ⟨ro, rc, rfl, r1, r2, r3, r4⟩ := IsSl.form hrv3
 have hbt := UInt8.toNat_lt (UInt8.ofNat root)
 have hbt2 := UInt8.toNat_lt (UInt8.ofNat (root / 256))
 have e1 : (UInt8.ofNat root).toNat = root % 256 := by rw [UInt8.toNat_ofNat']
 have e2 : (UInt8.ofNat (root / 256)).toNat = root / 256 := by rw [UInt8.toNat_ofNat']; omega
 obtain ⟨pb, po, rfl, e30⟩ := hrv3.at1 rfl 0 (.int .u8 ((root % 256 : Nat) : Int)) (by simp [bCells, e1])
 obtain ⟨pb', po', e', e31⟩ := hrv3.at1 rfl 1 (.int .u8 ((root / 256 : Nat) : Int)) (by simp [bCells, e2])
 cases e'
 have hpb := World.block_lt_of_cell? w3 _ e30
 obtain ⟨lo, hlo⟩ : ∃ n : Nat, n = root % 256 := ⟨_, rfl⟩
 obtain ⟨hi, hhi⟩ : ∃ n : Nat, n = root / 256 := ⟨_, rfl⟩
 rw [← hlo] at e30
 rw [← hhi] at e31
 have hlo2 : lo < 256 := by omega
 have hhi2 : hi < 256 := by omega
 have hroot : root = lo + 256 * hi := by omega
 have q1 : IntKind.i64.wrap (lo : Int) = (lo : Int) := IntWalk.i64_in _ (by omega)
 have q2 : IntKind.i64.wrap (hi : Int) = (hi : Int) := IntWalk.i64_in _ (by omega)
 have p1 : IntKind.i64.wrap ((hi : Int) * 256) = ((256 * hi : Nat) : Int) := by rw [IntWalk.i64_in _ (by omega)]; omega
 have o1 := or_above lo hi 256 root 8 rfl hlo2 hroot (by omega)
 have HRT := Lib.hid hroot
 obtain ⟨m1, hm1⟩ : ∃ m : Nat, Hid (256 * hi = m) := ⟨_, Lib.hid rfl⟩
 rw [hm1.out] at p1 o1
 have HP3 := Lib.hid (And.intro (hp2.below hb3) (And.intro (htx2.below hb3) (hb12.trans (hb3.mono hb12.size))))
 have hmp3 := Lib.hid ((hb3.block mp (Array.getElem?_eq_some_iff.1 hmp2).1).trans hmp2)
 clear hrv3 hro3 e1 e2 hbt hbt2 hlo hhi hroot hp2 htx2 hmp2
 go_upto_region 15 with (fail)
 have hb4 := below_one w3 (.cells #[.pointer (some ⟨tx, 0, none⟩), .pointer (some ⟨mp, 0, none⟩)] 113)
 have h4 := heap_alloc_new w3 (.cells #[.pointer (some ⟨tx, 0, none⟩), .pointer (some ⟨mp, 0, none⟩)] 113)
 obtain ⟨sb, hsb⟩ : ∃ sb, Hid (w3.heap.size = sb) := ⟨_, Lib.hid rfl⟩
 obtain ⟨w4, hw4⟩ : ∃ w4, Hid (w3.alloc (.cells #[.pointer (some ⟨tx, 0, none⟩), .pointer (some ⟨mp, 0, none⟩)] 113) = w4) := ⟨_, Lib.hid rfl⟩
 rw [hw4.out] at hb4 h4 ⊢
 rw [hsb.out] at h4 ⊢
 have HCL := Lib.hid (show ∀ W : World, Below w4.heap.size w4 W → (W.cell? ⟨sb, 0, none⟩ = some (.pointer (some ⟨tx, 0, none⟩)) ∧ W.cell? ⟨sb, 1, none⟩ = some (.pointer (some ⟨mp, 0, none⟩)) ∧ W.cell? ⟨pb, po, none⟩ = some (.int .u8 (lo : Int)) ∧ W.cell? ⟨pb, po + 1, none⟩ = some (.int .u8 (hi : Int)) ∧ sb < W.heap.size ∧ pb < W.heap.size) from fun W hW => by
  have hl := (Array.getElem?_eq_some_iff.1 h4).1
  have hl3 := Nat.lt_of_lt_of_le hpb hb4.size
  have h5 := (hW.block sb hl).trans h4
  exact ⟨by simp [World.cell?, h5], by simp [World.cell?, h5], (hW.cell (p := ⟨pb, po, none⟩) hl3).trans ((hb4.cell (p := ⟨pb, po, none⟩) hpb).trans e30), (hW.cell (p := ⟨pb, po + 1, none⟩) hl3).trans ((hb4.cell (p := ⟨pb, po + 1, none⟩) hpb).trans e31), Nat.lt_of_lt_of_le hl hW.size, Nat.lt_of_lt_of_le hl3 hW.size⟩)
 have HB4 := Lib.hid hb4
 clear e30 e31 h4 hb4
 refine wp_region_ord (fun W => W.cell? ⟨sb, 0, none⟩ = some (.pointer (some ⟨tx, 0, none⟩)) ∧ W.cell? ⟨sb, 1, none⟩ = some (.pointer (some ⟨mp, 0, none⟩)) ∧ W.cell? ⟨pb, po, none⟩ = some (.int .u8 (lo : Int)) ∧ W.cell? ⟨pb, po + 1, none⟩ = some (.int .u8 (hi : Int)) ∧ sb < W.heap.size ∧ pb < W.heap.size) (fun i => !([13, 15].contains i)) [0, 1, 2, 3, 4, 5, 6, 7, 8, 9, 10, 11, 12, 13, 14, 15, 16, 17] rfl (by kernel_rfl) (HCL.out _ ((Below.refl _ w4).drew)) ?_
 repeat ((refine ord_q (v := ?_) rfl rfl (fun _ _ _ h => h) rfl (fun W hW => ?_) ?_); rotate_left; (focus ((try dsimp only at hW); obtain ⟨a0, a1, a2, a3, a4, a5⟩ := hW; (go_simp; first | done | with_reducible rfl))); (try simp only [Act.put, List.setIfInBounds_toArray, List.set_cons_zero, List.set_cons_succ]))
 obtain ⟨ms, hms⟩ : ∃ ms : VS, ms = ⟨tx, pg, d, mp⟩ := ⟨_, rfl⟩
 have HBO := Lib.hid (bt_open ms (root : Int) w4.drew (by omega))
 rw [hms] at HBO
 refine ord_e rfl rfl rfl ?_; intro K hK; go_simp
 refine HBO.out.mono ?_; rintro e w5 ⟨rfl, htr5, -, hb5⟩
 have hb45 : Below w4.heap.size w4 w5 := ((Below.refl _ w4).drew).trans hb5
 refine hK.out _ _ (HCL.out _ hb45) ?_
 (try simp only [Act.put, List.setIfInBounds_toArray, List.set_cons_zero, List.set_cons_succ])
 repeat ((refine ord_q (v := ?_) rfl rfl (fun _ _ _ h => h) rfl (fun W hW => ?_) ?_); rotate_left; (focus ((try dsimp only at hW); obtain ⟨a0, a1, a2, a3, a4, a5⟩ := hW; (go_simp; first | done | with_reducible rfl))); (try simp only [Act.put, List.setIfInBounds_toArray, List.set_cons_zero, List.set_cons_succ]))
 refine ord_e rfl rfl rfl ?_; intro K hK; go_simp
 have hb6 := below_one w5 (.cells #[.pointer (some ⟨tx, 0, none⟩), .pointer (some ⟨mp, 0, none⟩), .pointer (some ⟨w4.heap.size, 0, none⟩), .bool false, .int .i64 0] 118)
 have h6 := heap_alloc_new w5 (.cells #[.pointer (some ⟨tx, 0, none⟩), .pointer (some ⟨mp, 0, none⟩), .pointer (some ⟨w4.heap.size, 0, none⟩), .bool false, .int .i64 0] 118)
 have hb46 := hb45.trans (hb6.mono hb45.size)
 refine hK.out _ _ (HCL.out _ hb46) ?_
 (try simp only [Act.put, List.setIfInBounds_toArray, List.set_cons_zero, List.set_cons_succ])
 repeat ((refine ord_q (v := ?_) rfl rfl (fun _ _ _ h => h) rfl (fun W hW => ?_) ?_); rotate_left; (focus ((try dsimp only at hW); obtain ⟨a0, a1, a2, a3, a4, a5⟩ := hW; (go_simp; first | done | with_reducible rfl))); (try simp only [Act.put, List.setIfInBounds_toArray, List.set_cons_zero, List.set_cons_succ]))
 refine ord_nil ?_
 go_wp2_with fail
 go_ret2
 have hb36 := HB4.out.trans (hb46.mono HB4.out.size)
 have hmpl := (Array.getElem?_eq_some_iff.1 hmp3.out).1
 have hT1' : ∀ g, T g → w.heap.size ≤ g := hT1
 have hl3 : w1.heap.size ≤ w3.heap.size := HP3.out.2.2.size
 have hl01 := HP1.out.2.2.1.size
 have hbt : w3.heap.size ≤ w4.heap.size := HB4.out.size
 have hbu : w4.heap.size ≤ w5.heap.size := hb45.size
 have hsub1 : ∀ g, S g → g < w1.heap.size := fun g hg => Nat.lt_of_lt_of_le (hsub g hg) hl01
 have hsubT : ∀ g, T g → g < w1.heap.size := HP1.out.2.1.sub
 have hlo2' : w1.heap.size ≤ mp := hmlo
 refine ⟨w5.heap.size, w4.heap.size, ⟨tx, pg, d, mp⟩, fun g => S g ∨ T g ∨ g = mp, rfl, rfl, rfl, h6, ?_, ⟨S, T, ⟨HOK.out, HP3.out.1.below hb36, HP3.out.2.1.below hb36, (hb36.block mp hmpl).trans hmp3.out, hdis, fun e => absurd (hsub1 mp e) (Nat.not_lt.2 hlo2'), fun e => absurd (hsubT mp e) (Nat.not_lt.2 hlo2')⟩, fun g => Iff.rfl⟩, ⟨?_, fun g hg => ?_⟩, ?_, ?_, ?_, ?_⟩
 ·exact (hb6.block _ (Array.getElem?_eq_some_iff.1 htr5).1).trans htr5
 ·refine (HP1.out.2.2.1.trans (Keep.of_below (HP3.out.2.2.trans (hb36.mono hl3)) NoS) (fun _ _ e => e.elim))
 ·rcases hg with hg | hg | hg
  ·exact .inl hg
  ·exact .inr (hT1' g hg)
  ·exact .inr (by rw [hg]; omega)
 ·rintro (e | e | e)
  ·have := hsub1 _ e; omega
  ·have := hsubT _ e; omega
  ·omega
 ·rintro (e | e | e)
  ·have := hsub1 _ e; omega
  ·have := hsubT _ e; omega
  ·omega
 ·omega
 ·omega
theorem frees_tk : ∀ (l : List Int) (σ : MSt), (σ.frees l).tk = σ.tk
 | [], _ => rfl
 | y :: l, σ => frees_tk l (σ.gone y)
theorem tx_ne_tree {w : World} {t tr : Nat} {mp mp' : VS} {tr' : Option Nat} {ch : Bool} {er root err : Int} (h : w.heap[t]? = some (.cells (vtCells mp tr' ch er) 118 (0, 0))) (ht : TreeAt w tr mp' root err) : t ≠ tr := by
 rintro rfl
 unfold TreeAt at ht
 rw [h] at ht
 injection ht with ht
 injection ht with _ h2
 exact absurd h2 (by decide)
theorem srtI_perm (l : List Int) : (srtI l).Perm l := List.mergeSort_perm _ _
theorem vdrop (t tr : Nat) (mp : VS) (root : Int) (ch : Bool) (er : Int) (σ : MSt) (S : Nat → Prop) (w : World) (es l o r : List Ent) (tb : List Int) (key : ByteArray) (h : w.heap[t]? = some (.cells (vtCells mp (some tr) ch er) 118 (0, 0))) (hI : Inv σ S mp w) (ht : TreeAt w tr mp root 0) (hL : Live σ root es tb) (hA : AtKey es key l o r) (hl : es.length ≤ 4090) (hg : 1 ≤ key.size ∧ key.size ≤ 128) :
  Calls Tryz.prog 59 #[.pointer (some ⟨t, 0, none⟩), .string key] w fun e w' => e = .returned (.int .i64 0) ∧ ∃ σ1, Inv σ1 S mp w' ∧ Step S S w w' ∧ Chg σ σ1 (bbOf o) [] ∧ σ1.tk = σ.tk := by
 have hl' : (csOf es).length ≤ 4090 := by rw [csOf_length]; exact hl
 have hsmall : longL ((lookP (csOf es) key).getD ⟨#[]⟩).data.toList = none → ((lookP (csOf es) key).getD ⟨#[]⟩).size ≤ 1000000 → bbOf o = [] → Calls Tryz.prog 59 #[.pointer (some ⟨t, 0, none⟩), .string key] w fun e w' => e = .returned (.int .i64 0) ∧ ∃ σ1, Inv σ1 S mp w' ∧ Step S S w w' ∧ Chg σ σ1 (bbOf o) [] ∧ σ1.tk = σ.tk := by
  intro h1 h2 h3
  refine (vdrop_none t tr mp root ch er σ S w (csOf es) tb key h hI ht hL.tree hl' hg h1 h2).mono ?_
  rintro e w' ⟨rfl, hb⟩
  rw [h3]
  exact ⟨rfl, σ, hI.below hb, Step.of_below hb, Chg.refl (fun x hx => by cases hx), rfl⟩
 rcases hA.one with rfl | ⟨e, rfl, hk⟩
 ·have hls : lookP (csOf es) key = none := hA.ls
  refine hsmall ?_ ?_ rfl
  ·rw [hls]; rfl
  ·rw [hls]; exact Nat.zero_le _
 ·have hls : lookP (csOf es) key = some e.s := hA.ls
  have hv := hL.val e (by rw [hA.eq]; simp)
  have hbo : bbOf [e] = e.b := by simp [bbOf]
  rcases hv with ⟨h1, h2, h3⟩ | ⟨hd, rs, h1, h2, h3, h4⟩
  ·refine hsmall ?_ ?_ (by rw [hbo, h3])
   ·rw [hls, Option.getD_some, h1]; exact longL_small _
   ·rw [hls, Option.getD_some, h1]
    have : (strOf (0 :: e.v.data.toList)).size = e.v.size + 1 := by show (0 :: e.v.data.toList).toArray.size = e.v.data.size + 1; simp
    omega
  ·refine (vdrop_long t tr mp root ch er σ S w (csOf es) tb key e.s hd e.v.data.toList rs h hI ht hL.tree hl' hg hls (by rw [h1]; exact longL_long hd h2.1) (by rw [h1]; show [1, UInt8.ofNat hd, UInt8.ofNat (hd / 256)].toArray.size ≤ _; simp) h3).mono ?_
   rintro e' w' ⟨rfl, hI', hs'⟩
   refine ⟨rfl, _, hI', hs', ?_, frees_tk _ _⟩
   rw [hbo, h4]
   exact (chg_frees (srtI (blobB hd rs)) σ (fun x hx => (h3.all x ((srtI_mem x).1 hx)).1) ((srtI_perm _).nodup_iff.2 h3.nd)).perm (srtI_perm _) (List.Perm.refl _)
structure TxV (w : World) (S : Nat → Prop) (t tr : Nat) (mp : VS) (σ : MSt) (root err : Int) (ch : Bool) (er : Int) : Prop where
 tx : w.heap[t]? = some (.cells (vtCells mp (some tr) ch er) 118 (0, 0))
 tree : TreeAt w tr mp root err
 inv : Inv σ S mp w
 nt : ¬ S t
 ntr : ¬ S tr
theorem TxV.keep {w w' : World} {S M : Nat → Prop} {t tr : Nat} {mp : VS} {σ : MSt} {root err : Int} {ch : Bool} {er : Int} (h : TxV w S t tr mp σ root err ch er) (hk : Keep M w w') (hM : ∀ g, S g ∨ g = t ∨ g = tr → ¬ M g) : TxV w' S t tr mp σ root err ch er :=
 ⟨(hk.block t (Array.getElem?_eq_some_iff.1 h.tx).1 (hM t (.inr (.inl rfl)))).trans h.tx, (hk.block tr (Array.getElem?_eq_some_iff.1 h.tree).1 (hM tr (.inr (.inr rfl)))).trans h.tree, h.inv.keepM hk (fun g hg => hM g (.inl hg)), h.nt, h.ntr⟩
theorem TxV.below {w w' : World} {S : Nat → Prop} {t tr : Nat} {mp : VS} {σ : MSt} {root err : Int} {ch : Bool} {er : Int} (h : TxV w S t tr mp σ root err ch er) (hb : Below w.heap.size w w') : TxV w' S t tr mp σ root err ch er := h.keep (Keep.of_below hb NoS) (fun _ _ e => e)
def TStep (S S' : Nat → Prop) (t tr : Nat) (w w' : World) : Prop := Keep (fun g => S g ∨ g = t ∨ g = tr) w w' ∧ ∀ g, S' g → S g ∨ w.heap.size ≤ g
theorem TStep.of {S S' : Nat → Prop} {t tr : Nat} {w w' : World} (h : Step S S' w w') : TStep S S' t tr w w' := ⟨h.1.mono (fun _ _ e => .inl e), h.2⟩
theorem TStep.trans {S S1 S2 : Nat → Prop} {t tr : Nat} {w w1 w2 : World} (h : TStep S S1 t tr w w1) (k : TStep S1 S2 t tr w1 w2) : TStep S S2 t tr w w2 :=
 ⟨h.1.trans k.1 (fun g hg e => e.elim (fun x => (h.2 g x).elim .inl (fun y => absurd hg (Nat.not_lt.2 y))) .inr), fun g hg => (k.2 g hg).elim (fun x => h.2 g x) (fun x => .inr (Nat.le_trans h.1.size x))⟩
theorem TStep.one {S : Nat → Prop} {t tr : Nat} {w w' : World} (h : Keep (· = t) w w') : TStep S S t tr w w' := ⟨h.mono (fun _ _ e => .inr (.inl e)), fun _ hg => .inl hg⟩
theorem TStep.tree {S S' : Nat → Prop} {t tr : Nat} {w w' : World} (h : Keep (fun g => S g ∨ g = tr) w w') (h2 : ∀ g, S' g → S g ∨ w.heap.size ≤ g) : TStep S S' t tr w w' := ⟨h.mono (fun _ _ e => e.imp id .inr), h2⟩
def PkV (σ σ' : MSt) (tb : List Int) (c : Nat) : Prop := ∀ L, σ.sz + c ≤ L + nh σ tb → σ.tk ≤ L → σ'.tk ≤ L
def SpoilPost (t tr : Nat) (mp : VS) (S : Nat → Prop) (σ : MSt) (ch : Bool) (w w' : World) : Prop :=
 ∃ σ' S' root' err', TxV w' S' t tr mp σ' root' err' ch 12 ∧ σ'.H = σ.H ∧ σ'.most = σ.most ∧ TStep S S' t tr w w'
def bcost (value : ByteArray) : Nat := if value.size ≤ 63 then 0 else 1 + nblk value.size
def PutPost (t tr : Nat) (mp : VS) (S : Nat → Prop) (σ : MSt) (es l r : List Ent) (tb : List Int) (key value : ByteArray) (w w' : World) : Prop :=
 ∃ σ' S' root' tb' s nb, TxV w' S' t tr mp σ' root' 0 true 0 ∧ Live σ' root' (l ++ ⟨key, s, value, nb⟩ :: r) tb' ∧ Chg σ σ' (tb ++ bbOf es) (tb' ++ bbOf (l ++ ⟨key, s, value, nb⟩ :: r)) ∧ TStep S S' t tr w w' ∧ PkV σ σ' tb (2 * (es.length + 1) + bcost value)
theorem small_cat (value : ByteArray) : (⟨#[0]⟩ : ByteArray) ++ value = strOf (0 :: value.data.toList) := by
 apply ByteArray.ext
 rw [ByteArray.data_append]
 apply Array.toList_inj.1
 rw [Array.toList_append]
 rfl
theorem vget_live (t tr : Nat) (mp : VS) (root : Int) (ch : Bool) (σ : MSt) (S : Nat → Prop) (w : World) (es l o r : List Ent) (tb : List Int) (key : ByteArray) (hT : TxV w S t tr mp σ root 0 ch 0) (hL : Live σ root es tb) (hA : AtKey es key l o r) (hl : es.length ≤ 4090) (hg : 1 ≤ key.size ∧ key.size ≤ 128) :
  Calls Tryz.prog 18 #[.pointer (some ⟨t, 0, none⟩), .string key] w fun e w' => e = .returned (.tuple #[.string ((lookP (kvOf es) key).getD ByteArray.empty), .bool (lookP (kvOf es) key).isSome, .int .i64 0]) ∧ Below w.heap.size w w' := by
 have hl' : (csOf es).length ≤ 4090 := by rw [csOf_length]; exact hl
 rcases hA.one with rfl | ⟨e, rfl, hk⟩
 ·have h1 : lookP (csOf es) key = none := hA.ls
  have h2 : lookP (kvOf es) key = none := hA.lv
  have := vget t tr mp root ch σ S w (csOf es) tb key ByteArray.empty [] hT.tx hT.inv hT.tree hL.tree hl' hg (fun s hs => by rw [h1] at hs; cases hs)
  rw [h1] at this
  rw [h2]
  exact this
 ·have h1 : lookP (csOf es) key = some e.s := hA.ls
  have h2 : lookP (kvOf es) key = some e.v := hA.lv
  have := vget t tr mp root ch σ S w (csOf es) tb key e.v e.b hT.tx hT.inv hT.tree hL.tree hl' hg (fun s hs => by
   rw [h1] at hs; cases hs
   exact hL.val e (by rw [hA.eq]; simp))
  rw [h1] at this
  rw [h2]
  exact this
theorem vput_same (t tr : Nat) (mp : VS) (root : Int) (ch : Bool) (σ : MSt) (S : Nat → Prop) (w : World) (es l o r : List Ent) (tb : List Int) (key value : ByteArray) (hT : TxV w S t tr mp σ root 0 ch 0) (hL : Live σ root es tb) (hA : AtKey es key l o r) (hl : es.length ≤ 4090) (hg : 1 ≤ key.size ∧ key.size ≤ 128) (hv : value.size ≤ 49152) (hs : lookP (kvOf es) key = some value) :
  Calls Tryz.prog 14 #[.pointer (some ⟨t, 0, none⟩), .string key, .string value] w fun e w' => e = .returned (.int .i64 0) ∧ Below w.heap.size w w' := by
 have HU := Lib.hid (vusable t mp tr ch 0 key w hT.tx)
 have hu : usableL 0 key = 0 := by unfold usableL; rw [if_neg (by simp), if_neg (by omega)]
 rw [hu] at HU
 have HG := vget_live t tr mp root ch σ S w es l o r tb key hT hL hA hl hg
 rw [hs] at HG
 have HG := Lib.hid HG
 have x1 : ¬ (49152 : Int) < (value.size : Int) := by omega
 clear hT hu
 go_enter Tryz.func14, Tryz.ntmps14
 go_wp2_with (first
  | (go_at_call 58; go_must (refine HU.out.mono ?_; rintro e w1 ⟨rfl, rfl⟩))
  | (go_at_call 18; go_must (refine HG.out.mono ?_; rintro e w1 ⟨rfl, hb1⟩)))
 go_ret
 exact ⟨rfl, hb1⟩
theorem bytes3 (hd : Nat) (hb : hd < 65536) (w : World) : (convert 86 9 (.slice (some ⟨w.heap.size, 0, none⟩) 3 3)).run Tryz.prog (w.alloc (.cells #[.int .u8 1, .int .u8 ((hd : Int) % 256), .int .u8 ((hd : Int) / 256)] 5)) = .ok (.string (strOf [1, UInt8.ofNat hd, UInt8.ofNat (hd / 256)])) (w.alloc (.cells #[.int .u8 1, .int .u8 ((hd : Int) % 256), .int .u8 ((hd : Int) / 256)] 5)) := by
 have he : [Value.int .u8 1, .int .u8 ((hd : Int) % 256), .int .u8 ((hd : Int) / 256)] = bCells [1, UInt8.ofNat hd, UInt8.ofNat (hd / 256)] := by
  simp [bCells, UInt8.toNat_ofNat']
  omega
 have hr : Row (w.alloc (.cells #[.int .u8 1, .int .u8 ((hd : Int) % 256), .int .u8 ((hd : Int) / 256)] 5)) w.heap.size 5 (bCells [1, UInt8.ofNat hd, UInt8.ofNat (hd / 256)]) := by
  rw [← he]; exact Row.new w _ _
 have hs : IsSl (w.alloc (.cells #[.int .u8 1, .int .u8 ((hd : Int) % 256), .int .u8 ((hd : Int) / 256)] 5)) NoS 1 (.slice (some ⟨w.heap.size, 0, none⟩) 3 3) [1, UInt8.ofNat hd, UInt8.ofNat (hd / 256)].length (bCells [1, UInt8.ofNat hd, UInt8.ofNat (hd / 256)]) := by
  have := hr.isSl (S := NoS) (k := 1) (off := 0) 3 3 (by simp [bCells]) id (Nat.le_refl _) (by simp [maxLen])
  rw [List.drop_zero, List.take_of_length_le (by simp [bCells])] at this
  exact this
 exact hs.strOf
theorem vput_small (t tr : Nat) (mp : VS) (root : Int) (ch : Bool) (σ : MSt) (S : Nat → Prop) (w : World) (es l o r : List Ent) (tb : List Int) (key value : ByteArray) (hT : TxV w S t tr mp σ root 0 ch 0) (hL : Live σ root es tb) (hA : AtKey es key l o r) (hl : es.length ≤ 4090) (hg : 1 ≤ key.size ∧ key.size ≤ 128) (hv : value.size ≤ 63) (there : Bool) (was : ByteArray) (hget : (lookP (kvOf es) key).isSome = there ∧ (lookP (kvOf es) key).getD ByteArray.empty = was) (hno : there = true → (was.toList == value.toList) = false) :
  Calls Tryz.prog 14 #[.pointer (some ⟨t, 0, none⟩), .string key, .string value] w fun e w' => (e = .returned (.int .i64 0) ∧ PutPost t tr mp S σ es l r tb key value w w') ∨
   (e = .returned (.int .i64 12) ∧ σ.most + nh σ tb < σ.sz + 2 * (es.length + 1) + bcost value ∧ SpoilPost t tr mp S σ ch w w') := by
 have hne := tx_ne_tree hT.tx hT.tree
 have HU := Lib.hid (vusable t mp tr ch 0 key w hT.tx)
 have hu : usableL 0 key = 0 := by unfold usableL; rw [if_neg (by simp), if_neg (by omega)]
 rw [hu] at HU
 have HG := vget_live t tr mp root ch σ S w es l o r tb key hT hL hA hl hg
 rw [hget.1, hget.2] at HG
 have HG := Lib.hid HG
 have x1 : ¬ (49152 : Int) < (value.size : Int) := by omega
 have x2 : ¬ (63 : Int) < (value.size : Int) := by omega
 have hb : bcost value = 0 := if_pos hv
 have HBC := Lib.hid hb
 have x0 := hv
 have HT := Lib.hid hT
 have hl' : (csOf es).length ≤ 4090 := by rw [csOf_length]; exact hl
 have hall := hL.all
 have hnd := hL.own.nd
 have hbo : ∀ x ∈ bbOf o, x ∈ bbOf es := fun x hx => by rw [hA.eq, bbOf_append, bbOf_append]; simp [hx]
 have hcnt := hL.tree.count
 rw [csOf_length] at hcnt
 have hnh := nh_le σ tb
 have hsum : (⟨#[0]⟩ : ByteArray) ++ value = strOf (0 :: value.data.toList) := small_cat value
 have hsz0 : (strOf (0 :: value.data.toList)).size = value.size + 1 := by show (0 :: value.data.toList).toArray.size = value.data.size + 1; simp
 have hadd : ∀ W : World, (Op.stringOp .add (⟨#[0]⟩ : ByteArray) value).run Tryz.prog W = .ok (.string (strOf (0 :: value.data.toList))) W := fun W => by rw [← hsum]; exact run_string_add W _ _ (by show ((1 : Nat) : Int) ≤ _; omega) (by omega)
 have HSZ := Lib.hid hsz0; have HSUM := Lib.hid hsum
 obtain ⟨small, hsmall⟩ : ∃ s, Hid (strOf (0 :: value.data.toList) = s) := ⟨_, Lib.hid rfl⟩
 rw [hsmall.out] at hadd HSZ HSUM
 have HCNT := Lib.hid (And.intro hcnt (And.intro hnh hb))
 clear hT hu hsum hsz0 hb hcnt hnh
 go_enter Tryz.func14, Tryz.ntmps14
 go_wp2_with (first
  | (go_at_call 58; go_must (refine HU.out.mono ?_; rintro e w1 ⟨rfl, rfl⟩))
  | (go_at_call 18; go_must (refine HG.out.mono ?_; rintro e w1 ⟨rfl, hb1⟩; refine Stop.of ?_)))
 refine Stop.on ?_
 have hT1 := HT.out.below hb1
 have hlt1 := (Array.getElem?_eq_some_iff.1 hT1.tx).1
 have HD := Lib.hid (vdrop t tr mp root ch 0 σ S w1 es l o r tb key hT1.tx hT1.inv hT1.tree hL hA hl hg)
 have HT1 := Lib.hid (And.intro hT1 hb1)
 clear hT1 hb1
 cases there
 all_goals
  try have hno := hno rfl
  go_wp2_with (first
   | (go_at_call 59; go_must (refine HD.out.mono ?_; rintro e w2 ⟨rfl, σ1, hI1, hs1, hc1, htk1⟩; refine Stop.of ?_)))
  refine Stop.on ?_
  have hT2 : TxV w2 S t tr mp σ1 root 0 ch 0 := ⟨(hs1.1.block t hlt1 HT.out.nt).trans HT1.out.1.tx, (hs1.1.block tr (Array.getElem?_eq_some_iff.1 HT1.out.1.tree).1 HT.out.ntr).trans HT1.out.1.tree, hI1, HT.out.nt, HT.out.ntr⟩
  have hTr1 : TrR σ1 root (csOf es) tb := hL.tree.keep hc1 (fun x hx => .inl (fun e => nodup_off hnd x (hbo x e) hx))
  have hlt2 := (Array.getElem?_eq_some_iff.1 hT2.tx).1
  have HS2 := Lib.hid ((TStep.of (t := t) (tr := tr) (Step.of_below (S := S) HT1.out.2)).trans (TStep.of hs1))
  have HC1 := Lib.hid hc1
  have HTR1 := Lib.hid hTr1
  clear hI1 hs1 hc1 hTr1
  have hc2 : Chg σ1 σ1 [] [] := Chg.refl (fun x hx => by cases hx)
  have hv2 : ValAt σ1 small value [] := .inl ⟨hsmall.out.symm, x0, rfl⟩
  have HV2 := Lib.hid (And.intro hc2 hv2)
  clear hc2 hv2
  have HPT := Lib.hid (put_tree tr mp root σ1 S (csOf es) tb key small w2 hT2.inv hT2.tree HT.out.ntr HTR1.out (List.nodup_append.1 hnd).1 hl' ⟨hg, by have := HSZ.out; omega⟩)
  have c2 : World.cell? w2 ⟨t, 2, none⟩ = some (.pointer (some ⟨tr, 0, none⟩)) := by simp [World.cell?, hT2.tx, vtCells]
  have HT2 := Lib.hid hT2
  clear hT2
  go_wp2_with (first
   | (go_at_call 62; go_must (refine HPT.out.mono ?_; rintro e w5 (⟨rfl, σ3, S3, b3, hI3, ht3, hst3, hP3, hk3, hn3⟩ | ⟨rfl, hlost, σ3, S3, hI3, ht3, hst3, hH3, hm3, hk3, hn3⟩) <;> refine Stop.of ?_)))
  ·refine Stop.on ?_
   have htx3 := (hk3.block t hlt2 (fun e => e.elim HT.out.nt hne)).trans HT2.out.tx
   have hns3 : ¬ S3 t := fun e => (hn3 t e).elim HT.out.nt (fun x => absurd hlt2 (Nat.not_lt.2 x))
   have d3 : w5.cell? ⟨t, 3, none⟩ = some (.bool ch) := by simp [World.cell?, htx3, vtCells]
   have f3 : w5.frozen? ⟨t, 3, none⟩ = false := by simp [World.frozen?, htx3]
   have hlt3 := (Array.getElem?_eq_some_iff.1 htx3).1
   have HX3 := Lib.hid (And.intro htx3 (And.intro hI3 (And.intro ht3 (And.intro hk3 hn3))))
   have HP3 := Lib.hid hP3
   clear htx3 hI3 ht3 hk3 hn3 hP3
   go_wp2_with fail
   go_ret
   have hk4 : Keep (· = t) w5 (w5.setCell ⟨t, 3, none⟩ (.bool true)) := (Keep.refl (· = t) _).setCell (p := ⟨t, 3, none⟩) (.inr rfl) _
   obtain ⟨tb', hL', hC'⟩ := live_put hL hA HC1.out HV2.out.1 HV2.out.2 HP3.out
   refine .inl ⟨rfl, σ3, S3, b3, tb', small, _, ⟨?_, ?_, HX3.out.2.1.keepM hk4 (fun g hg e => hns3 (e ▸ hg)), hns3, hst3⟩, hL', hC', ?_, fun L r t0 => ?_⟩
   ·simp [World.setCell, Array.getElem?_modify, HX3.out.1]
    rfl
   ·exact (hk4.block tr (Array.getElem?_eq_some_iff.1 HX3.out.2.2.1).1 (fun e => hne e.symm)).trans HX3.out.2.2.1
   ·exact (HS2.out.trans (TStep.tree HX3.out.2.2.2.1 HX3.out.2.2.2.2)).trans (TStep.one hk4)
   ·obtain ⟨_, _, _, hpk⟩ := HP3.out
    have hCC := HC1.out.trans HV2.out.1
    have hsz := hCC.size
    have hsz1 := HC1.out.size
    have hnl := nh_le σ []
    have hcc := HCNT.out
    have hz : nh σ [] = 0 := rfl
    have h0 : nh σ [] = 0 := rfl
    rw [hcc.2.2] at r
    refine hpk L ?_ ?_
    ·unfold RoomL
     rw [nh_eq hCC.H, csOf_length]
     omega
    ·rw [htk1]; exact t0
  ·refine Stop.on ?_
   have htx3 := (hk3.block t hlt2 (fun e => e.elim HT.out.nt hne)).trans HT2.out.tx
   have hns3 : ¬ S3 t := fun e => (hn3 t e).elim HT.out.nt (fun x => absurd hlt2 (Nat.not_lt.2 x))
   have HSP := Lib.hid (vspoil t mp (some tr) ch 0 12 w5 htx3)
   have HX3 := Lib.hid (And.intro htx3 (And.intro hI3 (And.intro ht3 (And.intro hk3 hn3))))
   have HLO := Lib.hid (And.intro hlost (And.intro hH3 hm3))
   clear htx3 hI3 ht3 hk3 hn3 hlost hH3 hm3
   go_wp2_with (first
    | (go_at_call 60; go_must (refine HSP.out.mono ?_; rintro e w6 ⟨rfl, h6, hk6⟩)))
   go_ret
   have hCC := HC1.out.trans HV2.out.1
   refine .inr ⟨rfl, ?_, σ3, S3, root, 12, ⟨h6, (hk6.block tr (Array.getElem?_eq_some_iff.1 HX3.out.2.2.1).1 (fun e => hne e.symm)).trans HX3.out.2.2.1, HX3.out.2.1.keepM hk6 (fun g hg e => hns3 (e ▸ hg)), hns3, hst3⟩, HLO.out.2.1.trans hCC.H, HLO.out.2.2.trans hCC.most, (HS2.out.trans (TStep.tree HX3.out.2.2.2.1 HX3.out.2.2.2.2)).trans (TStep.one hk6)⟩
   have hno3 := HLO.out.1
   have hsz := hCC.size
   have hnl := nh_le σ []
   unfold Room at hno3
   rw [nh_eq hCC.H, hCC.most, csOf_length] at hno3
   have hcc := HCNT.out
   have h0 : nh σ [] = 0 := rfl
   rw [hcc.2.2]
   omega
theorem vput_long (t tr : Nat) (mp : VS) (root : Int) (ch : Bool) (σ : MSt) (S : Nat → Prop) (w : World) (es l o r : List Ent) (tb : List Int) (key value : ByteArray) (hT : TxV w S t tr mp σ root 0 ch 0) (hL : Live σ root es tb) (hA : AtKey es key l o r) (hl : es.length ≤ 4090) (hg : 1 ≤ key.size ∧ key.size ≤ 128) (hv : 63 < value.size ∧ value.size ≤ 49152) (there : Bool) (was : ByteArray) (hget : (lookP (kvOf es) key).isSome = there ∧ (lookP (kvOf es) key).getD ByteArray.empty = was) (hno : there = true → (was.toList == value.toList) = false) :
  Calls Tryz.prog 14 #[.pointer (some ⟨t, 0, none⟩), .string key, .string value] w fun e w' => (e = .returned (.int .i64 0) ∧ PutPost t tr mp S σ es l r tb key value w w') ∨
   (e = .returned (.int .i64 12) ∧ σ.most + nh σ tb < σ.sz + 2 * (es.length + 1) + bcost value ∧ SpoilPost t tr mp S σ ch w w') := by
 have hne := tx_ne_tree hT.tx hT.tree
 have HU := Lib.hid (vusable t mp tr ch 0 key w hT.tx)
 have hu : usableL 0 key = 0 := by unfold usableL; rw [if_neg (by simp), if_neg (by omega)]
 rw [hu] at HU
 have HG := vget_live t tr mp root ch σ S w es l o r tb key hT hL hA hl hg
 rw [hget.1, hget.2] at HG
 have HG := Lib.hid HG
 have x1 : ¬ (49152 : Int) < (value.size : Int) := by omega
 have x2 : (63 : Int) < (value.size : Int) := by omega
 have hb : bcost value = 1 + nblk value.size := if_neg (by omega)
 have HBC := Lib.hid hb
 have HT := Lib.hid hT
 have hl' : (csOf es).length ≤ 4090 := by rw [csOf_length]; exact hl
 have hall := hL.all
 have hnd := hL.own.nd
 have hbo : ∀ x ∈ bbOf o, x ∈ bbOf es := fun x hx => by rw [hA.eq, bbOf_append, bbOf_append]; simp [hx]
 have hcnt := hL.tree.count
 rw [csOf_length] at hcnt
 have hnh := nh_le σ tb
 have hsum : (⟨#[0]⟩ : ByteArray) ++ value = strOf (0 :: value.data.toList) := small_cat value
 have hsz0 : (strOf (0 :: value.data.toList)).size = value.size + 1 := by show (0 :: value.data.toList).toArray.size = value.data.size + 1; simp
 have hadd : ∀ W : World, (Op.stringOp .add (⟨#[0]⟩ : ByteArray) value).run Tryz.prog W = .ok (.string (strOf (0 :: value.data.toList))) W := fun W => by rw [← hsum]; exact run_string_add W _ _ (by show ((1 : Nat) : Int) ≤ _; omega) (by omega)
 have HSZ := Lib.hid hsz0; have HSUM := Lib.hid hsum
 obtain ⟨small, hsmall⟩ : ∃ s, Hid (strOf (0 :: value.data.toList) = s) := ⟨_, Lib.hid rfl⟩
 rw [hsmall.out] at hadd HSZ HSUM
 have HCNT := Lib.hid (And.intro hcnt (And.intro hnh hb))
 clear hT hu hsum hsz0 hb hcnt hnh
 go_enter Tryz.func14, Tryz.ntmps14
 go_wp2_with (first
  | (go_at_call 58; go_must (refine HU.out.mono ?_; rintro e w1 ⟨rfl, rfl⟩))
  | (go_at_call 18; go_must (refine HG.out.mono ?_; rintro e w1 ⟨rfl, hb1⟩; refine Stop.of ?_)))
 refine Stop.on ?_
 have hT1 := HT.out.below hb1
 have hlt1 := (Array.getElem?_eq_some_iff.1 hT1.tx).1
 have HD := Lib.hid (vdrop t tr mp root ch 0 σ S w1 es l o r tb key hT1.tx hT1.inv hT1.tree hL hA hl hg)
 have HT1 := Lib.hid (And.intro hT1 hb1)
 clear hT1 hb1
 cases there
 all_goals
  try have hno := hno rfl
  go_wp2_with (first
   | (go_at_call 59; go_must (refine HD.out.mono ?_; rintro e w2 ⟨rfl, σ1, hI1, hs1, hc1, htk1⟩; refine Stop.of ?_)))
  refine Stop.on ?_
  have hT2 : TxV w2 S t tr mp σ1 root 0 ch 0 := ⟨(hs1.1.block t hlt1 HT.out.nt).trans HT1.out.1.tx, (hs1.1.block tr (Array.getElem?_eq_some_iff.1 HT1.out.1.tree).1 HT.out.ntr).trans HT1.out.1.tree, hI1, HT.out.nt, HT.out.ntr⟩
  have hTr1 : TrR σ1 root (csOf es) tb := hL.tree.keep hc1 (fun x hx => .inl (fun e => nodup_off hnd x (hbo x e) hx))
  have hlt2 := (Array.getElem?_eq_some_iff.1 hT2.tx).1
  have HS2 := Lib.hid ((TStep.of (t := t) (tr := tr) (Step.of_below (S := S) HT1.out.2)).trans (TStep.of hs1))
  have HC1 := Lib.hid hc1
  have HTR1 := Lib.hid hTr1
  clear hI1 hs1 hc1 hTr1
  have c0 : w2.cell? ⟨t, 0, none⟩ = some (.pointer (some ⟨mp.tx, 0, none⟩)) := by simp [World.cell?, hT2.tx, vtCells]
  have c1 : w2.cell? ⟨t, 1, none⟩ = some (.pointer (some ⟨mp.mp, 0, none⟩)) := by simp [World.cell?, hT2.tx, vtCells]
  have HW := Lib.hid (bWrite mp σ1 S w2 value hT2.inv (by omega) (by omega))
  have HT2' := Lib.hid hT2
  clear hT2
  go_wp2_with (first
   | (go_at_call 61; go_must (refine HW.out.mono ?_; rintro e w3 (⟨hd, rs, σ2, rfl, hB2, hC2, htk2, hI2, hs2⟩ | ⟨rfl, hlow, σ2, hI2, hs2, hH2, hm2⟩) <;> refine Stop.of ?_)))
  ·refine Stop.on ?_
   have hT3 : TxV w3 S t tr mp σ2 root 0 ch 0 := ⟨(hs2.1.block t hlt2 HT.out.nt).trans HT2'.out.tx, (hs2.1.block tr (Array.getElem?_eq_some_iff.1 HT2'.out.tree).1 HT.out.ntr).trans HT2'.out.tree, hI2, HT.out.nt, HT.out.ntr⟩
   have hlt3 := (Array.getElem?_eq_some_iff.1 hT3.tx).1
   have hdm : hd < 65536 := by
    obtain ⟨n, q1, q2, _⟩ := MSt.hasB_nat hB2.hd.has
    have := hI2.cap
    omega
   have hlen : (blobB hd rs).length = 1 + nblk value.size := by
    have e1 := hB2.hd.len
    have e2 : value.data.toList.length = value.size := by show value.data.toList.length = value.data.size; simp
    rw [e2] at e1
    simp [blobB, e1]; omega
   have HLEN := Lib.hid hlen
   have HV2 := Lib.hid (And.intro hC2 (show ValAt σ2 (strOf [1, UInt8.ofNat hd, UInt8.ofNat (hd / 256)]) value (blobB hd rs) from .inr ⟨hd, rs, rfl, ⟨hdm, hv.1⟩, hB2, rfl⟩))
   have HTR2 := Lib.hid (HTR1.out.keep hC2 (fun x _ => .inl (by simp)))
   have HS3 := Lib.hid (HS2.out.trans (TStep.of hs2))
   clear hsmall HSZ HSUM hadd
   have HCV := Lib.hid (bytes3 hd hdm w3)
   have q1 : IntKind.i64.wrap ((hd : Int) / 256) = (hd : Int) / 256 := IntWalk.i64_in _ (by omega)
   have HTK2 := Lib.hid htk2
   clear hlen hC2 hB2 hI2 hs2 htk2
   go_upto_region 17 with (fail)
   have hcv := HCV.out
   go_upto_region 18 with (fail)
   obtain ⟨small, hsmall⟩ : ∃ s, Hid (strOf [1, UInt8.ofNat hd, UInt8.ofNat (hd / 256)] = s) := ⟨_, Lib.hid rfl⟩
   rw [hsmall.out] at HV2 ⊢
   have HSZ := Lib.hid (show small.size = 3 by rw [← hsmall.out]; rfl)
   clear hcv HCV
   obtain ⟨w4, hw4, hb4⟩ : ∃ w4, w4 = w3.alloc (.cells #[.int .u8 1, .int .u8 ((hd : Int) % 256), .int .u8 ((hd : Int) / 256)] 5) ∧ Below w3.heap.size w3 w4 := ⟨_, rfl, below_one _ _⟩
   rw [← hw4]
   have hT4 := hT3.below hb4
   have HS4 := Lib.hid (HS3.out.trans (TStep.of (Step.of_below (S := S) hb4)))
   have hlt4 := (Array.getElem?_eq_some_iff.1 hT4.tx).1
   clear hT3 hw4 hb4
   have HPT := Lib.hid (put_tree tr mp root σ2 S (csOf es) tb key small w4 hT4.inv hT4.tree HT.out.ntr HTR2.out (List.nodup_append.1 hnd).1 hl' ⟨hg, by have := HSZ.out; omega⟩)
   have c2 : World.cell? w4 ⟨t, 2, none⟩ = some (.pointer (some ⟨tr, 0, none⟩)) := by simp [World.cell?, hT4.tx, vtCells]
   have HT2 := Lib.hid hT4
   clear hT4
   go_wp2_with (first
    | (go_at_call 62; go_must (refine HPT.out.mono ?_; rintro e w5 (⟨rfl, σ3, S3, b3, hI3, ht3, hst3, hP3, hk3, hn3⟩ | ⟨rfl, hlost, σ3, S3, hI3, ht3, hst3, hH3, hm3, hk3, hn3⟩) <;> refine Stop.of ?_)))
   ·refine Stop.on ?_
    have htx3 := (hk3.block t hlt4 (fun e => e.elim HT.out.nt hne)).trans HT2.out.tx
    have hns3 : ¬ S3 t := fun e => (hn3 t e).elim HT.out.nt (fun x => absurd hlt4 (Nat.not_lt.2 x))
    have d3 : w5.cell? ⟨t, 3, none⟩ = some (.bool ch) := by simp [World.cell?, htx3, vtCells]
    have f3 : w5.frozen? ⟨t, 3, none⟩ = false := by simp [World.frozen?, htx3]
    have hlt3 := (Array.getElem?_eq_some_iff.1 htx3).1
    have HX3 := Lib.hid (And.intro htx3 (And.intro hI3 (And.intro ht3 (And.intro hk3 hn3))))
    have HP3 := Lib.hid hP3
    clear htx3 hI3 ht3 hk3 hn3 hP3
    go_wp2_with fail
    go_ret
    have hk4 : Keep (· = t) w5 (w5.setCell ⟨t, 3, none⟩ (.bool true)) := (Keep.refl (· = t) _).setCell (p := ⟨t, 3, none⟩) (.inr rfl) _
    obtain ⟨tb', hL', hC'⟩ := live_put hL hA HC1.out HV2.out.1 HV2.out.2 HP3.out
    refine .inl ⟨rfl, σ3, S3, b3, tb', small, _, ⟨?_, ?_, HX3.out.2.1.keepM hk4 (fun g hg e => hns3 (e ▸ hg)), hns3, hst3⟩, hL', hC', ?_, fun L r t0 => ?_⟩
    ·simp [World.setCell, Array.getElem?_modify, HX3.out.1]
     rfl
    ·exact (hk4.block tr (Array.getElem?_eq_some_iff.1 HX3.out.2.2.1).1 (fun e => hne e.symm)).trans HX3.out.2.2.1
    ·exact (HS4.out.trans (TStep.tree HX3.out.2.2.2.1 HX3.out.2.2.2.2)).trans (TStep.one hk4)
    ·obtain ⟨_, _, _, hpk⟩ := HP3.out
     have hCC := HC1.out.trans HV2.out.1
     have hsz := hCC.size
     have hsz1 := HC1.out.size
     have hnl := nh_le σ (blobB hd rs)
     have hcc := HCNT.out
     have hz : nh σ [] = 0 := rfl
     have hle := HLEN.out
     rw [hcc.2.2] at r
     refine hpk L ?_ ?_
     ·unfold RoomL
      rw [nh_eq hCC.H, csOf_length]
      omega
     ·have e1 := HTK2.out; have e2 : value.data.toList.length = value.size := (by show value.data.toList.length = value.data.size; simp); rw [e2, htk1] at e1; omega
   ·refine Stop.on ?_
    have htx3 := (hk3.block t hlt4 (fun e => e.elim HT.out.nt hne)).trans HT2.out.tx
    have hns3 : ¬ S3 t := fun e => (hn3 t e).elim HT.out.nt (fun x => absurd hlt4 (Nat.not_lt.2 x))
    have HSP := Lib.hid (vspoil t mp (some tr) ch 0 12 w5 htx3)
    have HX3 := Lib.hid (And.intro htx3 (And.intro hI3 (And.intro ht3 (And.intro hk3 hn3))))
    have HLO := Lib.hid (And.intro hlost (And.intro hH3 hm3))
    clear htx3 hI3 ht3 hk3 hn3 hlost hH3 hm3
    go_wp2_with (first
     | (go_at_call 60; go_must (refine HSP.out.mono ?_; rintro e w6 ⟨rfl, h6, hk6⟩)))
    go_ret
    have hCC := HC1.out.trans HV2.out.1
    refine .inr ⟨rfl, ?_, σ3, S3, root, 12, ⟨h6, (hk6.block tr (Array.getElem?_eq_some_iff.1 HX3.out.2.2.1).1 (fun e => hne e.symm)).trans HX3.out.2.2.1, HX3.out.2.1.keepM hk6 (fun g hg e => hns3 (e ▸ hg)), hns3, hst3⟩, HLO.out.2.1.trans hCC.H, HLO.out.2.2.trans hCC.most, (HS4.out.trans (TStep.tree HX3.out.2.2.2.1 HX3.out.2.2.2.2)).trans (TStep.one hk6)⟩
    have hno3 := HLO.out.1
    have hsz := hCC.size
    have hnl := nh_le σ (blobB hd rs)
    unfold Room at hno3
    rw [nh_eq hCC.H, hCC.most, csOf_length] at hno3
    have hcc := HCNT.out
    have hle := HLEN.out
    rw [hcc.2.2]
    omega
  ·refine Stop.on ?_
   have htx3 := (hs2.1.block t hlt2 HT.out.nt).trans HT2'.out.tx
   have HSP := Lib.hid (vspoil t mp (some tr) ch 0 12 w3 htx3)
   have htr3 := (hs2.1.block tr (Array.getElem?_eq_some_iff.1 HT2'.out.tree).1 HT.out.ntr).trans HT2'.out.tree
   have HX3 := Lib.hid (And.intro hI2 (And.intro hs2 (And.intro htr3 (And.intro hlow (And.intro hH2 hm2)))))
   clear htx3 hI2 hs2 hlow hH2 hm2 htr3
   go_wp2_with (first
    | (go_at_call 60; go_must (refine HSP.out.mono ?_; rintro e w6 ⟨rfl, h6, hk6⟩)))
   go_ret
   refine .inr ⟨rfl, ?_, σ2, S, root, 0, ⟨h6, (hk6.block tr (Array.getElem?_eq_some_iff.1 HX3.out.2.2.1).1 (fun e => hne e.symm)).trans HX3.out.2.2.1, HX3.out.1.keepM hk6 (fun g hg e => HT.out.nt (e ▸ hg)), HT.out.nt, HT.out.ntr⟩, HX3.out.2.2.2.2.1.trans HC1.out.H, HX3.out.2.2.2.2.2.trans HC1.out.most, (HS2.out.trans (TStep.of HX3.out.2.1)).trans (TStep.one hk6)⟩
   have hlo := HX3.out.2.2.2.1
   have hsz := HC1.out.size
   have hmo := HC1.out.most
   have hcc := HCNT.out
   have e2 : value.data.toList.length = value.size := by show value.data.toList.length = value.data.size; simp
   rw [e2] at hlo
   rw [hcc.2.2]
   have : nh σ [] = 0 := rfl
   omega
theorem vabort_d (t tr : Nat) (mp : VS) (ch : Bool) (er : Int) (σ : MSt) (S : Nat → Prop) (u : FrameMode) (w : World) (h : w.heap[t]? = some (.cells (vtCells mp (some tr) ch er) 118 (0, 0))) (hI : Inv σ S mp w) (hns : ¬ S t) :
  CallsD Tryz.prog 32 #[.pointer (some ⟨t, 0, none⟩)] u w fun e u' w' => u' = u ∧ e = .returned (.tuple #[]) ∧ (∃ Sp, PgAt w' Sp mp.pg mp.d σ.H.dk σ.H.lg σ.H.pg (.pointer none) ∧ ∀ g, Sp g → S g) ∧ w'.heap[t]? = some (.cells (vtCells mp none ch er) 118 (0, 0)) ∧ Keep (fun g => S g ∨ g = t) w w' := by
 obtain ⟨Sp, T, hI, hS⟩ := hI
 have c0 : w.cell? ⟨t, 0, none⟩ = some (.pointer (some ⟨mp.tx, 0, none⟩)) := by simp [World.cell?, h, vtCells]
 have c2 : w.cell? ⟨t, 2, none⟩ = some (.pointer (some ⟨tr, 0, none⟩)) := by simp [World.cell?, h, vtCells]
 have hlt := (Array.getElem?_eq_some_iff.1 h).1
 have HT := Lib.hid (tabort mp.tx mp.pg mp.d _ _ _ _ _ _ Sp T w hI.pg hI.tx hI.dis)
 have HH := Lib.hid h
 have HS := Lib.hid hS
 have hn1 : ¬ Sp t := fun x => hns ((hS t).2 (.inl x))
 have hn2 : ¬ T t := fun x => hns ((hS t).2 (.inr (.inl x)))
 clear h hI hS
 go_enter_d Tryz.func32, Tryz.ntmps32
 go_wp2_with (first
  | (go_at_call 55; go_must (refine HT.out.mono ?_; rintro e w2 ⟨rfl, hp2, _, hk2⟩; refine Stop.of ?_)))
 refine Stop.on ?_
 have h2 := (hk2.block t hlt (fun e => e.elim hn1 hn2)).trans HH.out
 have hlt2 := (Array.getElem?_eq_some_iff.1 h2).1
 have d2 : w2.cell? ⟨t, 2, none⟩ = some (.pointer (some ⟨tr, 0, none⟩)) := by simp [World.cell?, h2, vtCells]
 have f2 : w2.frozen? ⟨t, 2, none⟩ = false := by simp [World.frozen?, h2]
 have HH2 := Lib.hid h2
 clear h2
 go_wp2_with fail
 go_end0
 have hk3 : Keep (· = t) w2 (w2.setCell ⟨t, 2, none⟩ (.pointer none)) := (Keep.refl (· = t) _).setCell (p := ⟨t, 2, none⟩) (.inr rfl) _
 refine ⟨rfl, ⟨Sp, hp2.keep hk3 (fun g hg e => hn1 (e ▸ hg)), fun g hg => (HS.out g).2 (.inl hg)⟩, ?_, ?_⟩
 ·simp [World.setCell, Array.getElem?_modify, HH2.out]
  rfl
 ·exact (hk2.mono (fun g _ e => .inl ((HS.out g).2 (e.imp id .inl)))).trans (hk3.mono (fun g _ e => .inr e)) (fun _ _ e => e)
theorem vabort_end_d (t tr : Nat) (mp : VS) (ch : Bool) (er : Int) (u : FrameMode) (w : World) (h : w.heap[t]? = some (.cells (vtCells mp (some tr) ch er) 118 (0, 0))) (hE : TxEnd w mp.tx) :
  CallsD Tryz.prog 32 #[.pointer (some ⟨t, 0, none⟩)] u w fun e u' w' => u' = u ∧ e = .returned (.tuple #[]) ∧ w'.heap[t]? = some (.cells (vtCells mp none ch er) 118 (0, 0)) ∧ Keep (· = t) w w' := by
 have c0 : w.cell? ⟨t, 0, none⟩ = some (.pointer (some ⟨mp.tx, 0, none⟩)) := by simp [World.cell?, h, vtCells]
 have c2 : w.cell? ⟨t, 2, none⟩ = some (.pointer (some ⟨tr, 0, none⟩)) := by simp [World.cell?, h, vtCells]
 have f2 : w.frozen? ⟨t, 2, none⟩ = false := by simp [World.frozen?, h]
 have hlt := (Array.getElem?_eq_some_iff.1 h).1
 have HT := Lib.hid (tabort_end mp.tx w hE)
 have HH := Lib.hid h
 clear h hE
 go_enter_d Tryz.func32, Tryz.ntmps32
 go_wp2_with (first
  | (go_at_call 55; go_must (refine HT.out.mono ?_; rintro e w2 ⟨rfl, hw2⟩; subst w2)))
 go_end0
 refine ⟨rfl, ?_, (Keep.refl (· = t) _).setCell (p := ⟨t, 2, none⟩) (.inr rfl) _⟩
 simp [World.setCell, Array.getElem?_modify, HH.out]
 rfl
theorem bytesOf_len (f : Nat → Bool) : (bytesOf f).length = 512 := by
 have := bytesOf_cells f
 rwa [bCells_length] at this
theorem mstore (mp : VS) (σ : MSt) (S : Nat → Prop) (w : World) (h : Inv σ S mp w) :
  Calls Tryz.prog 65 #[.pointer (some ⟨mp.mp, 0, none⟩), .iface 97 (.pointer (some ⟨mp.tx, 0, none⟩))] w fun e w' => e = .returned (.int .i64 0) ∧ Inv (σ.wrote 0 (bytesOf σ.now)) S mp w' ∧ Step S S w w' := by
 obtain ⟨Sp, T, h, hS⟩ := h
 have hm := h.ok.most
 have h2 := h.ok.two
 have htx := h.tx
 rw [hm] at htx
 refine (spstore mp.tx mp.pg mp.d mp.mp σ.most σ.now σ.H.old σ.H.dk σ.H.lg σ.H.pg _ σ.im Sp T w h.pg htx h.ok.live (by omega) h.map).mono ?_
 rintro e w' ⟨rfl, ht, hs⟩
 rw [← hm] at ht
 exact ⟨rfl, ⟨Sp, T, ⟨h.ok.wrote 0 (bytesOf σ.now) (bytesOf_len _) (by omega) (.inl (by omega)), h.pg.keep hs.1 (fun g hg e => h.dis g hg e), ht, h.map.keep (hs.1.block _ h.map.lt h.mpT), h.dis, h.mpS, h.mpT⟩, hS⟩, hs.1.mono (fun g _ e => (hS g).2 (.inr (.inl e))), fun g hg => .inl hg⟩
theorem mcommit (mp : VS) (σ : MSt) (S : Nat → Prop) (w : World) (h : Inv σ S mp w) (hld : σ.H.lg.dead = false) (hcap : σ.H.dk.waits.length ≤ 90000) (hll : σ.H.lg.last < 1000000000000) :
  Calls Tryz.prog 52 #[.pointer (some ⟨mp.tx, 0, none⟩)] w fun e w' => e = .returned (.tuple #[.int .i64 (σ.H.pg.commit σ.H.dk σ.H.lg σ.im).2.2.2.1, .int .i64 (σ.H.pg.commit σ.H.dk σ.H.lg σ.im).2.2.2.2]) ∧
   ∃ S', PgAt w' S' mp.pg mp.d (σ.H.pg.commit σ.H.dk σ.H.lg σ.im).1 (σ.H.pg.commit σ.H.dk σ.H.lg σ.im).2.1 (σ.H.pg.commit σ.H.dk σ.H.lg σ.im).2.2.1 (.pointer none) ∧ TxEnd w' mp.tx ∧ Step S S' w w' := by
 obtain ⟨Sp, T, h, hS⟩ := h
 have hm := h.ok.most
 have htx := h.tx
 rw [hm] at htx
 refine (pcommit mp.tx mp.pg mp.d σ.H.dk σ.H.lg σ.H.pg _ σ.im Sp T w h.pg htx h.dis h.ok.live hld hcap hll).mono ?_
 rintro e w' ⟨rfl, S', hp, hE, hs⟩
 refine ⟨rfl, S', hp, hE, hs.1.mono (fun g _ e => (hS g).2 (e.imp id .inl)), fun g hg => ?_⟩
 exact (hs.2 g (.inl hg)).imp (fun e => (hS g).2 (e.imp id .inl)) id
def CommitPost (t : Nat) (mp : VS) (S : Nat → Prop) (σ : MSt) (ch : Bool) (im : Im) (w : World) (e : Ending) (w' : World) : Prop :=
 e = .returned (.tuple (if (σ.H.pg.commit σ.H.dk σ.H.lg im).2.2.2.2 = 0 then #[.int .i64 (((σ.H.pg.commit σ.H.dk σ.H.lg im).2.2.2.1 : Int) - 1), .int .i64 0] else #[.int .i64 0, .int .i64 (σ.H.pg.commit σ.H.dk σ.H.lg im).2.2.2.2])) ∧
 ∃ S', PgAt w' S' mp.pg mp.d (σ.H.pg.commit σ.H.dk σ.H.lg im).1 (σ.H.pg.commit σ.H.dk σ.H.lg im).2.1 (σ.H.pg.commit σ.H.dk σ.H.lg im).2.2.1 (.pointer none) ∧ w'.heap[t]? = some (.cells (vtCells mp none ch 0) 118 (0, 0)) ∧ ¬ S' t ∧ Keep (fun g => S g ∨ g = t) w w' ∧ ∀ g, S' g → S g ∨ w.heap.size ≤ g
theorem vcommit_none (t tr : Nat) (mp : VS) (root : Int) (σ : MSt) (S : Nat → Prop) (w : World) (hT : TxV w S t tr mp σ root 0 false 0) (hld : σ.H.lg.dead = false) (hcap : σ.H.dk.waits.length ≤ 90000) (hll : σ.H.lg.last < 1000000000000) (hk : (σ.H.pg.commit σ.H.dk σ.H.lg σ.im).2.2.2.1 ≤ 1000000000000) :
  Calls Tryz.prog 15 #[.pointer (some ⟨t, 0, none⟩)] w (CommitPost t mp S σ false σ.im w) := by
 have HU := Lib.hid (vusable t mp tr false 0 ⟨#[107]⟩ w hT.tx)
 have hu : usableL 0 (⟨#[107]⟩ : ByteArray) = 0 := by decide
 rw [hu] at HU
 have HC := mcommit mp σ S w hT.inv hld hcap hll
 unfold CommitPost
 generalize hcm : σ.H.pg.commit σ.H.dk σ.H.lg σ.im = R at HC hk ⊢
 obtain ⟨σ', l', p', k, q⟩ := R
 dsimp only at HC hk ⊢
 have HC := Lib.hid HC
 have c0 : w.cell? ⟨t, 0, none⟩ = some (.pointer (some ⟨mp.tx, 0, none⟩)) := by simp [World.cell?, hT.tx, vtCells]
 have c3 : w.cell? ⟨t, 3, none⟩ = some (.bool false) := by simp [World.cell?, hT.tx, vtCells]
 have hlt := (Array.getElem?_eq_some_iff.1 hT.tx).1
 have q1 : IntKind.i64.wrap ((k : Int) - 1) = (k : Int) - 1 := IntWalk.i64_in _ (by omega)
 have HT := Lib.hid hT
 clear hT hu hcm
 by_cases hq : q = 0
 ·subst hq
  go_enter_defers Tryz.func15, Tryz.ntmps15
  go_wp2_with (first
   | (go_at_call 58; go_must (refine HU.out.mono ?_; rintro e w1 ⟨hw1, rfl⟩; subst w1))
   | (go_at_call 52; go_must (refine HC.out.mono ?_; rintro e w1 ⟨rfl, S1, hp1, hE1, hs1⟩)))
  have htx1 := (hs1.1.block t hlt HT.out.nt).trans HT.out.tx
  have hn1 : ¬ S1 t := fun e => (hs1.2 t e).elim HT.out.nt (fun x => absurd hlt (Nat.not_lt.2 x))
  refine leaves_cons (f := 32) (args := #[.pointer (some ⟨t, 0, none⟩)]) (by simp) (by simp [go_sem]) ?_
  refine (vabort_end_d t tr mp false 0 _ _ htx1 hE1).mono ?_
  rintro e u' w2 ⟨rfl, rfl, h2, hk2⟩
  exact ⟨_, by simp [results, Tryz.results15, go_sem], rfl, S1, hp1.keep hk2 (fun g hg e => hn1 (e ▸ hg)), h2, hn1, (hs1.1.mono (fun g _ e => .inl e)).trans (hk2.mono (fun g _ e => .inr e)) (fun _ _ e => e), hs1.2⟩
 ·have hq' : (q != 0) = true := by simpa using hq
  go_enter_defers Tryz.func15, Tryz.ntmps15
  go_wp2_with (first
   | (go_at_call 58; go_must (refine HU.out.mono ?_; rintro e w1 ⟨hw1, rfl⟩; subst w1))
   | (go_at_call 52; go_must (refine HC.out.mono ?_; rintro e w1 ⟨rfl, S1, hp1, hE1, hs1⟩)))
  have htx1 := (hs1.1.block t hlt HT.out.nt).trans HT.out.tx
  have hn1 : ¬ S1 t := fun e => (hs1.2 t e).elim HT.out.nt (fun x => absurd hlt (Nat.not_lt.2 x))
  refine leaves_cons (f := 32) (args := #[.pointer (some ⟨t, 0, none⟩)]) (by simp) (by simp [go_sem]) ?_
  refine (vabort_end_d t tr mp false 0 _ _ htx1 hE1).mono ?_
  rintro e u' w2 ⟨rfl, rfl, h2, hk2⟩
  exact ⟨.tuple #[.int .i64 0, .int .i64 q], by simp [results, Tryz.results15, go_sem], rfl, S1, hp1.keep hk2 (fun g hg e => hn1 (e ▸ hg)), h2, hn1, (hs1.1.mono (fun g _ e => .inl e)).trans (hk2.mono (fun g _ e => .inr e)) (fun _ _ e => e), hs1.2⟩
theorem vcommit_put {R : Ending → World → Prop} {d : Nat} (h2 : d ≠ 2) (h3 : d ≠ 3) {c : List PanicEntry} {a : Act} {v : Value} {w : World} (h : bodyPostD Tryz.prog Tryz.f15 R (.panic c) (a.put (some d) v) w) : bodyPostD Tryz.prog Tryz.f15 R (.panic c) a w := by
 refine leaves_tmps ?_ _ _ _ (show Leaves Tryz.prog Tryz.f15 (a.tmps.setIfInBounds d v) R a.defers (.panicking c) w from h)
 unfold results
 rw [Tryz.results15]
 simp [Array.getD_eq_getD_getElem?, Array.getElem?_setIfInBounds, h2, h3]
def rootB (root : Nat) : List UInt8 := [UInt8.ofNat root, UInt8.ofNat (root / 256)]
theorem root_slice (root : Nat) (hb : root < 65536) (w : World) : IsBytes (w.alloc (.cells #[.int .u8 ((root : Int) % 256), .int .u8 ((root : Int) / 256)] 5)) NoS (.slice (some ⟨w.heap.size, 0, none⟩) 2 2) (rootB root) := by
 have he : [Value.int .u8 ((root : Int) % 256), .int .u8 ((root : Int) / 256)] = bCells (rootB root) := by
  simp [rootB, bCells, UInt8.toNat_ofNat']
  omega
 have hr : Row (w.alloc (.cells #[.int .u8 ((root : Int) % 256), .int .u8 ((root : Int) / 256)] 5)) w.heap.size 5 (bCells (rootB root)) := by
  rw [← he]; exact Row.new w _ _
 have := hr.isSl (S := NoS) (k := 1) (off := 0) 2 2 (by simp [bCells, rootB]) id (Nat.le_refl _) (by simp [maxLen])
 rw [List.drop_zero, List.take_of_length_le (by simp [bCells, rootB])] at this
 exact this
def MSt.sealed (σ : MSt) (root : Nat) : MSt := (σ.wrote 1 (pad (rootB root))).wrote 0 (bytesOf σ.now)
theorem vcommit_some (t tr : Nat) (mp : VS) (root : Nat) (σ : MSt) (S : Nat → Prop) (w : World) (hT : TxV w S t tr mp σ root 0 true 0) (hr : root ≤ 4096) (hld : σ.H.lg.dead = false) (hcap : σ.H.dk.waits.length ≤ 90000) (hll : σ.H.lg.last < 1000000000000) (hk : (σ.H.pg.commit σ.H.dk σ.H.lg (σ.sealed root).im).2.2.2.1 ≤ 1000000000000) :
  Calls Tryz.prog 15 #[.pointer (some ⟨t, 0, none⟩)] w (CommitPost t mp S σ true (σ.sealed root).im w) := by
 have HU := Lib.hid (vusable t mp tr true 0 ⟨#[107]⟩ w hT.tx)
 have hu : usableL 0 (⟨#[107]⟩ : ByteArray) = 0 := by decide
 rw [hu] at HU
 have HR := Lib.hid (bt_root tr mp root 0 w hT.tree)
 have hb1 := below_one w (.cells #[.int .u8 ((root : Int) % 256), .int .u8 ((root : Int) / 256)] 5)
 have h2 := hT.inv.ok.two
 have HW := Lib.hid (write_has mp σ S _ 1 _ (rootB root) (hT.inv.below hb1) (by omega) (root_slice root (by omega) w) (by simp [rootB]) (.inl (by omega)))
 have HB1 := Lib.hid hb1
 have q0 : IntKind.i64.wrap ((root : Int) / 256) = (root : Int) / 256 := IntWalk.i64_in _ (by omega)
 have c0 : w.cell? ⟨t, 0, none⟩ = some (.pointer (some ⟨mp.tx, 0, none⟩)) := by simp [World.cell?, hT.tx, vtCells]
 have c2 : w.cell? ⟨t, 2, none⟩ = some (.pointer (some ⟨tr, 0, none⟩)) := by simp [World.cell?, hT.tx, vtCells]
 have c3 : w.cell? ⟨t, 3, none⟩ = some (.bool true) := by simp [World.cell?, hT.tx, vtCells]
 have hlt := (Array.getElem?_eq_some_iff.1 hT.tx).1
 have HT := Lib.hid hT
 clear hT hu hb1
 go_enter_defers Tryz.func15, Tryz.ntmps15
 go_wp2_with (first
  | (go_at_call 58; go_must (refine HU.out.mono ?_; rintro e w1 ⟨hw1, rfl⟩; subst w1))
  | (go_at_call 63; go_must (refine HR.out.mono ?_; rintro e w1 ⟨rfl, hw1⟩; subst w1))
  | (go_at_call 64; go_must (refine HW.out.mono ?_; rintro e w1 ⟨rfl, hI1, hs1⟩; refine Stop.of ?_)))
 refine Stop.on ?_
 have hbs : Step S S w w1 := (Step.of_below HB1.out).trans hs1
 have htx1 := (hbs.1.block t hlt HT.out.nt).trans HT.out.tx
 have hlt1 := (Array.getElem?_eq_some_iff.1 htx1).1
 have d0 : w1.cell? ⟨t, 0, none⟩ = some (.pointer (some ⟨mp.tx, 0, none⟩)) := by simp [World.cell?, htx1, vtCells]
 have d1 : w1.cell? ⟨t, 1, none⟩ = some (.pointer (some ⟨mp.mp, 0, none⟩)) := by simp [World.cell?, htx1, vtCells]
 have HST := mstore mp (σ.wrote 1 (pad (rootB root))) S w1.drew (hI1.below ((Below.refl _ w1).drew))
 have hse : (σ.wrote 1 (pad (rootB root))).wrote 0 (bytesOf (σ.wrote 1 (pad (rootB root))).now) = σ.sealed root := rfl
 rw [hse] at HST
 have HST := Lib.hid HST
 have HX1 := Lib.hid (And.intro htx1 hbs)
 clear htx1 hbs hse hI1 hs1
 go_upto_region 11 with (fail)
 refine wp_region_ord (fun W => W.cell? ⟨t, 0, none⟩ = some (.pointer (some ⟨mp.tx, 0, none⟩)) ∧ W.cell? ⟨t, 1, none⟩ = some (.pointer (some ⟨mp.mp, 0, none⟩)) ∧ t < W.heap.size) (fun i => !([11].contains i)) [0, 1, 2, 3, 4, 5, 6, 7, 8, 9, 10, 11, 12] rfl (by kernel_rfl) ⟨d0, d1, hlt1⟩ ?_
 repeat ((refine ord_q (v := ?_) rfl rfl ?_ rfl (fun W hW => ?_) ?_); rotate_left; (focus (exact fun c a w h => vcommit_put (by decide) (by decide) h)); (focus ((try dsimp only at hW); obtain ⟨a0, a1, a2⟩ := hW; (go_simp; first | done | with_reducible rfl))); (try simp only [Act.put, List.setIfInBounds_toArray, List.set_cons_zero, List.set_cons_succ]))
 refine ord_e rfl rfl rfl ?_; intro K hK; go_simp
 refine HST.out.mono ?_; rintro e w2 ⟨rfl, hI2, hs2⟩
 have htx2 := (hs2.1.block t hlt1 HT.out.nt).trans HX1.out.1
 have hlt2 := (Array.getElem?_eq_some_iff.1 htx2).1
 have g0 : w2.cell? ⟨t, 0, none⟩ = some (.pointer (some ⟨mp.tx, 0, none⟩)) := by simp [World.cell?, htx2, vtCells]
 have g1 : w2.cell? ⟨t, 1, none⟩ = some (.pointer (some ⟨mp.mp, 0, none⟩)) := by simp [World.cell?, htx2, vtCells]
 refine hK.out _ _ ⟨g0, g1, hlt2⟩ ?_
 (try simp only [Act.put, List.setIfInBounds_toArray, List.set_cons_zero, List.set_cons_succ])
 repeat ((refine ord_q (v := ?_) rfl rfl ?_ rfl (fun W hW => ?_) ?_); rotate_left; (focus (exact fun c a w h => vcommit_put (by decide) (by decide) h)); (focus ((try dsimp only at hW); obtain ⟨a0, a1, a2⟩ := hW; (go_simp; first | done | with_reducible rfl))); (try simp only [Act.put, List.setIfInBounds_toArray, List.set_cons_zero, List.set_cons_succ]))
 refine ord_nil ?_
 have HC := mcommit mp (σ.sealed root) S w2 hI2 hld hcap hll
 have hH : (σ.sealed root).H = σ.H := rfl
 rw [hH] at HC
 obtain ⟨R, hcm⟩ : ∃ R, σ.H.pg.commit σ.H.dk σ.H.lg (σ.sealed root).im = R := ⟨_, rfl⟩
 obtain ⟨σ', l', p', k, q⟩ := R
 rw [hcm] at HC hk
 have HCM := Lib.hid hcm
 dsimp only at HC hk
 have HC := Lib.hid HC
 have q1 : IntKind.i64.wrap ((k : Int) - 1) = (k : Int) - 1 := IntWalk.i64_in _ (by omega)
 have HX2 := Lib.hid (And.intro htx2 (HX1.out.2.trans (((Step.of_below ((Below.refl _ w1).drew)) : Step S S w1 w1.drew).trans hs2)))
 clear hcm hH hI2 hs2 htx2
 by_cases hq : q = 0
 ·subst hq
  go_wp2_with (first
   | (go_at_call 52; go_must (refine HC.out.mono ?_; rintro e w3 ⟨rfl, S1, hp1, hE1, hs3⟩)))
  have htx3 := (hs3.1.block t hlt2 HT.out.nt).trans HX2.out.1
  have hn1 : ¬ S1 t := fun e => (hs3.2 t e).elim HT.out.nt (fun x => absurd hlt2 (Nat.not_lt.2 x))
  refine leaves_cons (f := 32) (args := #[.pointer (some ⟨t, 0, none⟩)]) (by simp) (by simp [go_sem]) ?_
  refine (vabort_end_d t tr mp true 0 _ _ htx3 hE1).mono ?_
  rintro e u' w4 ⟨rfl, rfl, h4, hk4⟩
  have hst := HX2.out.2.trans hs3
  refine ⟨.tuple #[.int .i64 ((k : Int) - 1), .int .i64 0], by simp [results, Tryz.results15, go_sem], ?_⟩
  unfold CommitPost
  rw [HCM.out]
  exact ⟨rfl, S1, hp1.keep hk4 (fun g hg e => hn1 (e ▸ hg)), h4, hn1, (hst.1.mono (fun g _ e => .inl e)).trans (hk4.mono (fun g _ e => .inr e)) (fun _ _ e => e), hst.2⟩
 ·have hq' : (q != 0) = true := by simpa using hq
  go_wp2_with (first
   | (go_at_call 52; go_must (refine HC.out.mono ?_; rintro e w3 ⟨rfl, S1, hp1, hE1, hs3⟩)))
  have htx3 := (hs3.1.block t hlt2 HT.out.nt).trans HX2.out.1
  have hn1 : ¬ S1 t := fun e => (hs3.2 t e).elim HT.out.nt (fun x => absurd hlt2 (Nat.not_lt.2 x))
  refine leaves_cons (f := 32) (args := #[.pointer (some ⟨t, 0, none⟩)]) (by simp) (by simp [go_sem]) ?_
  refine (vabort_end_d t tr mp true 0 _ _ htx3 hE1).mono ?_
  rintro e u' w4 ⟨rfl, rfl, h4, hk4⟩
  have hst := HX2.out.2.trans hs3
  refine ⟨.tuple #[.int .i64 0, .int .i64 q], by simp [results, Tryz.results15, go_sem], ?_⟩
  unfold CommitPost
  rw [HCM.out]
  exact ⟨by dsimp only; rw [if_neg hq], S1, hp1.keep hk4 (fun g hg e => hn1 (e ▸ hg)), h4, hn1, (hst.1.mono (fun g _ e => .inl e)).trans (hk4.mono (fun g _ e => .inr e)) (fun _ _ e => e), hst.2⟩
theorem countB_cut {f : Nat → Bool} : ∀ {n m : Nat}, n ≤ m → (∀ b, n ≤ b → f b = false) → countB f m = countB f n
 | n, 0, h, _ => by
  obtain rfl : n = 0 := by omega
  rfl
 | n, m + 1, h, hf => by
  rcases Nat.lt_or_ge m n with hm | hm
  ·obtain rfl : n = m + 1 := by omega
   rfl
  ·rw [countB_succ, countB_cut hm hf, hf m hm]
   rfl
structure Base1 (σ : Dk) (l : Lg) (p : Pg) (f : Nat → Bool) (root : Nat) : Prop where
 pd : p.dead = false
 sd : σ.dead = false
 two : 2 ≤ p.blocks σ
 map : p.look Im.none σ 0 = bytesOf f
 hi : ∀ b, p.blocks σ ≤ b → f b = false
 f0 : f 0 = true
 f1 : f 1 = true
 root : RootAt (p.look Im.none σ 1) root
theorem vused (v pg d : Nat) (σ : Dk) (l : Lg) (p : Pg) (f : Nat → Bool) (root : Nat) (S : Nat → Prop) (w : World) (hv : w.heap[v]? = some (.cells #[.pointer (some ⟨pg, 0, none⟩)] 102 (0, 0))) (hvS : ¬ S v) (h : PgAt w S pg d σ l p (.pointer none)) (hB : Base1 σ l p f root) :
  Calls Tryz.prog 16 #[.pointer (some ⟨v, 0, none⟩)] w fun e w' => e = .returned (.tuple #[.int .i64 (countB f (p.blocks σ)), .int .i64 0]) ∧ ∃ S', PgAt w' S' pg d σ l p (.pointer none) ∧ Step S S' w w' := by
 have HB := Lib.hid (vbegin v pg d σ l p f root S w hv hvS h hB.pd hB.sd hB.two hB.map hB.hi hB.f0 hB.f1 hB.root)
 have hcap : p.blocks σ ≤ 4096 := by have := h.ok.2.1.hi; unfold Pg.blocks; omega
 have HC := Lib.hid (countB_cut hcap hB.hi)
 have hsub := h.sub
 clear hv h
 go_enter_defers Tryz.func16, Tryz.ntmps16
 go_wp2_with (first
  | (go_at_call 13; go_must (refine HB.out.mono ?_; rintro e w1 ⟨t, tr, mp, S1, rfl, hpg, hd, htx, htr, hI1, hs1, hn1, hn2, hlo1, hlo2⟩; refine Stop.of ?_)))
 refine Stop.on ?_
 have c1 : w1.cell? ⟨t, 1, none⟩ = some (.pointer (some ⟨mp.mp, 0, none⟩)) := by simp [World.cell?, htx, vtCells]
 have hlt := (Array.getElem?_eq_some_iff.1 htx).1
 have HU := Lib.hid (show Calls Tryz.prog 66 #[.pointer (some ⟨mp.mp, 0, none⟩)] w1 fun e w' => e = .returned (.int .i64 (countB f 4096)) ∧ w' = w1 by
  obtain ⟨Sp, T, hI, hS⟩ := hI1
  exact mused mp.mp _ _ _ w1 hI.map)
 have HX := Lib.hid (And.intro htx (And.intro hI1 hs1))
 clear htx hI1 hs1 htr
 go_wp2_with (first
  | (go_at_call 66; go_must (refine HU.out.mono ?_; rintro e w2 ⟨rfl, hw2⟩; subst w2)))
 refine leaves_cons (f := 32) (args := #[.pointer (some ⟨t, 0, none⟩)]) (by simp) (by simp [go_sem]) ?_
 refine (vabort_d t tr mp false 0 _ S1 _ _ HX.out.1 HX.out.2.1 hn1).mono ?_
 rintro e u' w3 ⟨rfl, rfl, ⟨Sp, hp3, hsp3⟩, h3, hk3⟩
 refine ⟨.tuple #[.int .i64 (countB f 4096 : Nat), .int .i64 0], by simp [results, Tryz.results16, go_sem], by rw [HC.out], Sp, by rw [← hpg, ← hd]; exact hp3, HX.out.2.2.1.trans hk3 (fun g hg e => ?_), fun g hg => HX.out.2.2.2 g (hsp3 g hg)⟩
 rcases e with e | e
 ·exact (HX.out.2.2.2 g e).elim id (fun x => absurd hg (Nat.not_lt.2 x))
 ·subst e; exact absurd hg (Nat.not_lt.2 hlo1)
theorem tree_blocks (tr : Nat) (mp : VS) (root : Int) (σ : MSt) (S : Nat → Prop) (cs : List Pr) (tb : List Int) (w : World) (h : Inv σ S mp w) (ht : TreeAt w tr mp root 0) (hT : TrR σ root cs tb) (hl : cs.length ≤ 4090) :
  Calls Tryz.prog 77 #[.pointer (some ⟨tr, 0, none⟩)] w fun e w' => ∃ (v : Value) (L : List Int), e = .returned (.tuple #[v, .int .i64 0]) ∧ L.Perm tb ∧ OwnSl w' S w.heap.size 3 1 v L.length (L.map (.int .i64)) ∧ Below w.heap.size w w' := by
 obtain ⟨n, T, hn, hB, hp⟩ := hT.bl (by omega)
 by_cases hr : root = 0
 ·subst hr
  refine (blocks_zero tr mp S w ht).mono ?_
  rintro e w' ⟨v, rfl, ho, hb⟩
  rw [if_pos rfl] at hB
  have hT0 : T = [] := by cases hB <;> simp_all
  exact ⟨v, _, rfl, by rw [← hT0]; exact (srtI_perm _).trans hp, ho, hb⟩
 ·rw [if_neg hr] at hB
  refine (blocks_some tr mp root σ S w h ht hr n T hn hB (by have := hp.length_eq; have := hT.count; omega)).mono ?_
  rintro e w' ⟨v, rfl, ho, hb⟩
  exact ⟨v, _, rfl, (srtI_perm _).trans hp, ho, hb⟩
theorem scanP_all (es : List Ent) : ((csOf es).drop (posAt (csOf es) ⟨#[]⟩)) = csOf es := by
 have : posAt (csOf es) ⟨#[]⟩ = 0 := by
  unfold posAt
  cases csOf es with
  | nil => rfl
  | cons p r => rw [List.takeWhile_cons, lt_empty]; rfl
 rw [this, List.drop_zero]
theorem prs_at {w : World} {S : Nat → Prop} {B g n c : Nat} {ps : List Pr} (h : OwnSl w S B 127 2 (.slice (some ⟨g, 0, none⟩) n c) n (prCells ps)) (hn : ps.length = n) (k : Nat) (hk : k < n) :
  w.cell? ⟨g, k * 2, none⟩ = some (.string (ps[k]'(by omega)).1) ∧ w.cell? ⟨g, k * 2 + 1, none⟩ = some (.string (ps[k]'(by omega)).2) := by
 have hP : IsPrs w S (.slice (some ⟨g, 0, none⟩) n c) ps := by
  unfold IsPrs
  rw [hn]; exact h.isSl
 obtain ⟨pb, po, e1, d0, d1⟩ := hP.at rfl k (by omega)
 cases e1
 rw [Nat.zero_add] at d0 d1
 exact ⟨d0, d1⟩
theorem vcheck (v pg d : Nat) (σ : Dk) (l : Lg) (p : Pg) (f : Nat → Bool) (root : Nat) (S : Nat → Prop) (w : World) (es : List Ent) (tb : List Int) (hv : w.heap[v]? = some (.cells #[.pointer (some ⟨pg, 0, none⟩)] 102 (0, 0))) (hvS : ¬ S v) (h : PgAt w S pg d σ l p (.pointer none)) (hB : Base1 σ l p f root) (hL : Live (MSt.start σ l p f) root es tb) (hl : es.length ≤ 4090) :
  Calls Tryz.prog 34 #[.pointer (some ⟨v, 0, none⟩)] w fun e w' => e = .returned (.int .i64 0) ∧ ∃ S', PgAt w' S' pg d σ l p (.pointer none) ∧ Step S S' w w' := by
 have HB := Lib.hid (vbegin v pg d σ l p f root S w hv hvS h hB.pd hB.sd hB.two hB.map hB.hi hB.f0 hB.f1 hB.root)
 have hcap : p.blocks σ ≤ 4096 := by have := h.ok.2.1.hi; unfold Pg.blocks; omega
 have HC := Lib.hid (countB_cut hcap hB.hi)
 have hsub := h.sub
 clear hv h
 go_enter_defers Tryz.func34, Tryz.ntmps34
 go_wp2_with (first
  | (go_at_call 13; go_must (refine HB.out.mono ?_; rintro e w1 ⟨t, tr, mp, S1, rfl, hpg, hd, htx, htr, hI1, hs1, hn1, hn2, hlo1, hlo2⟩; refine Stop.of ?_)))
 refine Stop.on ?_
 obtain ⟨τ, hτ⟩ : ∃ τ, τ = MSt.start σ l p f := ⟨_, rfl⟩
 rw [← hτ] at hI1 hL
 have c2 : w1.cell? ⟨t, 2, none⟩ = some (.pointer (some ⟨tr, 0, none⟩)) := by simp [World.cell?, htx, vtCells]
 have hlt := (Array.getElem?_eq_some_iff.1 htx).1
 have hl' : (csOf es).length ≤ 4090 := by rw [csOf_length]; exact hl
 have HTB := Lib.hid (tree_blocks tr mp root τ S1 (csOf es) tb w1 hI1 htr hL.tree hl')
 have hS1 : ∀ g, S1 g → g < w1.heap.size := hI1.sub
 have hI1' := hI1.ok
 have HX := Lib.hid (And.intro htx (And.intro htr (And.intro hI1 hs1)))
 have HTAU := Lib.hid hτ
 clear htx htr hI1 hs1 hτ
 go_wp2_with (first
  | (go_at_call 77; go_must (refine HTB.out.mono ?_; rintro e w2 ⟨bv, L, rfl, hp2, ho2, hb2⟩; refine Stop.of ?_)))
 refine Stop.on ?_
 obtain ⟨xo, xc, rfl, _, _, _, _⟩ := IsSl.form ho2.isSl
 have hS2 : ∀ g, S1 g → g < w2.heap.size := fun g hg => Nat.lt_of_lt_of_le (hS1 g hg) hb2.size
 have hLl : L.length ≤ 9000 := by have := hp2.length_eq; have := hL.tree.count; omega
 have HP2 := Lib.hid hp2
 go_wp2_with (first
  | (at_builtin; go_must ((refine wpList_app rfl (.tmp 35) (.tmp 36) 133 133 rfl S1 w1.heap.size 3 1 8 _ Tryz.underlying133 info_int rfl (.slice xo L.length xc) _ _ rfl (ho2.below (below_one _ _)) _ 2 _ rfl (src_new [.int .i64 0, .int .i64 1] _ 1 2 2 (by simp) Tryz.underlying133 rfl ?_) (sub_alloc hS2 _) ?_ ?_ ?_ ?_); (focus (simp [Value.oneCell'])); (focus (simp only [World.size_alloc]; have := hb2.size; omega)); (focus (unfold maxLen; omega)); (focus omega); intro ao3 c3 w3 hown3 hk3 hb3 hd3; refine Stop.of ?_)))
 refine Stop.on ?_
 have hb13 : Below w1.heap.size w1 w3 := (hb2.trans ((below_one w2 _).mono hb2.size)).trans hb3
 have hE : L.map (Value.int .i64) ++ [.int .i64 0, .int .i64 1] = (L ++ [0, 1]).map (.int .i64) := by simp
 have hE2 : L.length + 2 = (L ++ [0, 1]).length := by simp
 rw [hE, hE2] at hown3
 have htx3 := (hb13.block t hlt).trans HX.out.1
 have d2 : w3.cell? ⟨t, 2, none⟩ = some (.pointer (some ⟨tr, 0, none⟩)) := by simp [World.cell?, htx3, vtCells]
 have hlt3 := (Array.getElem?_eq_some_iff.1 htx3).1
 have hI3 := HX.out.2.2.1.below hb13
 have htr3 : TreeAt w3 tr mp root 0 := (hb13.block tr (Array.getElem?_eq_some_iff.1 HX.out.2.1).1).trans HX.out.2.1
 have hSC := scan_tree tr mp root τ S1 (csOf es) tb ⟨#[]⟩ 262144 w3 hI3 htr3 hL.tree hl'
 rw [scanP_all, List.take_of_length_le (by rw [csOf_length]; show es.length ≤ (262144 : Int).toNat; omega), csOf_length] at hSC
 have HSC := Lib.hid hSC
 have HO3 := Lib.hid hown3
 have HB13 := Lib.hid hb13
 have HI3 := Lib.hid hI3
 obtain ⟨A0, hA0⟩ : ∃ A, A = L ++ [0, 1] := ⟨_, rfl⟩
 obtain ⟨n0, hn0⟩ : ∃ n, n = L.length + 2 := ⟨_, rfl⟩
 rw [← hE2, ← hn0, ← hA0] at HO3
 rw [← hn0]
 have HA0 := Lib.hid hA0; have HN0 := Lib.hid (show A0.length = n0 by rw [hA0, hn0]; simp); have HNL := Lib.hid (And.intro hLl hn0)
 clear hown3 hb13 hI3 hSC htx3 htr3 hb3 hk3 hd3 ho2 hb2 hp2 hE hE2 hA0 hn0
 go_wp2_with (first
  | (go_at_call 70; go_must (refine HSC.out.mono ?_; rintro e w4 ⟨pv, rfl, ho4, hb4⟩; refine Stop.of ?_)))
 refine Stop.on ?_
 obtain ⟨po, pc, rfl, _, _, _, _⟩ := IsSl.form ho4.isSl
 obtain ⟨n, hn⟩ : ∃ n, n = es.length := ⟨_, rfl⟩
 have HN := Lib.hid hn
 rw [← hn] at ho4 ⊢
 have ho4' := ho4.base HB13.out.size
 have hA4 := HO3.out.below hb4
 have hb14 := HB13.out.trans (hb4.mono HB13.out.size)
 have HV := Lib.hid hL.val
 have hct := hL.own.count hI1' hL.all
 have hbn : (bbOf es).length ≤ 4096 := by
  have := countB_le τ.now τ.most
  rw [hct, List.length_append] at this
  have := hI1'.cap
  omega
 have HBN := Lib.hid hbn; have HCT := Lib.hid hct
 clear hbn hct
 clear hn ho4 hb4
 go_wp2_with fail
 go_loopw [5, 8, 9, 10, 11, 12, 51] (fun a _ _ _ _ _ i wr => ∃ (k : Nat) (A : List Int), k ≤ n ∧ i = .int .i64 k ∧ OwnSl wr S1 w1.heap.size 3 1 a A.length (A.map (.int .i64)) ∧ A.Perm (A0 ++ bbOf (es.take k)) ∧ OwnSl wr S1 w1.heap.size 127 2 (.slice po n pc) n (prCells (csOf es)) ∧ Below w1.heap.size w1 wr) (fun _ _ _ _ _ _ i _ => n - (intOf i).toNat)
 case atStart => exact ⟨0, A0, Nat.zero_le _, rfl, by rw [HN0.out]; exact hA4, by simp [bbOf], ho4', hb14⟩
 case round =>
  clear hA4 ho4' hb14
  obtain ⟨k, A, hk, rfl, hAo, hAp, hPo, hbk⟩ := hrel
  obtain ⟨ao, ac, rfl, _, _, _, _⟩ := IsSl.form hAo.isSl
  by_cases hkn : k < n
  ·have y1 : (k : Int) < (n : Int) := by omega
   have hkx : k < es.length := by rw [← HN.out]; exact hkn
   obtain ⟨g, c, e1, _, _, hg1, hg2⟩ := hPo.form2 (by omega)
   cases e1
   obtain ⟨d0, d1⟩ := prs_at hPo (by rw [csOf_length]; exact HN.out.symm) k hkn
   obtain ⟨E, hE⟩ : ∃ E, Hid (es[k] = E) := ⟨_, Lib.hid rfl⟩
   have hcs : (csOf es)[k]'(by rw [csOf_length]; exact hkx) = (E.k, E.s) := by rw [← hE.out]; simp [csOf]
   rw [hcs] at d0 d1
   have hEm : E ∈ es := by rw [← hE.out]; exact List.getElem_mem hkx
   have HTK := Lib.hid (show bbOf (es.take (k + 1)) = bbOf (es.take k) ++ E.b by rw [List.take_succ_eq_append_getElem hkx, bbOf_append, hE.out]; simp [bbOf])
   have hAl : A.length + 97 ≤ 20000 := by
    have e1 := hAp.length_eq
    rw [List.length_append, HN0.out] at e1
    have e2 := HBN.out
    have e4 := HNL.out
    have e3 : (bbOf (es.take k)).length ≤ (bbOf es).length := by
     have : bbOf es = bbOf (es.take k) ++ bbOf (es.drop k) := by rw [← bbOf_append, List.take_append_drop]
     rw [this, List.length_append]; omega
    omega
   have hlw : g < wr.heap.size := hg2
   have hsr : ∀ g, S1 g → g < wr.heap.size := fun g hg => Nat.lt_of_lt_of_le (hS1 g hg) hbk.size
   have HAO := Lib.hid hAo; have HAP := Lib.hid hAp; have HPO := Lib.hid hPo; have HBK := Lib.hid hbk
   clear hcs hAo hAp hPo hbk
   rcases HV.out E hEm with ⟨s1, s2, s3⟩ | ⟨hd', rs, s1, s2, s3, s4⟩
   ·have hsz : E.s.size ≤ 1000000 := by
     have : E.s.size = E.v.size + 1 := by rw [s1]; show (0 :: E.v.data.toList).toArray.size = E.v.data.size + 1; simp
     omega
    have hl0 : longL E.s.data.toList = none := by rw [s1]; exact longL_small _
    have HL0 := Lib.hid hl0
    clear s1 s2 hl0
    go_wp2_with (first
     | (go_at_call 78; go_must (refine (vlong E.s _ hsz).mono ?_; rw [HL0.out]; rintro e w5 ⟨hb5, rfl⟩; refine Stop.of ?_)))
    refine Stop.on ?_
    have hbw5 : Below wr.heap.size wr w5 := (below_one wr _).trans (hb5.mono (by simp))
    clear hb5
    go_wp2_with fail
    go_roundw
    case rel => exact ⟨k + 1, A, by omega, by go_num, HAO.out.below hbw5, by rw [HTK.out, s3, List.append_nil]; exact HAP.out, HPO.out.below hbw5, HBK.out.trans (hbw5.mono HBK.out.size)⟩
    case measure => simp [intOf]; omega
   ·have hsz : E.s.size ≤ 1000000 := by rw [s1]; show [1, UInt8.ofNat hd', UInt8.ofNat (hd' / 256)].toArray.size ≤ _; simp
    have hl0 : longL E.s.data.toList = some hd' := by rw [s1]; exact longL_long hd' s2.1
    have HL0 := Lib.hid hl0; have HS3 := Lib.hid s3; have HS4 := Lib.hid s4
    clear s1 s2 hl0 s3 s4
    go_wp2_with (first
     | (go_at_call 78; go_must (refine (vlong E.s _ hsz).mono ?_; rw [HL0.out]; rintro e w5 ⟨hb5, rfl⟩; refine Stop.of ?_)))
    refine Stop.on ?_
    have hbw5 : Below wr.heap.size wr w5 := (below_one wr _).trans (hb5.mono (by simp))
    have hb15 := HBK.out.trans (hbw5.mono HBK.out.size)
    have htx5 := (hb15.block t hlt).trans HX.out.1
    have f0 : w5.cell? ⟨t, 0, none⟩ = some (.pointer (some ⟨mp.tx, 0, none⟩)) := by simp [World.cell?, htx5, vtCells]
    have f1 : w5.cell? ⟨t, 1, none⟩ = some (.pointer (some ⟨mp.mp, 0, none⟩)) := by simp [World.cell?, htx5, vtCells]
    have hlt5 := (Array.getElem?_eq_some_iff.1 htx5).1
    have HBB := Lib.hid (bBlocks mp τ S1 w5 hd' _ rs (HX.out.2.2.1.below hb15) HS3.out.hd)
    have HB5 := Lib.hid (And.intro hbw5 hb15)
    clear hb5 hbw5 hb15 htx5
    go_wp2_with (first
     | (go_at_call 79; go_must (refine HBB.out.mono ?_; rintro e w6 ⟨mv, rfl, ho6, hb6⟩; refine Stop.of ?_)))
    refine Stop.on ?_
    obtain ⟨mo, mc, rfl, _, _, _, _⟩ := IsSl.form ho6.isSl
    have hml : (srtI (blobB hd' rs)).length ≤ 97 := by
     rw [srtI_len]
     have := HS3.out.hd.runs.2
     simp [blobB]; omega
    have hb56 := HB5.out.1.trans (hb6.mono HB5.out.1.size)
    have hsrc := IsSl.src (P := Tryz.prog) ho6.isSl Tryz.underlying133 (one_ints _)
    have hA6 := HAO.out.below hb56
    have hP6 := HPO.out.below hb56
    have hs6 : ∀ g, S1 g → g < w6.heap.size := fun g hg => Nat.lt_of_lt_of_le (hsr g hg) hb56.size
    have hz6 : w1.heap.size ≤ w6.heap.size := Nat.le_trans HBK.out.size hb56.size
    obtain ⟨B, hB⟩ : ∃ B, Hid (srtI (blobB hd' rs) = B) := ⟨_, Lib.hid rfl⟩
    rw [hB.out] at hml hsrc ⊢
    clear ho6 hb6
    go_wp2_with (first
     | (at_builtin; (refine wpList_app rfl (.tmp 75) (.tmp 76) 133 133 rfl S1 w1.heap.size 3 1 8 _ Tryz.underlying133 info_int rfl (.slice ao A.length ac) A.length _ rfl hA6 (.slice mo B.length mc) B.length _ rfl hsrc hs6 hz6 (by unfold maxLen; omega) (by omega) ?_); go_must (intro ao7 c7 w7 hown7 hk7 hb7 hd7; refine Stop.of ?_)))
    refine Stop.on ?_
    go_wp2_with fail
    have hAm : A.map (Value.int .i64) ++ B.map (.int .i64) = (A ++ B).map (.int .i64) := by simp
    have hAl2 : A.length + B.length = (A ++ B).length := by simp
    go_roundw
    case rel =>
     refine ⟨k + 1, A ++ B, by omega, by go_num, by rw [← hAm, ← hAl2]; exact hown7, ?_, hP6.keep fun x hx hl hs => ⟨hk7.block x hl (fun e => OwnSl.ne2 hP6 hA6 (by decide) _ hx e), hs⟩, (HBK.out.trans (hb56.mono HBK.out.size)).trans hb7⟩
     rw [HTK.out, HS4.out, ← List.append_assoc]
     exact HAP.out.append (by rw [← hB.out]; exact srtI_perm _)
    case measure => simp [intOf]; omega
  ·obtain rfl : k = n := by omega
   have y1 : ¬ (k : Int) < (k : Int) := by omega
   have hAp2 : A.Perm (A0 ++ bbOf es) := by
    have := hAp
    rwa [HN.out, List.take_length] at this
   have hperm : A.Perm (0 :: 1 :: (tb ++ bbOf es)) := by
    refine hAp2.trans ?_
    rw [HA0.out]
    have e1 : (L ++ [0, 1] ++ bbOf es).Perm ([0, 1] ++ L ++ bbOf es) := List.perm_append_comm.append_right _
    refine e1.trans ?_
    have e2 : ([0, 1] ++ L ++ bbOf es) = 0 :: 1 :: (L ++ bbOf es) := by simp
    rw [e2]
    exact ((HP2.out.append_right _).cons _).cons _
   have hlen : A.length = countB f 4096 := by
    rw [hperm.length_eq, HC.out]
    have e1 := HCT.out
    have e2 : countB τ.now τ.most = countB f (p.blocks σ) := by rw [HTAU.out]; rfl
    rw [e2] at e1
    rw [e1]; simp; omega
   have hAll : ∀ x ∈ A, ∃ b : Nat, x = b ∧ b < τ.most ∧ τ.now b = true := by
    intro x hx
    rcases List.mem_cons.1 (hperm.mem_iff.1 hx) with rfl | hx
    ·exact ⟨0, rfl, by have := hI1'.two; omega, hI1'.n0⟩
    ·rcases List.mem_cons.1 hx with rfl | hx
     ·exact ⟨1, rfl, by have := hI1'.two; omega, hI1'.n1⟩
     ·exact MSt.hasB_nat (hL.all x hx).1
   have hnd : A.Nodup := by
    refine hperm.nodup_iff.2 (List.nodup_cons.2 ⟨fun e => ?_, List.nodup_cons.2 ⟨fun e => ?_, hL.own.nd⟩⟩)
    ·rcases List.mem_cons.1 e with e | e
     ·cases e
     ·have := (hL.all 0 e).2; omega
    ·have := (hL.all 1 e).2; omega
   have hAl : A.length ≤ 4096 := by rw [hlen]; exact countB_le f 4096
   have HSO := Lib.hid (sort_own _ A wr S1 w1.heap.size hAo (by omega) hbk.size)
   obtain ⟨Q, hQ⟩ : ∃ Q, Hid (srtI A = Q) := ⟨_, Lib.hid rfl⟩
   have hQr := srtI_rise hnd
   have hQl := srtI_len A
   have hQm : ∀ x ∈ srtI A, x ∈ A := fun x hx => (srtI_mem x).1 hx
   rw [hQ.out] at HSO hQr hQl hQm
   obtain ⟨m, hm⟩ : ∃ m, m = A.length := ⟨_, rfl⟩
   rw [hQl, ← hm] at HSO
   rw [← hm] at hQl hlen hAl ⊢
   have HQ := Lib.hid (And.intro hQr (And.intro hQl (And.intro hQm hAll)))
   have HLEN := Lib.hid hlen; have HBK := Lib.hid hbk
   clear hAp hAp2 hperm hlen hAll hnd hQr hQl hQm hm hAo hPo hbk
   go_wp2_with (first
    | (go_at_call 80; go_must (refine HSO.out.mono ?_; rintro e w5 ⟨rfl, ho5, hb5⟩; refine Stop.of ?_)))
   refine Stop.on ?_
   have hb15 := HBK.out.trans hb5
   have htx5 := (hb15.block t hlt).trans HX.out.1
   have f1 : w5.cell? ⟨t, 1, none⟩ = some (.pointer (some ⟨mp.mp, 0, none⟩)) := by simp [World.cell?, htx5, vtCells]
   have hlt5 := (Array.getElem?_eq_some_iff.1 htx5).1
   have hI5 := HX.out.2.2.1.below hb15
   have hmap : MpAt w5 mp.mp τ.most τ.now τ.H.old := by obtain ⟨Sp, T, hI, _⟩ := hI5; exact hI.map
   have HMAP := Lib.hid hmap; have HO5 := Lib.hid ho5; have HX5 := Lib.hid (And.intro htx5 (And.intro hI5 hb15))
   clear hmap ho5 htx5 hI5 hb15 hb5
   have hmc := hI1'.cap
   go_wp2_with fail
   go_loopw [13, 14, 83] (fun _ _ i wk => ∃ j : Nat, j ≤ m ∧ i = .int .i64 j ∧ wk = w5) (fun _ _ i _ => m - (intOf i).toNat)
   case atStart => exact ⟨0, Nat.zero_le _, rfl, rfl⟩
   case round =>
    obtain ⟨j, hj, rfl, hwk⟩ := hrel
    subst hwk
    by_cases hjm : j < m
    ·have y2 : (j : Int) < (m : Int) := by omega
     have hI : IsInts wr S1 (.slice ao m ac) Q := by
      have := HO5.out.isSl
      unfold IsInts
      rw [HQ.out.2.1]; exact this
     have hjQ : j < Q.length := by rw [HQ.out.2.1]; exact hjm
     obtain ⟨pb, po', rfl, q1⟩ := hI.at rfl j hjQ
     have hpb := World.block_lt_of_cell? wr _ q1
     obtain ⟨b, hb, hbm, hbn⟩ := HQ.out.2.2.2 Q[j] (HQ.out.2.2.1 _ (List.getElem_mem hjQ))
     have HBQ := Lib.hid hb
     rw [hb] at q1
     have HHS := mhas mp.mp τ.most τ.now τ.H.old b wr HMAP.out hmc (by omega)
     rw [show (decide (b < τ.most) && τ.now b) = true by simp [hbm, hbn]] at HHS
     have HHS := Lib.hid HHS
     by_cases hj0 : j = 0
     ·subst hj0
      rw [Nat.add_zero] at q1
      clear hI hb hbm hbn
      go_wp2_with (first
       | (go_at_call 81; go_must (refine HHS.out.mono ?_; rintro e w6 ⟨rfl, hw6⟩; subst w6)))
      go_roundw
      case rel => exact ⟨1, by omega, by go_num, trivial⟩
      case measure => simp [intOf]; omega
     ·have hj1 : j - 1 < Q.length := by omega
      obtain ⟨pb', po'', e', q2⟩ := hI.at rfl (j - 1) hj1
      cases e'
      obtain ⟨b2, hb2, _, _⟩ := HQ.out.2.2.2 Q[j - 1] (HQ.out.2.2.1 _ (List.getElem_mem hj1))
      have hne : ¬ b2 = b := by
       have := List.pairwise_iff_getElem.1 HQ.out.1 (j - 1) j hj1 hjQ (by omega)
       omega
      rw [hb2] at q2
      have y3 : (0 : Int) < (j : Int) := by omega
      have y4 : IntKind.i64.wrap ((j : Int) - 1) = ((j - 1 : Nat) : Int) := by rw [IntWalk.i64_in _ (by omega)]; omega
      have y5 : ((j - 1 : Nat) : Int) < (m : Int) := by omega
      have y6 : (0 : Int) ≤ ((j - 1 : Nat) : Int) := by omega
      have y7 : ¬ (b2 : Int) = (b : Int) := by omega
      have y8 : ((b2 : Int) == (b : Int)) = false := by simpa using y7
      obtain ⟨j1, hj1e⟩ : ∃ x : Nat, Hid (j - 1 = x) := ⟨_, Lib.hid rfl⟩
      rw [hj1e.out] at q2 y4 y5 y6
      clear hI hb hbm hbn hb2
      go_wp2_with (first
       | (go_at_call 81; go_must (refine HHS.out.mono ?_; rintro e w6 ⟨rfl, hw6⟩; subst w6)))
      go_roundw
      case rel => exact ⟨j + 1, by omega, by go_num, trivial⟩
      case measure => simp [intOf]; omega
    ·obtain rfl : j = m := by omega
     have y2 : ¬ (j : Int) < (j : Int) := by omega
     have HU := mused mp.mp τ.most τ.now τ.H.old wr HMAP.out
     have hnow : countB τ.now 4096 = j := by rw [HLEN.out, HTAU.out]; rfl
     rw [hnow] at HU
     have HU := Lib.hid HU
     have HLO := Lib.hid (And.intro hlo1 (And.intro hpg (And.intro hd hn1)))
     clear hnow
     go_wp2_with (first
      | (go_at_call 66; go_must (refine HU.out.mono ?_; rintro e w6 ⟨rfl, hw6⟩; subst w6)))
     refine leaves_cons (f := 32) (args := #[.pointer (some ⟨t, 0, none⟩)]) (by simp) (by simp [go_sem]) ?_
     refine (vabort_d t tr mp false 0 τ S1 _ _ HX5.out.1 HX5.out.2.1 hn1).mono ?_
     rintro e u' w7 ⟨rfl, rfl, ⟨Sp, hp7, hsp7⟩, h7, hk7⟩
     rw [HTAU.out] at hp7
     refine ⟨_, by simp [results, Tryz.results34, go_sem], rfl, Sp, by rw [← HLO.out.2.1, ← HLO.out.2.2.1]; exact hp7, (HX.out.2.2.2.1.trans (Keep.of_below HX5.out.2.2 NoS) (fun _ _ e => e.elim)).trans hk7 (fun g hg e => ?_), fun g hg => HX.out.2.2.2.2 g (hsp7 g hg)⟩
     rcases e with e | e
     ·exact (HX.out.2.2.2.2 g e).elim id (fun x => absurd hg (Nat.not_lt.2 x))
     ·subst e; exact absurd hg (Nat.not_lt.2 HLO.out.1)
def checkL (n : Nat) (log : Int) : Int := if log < 6 ∨ (n : Int) - 8 < log then 1 else 0
theorem vchk (d : Nat) (σ : Dk) (Sd : Nat → Prop) (log : Int) (w : World) (h : Dsk w Sd d σ) :
  Calls Tryz.prog 47 #[.pointer (some ⟨d, 0, none⟩), .int .i64 log] w fun e w' => e = .returned (.int .i64 (checkL σ.n log)) ∧ w' = w := by
 have HS := Lib.hid (dsize d σ Sd w h)
 have hi := h.ok.hi
 have q : IntKind.i64.wrap ((σ.n : Int) - 8) = (σ.n : Int) - 8 := IntWalk.i64_in _ (by omega)
 clear h
 unfold checkL
 by_cases h1 : log < 6
 ·rw [if_pos (.inl h1)]
  go_enter Tryz.func47, Tryz.ntmps47
  go_wp2_with fail
  go_ret
  exact ⟨rfl, rfl⟩
 ·by_cases h2 : (σ.n : Int) - 8 < log
  ·rw [if_pos (.inr h2)]
   go_enter Tryz.func47, Tryz.ntmps47
   go_wp2_with (first
    | (go_at_call 25; go_must (refine HS.out.mono ?_; rintro e w1 ⟨rfl, hw1⟩; subst w1)))
   go_ret
   exact ⟨rfl, rfl⟩
  ·rw [if_neg (by omega)]
   go_enter Tryz.func47, Tryz.ntmps47
   go_wp2_with (first
    | (go_at_call 25; go_must (refine HS.out.mono ?_; rintro e w1 ⟨rfl, hw1⟩; subst w1)))
   go_ret
   exact ⟨rfl, rfl⟩
theorem need_im {im : Im} {n : Nat} (h : im.Ok n) : needOf im.batch = (16 + 520 * im.ks.length + 511) / 512 := by
 have e : (im.batch.map fun r => 4 + r.length).sum = 520 * im.ks.length := by
  unfold Im.batch
  rw [List.map_map]
  have hi := h.img
  revert hi
  generalize im.ks = ks
  intro hi
  induction ks with
  | nil => rfl
  | cons k ks ih =>
   rw [List.map_cons, List.sum_cons, ih (fun x hx => hi x (List.mem_cons_of_mem _ hx)), List.length_cons]
   have := hi k (List.mem_cons_self ..)
   show 4 + (leB k 4 ++ im.img k).length + _ = _
   rw [List.length_append, leB_length, this]; omega
 unfold needOf
 rw [e]
theorem Dk.wipe_get : ∀ (k i : Nat) (σ : Dk) (j : Nat), i ≤ j → j < i + k → (Dk.wipe k i σ).get j = pad []
 | 0, _, _, _, h1, h2 => absurd h2 (by omega)
 | k + 1, i, σ, j, h1, h2 => by
  rw [Dk.wipe_snoc, Dk.get_put]
  split
  ·rfl
  ·exact Dk.wipe_get k i σ j h1 (by omega)
structure NewV (σ0 : Dk) (log : Nat) (σ : Dk) (l : Lg) (p : Pg) : Prop where
 vi : VI σ l p
 last : l.last = 1
 synced : l.synced = 1
 skip : p.skip = log
 ring : p.ring = log - 1
 n : σ.n = σ0.n
 base : Base1 σ l p two 0
theorem NewV.live {σ : Dk} {l : Lg} {p : Pg} : Live (MSt.start σ l p two) 0 [] [] := by
 refine ⟨.inl ⟨rfl, rfl, rfl⟩, (fun e he => by cases he), ⟨List.nodup_nil, fun x hx => ?_, ?_⟩⟩
 ·obtain ⟨n, rfl, _, h⟩ := MSt.hasB_nat hx
  have h : two n = true := h
  unfold two at h
  have := of_decide_eq_true h
  omega
 ·show countB (fun x => two x || two x) (p.blocks σ) = countB two (p.blocks σ) + 0
  rw [Nat.add_zero]
  exact countB_congr _ (fun x _ => Bool.or_self _)
theorem vmake (d : Nat) (σ : Dk) (Sd : Nat → Prop) (log : Nat) (w : World) (h : Dsk w Sd d σ) (hf : σ.Free) (h1 : 6 ≤ log) (h2 : log + 8 ≤ σ.n) (hcap : σ.waits.length ≤ 50000) :
  Calls Tryz.prog 11 #[.pointer (some ⟨d, 0, none⟩), .int .i64 log] w fun e w' => ∃ v pg σ' l' p' S', e = .returned (.tuple #[.pointer (some ⟨v, 0, none⟩), .int .i64 0]) ∧ w'.heap[v]? = some (.cells #[.pointer (some ⟨pg, 0, none⟩)] 102 (0, 0)) ∧ ¬ S' v ∧ w.heap.size ≤ v ∧ PgAt w' S' pg d σ' l' p' (.pointer none) ∧ NewV σ log σ' l' p' ∧ Step Sd S' w w' := by
 have hck := vchk d σ Sd log w h
 have hc0 : checkL σ.n log = 0 := by unfold checkL; rw [if_neg (by omega)]
 rw [hc0] at hck
 have HCK := Lib.hid hck
 have hdn := h.ok.hi
 have HPM := Lib.hid (pmake d σ Sd log w h hf (by omega) (by omega) hcap)
 have hsub := h.sub
 clear h hck hc0
 go_enter Tryz.func11, Tryz.ntmps11
 go_wp2_with (first
  | (go_at_call 47; go_must (refine HCK.out.mono ?_; rintro e w1 ⟨rfl, hw1⟩; subst w1))
  | (go_at_call 48; go_must (refine HPM.out.mono ?_; rintro e w1 ⟨pg, S1, rfl, hp1, hs1⟩; refine Stop.of ?_)))
 refine Stop.on ?_
 obtain ⟨σ1, hσ1⟩ : ∃ σ1, σ1 = (((Dk.wipe (σ.n - log) log σ).flush.put 0 (Lg.new 0 log).markB).flush) := ⟨_, rfl⟩
 rw [← hσ1] at hp1
 have hn1 : σ1.n = σ.n := by rw [hσ1]; exact Dk.wipe_n _ _ _
 have hf1 : σ1.Free := by rw [hσ1]; exact Dk.wipe_free _ _ _ hf
 have hw1 : σ1.waits = [] := by rw [hσ1]; rfl
 have hg1 : ∀ j, log ≤ j → j < σ.n → σ1.get j = pad [] := fun j a b => by
  rw [hσ1, get_marked _ _ _ _ (by omega)]
  exact Dk.wipe_get _ _ _ _ a (by omega)
 have hbl : (Pg.new log).blocks σ1 = σ.n - log := by unfold Pg.blocks; rw [hn1]; rfl
 have HBG := Lib.hid (pbegin pg d σ1 (Lg.new 0 log) (Pg.new log) S1 w1 hp1 rfl)
 have hsub1 := hp1.sub
 have HS1 := Lib.hid hs1
 have HF1 := Lib.hid (And.intro hn1 (And.intro hf1 (And.intro hw1 hg1)))
 clear hσ1 hp1 hs1 hn1 hf1 hw1 hg1
 go_wp2_with (first
  | (go_at_call 49; go_must (refine HBG.out.mono ?_; rintro e w2 ⟨t, T, rfl, hp2, ht2, hs2, hT2⟩; refine Stop.of ?_)))
 refine Stop.on ?_
 have hdis : ∀ g, S1 g → ¬ T g := fun g hg e => absurd (hT2 g e) (Nat.not_le.2 (hsub1 g hg))
 have HBL := Lib.hid (pblocks pg d σ1 (Lg.new 0 log) (Pg.new log) _ S1 w2 hp2)
 have HSM := Lib.hid (spmake t pg d σ1 (Lg.new 0 log) (Pg.new log) _ Im.none S1 T w2.drew (hp2.below ((Below.refl _ w2).drew)) (ht2.below ((Below.refl _ w2).drew)) rfl (by omega))
 clear hbl
 have HX2 := Lib.hid (And.intro hp2 hs2)
 clear hp2 ht2 hs2
 go_wp2_with (first
  | (go_at_call 51; go_must (refine HBL.out.mono ?_; rintro e w3 ⟨rfl, hw3⟩; subst w3))
  | (go_at_call 50; go_must (refine HSM.out.mono ?_; rintro e w3 ⟨rfl, ht3, hs3⟩; refine Stop.of ?_)))
 refine Stop.on ?_
 obtain ⟨im, him⟩ : ∃ im, im = Im.none.put 0 (bytesOf two) := ⟨_, rfl⟩
 rw [← him] at ht3
 have hp3 := (HX2.out.1.below ((Below.refl _ w2).drew)).keep hs3.1 (fun g hg e => hdis g hg e)
 have himok : im.Ok ((Pg.new log).blocks σ1) := by obtain ⟨_, q⟩ := ht3; exact q.ok
 have hks : im.ks = [0] := by rw [him]; rfl
 have hPO := hp3.ok
 have hV1 : VI σ1 (Lg.new 0 log) (Pg.new log) := ⟨HF1.out.2.1, rfl, rfl, by rw [HF1.out.2.2.1]; exact Nat.zero_le _⟩
 have HCM := pcommit t pg d σ1 (Lg.new 0 log) (Pg.new log) _ im S1 T w3 hp3 ht3 hdis rfl rfl (by rw [HF1.out.2.2.1]; exact Nat.zero_le _) (by show 0 < 1000000000000; omega)
 obtain ⟨σ2, l2, p2, hcm, hV2, hl2, hk2, hr2, hn2, hlk2⟩ : ∃ σ2 l2 p2, (Pg.new log).commit σ1 (Lg.new 0 log) im = (σ2, l2, p2, 1, 0) ∧ VI σ2 l2 p2 ∧ l2.last = 1 ∧ p2.skip = log ∧ p2.ring = log - 1 ∧ σ2.n = σ1.n ∧ ∀ b, p2.look Im.none σ2 b = (Pg.new log).look im σ1 b := by
  rcases commit_law hV1 hPO.1 hPO.2.2 himok with ⟨q, _⟩ | ⟨_, q, _⟩ | ⟨_, _, σ2, l2, p2, q1, q2, q3, q4, q5, q6, q7⟩
  ·rw [hks] at q; cases q
  ·unfold Pg.over1 at q
   rw [need_im himok, hks] at q
   have : (Pg.new log).ring = log - 1 := rfl
   rw [this] at q
   simp at q
   omega
  ·exact ⟨σ2, l2, p2, q1, q2, q3, q4, q5, q6, q7⟩
 rw [hcm] at HCM
 have HCM := Lib.hid HCM
 have HLK := Lib.hid (And.intro hV2 (And.intro hl2 (And.intro hk2 (And.intro hr2 (And.intro hn2 (And.intro hlk2 him))))))
 have HS3 := Lib.hid (HX2.out.2.trans ((Step.of_below ((Below.refl _ w2).drew) : Step S1 S1 w2 w2.drew)))
 have HK3 := Lib.hid hs3
 clear hp3 ht3 himok hks hPO hV1 hcm hV2 hl2 hk2 hr2 hn2 hlk2 him hs3
 go_wp2_with (first
  | (go_at_call 52; go_must (refine HCM.out.mono ?_; rintro e w4 ⟨rfl, S4, hp4, hE4, hs4⟩; refine Stop.of ?_)))
 refine Stop.on ?_
 obtain ⟨σ5, l5, hsy, hV5, hl5, hy5, hn5, hlk5⟩ := sync_law HLK.out.1 hp4.ok.1
 have HSY := psync pg d σ2 l2 p2 _ S4 w4 hp4 (by have := HLK.out.1.wt; have := hp4.ok.2.2.us; have := hp4.ok.2.2.hi; omega)
 rw [hsy] at HSY
 have HSY := Lib.hid HSY
 have HL5 := Lib.hid (And.intro hV5 (And.intro hl5 (And.intro hy5 (And.intro hn5 hlk5))))
 have HS4 := Lib.hid hs4
 clear hp4 hE4 hs4 hsy hV5 hl5 hy5 hn5 hlk5
 go_wp2_with (first
  | (go_at_call 53; go_must (refine HSY.out.mono ?_; rintro e w5 ⟨rfl, S5, hp5, hs5⟩; refine Stop.of ?_)))
 refine Stop.on ?_
 go_wp2_with fail
 go_ret2
 have hb6 := below_one w5 (.cells #[.pointer (some ⟨pg, 0, none⟩)] 102)
 have hsub5 := hp5.sub
 have hz5 : w.heap.size ≤ w5.heap.size := by
  have a := HS1.out.1.size; have b := HS3.out.1.size; have c := HK3.out.1.size; have d := HS4.out.1.size; have e := hs5.1.size
  omega
 have hskip := HLK.out.2.2.1
 have hlook : ∀ b, p2.look Im.none σ5 b = (Pg.new log).look im σ1 b := fun b => (HL5.out.2.2.2.2 Im.none b).trans (HLK.out.2.2.2.2.2.1 b)
 have hn5 : σ5.n = σ.n := HL5.out.2.2.2.1.trans (HLK.out.2.2.2.2.1.trans HF1.out.1)
 refine ⟨w5.heap.size, pg, σ5, l5, p2, S5, rfl, heap_alloc_new w5 _, fun e => Nat.lt_irrefl _ (hsub5 _ e), hz5, hp5.below hb6, ⟨HL5.out.1, HL5.out.2.1.trans HLK.out.2.1, HL5.out.2.2.1.trans HLK.out.2.1, hskip, HLK.out.2.2.2.1, hn5, ?_⟩, ?_⟩
 ·have hbl5 : p2.blocks σ5 = σ.n - log := by unfold Pg.blocks; rw [hn5, hskip]
  refine ⟨HLK.out.1.pd, HL5.out.1.free.1, by omega, ?_, fun b hb => ?_, rfl, rfl, ?_⟩
  ·rw [hlook, HLK.out.2.2.2.2.2.2]
   unfold Pg.look
   rw [Im.find_put, if_pos rfl]; rfl
  ·unfold two
   exact decide_eq_false (by omega)
  ·rw [hlook, HLK.out.2.2.2.2.2.2]
   have : (Pg.new log).look (Im.none.put 0 (bytesOf two)) σ1 1 = pad [] := by
    unfold Pg.look
    rw [Im.find_put, if_neg (by omega)]
    exact HF1.out.2.2.2 (log + 1) (by omega) (by omega)
   rw [this]
   exact ⟨by omega, List.replicate 510 0, rfl⟩
 ·have h0 := HS1.out.trans HS3.out
  have a : Step Sd (fun g => S1 g ∨ T g) w w2.drew := ⟨h0.1, fun g hg => hg.elim (h0.2 g) (fun e => .inr (Nat.le_trans HS1.out.1.size (hT2 g e)))⟩
  have b : Step Sd (fun g => S1 g ∨ T g) w w3 := a.trans ⟨HK3.out.1.mono (fun g _ e => .inr e), fun g hg => .inl hg⟩
  have c := b.trans HS4.out
  have e : Step Sd S5 w w5 := c.trans ⟨hs5.1.mono (fun g _ e => .inl e), fun g hg => (hs5.2 g hg).imp .inl id⟩
  exact e.trans (Step.of_below hb6)
theorem vabort_done (t : Nat) (mp : VS) (ch : Bool) (er : Int) (w : World) (h : w.heap[t]? = some (.cells (vtCells mp none ch er) 118 (0, 0))) :
  Calls Tryz.prog 32 #[.pointer (some ⟨t, 0, none⟩)] w fun e w' => w' = w ∧ e = .returned (.tuple #[]) := by
 have c2 : w.cell? ⟨t, 2, none⟩ = some (.pointer none) := by simp [World.cell?, h, vtCells]
 have hl := (Array.getElem?_eq_some_iff.1 h).1
 clear h
 go_enter Tryz.func32, Tryz.ntmps32
 go_wp2_with fail
 go_end0
 exact ⟨rfl, rfl⟩
theorem vscan_no (tp : Option Addr) (key : ByteArray) (most er : Int) (w : World) (hu : Calls Tryz.prog 58 #[.pointer tp, .string ⟨#[107]⟩] w fun e w' => w' = w ∧ e = .returned (.int .i64 er)) (her : er ≠ 0) :
  Calls Tryz.prog 20 #[.pointer tp, .string key, .int .i64 most] w fun e w' => w' = w ∧ e = .returned (.tuple #[.slice none 0 0, .int .i64 er]) := by
 have hne : (er != 0) = true := by simp [her]
 have HU := Lib.hid hu
 clear hu
 go_enter Tryz.func20, Tryz.ntmps20
 go_wp2_with (first
  | (go_at_call 58; go_must (refine HU.out.mono ?_; rintro e w1 ⟨hw1, rfl⟩; subst w1)))
 go_ret2
 exact ⟨rfl, rfl⟩
theorem vcommit_no (tp : Option Addr) (er : Int) (w : World) (P : World → Prop) (hu : Calls Tryz.prog 58 #[.pointer tp, .string ⟨#[107]⟩] w fun e w' => w' = w ∧ e = .returned (.int .i64 er)) (her : er ≠ 0)
  (ha : Calls Tryz.prog 32 #[.pointer tp] w fun e w' => e = .returned (.tuple #[]) ∧ P w') :
  Calls Tryz.prog 15 #[.pointer tp] w fun e w' => e = .returned (.tuple #[.int .i64 0, .int .i64 er]) ∧ P w' := by
 have hne : (er != 0) = true := by simp [her]
 have HU := Lib.hid hu; have HA := Lib.hid ha
 clear hu ha
 go_enter_defers Tryz.func15, Tryz.ntmps15
 go_wp2_with (first
  | (go_at_call 58; go_must (refine HU.out.mono ?_; rintro e w1 ⟨hw1, rfl⟩; subst w1))
  | (go_at_call 32; go_must (refine HA.out.mono ?_; rintro e w1 ⟨rfl, hp1⟩)))
 exact ⟨.tuple #[.int .i64 0, .int .i64 er], by simp [results, Tryz.results15, go_sem], rfl, hp1⟩
theorem vbegin_busy (v pg d : Nat) (σ : Dk) (l : Lg) (p : Pg) (t : Nat) (S : Nat → Prop) (w : World) (hv : w.heap[v]? = some (.cells #[.pointer (some ⟨pg, 0, none⟩)] 102 (0, 0))) (h : PgAt w S pg d σ l p (.pointer (some ⟨t, 0, none⟩))) (hd : p.dead = false) :
  Calls Tryz.prog 13 #[.pointer (some ⟨v, 0, none⟩)] w fun e w' => w' = w ∧ e = .returned (.tuple #[.pointer none, .int .i64 6]) := by
 have c0 : w.cell? ⟨v, 0, none⟩ = some (.pointer (some ⟨pg, 0, none⟩)) := by simp [World.cell?, hv]
 have hlt := (Array.getElem?_eq_some_iff.1 hv).1
 have HB := Lib.hid (pbegin_busy pg d σ l p t S w h hd)
 clear hv h
 go_enter Tryz.func13, Tryz.ntmps13
 go_wp2_with (first
  | (go_at_call 49; go_must (refine HB.out.mono ?_; rintro e w1 ⟨rfl, hw1⟩; subst w1)))
 go_ret2
 exact ⟨rfl, rfl⟩
theorem vused_no (vp : Option Addr) (er : Int) (w : World) (hb : Calls Tryz.prog 13 #[.pointer vp] w fun e w' => w' = w ∧ e = .returned (.tuple #[.pointer none, .int .i64 er])) (her : er ≠ 0) :
  Calls Tryz.prog 16 #[.pointer vp] w fun e w' => w' = w ∧ e = .returned (.tuple #[.int .i64 0, .int .i64 er]) := by
 have hne : (er != 0) = true := by simp [her]
 have HB := Lib.hid hb
 clear hb
 go_enter_defers Tryz.func16, Tryz.ntmps16
 go_wp2_with (first
  | (go_at_call 13; go_must (refine HB.out.mono ?_; rintro e w1 ⟨hw1, rfl⟩; subst w1)))
 exact ⟨.tuple #[.int .i64 0, .int .i64 er], by simp [results, Tryz.results16, go_sem], rfl, rfl⟩
theorem vcheck_no (vp : Option Addr) (er : Int) (w : World) (hb : Calls Tryz.prog 13 #[.pointer vp] w fun e w' => w' = w ∧ e = .returned (.tuple #[.pointer none, .int .i64 er])) (her : er ≠ 0) :
  Calls Tryz.prog 34 #[.pointer vp] w fun e w' => w' = w ∧ e = .returned (.int .i64 er) := by
 have hne : (er != 0) = true := by simp [her]
 have HB := Lib.hid hb
 clear hb
 go_enter_defers Tryz.func34, Tryz.ntmps34
 go_wp2_with (first
  | (go_at_call 13; go_must (refine HB.out.mono ?_; rintro e w1 ⟨hw1, rfl⟩; subst w1)))
 exact ⟨.int .i64 er, by simp [results, Tryz.results34, go_sem], rfl, rfl⟩
structure VAt (w : World) (S : Nat → Prop) (v pg d : Nat) (σ : Dk) (l : Lg) (p : Pg) (f : Nat → Bool) (root : Nat) (es : List Ent) (tb : List Int) : Prop where
 obj : w.heap[v]? = some (.cells #[.pointer (some ⟨pg, 0, none⟩)] 102 (0, 0))
 nv : ¬ S v
 pgr : PgAt w S pg d σ l p (.pointer none)
 vi : VI σ l p
 base : Base1 σ l p f root
 live : Live (MSt.start σ l p f) root es tb
structure BAt (σ : MSt) (root : Nat) (es : List Ent) (tb : List Int) : Prop where
 vi : VI σ.H.dk σ.H.lg σ.H.pg
 base : Base1 σ.H.dk σ.H.lg σ.H.pg σ.H.old root
 live : Live (MSt.start σ.H.dk σ.H.lg σ.H.pg σ.H.old) root es tb
structure TAt (w : World) (S : Nat → Prop) (v t tr : Nat) (mp : VS) (σ : MSt) (root : Int) (es : List Ent) (tb : List Int) (ch : Bool) (root0 : Nat) (es0 : List Ent) (tb0 : List Int) : Prop where
 obj : w.heap[v]? = some (.cells #[.pointer (some ⟨mp.pg, 0, none⟩)] 102 (0, 0))
 nv : ¬ S v
 tx : TxV w S t tr mp σ root 0 ch 0
 live : Live σ root es tb
 bas : BAt σ root0 es0 tb0
 ch : ch = false → σ = MSt.start σ.H.dk σ.H.lg σ.H.pg σ.H.old ∧ es = es0
structure EAt (w : World) (S : Nat → Prop) (v t tr : Nat) (mp : VS) (σ : MSt) (ch : Bool) (root0 : Nat) (es0 : List Ent) (tb0 : List Int) : Prop where
 obj : w.heap[v]? = some (.cells #[.pointer (some ⟨mp.pg, 0, none⟩)] 102 (0, 0))
 nv : ¬ S v
 tx : ∃ root err, TxV w S t tr mp σ root err ch 12
 bas : BAt σ root0 es0 tb0
theorem v_ne_t {w : World} {v t pg : Nat} {mp : VS} {tr : Option Nat} {ch : Bool} {er : Int} (h : w.heap[v]? = some (.cells #[.pointer (some ⟨pg, 0, none⟩)] 102 (0, 0))) (ht : w.heap[t]? = some (.cells (vtCells mp tr ch er) 118 (0, 0))) : v ≠ t := by
 rintro rfl
 rw [h] at ht
 injection ht with ht
 injection ht with _ h2
 exact absurd h2 (by decide)
theorem v_ne_tr {w : World} {v t pg : Nat} {mp : VS} {root err : Int} (h : w.heap[v]? = some (.cells #[.pointer (some ⟨pg, 0, none⟩)] 102 (0, 0))) (ht : TreeAt w t mp root err) : v ≠ t := by
 rintro rfl
 unfold TreeAt at ht
 rw [h] at ht
 injection ht with ht
 injection ht with _ h2
 exact absurd h2 (by decide)
theorem TAt.objStep {w w' : World} {S S' : Nat → Prop} {v t tr : Nat} {mp : VS} (h : w.heap[v]? = some (.cells #[.pointer (some ⟨mp.pg, 0, none⟩)] 102 (0, 0))) (hn : ¬ S v) {ch : Bool} {er root err : Int} (htx : w.heap[t]? = some (.cells (vtCells mp (some tr) ch er) 118 (0, 0))) (htr : TreeAt w tr mp root err) (hs : TStep S S' t tr w w') :
  w'.heap[v]? = some (.cells #[.pointer (some ⟨mp.pg, 0, none⟩)] 102 (0, 0)) ∧ ¬ S' v := by
 have hl := (Array.getElem?_eq_some_iff.1 h).1
 refine ⟨(hs.1.block v hl (fun e => ?_)).trans h, fun e => (hs.2 v e).elim hn (fun x => absurd hl (Nat.not_lt.2 x))⟩
 rcases e with e | e | e
 ·exact hn e
 ·exact v_ne_t h htx e
 ·exact v_ne_tr h htr e
theorem VAt.below {w w' : World} {S : Nat → Prop} {v pg d : Nat} {σ : Dk} {l : Lg} {p : Pg} {f : Nat → Bool} {root : Nat} {es : List Ent} {tb : List Int} (h : VAt w S v pg d σ l p f root es tb) (hb : Below w.heap.size w w') : VAt w' S v pg d σ l p f root es tb :=
 ⟨(hb.block v (Array.getElem?_eq_some_iff.1 h.obj).1).trans h.obj, h.nv, h.pgr.below hb, h.vi, h.base, h.live⟩
theorem VAt.step {w w' : World} {S S' : Nat → Prop} {v pg d : Nat} {σ : Dk} {l : Lg} {p : Pg} {f : Nat → Bool} {root : Nat} {es : List Ent} {tb : List Int} (h : VAt w S v pg d σ l p f root es tb) {σ' : Dk} {l' : Lg} {p' : Pg} (hp : PgAt w' S' pg d σ' l' p' (.pointer none)) (hs : Step S S' w w') (hv : VI σ' l' p') (hb : Base1 σ' l' p' f root) (hl : Live (MSt.start σ' l' p' f) root es tb) : VAt w' S' v pg d σ' l' p' f root es tb := by
 have hlt := (Array.getElem?_eq_some_iff.1 h.obj).1
 exact ⟨(hs.1.block v hlt h.nv).trans h.obj, fun e => (hs.2 v e).elim h.nv (fun x => absurd hlt (Nat.not_lt.2 x)), hp, hv, hb, hl⟩
theorem TAt.below {w w' : World} {S : Nat → Prop} {v t tr : Nat} {mp : VS} {σ : MSt} {root : Int} {es : List Ent} {tb : List Int} {ch : Bool} {root0 : Nat} {es0 : List Ent} {tb0 : List Int} (h : TAt w S v t tr mp σ root es tb ch root0 es0 tb0) (hb : Below w.heap.size w w') : TAt w' S v t tr mp σ root es tb ch root0 es0 tb0 :=
 ⟨(hb.block v (Array.getElem?_eq_some_iff.1 h.obj).1).trans h.obj, h.nv, h.tx.below hb, h.live, h.bas, h.ch⟩
theorem live_sealed {σ : MSt} {root : Nat} {es : List Ent} {tb : List Int} (ok : σ.Ok) (hL : Live σ root es tb) (hr : root < 65536) {σ' : Dk} {l' : Lg} {p' : Pg} (hb : p'.blocks σ' = σ.most) (hv : VI σ' l' p') (hlook : ∀ b, p'.look Im.none σ' b = σ.H.pg.look (σ.sealed root).im σ.H.dk b) :
  Base1 σ' l' p' σ.now root ∧ Live (MSt.start σ' l' p' σ.now) root es tb := by
 have h2 := ok.two
 have hl : ∀ b, p'.look Im.none σ' b = if b = 0 then bytesOf σ.now else if b = 1 then pad (rootB root) else σ.mem (b : Nat) := by
  intro b
  rw [hlook]
  show σ.H.pg.look ((σ.im.put 1 (pad (rootB root))).put 0 (bytesOf σ.now)) σ.H.dk b = _
  rw [look_put, look_put]
  split
  ·rfl
  ·split
   ·rfl
   ·unfold MSt.mem; rw [Int.toNat_natCast]
 refine ⟨⟨hv.pd, hv.free.1, by omega, by rw [hl, if_pos rfl], fun b hb' => ok.nhi b (by omega), ok.n0, ok.n1, ?_⟩, ?_⟩
 ·rw [hl, if_neg (by omega), if_pos rfl]
  exact ⟨hr, List.replicate (512 - (rootB root).length) 0, rfl⟩
 ·have hhas : ∀ x, (MSt.start σ' l' p' σ.now).hasB x = σ.hasB x := fun x => by
   show (decide (0 ≤ x) && (decide (x.toNat < p'.blocks σ') && σ.now x.toNat)) = _
   rw [hb]; rfl
  have hmv : ∀ x ∈ tb ++ bbOf es, (MSt.start σ' l' p' σ.now).hasB x = true ∧ (MSt.start σ' l' p' σ.now).mem x = σ.mem x := by
   intro x hx
   obtain ⟨a, b⟩ := hL.all x hx
   refine ⟨by rw [hhas]; exact a, ?_⟩
   show p'.look Im.none σ' x.toNat = _
   rw [hl, if_neg (by omega), if_neg (by omega)]
   congr 1
   omega
  refine ⟨?_, fun e he => (hL.val e he).keep fun x hx => hmv x (List.mem_append_right _ (List.mem_flatMap.2 ⟨e, he, hx⟩)), ⟨hL.own.nd, fun x hx => hL.own.ex x (by rw [← hhas]; exact hx), ?_⟩⟩
  ·rcases hL.tree with h | ⟨h, ht⟩
   ·exact .inl h
   ·exact .inr ⟨h, ht.move fun x hx => hmv x (List.mem_append_left _ hx)⟩
  ·have hz : nh (MSt.start σ' l' p' σ.now) (tb ++ bbOf es) = 0 := by
    unfold nh
    rw [List.filter_eq_nil_iff.2]
    ·rfl
    ·intro x hx
     obtain ⟨n, e, _, hn⟩ := MSt.hasB_nat (hL.all x hx).1
     have : (MSt.start σ' l' p' σ.now).held x = true := by
      show (decide (0 ≤ x) && σ.now x.toNat) = true
      rw [e, Int.toNat_natCast, hn]
      simp
     rw [this]; simp
   rw [hz, Nat.add_zero]
   exact countB_congr _ (fun x _ => Bool.or_self _)
theorem sealed_ok {σ : MSt} {S : Nat → Prop} {mp : VS} {w : World} (h : Inv σ S mp w) (root : Nat) : (σ.sealed root).im.Ok (σ.H.pg.blocks σ.H.dk) ∧ (σ.sealed root).im.ks.length + countB σ.H.old σ.most ≤ σ.tk + 2 ∧ (σ.sealed root).im.ks ≠ [] := by
 have ok := h.ok
 have hm := ok.most
 have h2 := ok.two
 obtain ⟨Sp, T, h, _⟩ := h
 have hi : σ.im.Ok σ.most := by obtain ⟨_, q⟩ := h.tx; exact q.ok
 have h1 := hi.put 1 (pad (rootB root)) (by omega) (pad_length (by simp [rootB]))
 have h0 := h1.put 0 (bytesOf σ.now) (by omega) (bytesOf_len _)
 have ok1 : (σ.sealed root).Ok := (ok.wrote 1 (pad (rootB root)) (pad_length (by simp [rootB])) (by omega) (.inl (by omega))).wrote 0 (bytesOf σ.now) (bytesOf_len _) (by show 0 < σ.most; omega) (.inl (by omega))
 refine ⟨by rw [← hm]; exact h0, ok1.im_len h0.rise, fun e => ?_⟩
 have : 0 ∈ (σ.sealed root).im.ks := mem_insK.2 (.inl rfl)
 rw [e] at this; cases this
end Go.Proofs.YtfgpefcphnpabaaGreat
