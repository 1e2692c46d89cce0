/- BtreeCopies: whatever the input, the call returns true; the input reads as it did. No condition. -/
import Derived.Test.YtbldcbakhpdigaaJ9
import Derived.Maps.RangeWalk
import Derived.Deep.SlicePairs
import Derived.Lib.SmallJoins
import Derived.Test.YtbldcbakhpdigaaRows
import Derived.ProofKit
/- BtreeEmpty: the walk. -/
namespace Go.Proofs.Ytbldcbakhpdigaa
open Go.RowKit

theorem look_none {rs : List Pr} (hr : RisingP rs) {key : ByteArray} (h : ∀ p ∈ rs, p.1 ≠ key) : lookP rs key = none := by
  cases hq : lookP rs key with
  | none => rfl
  | some x => exact absurd rfl (h _ ((lookP_some hr).1 hq))
theorem del_front {p : Pr} {r : List Pr} (hr : RisingP (p :: r)) : delP (p :: r) p.1 = r ∧ lookP (p :: r) p.1 = some p.2 ∧ lookP r p.1 = none := by
  obtain ⟨h1, h2⟩ := List.pairwise_cons.1 hr
  have hne : ∀ q ∈ r, q.1 ≠ p.1 := fun q hq e => lt_ne (h1 q hq) e.symm
  refine ⟨?_, (lookP_some hr).2 (by simp), look_none h2 hne⟩
  rw [← filter_del hr, List.filter_cons, if_neg (by rw [eqS rfl]; simp), List.filter_eq_self.2 fun q hq => by rw [neS (hne q hq)]; rfl]
theorem del_last {p : Pr} {r : List Pr} (hr : RisingP (r ++ [p])) : delP (r ++ [p]) p.1 = r ∧ lookP (r ++ [p]) p.1 = some p.2 ∧ lookP r p.1 = none := by
  obtain ⟨h1, _, h3⟩ := List.pairwise_append.1 hr
  have hne : ∀ q ∈ r, q.1 ≠ p.1 := fun q hq e => lt_ne (h3 q hq p (by simp)) e
  refine ⟨?_, (lookP_some hr).2 (by simp), look_none h1 hne⟩
  rw [← filter_del hr, List.filter_append, List.filter_cons, if_neg (by rw [eqS rfl]; simp), List.filter_nil, List.append_nil, List.filter_eq_self.2 fun q hq => by rw [neS (hne q hq)]; rfl]

/-- all keys and values are good -/
def Gd (cs : List Pr) : Prop := ∀ p ∈ cs, GoodKV p.1 p.2
theorem putP_gd {cs : List Pr} (h : Gd cs) (key value : ByteArray) : Gd (putP cs key value) := by
  unfold putP
  split
  · rename_i hg
    intro p hp
    unfold insP at hp
    split at hp
    · rcases List.mem_or_eq_of_mem_set hp with hp | rfl
      · exact h p hp
      · exact hg
    · rcases List.mem_append.1 hp with hp | hp
      · exact h p (List.mem_of_mem_take hp)
      · rcases List.mem_cons.1 hp with rfl | hp
        · exact hg
        · exact h p (List.mem_of_mem_drop hp)
  · exact h

theorem prs_nx {w w' : World} {S S' : Nat → Prop} {v : Value} {ps : List Pr} {t mp : Nat} {root err : Int} (h : IsPrs w S v ps) (ht : TreeAt w t mp root err) (hx : Nx S S' t w w') : IsPrs w' S' v ps := by
  by_cases hp : ps = []
  · subst hp
    obtain ⟨ao, c, rfl, h1, h2, h3, h4, h5, h6⟩ := h
    refine ⟨ao, c, rfl, h1, h2, h3, h4, fun ad had => ?_, fun j u hu => by simp [prCells] at hu⟩
    have := h5 ad had
    exact ⟨this.1, Nat.lt_of_lt_of_le this.2.1 hx.1.size, fun x => (hx.2 _ x).elim this.2.2 (fun y => absurd this.2.1 (Nat.not_lt.2 y))⟩
  · have hne : v.ownBlock ≠ some t := by
      obtain ⟨p, r, rfl⟩ := List.exists_cons_of_ne_nil hp
      obtain ⟨ao, c, rfl, _, _, _, _, _, h6⟩ := h
      obtain ⟨b, o, rfl, hc⟩ := h6 0 (.string p.1) rfl
      intro e
      cases e
      rw [Nat.add_zero] at hc
      unfold TreeAt at ht
      rcases o with _ | _ | _ | o <;> simp [World.cell?, ht] at hc
    refine IsSl.keep h fun g hg hl hs => ⟨hx.1.block g hl (fun y => y.elim hs (fun e => hne (by rw [hg, e]))), fun x => (hx.2 g x).elim hs (fun y => absurd hl (Nat.not_lt.2 y))⟩

set_option maxRecDepth 100000 in
set_option maxHeartbeats 8000000 in
theorem empty_walk (v0 : Value) (ps : List Pr) (bk : Bool) (w : World) (hps : IsPL w v0 ps) :
    Calls Try.prog 6 #[v0, .bool bk] w fun e w' => e = .returned (.bool true) ∧ Below w.heap.size w w' := by
  obtain ⟨ao, cp, rfl, _, _⟩ := hps.form
  go_enter Try.func6, Try.ntmps6
  by_cases hlen : 200 < ps.length
  · have x1 : (200 : Int) < (ps.length : Int) := by omega
    go_wp2_with (first
      | (go_at_call 9; (refine (fixed_any w).mono ?_); rintro e w1 ⟨rfl, hb1⟩)
      | (go_at_call 9; (refine (fixed_any _).mono ?_); rintro e w2 ⟨rfl, hb2⟩))
    go_ret
    exact ⟨rfl, hb1.trans (hb2.mono hb1.size)⟩
  · have x1 : decide ((200 : Int) < (ps.length : Int)) = false := decide_eq_false (by omega)
    go_upto_region 5 with (first
      | (go_at_call 9; (refine (fixed_any w).mono ?_); rintro e w1 ⟨rfl, hb1⟩)
      | (go_at_call 10; go_must ((refine (newmem_any 4096 w1).mono ?_); rintro e w2 ⟨rfl, hI2, hs2, hb2⟩; have HS2 := Lib.hid hs2; clear hs2))
      | (go_at_call 16; go_must ((refine (open_any (w1.heap.size + 2) 0 w2 (by omega)).mono ?_); rintro e w3 ⟨rfl, hT3, hs3, hb3⟩; have HS3 := Lib.hid hs3; clear hs3)))
    have hTS0 := TS.new hb1 hI2 HS2.out hb2 hT3 hb3 rfl
    clear hI2 hT3 HS2 HS3 hb2 hb3
    generalize w1.heap.size + 2 = mp at hTS0 ⊢
    generalize w2.heap.size = t at hTS0 ⊢
    generalize (fun g => w1.heap.size ≤ g ∧ g < w1.heap.size + 3) = S0 at hTS0
    clear hb1 x1
    go_wp2_with fail
    go_loopw [7] (fun i wr => ∃ (k : Nat) (S : Nat → Prop) (cs : List Pr), k ≤ ps.length ∧ i = .int .i64 k ∧ TS w t mp S cs wr ∧ cs.length ≤ k ∧ Gd cs) (fun i _ => ps.length - (intOf i).toNat)
    case atStart => exact ⟨0, S0, [], Nat.zero_le _, rfl, hTS0, Nat.le_refl _, fun p hp => by cases hp⟩
    case round =>
      clear hTS0
      obtain ⟨k, S, cs, hk, rfl, hTS, hcl, hgd⟩ := hrel
      by_cases hlt : k < ps.length
      · obtain ⟨b, o, rfl, d1, d2⟩ := hps.at rfl k hlt
        have hlt' : (k : Int) < (ps.length : Int) := by omega
        have hbl := World.block_lt_of_cell? w _ d1
        have hP := (hTS.below ((Below.refl _ wr).drew)).put ps[k].1 ps[k].2 (by omega)
        have HP := Lib.hid hP; clear hP
        go_wp2_with fail
        refine wp_region_ord (fun W => Below w.heap.size w W) (fun i => !([11].contains i)) [0, 1, 2, 3, 4, 5, 6, 7, 8, 9, 10, 11] rfl (by kernel_rfl) hTS.bel.drew ?_
        repeat ((refine ord_q (v := ?_) rfl rfl (fun _ _ _ h => h) rfl (fun W hW => ?_) ?_); rotate_left; (focus ((try dsimp only at hW); have q0 := (hW.cell (p := ⟨b, o + k * 2, none⟩) hbl).trans d1; have q1 := (hW.cell (p := ⟨b, o + k * 2 + 1, none⟩) hbl).trans d2; have q2 := Nat.lt_of_lt_of_le hbl hW.size; first | (go_simp; first | done | with_reducible rfl))); (try simp only [Act.put, List.setIfInBounds_toArray, List.set_cons_zero, List.set_cons_succ]))
        refine ord_e rfl rfl rfl ?_; intro K hK; go_simp
        refine HP.out.mono ?_; rintro e w4 ⟨rfl, S', hTS4, _⟩
        refine hK.out _ _ hTS4.bel ?_
        refine ord_nil ?_
        go_wp2_with fail
        go_roundw
        case rel => exact ⟨k + 1, S', _, by omega, by go_num, hTS4, by have := putP_len cs ps[k].1 ps[k].2; omega, putP_gd hgd _ _⟩
        case measure => simp [intOf]; omega
      · obtain rfl : k = ps.length := by omega
        have x1 : ¬ (ps.length : Int) < (ps.length : Int) := by omega
        have hn2 : cs.length ≤ 200 := by omega
        have hw := hTS.whole (by omega)
        have HW := Lib.hid hw; clear hw
        go_wp2_with (go_at_call 21; go_must (refine HW.out.mono ?_; rintro e w4 ⟨v, rfl, hv, hb4⟩; refine Stop.of ?_))
        refine Stop.on ?_
        have hTS4 := hTS.below hb4
        obtain ⟨vo, vc, rfl, _, _, _, _⟩ := IsSl.form hv
        have hr := hTS.rise
        clear hTS HW hcl hlt x1
        go_wp2_with fail
        go_loopw [10, 11, 12, 13, 14, 15] (fun i _ _ _ _ _ wr2 => ∃ (k : Nat) (S2 : Nat → Prop), k ≤ cs.length ∧ i = .int .i64 k ∧ TS w t mp S2 (if bk then cs.take (cs.length - k) else cs.drop k) wr2 ∧ IsPrs wr2 S2 (.slice vo cs.length vc) cs) (fun i _ _ _ _ _ _ => cs.length - (intOf i).toNat)
        case atStart => exact ⟨0, S, Nat.zero_le _, rfl, by simpa using hTS4, hv⟩
        case round =>
          clear hTS4 hv
          obtain ⟨k, S2, hk2, rfl, hTS2, hv2⟩ := hrel
          by_cases hlt2 : k < cs.length
          · obtain ⟨b, o, rfl, d1, d2⟩ := hv2.at rfl k hlt2
            have hlt' : (k : Int) < (cs.length : Int) := by omega
            have hbl := World.block_lt_of_cell? wr _ d1
            clear d2
            cases bk with
            | false =>
              rw [if_neg (by simp)] at hTS2
              have hds : cs.drop k = cs[k] :: cs.drop (k + 1) := List.drop_eq_getElem_cons hlt2
              have hgk := hgd cs[k] (List.getElem_mem _)
              have hdd := del_front (p := cs[k]) (r := cs.drop (k + 1)) (by rw [← hds]; exact hTS2.rise)
              rw [← hds] at hdd
              have HDD := Lib.hid hdd; clear hdd
              have HDS := Lib.hid hds; clear hds
              have hd1 := hTS2.del cs[k].1 (by simp; omega) ⟨hgk.1.1, hgk.1.2⟩
              rw [HDD.out.2.1, HDD.out.1] at hd1
              simp only [Option.isSome_some] at hd1
              have HD1 := Lib.hid hd1; clear hd1
              go_wp2_with (go_at_call 23; go_must (refine HD1.out.mono ?_; rintro e w5 ⟨rfl, S3, hTS3, hNx3⟩; refine Stop.of ?_))
              refine Stop.on ?_
              have hd2 := hTS3.del cs[k].1 (by simp; omega) ⟨hgk.1.1, hgk.1.2⟩
              rw [HDD.out.2.2, delP_none HDD.out.2.2] at hd2
              simp only [Option.isSome_none] at hd2
              have HD2 := Lib.hid hd2; clear hd2
              obtain ⟨_, _, _, _, hTA, _⟩ := hTS2.is
              have hv3 := prs_nx hv2 hTA hNx3
              obtain ⟨_, _, _, _, hTA3, _⟩ := hTS3.is
              go_wp2_with (go_at_call 23; go_must (refine HD2.out.mono ?_; rintro e w6 ⟨rfl, S4, hTS4, hNx4⟩))
              have hv4 := prs_nx hv3 hTA3 hNx4
              go_roundw
              case rel => exact ⟨k + 1, S4, by omega, by go_num, by rw [if_neg (by simp)]; exact hTS4, hv4⟩
              case measure => simp [intOf]; omega
            | true =>
              rw [if_pos rfl] at hTS2
              obtain ⟨m, hm⟩ : ∃ m, cs.length = k + 1 + m := ⟨cs.length - (k + 1), by omega⟩
              have hmi : (cs.length : Int) - 1 - (k : Int) = (m : Int) := by omega
              have hml : m < cs.length := by omega
              have hds : cs.take (cs.length - k) = cs.take m ++ [cs[m]] := by rw [show cs.length - k = m + 1 from by omega, List.take_succ_eq_append_getElem hml]
              have HM := Lib.hid hm; clear hm
              have hml' : (m : Int) < (cs.length : Int) := by omega
              obtain ⟨_, _, e, d3, _⟩ := hv2.at rfl m hml
              cases e
              have hgk := hgd cs[m] (List.getElem_mem _)
              have hdd := del_last (p := cs[m]) (r := cs.take m) (by rw [← hds]; exact hTS2.rise)
              rw [← hds] at hdd
              have HDD := Lib.hid hdd; clear hdd
              have HDS := Lib.hid hds; clear hds
              have hd1 := hTS2.del cs[m].1 (by simp; omega) ⟨hgk.1.1, hgk.1.2⟩
              rw [HDD.out.2.1, HDD.out.1] at hd1
              simp only [Option.isSome_some] at hd1
              have HD1 := Lib.hid hd1; clear hd1
              go_wp2_with (go_at_call 23; go_must (refine HD1.out.mono ?_; rintro e w5 ⟨rfl, S3, hTS3, hNx3⟩; refine Stop.of ?_))
              refine Stop.on ?_
              have hd2 := hTS3.del cs[m].1 (by simp; omega) ⟨hgk.1.1, hgk.1.2⟩
              rw [HDD.out.2.2, delP_none HDD.out.2.2] at hd2
              simp only [Option.isSome_none] at hd2
              have HD2 := Lib.hid hd2; clear hd2
              obtain ⟨_, _, _, _, hTA, _⟩ := hTS2.is
              have hv3 := prs_nx hv2 hTA hNx3
              obtain ⟨_, _, _, _, hTA3, _⟩ := hTS3.is
              go_wp2_with (go_at_call 23; go_must (refine HD2.out.mono ?_; rintro e w6 ⟨rfl, S4, hTS4, hNx4⟩))
              have hv4 := prs_nx hv3 hTA3 hNx4
              go_roundw
              case rel => exact ⟨k + 1, S4, by omega, by go_num, by have e : cs.length - (k + 1) = m := (by have := HM.out; omega); simp only [e]; exact hTS4, hv4⟩
              case measure => simp [intOf]; omega
          · obtain rfl : k = cs.length := by omega
            have x1 : ¬ (cs.length : Int) < (cs.length : Int) := by omega
            have hTE : TS w t mp S2 [] wr := by
              have := hTS2
              cases bk <;> simpa using this
            have hb := hTE.bare
            have HB1 := Lib.hid hb.1
            have HB2 := Lib.hid hb.2
            clear hb
            go_wp2_with (first
              | (go_at_call 12; go_must (refine HB1.out.mono ?_; rintro e w6 ⟨rfl, hw⟩; subst w6))
              | (go_at_call 24; go_must (refine HB2.out.mono ?_; rintro e w6 ⟨rfl, hw⟩; subst w6)))
            go_ret
            exact ⟨rfl, hTE.bel⟩
end Go.Proofs.Ytbldcbakhpdigaa

/- Scan: its slice is new. -/
namespace Go.Proofs.Ytbldcbakhpdigaa
open Go.RowKit

set_option maxRecDepth 100000 in
set_option maxHeartbeats 4000000 in
theorem scan_own (t mp : Nat) (root : Int) (σ : MSt) (S : Nat → Prop) (key : ByteArray) (most : Int) (L : List Pr) (n : Nat) (w : World) (h : Inv σ S mp w) (ht : TreeAt w t mp root 0) (hr : root ≠ 0) (hm : 0 < most) (hn : n ≤ 40) (hL : WalkL σ key n root L) (hl : L.length ≤ 999999) :
    Calls Try.prog 21 #[.pointer (some ⟨t, 0, none⟩), .string key, .int .i64 most] w fun e w' => ∃ v, e = .returned (.tuple #[v, .int .i64 0]) ∧ OwnSl w' S w.heap.size 49 2 v (L.take most.toNat).length (prCells (L.take most.toNat)) ∧ Below w.heap.size w w' := by
  have hbm := below_one w (.cells #[.int .i64 most] 3)
  have htl : t < w.heap.size := (Array.getElem?_eq_some_iff.1 ht).1
  have hsub := h.sub
  have ht1 := (hbm.block t htl).trans ht
  have hb2 := below_two w (.cells #[.int .i64 most] 3) (.cells #[.slice none 0 0] 40)
  obtain ⟨_, c1, _, _, _, _, hl2⟩ := cells3 ((hb2.block t htl).trans ht)
  have d1 := (below_one (w.alloc (.cells #[.int .i64 most] 3)) (.cells #[.slice none 0 0] 40)).cell (p := ⟨w.heap.size, 0, none⟩) (by simp)
  rw [show (w.alloc (.cells #[.int .i64 most] 3)).cell? ⟨w.heap.size, 0, none⟩ = some (.int .i64 most) from by rw [World.cell?_alloc_new]; rfl] at d1
  have hr2 : (root == 0) = false := by simpa using hr
  have hm2 : ¬ most ≤ 0 := by omega
  have hmf : ∀ (fn : Fn) (first cap : Array Value) (w : World), (Instr.makeFunc fn first cap).run Try.prog w = .ok (.func fn first cap) w := fun _ _ _ _ => rfl
  have hA : Acc ((w.alloc (.cells #[.int .i64 most] 3)).alloc (.cells #[.slice none 0 0] 40)) S w.heap.size (w.heap.size + 1) w.heap.size (.slice none 0 0) [] most := by
    refine ⟨?_, OwnSl.nil _ _ _ _ _, ?_, fun x => absurd (hsub _ x) (by omega), fun x => absurd (hsub _ x) (Nat.lt_irrefl _)⟩
    · have := heap_alloc_new (w.alloc (.cells #[.int .i64 most] 3)) (.cells #[.slice none 0 0] 40); rwa [World.size_alloc] at this
    · exact ((below_one (w.alloc (.cells #[.int .i64 most] 3)) (.cells #[.slice none 0 0] 40)).block _ (by simp)).trans (heap_alloc_new _ _)
  have hw := walk_any t mp w.heap.size (w.heap.size + 1) w.heap.size root 0 σ S key most n root L hL 0 (.slice none 0 0) [] _ (h.below hb2) ((hb2.block t htl).trans ht) (by omega) (by omega) hA hb2.size (by simpa using hm) (by simpa using hl)
  have HW := Lib.hid hw; clear hw hA
  go_enter Try.func21, Try.ntmps21
  go_wp2_with (first
    | (go_at_call 33; go_must ((refine (usable_any t mp root 0 _ ht1).mono ?_); rintro e w1 ⟨rfl, hw⟩; subst w1))
    | (go_at_call 42; go_must (refine HW.out.mono ?_; rintro e w5 ⟨rfl, v, hA5, hY5⟩; have c5 : w5.cell? ⟨w.heap.size + 1, 0, none⟩ = some v := (by simp [World.cell?, hA5.out]); have c6 := (Array.getElem?_eq_some_iff.1 hA5.out).1)))
  go_ret2
  refine ⟨v, rfl, ?_, ?_⟩
  · have := hA5.own
    rw [List.nil_append, show (most - (([] : List Pr).length : Int)).toNat = most.toNat from by simp] at this
    exact this
  · exact hb2.trans (hY5.1.toBelow hb2.size (fun i hi x => x.elim (fun e => by omega) (fun e => by simp [Value.ownBlock] at e)))

theorem TS.scan2 {w0 : World} {t mp : Nat} {S : Nat → Prop} {cs : List Pr} {w : World} (h : TS w0 t mp S cs w) (key : ByteArray) (most : Int) (hl : cs.length ≤ 2048) :
    Calls Try.prog 21 #[.pointer (some ⟨t, 0, none⟩), .string key, .int .i64 most] w fun e w' => ∃ v, e = .returned (.tuple #[v, .int .i64 0]) ∧ OwnSl w' S w.heap.size 49 2 v ((cs.drop (posAt cs key)).take most.toNat).length (prCells ((cs.drop (posAt cs key)).take most.toNat)) ∧ Below w.heap.size w w' := by
  obtain ⟨σ, root, bs, hI, hT', hR, hn, hH, hD, hm⟩ := h.is
  by_cases hm : most ≤ 0
  · refine (scan_none t mp root key most w hT' (.inr hm)).mono ?_
    rintro e w' ⟨rfl, hb⟩
    refine ⟨_, rfl, ?_, hb⟩
    rw [show most.toNat = 0 from by omega, List.take_zero]
    exact OwnSl.nil _ _ _ _ _
  · rcases hR with ⟨rfl, rfl, _⟩ | ⟨h', hT⟩
    · refine (scan_none t mp 0 key most w hT' (.inl rfl)).mono ?_
      rintro e w' ⟨rfl, hb⟩
      refine ⟨_, rfl, ?_, hb⟩
      rw [List.drop_nil, List.take_nil]
      exact OwnSl.nil _ _ _ _ _
    · exact scan_own t mp root σ S key most _ h' w hI hT' (by have := hT.top; omega) (by omega) (by have := hT.low (by omega); omega) hT.walk (by simp only [List.length_drop]; omega)
end Go.Proofs.Ytbldcbakhpdigaa

/- The laws' state, blocks held or not; docketlaw06's step. -/
namespace Go.Proofs.Ytbldcbakhpdigaa
open Go.RowKit

/-- the tree at t has the pairs cs; the store has base blocks beside it; the tree at root0, whose blocks are held, has the pairs cs0 -/
structure TG (w0 : World) (t mp base : Nat) (H : DataW Unit) (root0 : Int) (cs0 : List Pr) (bs0 : List Int) (S : Nat → Prop) (cs : List Pr) (w : World) : Prop where
  bel : Below w0.heap.size w0 w
  lo : ∀ g, S g → w0.heap.size ≤ g
  tlo : w0.heap.size ≤ t
  nt : ¬ S t
  is : ∃ σ root bs, Inv σ S mp w ∧ TreeAt w t mp root 0 ∧ TrR σ root cs bs ∧ bs.Nodup ∧ σ.H = H ∧ Maps.size σ.D = base + nh σ bs ∧ σ.most = 4096 ∧ TrR σ root0 cs0 bs0 ∧ ∀ x ∈ bs0, σ.held x = true

section
variable {w0 : World} {t mp base : Nat} {H : DataW Unit} {root0 : Int} {cs0 : List Pr} {bs0 : List Int} {S : Nat → Prop} {cs : List Pr} {w : World}

theorem TG.rise (h : TG w0 t mp base H root0 cs0 bs0 S cs w) : RisingP cs := by
  obtain ⟨σ, root, bs, _, _, hT, _⟩ := h.is
  exact hT.rise
theorem TG.sub (h : TG w0 t mp base H root0 cs0 bs0 S cs w) : (∀ g, S g → g < w.heap.size) ∧ t < w.heap.size := by
  obtain ⟨σ, root, bs, hI, hT, _⟩ := h.is
  exact ⟨hI.sub, (Array.getElem?_eq_some_iff.1 hT).1⟩
theorem TG.keepM {M : Nat → Prop} {w' : World} (h : TG w0 t mp base H root0 cs0 bs0 S cs w) (hk : Keep M w w') (h1 : ∀ g, S g → ¬ M g) (h2 : ¬ M t) (h3 : ∀ g, g < w0.heap.size → ¬ M g) : TG w0 t mp base H root0 cs0 bs0 S cs w' := by
  obtain ⟨σ, root, bs, hI, hT, r⟩ := h.is
  have hl := (Array.getElem?_eq_some_iff.1 hT).1
  exact ⟨h.bel.trans (hk.toBelow h.bel.size h3), h.lo, h.tlo, h.nt, σ, root, bs, hI.keepM hk h1, (hk.block t hl h2).trans hT, r⟩
theorem TG.below {w' : World} (h : TG w0 t mp base H root0 cs0 bs0 S cs w) (hb : Below w.heap.size w w') : TG w0 t mp base H root0 cs0 bs0 S cs w' :=
  h.keepM (M := fun _ => False) (Keep.of_below hb _) (fun _ _ => id) id (fun _ _ => id)
theorem TG.chg {cs' : List Pr} {w' : World} {σ : MSt} {bs : List Int} (h : TG w0 t mp base H root0 cs0 bs0 S cs w) (hn : bs.Nodup) (hH : σ.H = H) (hD : Maps.size σ.D = base + nh σ bs) (hm : σ.most = 4096) (h0 : TrR σ root0 cs0 bs0) (hh : ∀ x ∈ bs0, σ.held x = true) (hc : ChgPost t mp S (TreeTo σ bs cs') w w') : ∃ S', TG w0 t mp base H root0 cs0 bs0 S' cs' w' ∧ Nx S S' t w w' := by
  obtain ⟨σ', S', b, hI, hT, hst, ⟨bs', hR', hC⟩, hk, hS⟩ := hc
  have hlo : ∀ g, g < w0.heap.size → ¬ (S g ∨ g = t) := fun g hg x => x.elim (fun s => absurd hg (Nat.not_lt.2 (h.lo g s))) (fun e => absurd hg (Nat.not_lt.2 (by rw [e]; exact h.tlo)))
  refine ⟨S', ⟨h.bel.trans (hk.toBelow h.bel.size hlo), fun g hg => (hS g hg).elim (h.lo g) (fun y => Nat.le_trans h.bel.size y), h.tlo, hst, σ', b, bs', hI, hT, hR', hC.nd hn, hC.H.trans hH, ?_, hC.most.trans hm, h0.keep hC (fun x hx => .inr (hh x hx)), fun x hx => by rw [held_eq hC.H]; exact hh x hx⟩, hk, hS⟩
  have := hC.size
  rw [nh_eq hC.H]
  omega

theorem TG.put (h : TG w0 t mp base H root0 cs0 bs0 S cs w) (key value : ByteArray) (hl : base + 2 * cs.length ≤ 4090) (hg : GoodKV key value) :
    Calls Try.prog 20 #[.pointer (some ⟨t, 0, none⟩), .string key, .string value] w fun e w' => e = .returned (.int .i64 0) ∧ ∃ S', TG w0 t mp base H root0 cs0 bs0 S' (insP cs key value) w' ∧ Nx S S' t w w' := by
  obtain ⟨σ, root, bs, hI, hT, hR, hn, hH, hD, hm, h0, hh⟩ := h.is
  refine (put_tree t mp root σ S cs bs key value w hI hT h.nt hR hn (by omega) (by unfold Room; omega) hg).mono ?_
  rintro e w' ⟨rfl, hc⟩
  exact ⟨rfl, h.chg hn hH hD hm h0 hh hc⟩
theorem TG.putBad (h : TG w0 t mp base H root0 cs0 bs0 S cs w) (key value : ByteArray) (hg : ¬ GoodKV key value) :
    Calls Try.prog 20 #[.pointer (some ⟨t, 0, none⟩), .string key, .string value] w fun e w' => e = .returned (.int .i64 1) ∧ Below w.heap.size w w' := by
  obtain ⟨σ, root, bs, hI, hT, _⟩ := h.is
  exact put_bad t mp root key value w hT hg
theorem TG.del (h : TG w0 t mp base H root0 cs0 bs0 S cs w) (key : ByteArray) (hl : base + 2 * cs.length ≤ 4090) (hg : 1 ≤ key.size ∧ key.size ≤ 128) :
    Calls Try.prog 23 #[.pointer (some ⟨t, 0, none⟩), .string key] w fun e w' => e = .returned (.tuple #[.bool (lookP cs key).isSome, .int .i64 0]) ∧ ∃ S', TG w0 t mp base H root0 cs0 bs0 S' (delP cs key) w' ∧ Nx S S' t w w' := by
  obtain ⟨σ, root, bs, hI, hT, hR, hn, hH, hD, hm, h0, hh⟩ := h.is
  refine (delete_tree t mp root σ S cs bs key w hI hT h.nt hR hn (by omega) (by unfold Room; omega) hg).mono ?_
  rintro e w' ⟨rfl, hc⟩
  exact ⟨rfl, h.chg hn hH hD hm h0 hh hc⟩
theorem TG.delBad (h : TG w0 t mp base H root0 cs0 bs0 S cs w) (key : ByteArray) (hg : ¬ (1 ≤ key.size ∧ key.size ≤ 128)) :
    Calls Try.prog 23 #[.pointer (some ⟨t, 0, none⟩), .string key] w fun e w' => e = .returned (.tuple #[.bool false, .int .i64 1]) ∧ Below w.heap.size w w' := by
  obtain ⟨σ, root, bs, hI, hT, _⟩ := h.is
  exact delete_bad t mp root key w hT hg
theorem TG.get (h : TG w0 t mp base H root0 cs0 bs0 S cs w) (key : ByteArray) (hl : cs.length ≤ 4090) (hg : 1 ≤ key.size ∧ key.size ≤ 128) :
    Calls Try.prog 28 #[.pointer (some ⟨t, 0, none⟩), .string key] w fun e w' => e = .returned (.tuple #[.string ((lookP cs key).getD ⟨#[]⟩), .bool (lookP cs key).isSome, .int .i64 0]) ∧ Below w.heap.size w w' := by
  obtain ⟨σ, root, bs, hI, hT, hR, _⟩ := h.is
  exact get_tree t mp root σ S cs bs key w hI hT hR hl hg
theorem TG.getBad (h : TG w0 t mp base H root0 cs0 bs0 S cs w) (key : ByteArray) (hg : ¬ (1 ≤ key.size ∧ key.size ≤ 128)) :
    Calls Try.prog 28 #[.pointer (some ⟨t, 0, none⟩), .string key] w fun e w' => e = .returned (.tuple #[.string ⟨#[]⟩, .bool false, .int .i64 1]) ∧ w' = w := by
  obtain ⟨σ, root, bs, hI, hT, _⟩ := h.is
  exact get_bad t mp root key w hT hg
theorem TG.scan (h : TG w0 t mp base H root0 cs0 bs0 S cs w) (key : ByteArray) (most : Int) (hl : cs.length ≤ 4090) :
    Calls Try.prog 21 #[.pointer (some ⟨t, 0, none⟩), .string key, .int .i64 most] w fun e w' => ∃ v, e = .returned (.tuple #[v, .int .i64 0]) ∧ IsPrs w' S v ((cs.drop (posAt cs key)).take most.toNat) ∧ Below w.heap.size w w' := by
  obtain ⟨σ, root, bs, hI, hT, hR, _⟩ := h.is
  exact scan_tree t mp root σ S cs bs key most w hI hT hR hl
end

/-- the tree's and the document's state -/
structure TGR (w0 : World) (t mp base r : Nat) (H : DataW Unit) (root0 : Int) (cs0 : List Pr) (bs0 : List Int) (S : Nat → Prop) (cs : List Pr) (w : World) : Prop where
  g : TG w0 t mp base H root0 cs0 bs0 S cs w
  ref : IsRef w (fun g => S g ∨ g = t) r cs
  rlo : w0.heap.size ≤ r

section
variable {w0 : World} {t mp base r : Nat} {H : DataW Unit} {root0 : Int} {cs0 : List Pr} {bs0 : List Int} {S : Nat → Prop} {cs : List Pr} {w : World}

theorem TGR.below {w' : World} (h : TGR w0 t mp base r H root0 cs0 bs0 S cs w) (hb : Below w.heap.size w w') : TGR w0 t mp base r H root0 cs0 bs0 S cs w' := ⟨h.g.below hb, h.ref.below hb, h.rlo⟩
theorem TGR.sub (h : TGR w0 t mp base r H root0 cs0 bs0 S cs w) : ∀ g, (S g ∨ g = t) → g < w.heap.size := by
  rintro g (hg | rfl)
  · exact h.g.sub.1 g hg
  · exact h.g.sub.2
/-- the tree has changed: the document's has not yet -/
theorem ref_nx {S' : Nat → Prop} {w' : World} (h : IsRef w (fun g => S g ∨ g = t) r cs) (hx : Nx S S' t w w') : IsRef w' (fun g => S' g ∨ g = t) r cs :=
  h.step ⟨hx.1, fun g hg => hg.elim (fun s => (hx.2 g s).imp .inl id) (fun e => .inl (.inr e))⟩
/-- the document's has changed -/
theorem tg_ref {w' : World} (h : TG w0 t mp base H root0 cs0 bs0 S cs w) (hr : ¬ (S r ∨ r = t)) (hlo : w0.heap.size ≤ r) (hk : Keep (· = r) w w') : TG w0 t mp base H root0 cs0 bs0 S cs w' :=
  h.keepM hk (fun g hg e => hr (.inl (by rw [← e]; exact hg))) (fun e => hr (.inr e.symm)) (fun g hg e => absurd hg (Nat.not_lt.2 (by rw [e]; exact hlo)))

/-- what an operation makes of the pairs -/
def stepL (cs : List Pr) (kind : Int) (key value : ByteArray) : List Pr := if kind % 4 = 0 then putP cs key value else if kind % 4 = 1 then (if 1 ≤ key.size ∧ key.size ≤ 128 then delP cs key else cs) else cs
theorem stepL_len (cs : List Pr) (kind : Int) (key value : ByteArray) : (stepL cs kind key value).length ≤ cs.length + 1 := by
  unfold stepL
  split
  · exact putP_len cs key value
  · split
    · split
      · exact (del_locF key).len cs
      · omega
    · omega

/-- what a step leaves as it was -/
def Fr (S S' : Nat → Prop) (t r : Nat) (w w' : World) : Prop := Keep (fun g => (S g ∨ g = t) ∨ g = r) w w' ∧ ∀ g, S' g → S g ∨ w.heap.size ≤ g
theorem fr1 {w' : World} (h : Below w.heap.size w w') : Fr S S t r w w' := ⟨Keep.of_below h _, fun _ h => .inl h⟩
theorem fr3 {S2 : Nat → Prop} {w1 w2 w3 : World} (hb : Below w.heap.size w w1) (hx : Nx S S2 t w1 w2) (hk : Keep (· = r) w2 w3) : Fr S S2 t r w w3 :=
  ⟨((Keep.of_below hb _).trans hx.1 (fun _ _ h => .inl h)).trans hk (fun _ _ h => .inr h), fun g hg => (hx.2 g hg).imp id (fun y => Nat.le_trans hb.size y)⟩

def StepPost (w0 : World) (t mp base r : Nat) (H : DataW Unit) (root0 : Int) (cs0 : List Pr) (bs0 : List Int) (S : Nat → Prop) (cs' : List Pr) (w : World) (e : Ending) (w' : World) : Prop :=
  e = .returned (.bool true) ∧ ∃ S', TGR w0 t mp base r H root0 cs0 bs0 S' cs' w' ∧ Fr S S' t r w w'

theorem goodKV_empty (key : ByteArray) : GoodKV key ⟨#[]⟩ ↔ 1 ≤ key.size ∧ key.size ≤ 128 := ⟨fun h => h.1, fun h => ⟨h, Nat.zero_le _⟩⟩
end
end Go.Proofs.Ytbldcbakhpdigaa

/- docketlaw06's step: the walk. -/
namespace Go.Proofs.Ytbldcbakhpdigaa
open Go.RowKit

theorem cells4 {w : World} {b t : Nat} {v0 v1 v2 v3 : Value} (h : w.heap[b]? = some (.cells #[v0, v1, v2, v3] t (0, 0))) :
    w.cell? ⟨b, 0, none⟩ = some v0 ∧ w.cell? ⟨b, 1, none⟩ = some v1 ∧ w.cell? ⟨b, 2, none⟩ = some v2 ∧ w.cell? ⟨b, 3, none⟩ = some v3 ∧ b < w.heap.size := by
  refine ⟨?_, ?_, ?_, ?_, (Array.getElem?_eq_some_iff.1 h).1⟩ <;> simp [World.cell?, h]

section
variable {w0 : World} {t mp base r : Nat} {H : DataW Unit} {root0 : Int} {cs0 : List Pr} {bs0 : List Int} {S : Nat → Prop} {cs : List Pr} {w : World}

set_option maxRecDepth 100000 in
set_option maxHeartbeats 2000000 in
theorem step_put (h : TGR w0 t mp base r H root0 cs0 bs0 S cs w) (kind : Int) (key value : ByteArray) (most : Int) (hk0 : 0 ≤ kind) (hk1 : kind ≤ 255) (hk : kind % 4 = 0) (hl : base + 2 * cs.length ≤ 4090) (hg : GoodKV key value) :
    Calls Try.prog 25 #[.pointer (some ⟨t, 0, none⟩), .pointer (some ⟨r, 0, none⟩), .agg #[.int .u8 kind, .string key, .string value, .int .i64 most]] w (StepPost w0 t mp base r H root0 cs0 bs0 S (insP cs key value) w) := by
  have hr := h.g.rise
  have hb1 := below_one w (.cells #[.int .u8 kind, .string key, .string value, .int .i64 most] 29)
  have h1 := h.below hb1
  have hob : (w.alloc (.cells #[.int .u8 kind, .string key, .string value, .int .i64 most] 29)).heap[w.heap.size]? = some (.cells #[.int .u8 kind, .string key, .string value, .int .i64 most] 29 (0, 0)) := heap_alloc_new w _
  have hnS : ¬ (S w.heap.size ∨ w.heap.size = t) := fun x => absurd (h.sub _ x) (Nat.lt_irrefl _)
  have hso : w.heap.size < (w.alloc (.cells #[.int .u8 kind, .string key, .string value, .int .i64 most] 29)).heap.size := by simp
  have hP := h1.g.put key value hl hg
  have HP := Lib.hid hP; clear hP
  go_enter Try.func25, Try.ntmps25
  go_wp2_with (first
    | (go_at_call 20; go_must (refine HP.out.mono ?_; rintro e w2 ⟨rfl, S2, hT2, hN2⟩; refine Stop.of ?_)))
  refine Stop.on ?_
  have hR2 := ref_nx h1.ref hN2
  have hob2 := (hN2.1.block _ hso hnS).trans hob
  obtain ⟨o0, o1, o2, o3, lo⟩ := cells4 hob2
  clear hob
  have hsub2 : ∀ g, (S2 g ∨ g = t) → g < w2.heap.size := by
    rintro g (hg | rfl)
    · exact hT2.sub.1 g hg
    · exact hT2.sub.2
  have hRP := rput_any r cs key value w2 _ hsub2 hR2 hr (by omega)
  have HRP := Lib.hid hRP; clear hRP
  go_wp2_with (first
    | (go_at_call 18; go_must ((refine (good_yes _ _ _ hg).mono ?_); rintro e w3 ⟨rfl, hw⟩; subst w3))
    | (go_at_call 19; go_must (refine HRP.out.mono ?_; rintro e w4 ⟨rfl, hR4, hk4⟩)))
  go_ret
  exact ⟨rfl, S2, ⟨tg_ref hT2 hR2.1 h.rlo hk4, hR4, h.rlo⟩, fr3 hb1 hN2 hk4⟩

set_option maxRecDepth 100000 in
set_option maxHeartbeats 2000000 in
theorem step_putBad (h : TGR w0 t mp base r H root0 cs0 bs0 S cs w) (kind : Int) (key value : ByteArray) (most : Int) (hk0 : 0 ≤ kind) (hk1 : kind ≤ 255) (hk : kind % 4 = 0) (hg : ¬ GoodKV key value) :
    Calls Try.prog 25 #[.pointer (some ⟨t, 0, none⟩), .pointer (some ⟨r, 0, none⟩), .agg #[.int .u8 kind, .string key, .string value, .int .i64 most]] w (StepPost w0 t mp base r H root0 cs0 bs0 S (cs) w) := by
  have hr := h.g.rise
  have hb1 := below_one w (.cells #[.int .u8 kind, .string key, .string value, .int .i64 most] 29)
  have h1 := h.below hb1
  have hob : (w.alloc (.cells #[.int .u8 kind, .string key, .string value, .int .i64 most] 29)).heap[w.heap.size]? = some (.cells #[.int .u8 kind, .string key, .string value, .int .i64 most] 29 (0, 0)) := heap_alloc_new w _
  have hnS : ¬ (S w.heap.size ∨ w.heap.size = t) := fun x => absurd (h.sub _ x) (Nat.lt_irrefl _)
  have hso : w.heap.size < (w.alloc (.cells #[.int .u8 kind, .string key, .string value, .int .i64 most] 29)).heap.size := by simp
  have hP := h1.g.putBad key value hg
  have HP := Lib.hid hP; clear hP
  go_enter Try.func25, Try.ntmps25
  go_wp2_with (first
    | (go_at_call 20; go_must (refine HP.out.mono ?_; rintro e w2 ⟨rfl, hb2⟩; refine Stop.of ?_)))
  refine Stop.on ?_
  obtain ⟨o0, o1, o2, o3, lo⟩ := cells4 ((hb2.block _ hso).trans hob)
  clear hob
  go_wp2_with (first
    | (go_at_call 18; go_must ((refine (good_no _ _ _ hg).mono ?_); rintro e w3 ⟨rfl, hw⟩; subst w3)))
  go_ret
  exact ⟨rfl, S, h1.below hb2, fr1 (hb1.trans (hb2.mono hb1.size))⟩

set_option maxRecDepth 100000 in
set_option maxHeartbeats 2000000 in
theorem step_del (h : TGR w0 t mp base r H root0 cs0 bs0 S cs w) (kind : Int) (key value : ByteArray) (most : Int) (hk0 : 0 ≤ kind) (hk1 : kind ≤ 255) (hk : kind % 4 = 1) (hl : base + 2 * cs.length ≤ 4090) (hg : 1 ≤ key.size ∧ key.size ≤ 128) :
    Calls Try.prog 25 #[.pointer (some ⟨t, 0, none⟩), .pointer (some ⟨r, 0, none⟩), .agg #[.int .u8 kind, .string key, .string value, .int .i64 most]] w (StepPost w0 t mp base r H root0 cs0 bs0 S (delP cs key) w) := by
  have hr := h.g.rise
  have hb1 := below_one w (.cells #[.int .u8 kind, .string key, .string value, .int .i64 most] 29)
  have h1 := h.below hb1
  have hob : (w.alloc (.cells #[.int .u8 kind, .string key, .string value, .int .i64 most] 29)).heap[w.heap.size]? = some (.cells #[.int .u8 kind, .string key, .string value, .int .i64 most] 29 (0, 0)) := heap_alloc_new w _
  have hnS : ¬ (S w.heap.size ∨ w.heap.size = t) := fun x => absurd (h.sub _ x) (Nat.lt_irrefl _)
  have hso : w.heap.size < (w.alloc (.cells #[.int .u8 kind, .string key, .string value, .int .i64 most] 29)).heap.size := by simp
  have hP := h1.g.del key hl hg
  have HP := Lib.hid hP; clear hP
  go_enter Try.func25, Try.ntmps25
  go_wp2_with (first
    | (go_at_call 23; go_must (refine HP.out.mono ?_; rintro e w2 ⟨rfl, S2, hT2, hN2⟩; refine Stop.of ?_)))
  refine Stop.on ?_
  have hR2 := ref_nx h1.ref hN2
  have hob2 := (hN2.1.block _ hso hnS).trans hob
  obtain ⟨o0, o1, o2, o3, lo⟩ := cells4 hob2
  clear hob
  have hsub2 : ∀ g, (S2 g ∨ g = t) → g < w2.heap.size := by
    rintro g (hg | rfl)
    · exact hT2.sub.1 g hg
    · exact hT2.sub.2
  have hRP := rdelete_any r cs key w2 _ hsub2 hR2 hr (by omega)
  have HRP := Lib.hid hRP; clear hRP
  go_wp2_with (first
    | (go_at_call 18; go_must ((refine (good_yes _ _ _ ((goodKV_empty key).2 hg)).mono ?_); rintro e w3 ⟨rfl, hw⟩; subst w3))
    | (go_at_call 32; go_must (refine HRP.out.mono ?_; rintro e w4 ⟨rfl, hR4, hk4⟩)))
  go_ret
  exact ⟨by simp, S2, ⟨tg_ref hT2 hR2.1 h.rlo hk4, hR4, h.rlo⟩, fr3 hb1 hN2 hk4⟩

set_option maxRecDepth 100000 in
set_option maxHeartbeats 2000000 in
theorem step_delBad (h : TGR w0 t mp base r H root0 cs0 bs0 S cs w) (kind : Int) (key value : ByteArray) (most : Int) (hk0 : 0 ≤ kind) (hk1 : kind ≤ 255) (hk : kind % 4 = 1) (hg : ¬ (1 ≤ key.size ∧ key.size ≤ 128)) :
    Calls Try.prog 25 #[.pointer (some ⟨t, 0, none⟩), .pointer (some ⟨r, 0, none⟩), .agg #[.int .u8 kind, .string key, .string value, .int .i64 most]] w (StepPost w0 t mp base r H root0 cs0 bs0 S (cs) w) := by
  have hr := h.g.rise
  have hb1 := below_one w (.cells #[.int .u8 kind, .string key, .string value, .int .i64 most] 29)
  have h1 := h.below hb1
  have hob : (w.alloc (.cells #[.int .u8 kind, .string key, .string value, .int .i64 most] 29)).heap[w.heap.size]? = some (.cells #[.int .u8 kind, .string key, .string value, .int .i64 most] 29 (0, 0)) := heap_alloc_new w _
  have hnS : ¬ (S w.heap.size ∨ w.heap.size = t) := fun x => absurd (h.sub _ x) (Nat.lt_irrefl _)
  have hso : w.heap.size < (w.alloc (.cells #[.int .u8 kind, .string key, .string value, .int .i64 most] 29)).heap.size := by simp
  have hP := h1.g.delBad key hg
  have HP := Lib.hid hP; clear hP
  go_enter Try.func25, Try.ntmps25
  go_wp2_with (first
    | (go_at_call 23; go_must (refine HP.out.mono ?_; rintro e w2 ⟨rfl, hb2⟩; refine Stop.of ?_)))
  refine Stop.on ?_
  obtain ⟨o0, o1, o2, o3, lo⟩ := cells4 ((hb2.block _ hso).trans hob)
  clear hob
  go_wp2_with (first
    | (go_at_call 18; go_must ((refine (good_no _ _ _ (fun x => hg ((goodKV_empty key).1 x))).mono ?_); rintro e w3 ⟨rfl, hw⟩; subst w3)))
  go_ret
  exact ⟨rfl, S, h1.below hb2, fr1 (hb1.trans (hb2.mono hb1.size))⟩

set_option maxRecDepth 100000 in
set_option maxHeartbeats 2000000 in
theorem step_get (h : TGR w0 t mp base r H root0 cs0 bs0 S cs w) (kind : Int) (key value : ByteArray) (most : Int) (hk0 : 0 ≤ kind) (hk1 : kind ≤ 255) (hk : kind % 4 = 2) (hl : base + 2 * cs.length ≤ 4090) (hg : 1 ≤ key.size ∧ key.size ≤ 128) :
    Calls Try.prog 25 #[.pointer (some ⟨t, 0, none⟩), .pointer (some ⟨r, 0, none⟩), .agg #[.int .u8 kind, .string key, .string value, .int .i64 most]] w (StepPost w0 t mp base r H root0 cs0 bs0 S (cs) w) := by
  have hr := h.g.rise
  have hb1 := below_one w (.cells #[.int .u8 kind, .string key, .string value, .int .i64 most] 29)
  have h1 := h.below hb1
  have hob : (w.alloc (.cells #[.int .u8 kind, .string key, .string value, .int .i64 most] 29)).heap[w.heap.size]? = some (.cells #[.int .u8 kind, .string key, .string value, .int .i64 most] 29 (0, 0)) := heap_alloc_new w _
  have hnS : ¬ (S w.heap.size ∨ w.heap.size = t) := fun x => absurd (h.sub _ x) (Nat.lt_irrefl _)
  have hso : w.heap.size < (w.alloc (.cells #[.int .u8 kind, .string key, .string value, .int .i64 most] 29)).heap.size := by simp
  have hP := h1.g.get key (by omega) hg
  have HP := Lib.hid hP; clear hP
  go_enter Try.func25, Try.ntmps25
  go_wp2_with (first
    | (go_at_call 28; go_must (refine HP.out.mono ?_; rintro e w2 ⟨rfl, hb2⟩; refine Stop.of ?_)))
  refine Stop.on ?_
  obtain ⟨o0, o1, o2, o3, lo⟩ := cells4 ((hb2.block _ hso).trans hob)
  clear hob
  have h2 := h1.below hb2
  have hRG := rget_any r cs key w2 _ h2.ref hr (by omega)
  have HRG := Lib.hid hRG; clear hRG
  generalize (lookP cs key).getD ⟨#[]⟩ = x at HRG ⊢
  generalize (lookP cs key).isSome = y at HRG ⊢
  go_wp2_with (first
    | (go_at_call 18; go_must ((refine (good_yes _ _ _ ((goodKV_empty key).2 hg)).mono ?_); rintro e w3 ⟨rfl, hw⟩; subst w3))
    | (go_at_call 17; go_must (refine HRG.out.mono ?_; rintro e w4 ⟨rfl, hw⟩; subst w4)))
  go_ret
  exact ⟨by simp, S, h2, fr1 (hb1.trans (hb2.mono hb1.size))⟩

set_option maxRecDepth 100000 in
set_option maxHeartbeats 2000000 in
theorem step_getBad (h : TGR w0 t mp base r H root0 cs0 bs0 S cs w) (kind : Int) (key value : ByteArray) (most : Int) (hk0 : 0 ≤ kind) (hk1 : kind ≤ 255) (hk : kind % 4 = 2) (hg : ¬ (1 ≤ key.size ∧ key.size ≤ 128)) :
    Calls Try.prog 25 #[.pointer (some ⟨t, 0, none⟩), .pointer (some ⟨r, 0, none⟩), .agg #[.int .u8 kind, .string key, .string value, .int .i64 most]] w (StepPost w0 t mp base r H root0 cs0 bs0 S (cs) w) := by
  have hr := h.g.rise
  have hb1 := below_one w (.cells #[.int .u8 kind, .string key, .string value, .int .i64 most] 29)
  have h1 := h.below hb1
  have hob : (w.alloc (.cells #[.int .u8 kind, .string key, .string value, .int .i64 most] 29)).heap[w.heap.size]? = some (.cells #[.int .u8 kind, .string key, .string value, .int .i64 most] 29 (0, 0)) := heap_alloc_new w _
  have hnS : ¬ (S w.heap.size ∨ w.heap.size = t) := fun x => absurd (h.sub _ x) (Nat.lt_irrefl _)
  have hso : w.heap.size < (w.alloc (.cells #[.int .u8 kind, .string key, .string value, .int .i64 most] 29)).heap.size := by simp
  have hP := h1.g.getBad key hg
  have HP := Lib.hid hP; clear hP
  obtain ⟨o0, o1, o2, o3, lo⟩ := cells4 hob
  clear hob
  go_enter Try.func25, Try.ntmps25
  go_wp2_with (first
    | (go_at_call 28; go_must (refine HP.out.mono ?_; rintro e w2 ⟨rfl, hw⟩; subst w2))
    | (go_at_call 18; go_must ((refine (good_no _ _ _ (fun x => hg ((goodKV_empty key).1 x))).mono ?_); rintro e w3 ⟨rfl, hw⟩; subst w3)))
  go_ret
  exact ⟨by simp, S, h1, fr1 hb1⟩

set_option maxRecDepth 100000 in
set_option maxHeartbeats 2000000 in
theorem step_scan (h : TGR w0 t mp base r H root0 cs0 bs0 S cs w) (kind : Int) (key value : ByteArray) (most : Int) (hk0 : 0 ≤ kind) (hk1 : kind ≤ 255) (hk : kind % 4 = 3) (hl : base + 2 * cs.length ≤ 4090)  :
    Calls Try.prog 25 #[.pointer (some ⟨t, 0, none⟩), .pointer (some ⟨r, 0, none⟩), .agg #[.int .u8 kind, .string key, .string value, .int .i64 most]] w (StepPost w0 t mp base r H root0 cs0 bs0 S (cs) w) := by
  have hr := h.g.rise
  have hb1 := below_one w (.cells #[.int .u8 kind, .string key, .string value, .int .i64 most] 29)
  have h1 := h.below hb1
  have hob : (w.alloc (.cells #[.int .u8 kind, .string key, .string value, .int .i64 most] 29)).heap[w.heap.size]? = some (.cells #[.int .u8 kind, .string key, .string value, .int .i64 most] 29 (0, 0)) := heap_alloc_new w _
  have hnS : ¬ (S w.heap.size ∨ w.heap.size = t) := fun x => absurd (h.sub _ x) (Nat.lt_irrefl _)
  have hso : w.heap.size < (w.alloc (.cells #[.int .u8 kind, .string key, .string value, .int .i64 most] 29)).heap.size := by simp
  have hP := h1.g.scan key most (by omega)
  have HP := Lib.hid hP; clear hP
  go_enter Try.func25, Try.ntmps25
  go_wp2_with (first
    | (go_at_call 21; go_must (refine HP.out.mono ?_; rintro e w2 ⟨v, rfl, hv, hb2⟩; refine Stop.of ?_)))
  refine Stop.on ?_
  obtain ⟨o0, o1, o2, o3, lo⟩ := cells4 ((hb2.block _ hso).trans hob)
  clear hob
  have h2 := h1.below hb2
  have hRS := rscan_any r cs key most w2 _ h2.sub h2.ref hr (by omega)
  have HRS := Lib.hid hRS; clear hRS
  go_wp2_with (first
    | (go_at_call 27; go_must (refine HRS.out.mono ?_; rintro e w4 ⟨u, rfl, hu, hb4⟩; refine Stop.of ?_)))
  refine Stop.on ?_
  have hS := same_yes v u _ w4 _ _ (IsSl.below hv hb4) hu
  have HS := Lib.hid hS; clear hS
  go_wp2_with (first
    | (go_at_call 22; go_must (refine HS.out.mono ?_; rintro e w5 ⟨rfl, hb5⟩)))
  go_ret
  exact ⟨rfl, S, (h2.below hb4).below hb5, fr1 (((hb1.trans (hb2.mono hb1.size)).trans (hb4.mono (Nat.le_trans hb1.size hb2.size))).trans (hb5.mono (Nat.le_trans (Nat.le_trans hb1.size hb2.size) hb4.size)))⟩


theorem step_any (h : TGR w0 t mp base r H root0 cs0 bs0 S cs w) (kind : Int) (key value : ByteArray) (most : Int) (hk0 : 0 ≤ kind) (hk1 : kind ≤ 255) (hl : base + 2 * cs.length ≤ 4090) :
    Calls Try.prog 25 #[.pointer (some ⟨t, 0, none⟩), .pointer (some ⟨r, 0, none⟩), .agg #[.int .u8 kind, .string key, .string value, .int .i64 most]] w (StepPost w0 t mp base r H root0 cs0 bs0 S (stepL cs kind key value) w) := by
  unfold stepL putP
  have hm : kind % 4 = 0 ∨ kind % 4 = 1 ∨ kind % 4 = 2 ∨ kind % 4 = 3 := by omega
  rcases hm with hm | hm | hm | hm
  · rw [if_pos hm]
    by_cases hg : GoodKV key value
    · rw [if_pos hg]; exact step_put h kind key value most hk0 hk1 hm hl hg
    · rw [if_neg hg]; exact step_putBad h kind key value most hk0 hk1 hm hg
  · rw [if_neg (by omega), if_pos hm]
    by_cases hg : 1 ≤ key.size ∧ key.size ≤ 128
    · rw [if_pos hg]; exact step_del h kind key value most hk0 hk1 hm hl hg
    · rw [if_neg hg]; exact step_delBad h kind key value most hk0 hk1 hm hg
  · rw [if_neg (by omega), if_neg (by omega)]
    by_cases hg : 1 ≤ key.size ∧ key.size ≤ 128
    · exact step_get h kind key value most hk0 hk1 hm hl hg
    · exact step_getBad h kind key value most hk0 hk1 hm hg
  · rw [if_neg (by omega), if_neg (by omega)]
    exact step_scan h kind key value most hk0 hk1 hm hl
end
end Go.Proofs.Ytbldcbakhpdigaa

/- Hold: all blocks that are taken now are held. -/
namespace Go.Proofs.Ytbldcbakhpdigaa
open Go.RowKit

def mkB : Option Nat → Value
  | none => .slice none 0 0
  | some g => .slice (some ⟨g, 0, none⟩) 512 512
theorem rB_shape (v : Value) (y : DataW Unit × List MemPlace) (h : rB v = some y) : ∃ c, v = mkB c := by
  unfold rB at h
  split at h
  · rename_i g o sp n c
    split at h
    · rename_i hc
      obtain ⟨rfl, rfl, rfl, rfl⟩ := hc
      exact ⟨some g, rfl⟩
    · cases h
  · split at h
    · rename_i hc
      obtain ⟨rfl, rfl⟩ := hc
      exact ⟨none, rfl⟩
    · cases h
  · cases h

theorem wf_of_key {x : Int} {kl : Lit} (h : keyOf Try.prog 3 (.int .i64 x) = some kl) : kl = kI x ∧ (Lit.int .i64 x).wf = true := by
  obtain ⟨y, e, e2, hw⟩ := Maps.keyOf_int_inv Try.underlying3 h
  cases e
  exact ⟨e2, hw⟩

set_option maxRecDepth 100000 in
set_option maxHeartbeats 2000000 in
theorem hold_any (mp : Nat) (σ : MSt) (S : Nat → Prop) (w : World) (h : Inv σ S mp w) (hH0 : σ.H = .map []) :
    Calls Try.prog 26 #[.pointer (some ⟨mp, 0, none⟩)] w fun e w' => e = .returned (.tuple #[]) ∧ ∃ H', Inv { σ with H := H' } S mp w' ∧ (∀ b, Maps.has σ.D (kI b) = true → H'.atKey (kI b) (.lit (.int .i64 0)) = .lit (.int .i64 1)) ∧ Step S S w w' := by
  have hm := h.blk
  have hs1 := h.sbb
  have hs2 := h.shb
  have hbh := h.ne
  have hD := h.own
  have hH := h.oh
  have hcap := h.cap
  have hszD := h.szD
  rw [hH0] at hH
  have c1 : w.cell? ⟨mp, 1, none⟩ = some (.map (some σ.bb)) := by simp [World.cell?, hm]
  have hlt : mp < w.heap.size := h.sub _ h.smp
  have hlb := h.sub _ h.sbb
  have hlh := h.sub _ h.shb
  have hz : ∀ w, (zeroValue 3).run Try.prog w = .ok (.int .i64 0) w := fun w => by kernel_rfl
  have hHs := tight hH (Nat.le_refl _)
  go_enter Try.func26, Try.ntmps26
  go_wp2_with (first
    | (at_range; refine wpList_range_own _ rfl _ 70 rfl 3 34 keyed_int Try.underlying70 rB σ.bb 5000 σ.D rfl hD ?_; intro w0 hrg0 hg0 hs0)
    | go_in)
  go_frame
  go_loopw [2] (fun _ wr => ∃ (left : Lit → Bool) (cnt : Nat) (H' : DataW Unit), wr.ranges Try.prog 3 rB σ.bb w.heap.size 5000 σ.D left cnt ∧ Maps.size H' + cnt ≤ Maps.size σ.D ∧ wr.ownsMap Try.prog 3 (plainElem Try.prog 3) σ.hb (Maps.size H') H' ∧
      (∀ b, left (kI b) = true → Maps.has σ.D (kI b) = true) ∧ (∀ b, (left (kI b) = true ∨ Maps.has σ.D (kI b) = false) → H'.atKey (kI b) (.lit (.int .i64 0)) = .lit (.int .i64 0)) ∧ (∀ b, left (kI b) = false → Maps.has σ.D (kI b) = true → H'.atKey (kI b) (.lit (.int .i64 0)) = .lit (.int .i64 1)) ∧ Keep (· = σ.hb) w wr)
    (fun _ wr => wr.rangeLeft σ.bb w.heap.size)
  case atStart =>
    refine ⟨_, _, .map [], hrg0, by simp [Maps.size_eq], hHs.kept hg0 (by simp), fun b hb => hb, fun b _ => by simp [DataW.atKey], (fun b hl hh => by rw [hh] at hl; cases hl), (Keep.refl _ _).grown hg0 (fun k e => by cases e)⟩
  case round =>
    obtain ⟨left, cnt, H', hrg, hcs, hout, hlD, hz0, hz1, hkeep⟩ := hrel
    have HLD := Lib.hid hlD; clear hlD
    have HZ0 := Lib.hid hz0; clear hz0
    have HZ1 := Lib.hid hz1; clear hz1
    have hmr : wr.heap[mp]? = _ := (hkeep.block mp hlt (fun e => by
      obtain ⟨es, cl, hb, _⟩ := hH
      rw [← e, hm] at hb; cases hb)).trans hm
    have c1r : wr.cell? ⟨mp, 1, none⟩ = some (.map (some σ.bb)) := by simp [World.cell?, hmr]
    have c2r : wr.cell? ⟨mp, 2, none⟩ = some (.map (some σ.hb)) := by simp [World.cell?, hmr]
    have hltr : mp < wr.heap.size := Nat.lt_of_lt_of_le hlt hkeep.size
    go_wp2_with (first
      | (at_next; refine wpList_next_ranges _ rfl _ rfl 3 keyed_int rB (Value.int .i64) mkB (fun key kl hkey => by obtain ⟨x, rfl, _⟩ := Maps.keyOf_int_inv Try.underlying3 hkey; exact ⟨x, rfl⟩) rB_shape σ.bb w.heap.size 5000 σ.D left cnt rfl hrg ?_ ?_)
      | go_in)
    · intro hc0 hl0
      have HL0 := Lib.hid hl0; clear hl0
      go_wp2_with fail
      go_end0
      have hcell : ∀ g cs t fr, w.heap[g]? = some (Obj.cells cs t fr) → wr.heap[g]? = some (Obj.cells cs t fr) := fun g cs t fr hg => (hkeep.block g (Array.getElem?_eq_some_iff.1 hg).1 (fun e => by
        obtain ⟨es, cl, hb, _⟩ := hH
        rw [← e, hg] at hb; cases hb)).trans hg
      refine ⟨rfl, H', ⟨fun g hg => Nat.lt_of_lt_of_le (h.sub g hg) hkeep.size, h.smp, h.sbb, h.shb, h.ne, hcell _ _ _ _ hm, hrg.owns, hout.mono (by omega), h.szD, h.cap, fun b hb => HZ0.out b (.inr hb), fun b z hb => ?_⟩, fun b hb => HZ1.out b (HL0.out _) hb, hkeep.mono (fun i _ e => by rw [e]; exact hs2), fun g hg => .inl hg⟩
      obtain ⟨g, r1, r2, r3, r4⟩ := h.rows b z hb
      exact ⟨g, r1, r2, r3, hcell _ _ _ _ r4⟩
    · intro x c kl yd ym w1 cnt1 hkey hlx hy hat hrg1 hlt1 hg1 hs1' hen
      obtain ⟨rfl, hwx⟩ := wf_of_key hkey
      have hout1 := hout.kept hg1 (fun e => by have := Option.some.inj e; omega)
      have hk1 : Keep (· = σ.hb) w w1 := hkeep.grown hg1 (fun k e => by cases e; exact .inl (Nat.le_refl _))
      have hm1 : w1.heap[mp]? = _ := (hk1.block mp hlt (fun e => by
        obtain ⟨es, cl, hb, _⟩ := hH
        rw [← e, hm] at hb; cases hb)).trans hm
      have c11 : w1.cell? ⟨mp, 1, none⟩ = some (.map (some σ.bb)) := by simp [World.cell?, hm1]
      have c21 : w1.cell? ⟨mp, 2, none⟩ = some (.map (some σ.hb)) := by simp [World.cell?, hm1]
      have hlt1' : mp < w1.heap.size := Nat.lt_of_lt_of_le hlt hk1.size
      obtain ⟨c', hrun, hat', _⟩ := hout1.lookup_int keyed_int Try.underlying71 Try.underlying3 (hz w1) (key_int x hwx)
      have hc0 : c' = 0 := by
        have := HZ0.out x (.inl hlx)
        rw [this] at hat'
        cases hat'; rfl
      subst hc0
      clear hat'
      clear c1r c2r hltr hmr
      go_wp2_with (first
        | (at_mapUpdate; (refine wpList_mapUpdate_own _ rfl _ _ _ 71 rfl 3 3 keyed_int Try.underlying71 _ σ.hb _ _ rfl hout1 (by simp only [maxLen]; omega) _ _ _ rfl rfl (key_int x hwx) _ [] (plainElem_int Try.underlying3 (by decide)) ?_; intro w2 hout2 hg2; go_frame))
        | go_in)
      have hrg2 := hrg1.kept hg2 (fun e => hbh (Option.some.inj e)) (fun e => by have := Option.some.inj e; omega)
      have hT := hout1.tidy keyed_int
      have hsz := Maps.size_put (k := kI x) hT (.lit (.int .i64 1))
      have hhx := HLD.out x hlx
      have hsame : ∀ b : Int, (kI b).sameKey (kI x) = decide (b = x) := fun b => by simp [Lit.sameKey]
      have hne : ∀ b : Int, b ≠ x → kI b ≠ kI x := fun b hb e => hb (by injection e)
      go_roundw
      case rel =>
        refine ⟨_, cnt1, H'.put (kI x) (.lit (.int .i64 1)), hrg2, ?_, tight hout2 (Nat.le_refl _), fun b hb => ?_, fun b hb => ?_, fun b hb hh => ?_, hk1.grown hg2 (fun k e => by cases e; exact .inr rfl)⟩
        · rw [hsz]; split <;> omega
        · simp only [Bool.and_eq_true] at hb
          exact HLD.out b hb.1
        · have hbx : b ≠ x := by
            rintro rfl
            rcases hb with hb | hb
            · simp [hsame] at hb
            · rw [hhx] at hb; cases hb
          rw [Maps.atKey_put_other (hne b hbx)]
          refine HZ0.out b (hb.imp (fun y => ?_) id)
          simp only [Bool.and_eq_true] at y
          exact y.1
        · by_cases hbx : b = x
          · subst hbx
            exact Maps.atKey_put_same hT.isMap (isKey_int _) _ _
          · rw [Maps.atKey_put_other (hne b hbx)]
            refine HZ1.out b ?_ hh
            simp only [hsame, decide_eq_false hbx, Bool.not_false, Bool.and_true] at hb
            exact hb
      case measure => rw [hrg2.left_eq, hrg.left_eq]; exact hlt1
end Go.Proofs.Ytbldcbakhpdigaa

/- What nil trees and nil stores answer. (Printed by gen/none.py.) -/
namespace Go.Proofs.Ytbldcbakhpdigaa
open Go.RowKit

theorem usable_nil (w : World) : Calls Try.prog 33 #[.pointer none] w fun e w' => e = .returned (.int .i64 2) ∧ w' = w := by
  go_enter Try.func33, Try.ntmps33
  go_wp2
  go_ret
  exact ⟨rfl, rfl⟩
theorem check_nil (b : Int) (w : World) : Calls Try.prog 30 #[.pointer none, .int .i64 b] w fun e w' => e = .returned (.int .i64 2) ∧ w' = w := by
  go_enter Try.func30, Try.ntmps30
  go_wp2
  go_ret
  exact ⟨rfl, rfl⟩

set_option maxRecDepth 100000 in
theorem get_nil (key : ByteArray) (w : World) : Calls Try.prog 28 #[.pointer none, .string key] w fun e w' => e = .returned (.tuple #[.string ⟨#[]⟩, .bool false, .int .i64 2]) ∧ w' = w := by
  go_enter Try.func28, Try.ntmps28
  go_wp2_with (go_at_call 33; go_must ((refine (usable_nil _).mono ?_); rintro e w1 ⟨rfl, hw⟩; subst w1))
  go_ret3
  exact ⟨rfl, rfl⟩

set_option maxRecDepth 100000 in
theorem put_nil (key value : ByteArray) (w : World) : Calls Try.prog 20 #[.pointer none, .string key, .string value] w fun e w' => e = .returned (.int .i64 2) ∧ Below w.heap.size w w' := by
  go_enter Try.func20, Try.ntmps20
  go_wp2_with (go_at_call 33; go_must ((refine (usable_nil _).mono ?_); rintro e w1 ⟨rfl, hw⟩; subst w1))
  go_ret
  exact ⟨rfl, below_three w _ _ _⟩

set_option maxRecDepth 100000 in
theorem delete_nil (key : ByteArray) (w : World) : Calls Try.prog 23 #[.pointer none, .string key] w fun e w' => e = .returned (.tuple #[.bool false, .int .i64 2]) ∧ Below w.heap.size w w' := by
  go_enter Try.func23, Try.ntmps23
  go_wp2_with (go_at_call 28; go_must ((refine (get_nil _ _).mono ?_); rintro e w1 ⟨rfl, hw⟩; subst w1))
  go_ret2
  exact ⟨rfl, below_two w _ _⟩

set_option maxRecDepth 100000 in
theorem scan_nil (key : ByteArray) (most : Int) (w : World) : Calls Try.prog 21 #[.pointer none, .string key, .int .i64 most] w fun e w' => e = .returned (.tuple #[.slice none 0 0, .int .i64 2]) ∧ Below w.heap.size w w' := by
  go_enter Try.func21, Try.ntmps21
  go_wp2_with (go_at_call 33; go_must ((refine (usable_nil _).mono ?_); rintro e w1 ⟨rfl, hw⟩; subst w1))
  go_ret2
  exact ⟨rfl, below_one w _⟩

set_option maxRecDepth 100000 in
theorem blocks_nil (w : World) : Calls Try.prog 29 #[.pointer none] w fun e w' => e = .returned (.tuple #[.slice none 0 0, .int .i64 2]) ∧ w' = w := by
  go_enter Try.func29, Try.ntmps29
  go_wp2_with (go_at_call 33; go_must ((refine (usable_nil _).mono ?_); rintro e w1 ⟨rfl, hw⟩; subst w1))
  go_ret2
  exact ⟨rfl, rfl⟩

set_option maxRecDepth 100000 in
theorem root_nil (w : World) : Calls Try.prog 24 #[.pointer none] w fun e w' => e = .returned (.int .i64 0) ∧ w' = w := by
  go_enter Try.func24, Try.ntmps24
  go_wp2
  go_ret
  exact ⟨rfl, rfl⟩

set_option maxRecDepth 100000 in
theorem hold_nil (w : World) : Calls Try.prog 26 #[.pointer none] w fun e w' => e = .returned (.tuple #[]) ∧ w' = w := by
  go_enter Try.func26, Try.ntmps26
  go_wp2
  go_end0
  exact ⟨rfl, rfl⟩

set_option maxRecDepth 100000 in
theorem read_nil (b : Int) (w : World) : Calls Try.prog 15 #[.pointer none, .int .i64 b] w fun e w' => e = .returned (.tuple #[.slice none 0 0, .int .i64 2]) ∧ w' = w := by
  go_enter Try.func15, Try.ntmps15
  go_wp2_with (go_at_call 30; go_must ((refine (check_nil _ _).mono ?_); rintro e w1 ⟨rfl, hw⟩; subst w1))
  go_ret2
  exact ⟨rfl, rfl⟩

set_option maxRecDepth 100000 in
theorem take_nil (w : World) : Calls Try.prog 11 #[.pointer none] w fun e w' => e = .returned (.tuple #[.int .i64 0, .int .i64 2]) ∧ w' = w := by
  go_enter Try.func11, Try.ntmps11
  go_wp2
  go_ret2
  exact ⟨rfl, rfl⟩

set_option maxRecDepth 100000 in
theorem write_nil (b : Int) (v : Value) (w : World) : Calls Try.prog 14 #[.pointer none, .int .i64 b, v] w fun e w' => e = .returned (.int .i64 2) ∧ w' = w := by
  go_enter Try.func14, Try.ntmps14
  go_wp2_with (go_at_call 30; go_must ((refine (check_nil _ _).mono ?_); rintro e w1 ⟨rfl, hw⟩; subst w1))
  go_ret
  exact ⟨rfl, rfl⟩

set_option maxRecDepth 100000 in
theorem free_nil (b : Int) (w : World) : Calls Try.prog 13 #[.pointer none, .int .i64 b] w fun e w' => e = .returned (.int .i64 2) ∧ w' = w := by
  go_enter Try.func13, Try.ntmps13
  go_wp2_with (go_at_call 30; go_must ((refine (check_nil _ _).mono ?_); rintro e w1 ⟨rfl, hw⟩; subst w1))
  go_ret
  exact ⟨rfl, rfl⟩

set_option maxRecDepth 100000 in
theorem used_nil (w : World) : Calls Try.prog 12 #[.pointer none] w fun e w' => e = .returned (.int .i64 0) ∧ w' = w := by
  go_enter Try.func12, Try.ntmps12
  go_wp2
  go_ret
  exact ⟨rfl, rfl⟩

set_option maxRecDepth 100000 in
theorem open_nil (root : Int) (w : World) : Calls Try.prog 16 #[.nilIface, .int .i64 root] w fun e w' => e = .returned (.pointer none) ∧ w' = w := by
  have heq : ∀ w : World, (binOp BinOp.eql 77 .nilIface .nilIface).run Try.prog w = .ok (.bool true) w := fun _ => by kernel_rfl
  go_enter Try.func16, Try.ntmps16
  go_wp2
  go_ret
  exact ⟨rfl, rfl⟩
set_option maxRecDepth 100000 in
theorem open_neg (mp : Nat) (root : Int) (hr : root < 0) (w : World) : Calls Try.prog 16 #[.iface 24 (.pointer (some ⟨mp, 0, none⟩)), .int .i64 root] w fun e w' => e = .returned (.pointer none) ∧ w' = w := by
  have heq : ∀ w : World, (binOp BinOp.eql 77 (.iface 24 (.pointer (some ⟨mp, 0, none⟩))) .nilIface).run Try.prog w = .ok (.bool false) w := fun _ => by kernel_rfl
  go_enter Try.func16, Try.ntmps16
  go_wp2
  go_ret
  exact ⟨rfl, rfl⟩
end Go.Proofs.Ytbldcbakhpdigaa

/- BtreeMem: the state of its loop. -/
namespace Go.Proofs.Ytbldcbakhpdigaa
open Go.RowKit

abbrev OpV := Int × ByteArray × ByteArray × Int
/-- v is a slice of those operations -/
def IsOps (w : World) (v : Value) (os : List OpV) : Prop := ∃ ao c, v = .slice ao os.length c ∧ os.length ≤ c ∧ c ≤ maxLen ∧
  ∀ i (_ : i < os.length), ∃ b o, ao = some ⟨b, o, none⟩ ∧ w.cell? ⟨b, o + i * 4, none⟩ = some (.int .u8 os[i].1) ∧ w.cell? ⟨b, o + i * 4 + 1, none⟩ = some (.string os[i].2.1) ∧ w.cell? ⟨b, o + i * 4 + 2, none⟩ = some (.string os[i].2.2.1) ∧ w.cell? ⟨b, o + i * 4 + 3, none⟩ = some (.int .i64 os[i].2.2.2)
theorem IsOps.at {w : World} {v : Value} {os : List OpV} {ao : Option Addr} {n c : Nat} (h : IsOps w v os) (hv : v = .slice ao n c) (i : Nat) (hi : i < os.length) :
    ∃ b o, ao = some ⟨b, o, none⟩ ∧ w.cell? ⟨b, o + i * 4, none⟩ = some (.int .u8 os[i].1) ∧ w.cell? ⟨b, o + i * 4 + 1, none⟩ = some (.string os[i].2.1) ∧ w.cell? ⟨b, o + i * 4 + 2, none⟩ = some (.string os[i].2.2.1) ∧ w.cell? ⟨b, o + i * 4 + 3, none⟩ = some (.int .i64 os[i].2.2.2) := by
  obtain ⟨ao', c', rfl, _, _, h6⟩ := h
  cases hv
  exact h6 i hi

/-- is the block taken? -/
def thereB (tk : List Bool) (b : Int) : Bool := decide (1 ≤ b) && (decide (b < tk.length) && tk.getD b.toNat false)

/-- the loop's state -/
structure MR (n : Nat) (w0 : World) (σ : MSt) (S : Nat → Prop) (mp : Nat) (v7 v8 : Value) (tk : List Bool) (da : List ByteArray) (wr : World) : Prop where
  inv : Inv σ S mp wr
  bel : Below w0.heap.size w0 wr
  hS : ∀ g, S g → w0.heap.size ≤ g
  t7 : OwnSl wr S w0.heap.size 4 1 v7 tk.length (tk.map .bool)
  t8 : OwnSl wr S w0.heap.size 9 1 v8 da.length (da.map .string)
  len : tk.length = da.length
  le : tk.length ≤ n + 1
  n4 : n ≤ 4096
  cnt : Maps.size σ.D = tk.count true
  zero : tk.getD 0 false = false
  most : σ.most = n
  held : σ.H = .map []
  has : ∀ b : Int, Maps.has σ.D (kI b) = thereB tk b
  mem : ∀ b : Int, thereB tk b = true → σ.mem b = (da.getD b.toNat ⟨#[]⟩).data.toList

theorem thereB_false {tk : List Bool} {b : Int} (h : ¬ (1 ≤ b) ∨ ¬ b < tk.length) : thereB tk b = false := by
  unfold thereB
  rcases h with h | h <;> simp [h]
theorem thereB_in {tk : List Bool} {b : Int} (h1 : 1 ≤ b) (h2 : b < tk.length) : ∃ h : b.toNat < tk.length, thereB tk b = tk[b.toNat] := by
  have h : b.toNat < tk.length := by omega
  exact ⟨h, by unfold thereB; simp [h1, h2, h]⟩
theorem thereB_lt {tk : List Bool} {b : Int} (h : thereB tk b = true) : 1 ≤ b ∧ b < tk.length := by
  unfold thereB at h
  simp at h
  exact ⟨h.1, h.2.1⟩
theorem thereB_set {tk : List Bool} (b : Int) (x : Bool) (h1 : 1 ≤ b) (h2 : b < tk.length) (c : Int) : thereB (tk.set b.toNat x) c = if c = b then x else thereB tk c := by
  by_cases hc : c = b
  · subst hc
    rw [if_pos rfl]
    have h : c.toNat < tk.length := by omega
    unfold thereB
    simp [h1, h2, h]
  · rw [if_neg hc]
    unfold thereB
    by_cases hc1 : 1 ≤ c
    · have hne : b.toNat ≠ c.toNat := by omega
      simp [hc1, hne]
    · simp [hc1]
theorem thereB_append {tk : List Bool} (k : Nat) (c : Int) : thereB (tk ++ List.replicate k false) c = thereB tk c := by
  unfold thereB
  by_cases hc1 : 1 ≤ c
  · by_cases hc2 : c < tk.length
    · have h : c.toNat < tk.length := by omega
      have h3 : c < (tk ++ List.replicate k false).length := by simp; omega
      simp only [hc1, hc2, h3, decide_true, Bool.true_and]
      simp [List.getElem?_append_left h]
    · have h : ¬ c.toNat < tk.length := by omega
      simp only [hc2, decide_false, Bool.false_and, Bool.and_false]
      have h4 : (tk ++ List.replicate k false).getD c.toNat false = false := by
        rw [List.getD_eq_getElem?_getD, List.getElem?_append_right (by omega), List.getElem?_replicate]
        split <;> rfl
      rw [h4]
      simp
  · simp [hc1]

theorem count_set (tk : List Bool) (i : Nat) (h : i < tk.length) (x : Bool) : (tk.set i x).count true + (if tk[i] = true then 1 else 0) = tk.count true + (if x = true then 1 else 0) := by
  induction tk generalizing i with
  | nil => simp at h
  | cons a tk ih =>
    cases i with
    | zero => cases a <;> cases x <;> simp
    | succ i =>
      have := ih i (by simpa using h)
      simp only [List.set_cons_succ, List.count_cons, List.getElem_cons_succ] at *
      omega
/-- with a block of the first n free, fewer than n are taken -/
theorem count_lt (tk : List Bool) (n f : Nat) (hl : tk.length ≤ n + 1) (h0 : tk.getD 0 false = false) (hf : 1 ≤ f) (hfn : f ≤ n) (ht : thereB tk f = false) : tk.count true < n := by
  by_cases hfl : f < tk.length
  · have h2 : tk[f] = false := by
      obtain ⟨hb, e⟩ := thereB_in (tk := tk) (b := (f : Int)) (by omega) (by omega)
      rw [ht] at e
      simpa using e.symm
    have hz : tk[0] = false := by
      have : 0 < tk.length := by omega
      simpa [List.getD_eq_getElem?_getD, List.getElem?_eq_getElem this] using h0
    have c1 := count_set tk f hfl true
    rw [h2] at c1
    have c2 := count_set (tk.set f true) 0 (by simp; omega) true
    have hz' : (tk.set f true)[0]'(by simp; omega) = false := by rw [List.getElem_set_ne (by omega)]; exact hz
    rw [hz'] at c2
    have c3 := List.count_le_length (a := true) (l := (tk.set f true).set 0 true)
    simp only [List.length_set] at c3
    simp at c1 c2
    omega
  · cases tk with
    | nil => simp; omega
    | cons a tk =>
      have : a = false := by simpa using h0
      subst this
      have c3 := List.count_le_length (a := true) (l := tk)
      simp at hfl hl ⊢
      omega
end Go.Proofs.Ytbldcbakhpdigaa

/- A slice of operations that came in as an argument. -/
namespace Go.Proofs.Ytbldcbakhpdigaa
open Go.RowKit Go.ChangeShapes Go.WideShapes Go.ChangeAt Go.Deep

theorem add_none (a : Addr) : a.add 0 = a := by unfold Addr.add; simp

theorem open_op {H : Type} {enc : TypeId × Value → H} {w : World} {base : Nat} {spare : Nat → Bool} {held : Bool} {n : Nat} {cs : List Value} {a : Addr} {D : DataW H} {pl : List MemPlace} (h1 : w.cells? base a 4 = some cs) (h2 : DataW.trod enc Try.prog w base spare held n 29 cs = some (D, pl)) :
    ∃ o : OpV, a.spot = none ∧ (0 ≤ o.1 ∧ o.1 ≤ 255 ∧ (Lit.int .i64 o.2.2.2).wf = true) ∧ o.2.1.size ≤ maxLen ∧ w.cell? a = some (.int .u8 o.1) ∧ w.cell? (a.add 1) = some (.string o.2.1) ∧ w.cell? (a.add 2) = some (.string o.2.2.1) ∧ w.cell? (a.add 3) = some (.int .i64 o.2.2.2) := by
  obtain ⟨_, hlen, hcell⟩ := World.cells?_some h1
  match cs, hlen with
  | [v0, v1, v2, v3], _ =>
    obtain ⟨y0, y1, y2, y3, m, hx, _, g0, g1, g2, g3⟩ := Go.Joins.trod_struct4 Try.underlying29 h2
    have c8 : Try.prog.cellsOf 5 = 1 := by kernel_rfl
    have c9 : Try.prog.cellsOf 9 = 1 := by kernel_rfl
    have c3 : Try.prog.cellsOf 3 = 1 := by kernel_rfl
    simp [c8, c9, c3] at g0 g1 g2 g3
    obtain ⟨k, e0, _, wk⟩ := DataW.trod_int Try.underlying5 g0
    obtain ⟨s1, e1, _, ws⟩ := DataW.trod_string Try.underlying9 g1
    obtain ⟨s2, e2, _⟩ := DataW.trod_string Try.underlying9 g2
    obtain ⟨z, e3, _, wz⟩ := DataW.trod_int Try.underlying3 g3
    simp at e0 e1 e2 e3
    subst e0 e1 e2 e3
    have d0 := hcell 0 (by omega)
    have d1 := hcell 1 (by omega)
    have d2 := hcell 2 (by omega)
    have d3 := hcell 3 (by omega)
    refine ⟨(k, s1, s2, z), ?_, ⟨?_, ?_, wz⟩, ws, by rw [add_none] at d0; simpa using d0, by simpa using d1, by simpa using d2, by simpa using d3⟩
    · have := World.cell?_spot (show w.cell? (a.add 0) = some _ from d0)
      rwa [add_none] at this
    · simp only [Lit.wf, Bool.and_eq_true, decide_eq_true_eq] at wk
      exact Int.le_trans (by decide) wk.1
    · simp only [Lit.wf, Bool.and_eq_true, decide_eq_true_eq] at wk
      exact Int.le_trans wk.2 (by decide)

theorem open_ops {H : Type} {enc : TypeId × Value → H} {W : World} {fuel : Nat} {cs : List Value} {x : DataW H × List MemPlace} (h : DataW.trod enc Try.prog W 0 (fun _ => true) true fuel 22 cs = some x) :
    ∃ v os, cs = [v] ∧ IsOps W v os ∧ (∀ o ∈ os, 0 ≤ o.1 ∧ o.1 ≤ 255 ∧ (Lit.int .i64 o.2.2.2).wf = true) ∧ ∀ o ∈ os, o.2.1.size ≤ maxLen := by
  rcases open_slice Try.underlying22 h with ⟨rfl, _⟩ | ⟨a, len, cap, m, n, D, Pl, rfl, hb, hl, hm, hmm, rfl, hx⟩
  · exact ⟨_, [], rfl, ⟨none, 0, rfl, Nat.le_refl _, Nat.zero_le _, fun i hi => by simp at hi⟩, by simp, by simp⟩
  · have hc4 : Try.prog.cellsOf 29 = 4 := by kernel_rfl
    have hlm : len ≤ m := by rw [hmm]; simp; exact hl
    have each : ∀ i, i < len → ∃ o : OpV, (a.add (i * 4)).spot = none ∧ (0 ≤ o.1 ∧ o.1 ≤ 255 ∧ (Lit.int .i64 o.2.2.2).wf = true) ∧ o.2.1.size ≤ maxLen ∧ W.cell? (a.add (i * 4)) = some (.int .u8 o.1) ∧ W.cell? ((a.add (i * 4)).add 1) = some (.string o.2.1) ∧ W.cell? ((a.add (i * 4)).add 2) = some (.string o.2.2.1) ∧ W.cell? ((a.add (i * 4)).add 3) = some (.int .i64 o.2.2.2) := by
      intro i hi
      obtain ⟨cs', h1, h2⟩ := hx i (by omega)
      rw [hc4] at h1
      exact open_op h1 h2
    obtain ⟨f, hf⟩ := choose_lt each
    refine ⟨_, (List.range len).map f, rfl, ⟨some a, cap, by simp, by simpa using hl, hm, fun i hi => ?_⟩, ?_, ?_⟩
    · simp at hi
      obtain ⟨g0, _, _, g1, g2, g3, g4⟩ := hf i hi
      obtain ⟨b, o, sp⟩ := a
      have hs : sp = none := by
        have := (hf 0 (by omega)).1
        rw [Nat.zero_mul, add_none] at this
        exact this
      subst hs
      rw [Addr.add_lit] at g1 g2 g3 g4
      rw [Addr.add_lit] at g2 g3 g4
      refine ⟨b, o, rfl, ?_, ?_, ?_, ?_⟩ <;> simpa using by assumption
    · intro o ho
      obtain ⟨i, hi, rfl⟩ := List.mem_map.1 ho
      exact (hf i (List.mem_range.1 hi)).2.1
    · intro o ho
      obtain ⟨i, hi, rfl⟩ := List.mem_map.1 ho
      exact (hf i (List.mem_range.1 hi)).2.2.1
end Go.Proofs.Ytbldcbakhpdigaa

/- BtreeCopies: the walk. -/
namespace Go.Proofs.Ytbldcbakhpdigaa
open Go.RowKit

theorem TrR.same {σ σ' : MSt} (hD : σ'.D = σ.D) (hm : σ'.mem = σ.mem) {root : Int} {cs : List Pr} {bs : List Int} (h : TrR σ root cs bs) : TrR σ' root cs bs := by
  rcases h with h | ⟨h, ht⟩
  · exact .inl h
  · exact .inr ⟨h, ht.move fun x hx => ⟨by unfold MSt.hasB; rw [hD]; exact ht.has x hx, by rw [hm]⟩⟩

/-- pairs do not lie in the document's tree's own block -/
theorem prs_ref_ne {w : World} {S : Nat → Prop} {r : Nat} {v u : Value} {ps rs : List Pr} {U : Nat → Prop} (h : IsPrs w S v ps) (hp : ps ≠ []) (hr : IsRef w U r rs) (_hu : u = u) : v.ownBlock ≠ some r := by
  obtain ⟨_, x, hb, hx⟩ := hr
  obtain ⟨xo, xc, rfl, _⟩ := IsSl.form hx
  obtain ⟨p, r', rfl⟩ := List.exists_cons_of_ne_nil hp
  obtain ⟨ao, c, rfl, _, _, _, _, _, h6⟩ := h
  obtain ⟨b, o, rfl, hc⟩ := h6 0 (.string p.1) rfl
  intro e
  cases e
  rw [Nat.add_zero] at hc
  rcases o with _ | o <;> simp [World.cell?, hb] at hc

/-- the pairs that were told, as they go through the steps -/
def Was (w : World) (S : Nat → Prop) (t r : Nat) (v : Value) (ps : List Pr) : Prop := (ps = [] ∧ IsPrs w NoS v []) ∨ IsPrs w (fun g => (S g ∨ g = t) ∨ g = r) v ps
theorem Was.fr {w w' : World} {S S' : Nat → Prop} {t r : Nat} {v : Value} {ps : List Pr} (h : Was w S t r v ps) (hf : Fr S S' t r w w') : Was w' S' t r v ps := by
  rcases h with ⟨rfl, h⟩ | h
  · exact .inl ⟨rfl, IsSl.empty h hf.1.size⟩
  · refine .inr (IsSl.keep h fun g _ hl hs => ⟨hf.1.block g hl hs, ?_⟩)
    rintro ((x | x) | x)
    · exact (hf.2 g x).elim (fun y => hs (.inl (.inl y))) (fun y => absurd hl (Nat.not_lt.2 y))
    · exact hs (.inl (.inr x))
    · exact hs (.inr x)
theorem Was.is {w : World} {S : Nat → Prop} {t r : Nat} {v : Value} {ps : List Pr} (h : Was w S t r v ps) : ∃ S', IsPrs w S' v ps := by
  rcases h with ⟨rfl, h⟩ | h
  · exact ⟨_, h⟩
  · exact ⟨_, h⟩
theorem Was.below {w w' : World} {S : Nat → Prop} {t r : Nat} {v : Value} {ps : List Pr} (h : Was w S t r v ps) (hb : Below w.heap.size w w') : Was w' S t r v ps := by
  rcases h with ⟨rfl, h⟩ | h
  · exact .inl ⟨rfl, IsSl.below h hb⟩
  · exact .inr (IsSl.below h hb)

theorem TGR.rlt {w0 : World} {t mp base r : Nat} {H : DataW Unit} {root0 : Int} {cs0 : List Pr} {bs0 : List Int} {S : Nat → Prop} {cs : List Pr} {w : World} (h : TGR w0 t mp base r H root0 cs0 bs0 S cs w) : r < w.heap.size := by
  obtain ⟨_, _, hb, _⟩ := h.ref
  exact (Array.getElem?_eq_some_iff.1 hb).1

set_option maxRecDepth 100000 in
set_option maxHeartbeats 2000000 in
theorem copies_walk (v0 v1 : Value) (os1 os2 : List OpV) (w : World) (h1 : IsOps w v0 os1) (h2 : IsOps w v1 os2) (hw1 : ∀ o ∈ os1, 0 ≤ o.1 ∧ o.1 ≤ 255) (hw2 : ∀ o ∈ os2, 0 ≤ o.1 ∧ o.1 ≤ 255) :
    Calls Try.prog 7 #[v0, v1] w fun e w' => e = .returned (.bool true) ∧ Below w.heap.size w w' := by
  obtain ⟨ao, ac, rfl, _, hac, _⟩ := id h1
  obtain ⟨bo, bc, rfl, _, hbc, _⟩ := id h2
  have hac' : ac ≤ 9223372036854775807 := by simpa [maxLen] using hac
  have hbc' : bc ≤ 9223372036854775807 := by simpa [maxLen] using hbc
  go_enter Try.func7, Try.ntmps7
  by_cases hlen : 60 < os1.length ∨ 60 < os2.length
  · by_cases hl1 : 60 < os1.length
    · have x1 : (60 : Int) < (os1.length : Int) := by omega
      go_wp2_with (first
        | (go_at_call 9; (refine (fixed_any w).mono ?_); rintro e w1 ⟨rfl, hb1⟩)
        | (go_at_call 9; (refine (fixed_any _).mono ?_); rintro e w2 ⟨rfl, hb2⟩))
      go_ret
      exact ⟨rfl, hb1.trans (hb2.mono hb1.size)⟩
    · have x1 : ¬ (60 : Int) < (os1.length : Int) := by omega
      have x2 : (60 : Int) < (os2.length : Int) := by omega
      go_wp2_with (first
        | (go_at_call 9; (refine (fixed_any w).mono ?_); rintro e w1 ⟨rfl, hb1⟩)
        | (go_at_call 9; (refine (fixed_any _).mono ?_); rintro e w2 ⟨rfl, hb2⟩))
      go_ret
      exact ⟨rfl, hb1.trans (hb2.mono hb1.size)⟩
  · have x1 : decide ((60 : Int) < (os1.length : Int)) = false := decide_eq_false (by omega)
    have x2 : decide ((60 : Int) < (os2.length : Int)) = false := decide_eq_false (by omega)
    go_upto_region 5 with (first
      | (go_at_call 9; (refine (fixed_any w).mono ?_); rintro e w1 ⟨rfl, hb1⟩)
      | (go_at_call 10; go_must ((refine (newmem_any 4096 w1).mono ?_); rintro e w2 ⟨rfl, hI2, hs2, hb2⟩; have HS2 := Lib.hid hs2; clear hs2))
      | (go_at_call 16; go_must ((refine (open_any (w1.heap.size + 2) 0 w2 (by omega)).mono ?_); rintro e w3 ⟨rfl, hT3, hs3, hb3⟩; have HS3 := Lib.hid hs3; clear hs3)))
    have hb6 := below_one w3 (.cells #[.slice none 0 0] 45)
    have hTr : TGR w w2.heap.size (w1.heap.size + 2) 0 w3.heap.size (.map []) 0 [] [] (fun g => w1.heap.size ≤ g ∧ g < w1.heap.size + 3) [] (w3.alloc (.cells #[.slice none 0 0] 45)) := by
      have e1 := HS2.out; have e2 := HS3.out
      have hTS := TS.new hb1 hI2 HS2.out hb2 hT3 hb3 rfl
      refine ⟨⟨hTS.bel.trans (hb6.mono hTS.bel.size), hTS.lo, hTS.tlo, hTS.nt, MSt.new 4096 w1.heap.size, 0, [], ((hI2.below hb3).below hb6), (hb6.block _ (by omega)).trans hT3, .inl ⟨rfl, rfl, rfl⟩, List.nodup_nil, rfl, by simp [MSt.new, Maps.size_eq, nh], rfl, .inl ⟨rfl, rfl, rfl⟩, by simp⟩, ⟨fun hu => by rcases hu with hu | hu <;> omega, _, heap_alloc_new w3 _, IsSl.nil _ _ _⟩, hTS.bel.size⟩
    clear hI2 hT3 HS2 HS3 hb1 hb2 hb3 hb6 x1 x2
    generalize w1.heap.size + 2 = mp at hTr ⊢
    generalize (fun g => w1.heap.size ≤ g ∧ g < w1.heap.size + 3) = S0 at hTr
    generalize w3.alloc (.cells #[.slice none 0 0] 45) = w4 at hTr ⊢
    generalize w2.heap.size = t at hTr ⊢
    generalize w3.heap.size = r at hTr ⊢
    go_wp2_with fail
    go_loopw [8] (fun i wr => ∃ (k : Nat) (S : Nat → Prop) (cs : List Pr), k ≤ os1.length ∧ i = .int .i64 k ∧ TGR w t mp 0 r (.map []) 0 [] [] S cs wr ∧ cs.length ≤ k) (fun i _ => os1.length - (intOf i).toNat)
    case atStart => exact ⟨0, S0, [], Nat.zero_le _, rfl, hTr, Nat.le_refl _⟩
    case round =>
      clear hTr
      obtain ⟨k, S, cs, hk, rfl, hTr, hcl⟩ := hrel
      by_cases hlt : k < os1.length
      · obtain ⟨b, o, rfl, d0, d1, d2, d3⟩ := h1.at rfl k hlt
        have hlt' : (k : Int) < (os1.length : Int) := by omega
        have hbl : b < w.heap.size := World.block_lt_of_cell? w _ d0
        have d0 := (hTr.g.bel.cell (p := ⟨b, o + k * 4, none⟩) hbl).trans d0
        have d1 := (hTr.g.bel.cell (p := ⟨b, o + k * 4 + 1, none⟩) hbl).trans d1
        have d2 := (hTr.g.bel.cell (p := ⟨b, o + k * 4 + 2, none⟩) hbl).trans d2
        have d3 := (hTr.g.bel.cell (p := ⟨b, o + k * 4 + 3, none⟩) hbl).trans d3
        have hbl := Nat.lt_of_lt_of_le hbl hTr.g.bel.size
        have hkd := hw1 _ (List.getElem_mem hlt)
        have hS := step_any hTr os1[k].1 os1[k].2.1 os1[k].2.2.1 os1[k].2.2.2 hkd.1 hkd.2 (by omega)
        have HS := Lib.hid hS; clear hS
        go_wp2_with (first
          | (go_at_call 25; go_must (refine HS.out.mono ?_; rintro e w5 ⟨rfl, S', hT', _⟩)))
        go_roundw
        case rel => exact ⟨k + 1, S', _, by omega, by go_num, hT', by have := stepL_len cs os1[k].1 os1[k].2.1 os1[k].2.2.1; omega⟩
        case measure => simp [intOf]; omega
      · obtain rfl : k = os1.length := by omega
        have x1 : ¬ (os1.length : Int) < (os1.length : Int) := by omega
        have hn2 : cs.length ≤ 60 := by omega
        obtain ⟨σ, root, bs, hI, hT, hR, hn, hH, hD, hm, _, _⟩ := hTr.g.is
        have hHd := hold_any mp σ S wr hI hH
        have HHd := Lib.hid hHd; clear hHd
        go_wp2_with (first
          | (go_at_call 26; go_must (refine HHd.out.mono ?_; rintro e wh ⟨rfl, H', hIh, hone, hsh⟩; refine Stop.of ?_)))
        refine Stop.on ?_
        have hTh : TreeAt wh t mp root 0 := (hT.step hTr.g.nt hsh).1
        have hRh : IsRef wh (fun g => S g ∨ g = t) r cs := hTr.ref.step ⟨hsh.1.mono (fun _ _ h => .inl h), fun g hg => .inl hg⟩
        have hbh : Below w.heap.size w wh := hTr.g.bel.trans (hsh.1.toBelow hTr.g.bel.size (fun i hi s => absurd hi (Nat.not_lt.2 (hTr.g.lo i s))))
        have hsubh : ∀ g, (S g ∨ g = t) → g < wh.heap.size := fun g hg => Nat.lt_of_lt_of_le (hTr.sub g hg) hsh.1.size
        have hr := hTr.g.rise
        have hRS := rscan_any r cs ⟨#[]⟩ 1073741824 wh _ hsubh hRh hr (by omega)
        have hpe : posAt cs ⟨#[]⟩ = 0 := by
          cases cs with
          | nil => rfl
          | cons p r => simp [posAt, lt_empty]
        rw [hpe, List.drop_zero, List.take_of_length_le (by omega)] at hRS
        have HRS := Lib.hid hRS; clear hRS hpe
        obtain ⟨τ, hτ⟩ : ∃ τ : MSt, τ = { σ with H := H' } := ⟨_, rfl⟩
        have hIt : Inv τ S mp wh := by rw [hτ]; exact hIh
        have hRt : TrR τ root cs bs := hR.same (by rw [hτ]) (by rw [hτ])
        have hheld : ∀ x ∈ bs, τ.held x = true := fun x hx => by
          have := hone x (hR.has x hx)
          rw [hτ]
          simp [MSt.held, this]
        have hnh : nh τ bs = 0 := by
          unfold nh
          rw [List.filter_eq_nil_iff.2 (fun x hx => by rw [hheld x hx]; simp)]
          rfl
        have hDt : Maps.size τ.D = bs.length + nh τ bs := by
          rw [hnh, hτ]
          show Maps.size σ.D = _
          rw [hD, nh_none hH]; omega
        have hHt : τ.H = H' := by rw [hτ]
        have hmt : τ.most = 4096 := by rw [hτ]; exact hm
        have hcnt := hR.count
        clear hτ hIh hone hI hT hD hnh
        have hrl := hR.root_le
        go_wp2_with (first
          | (go_at_call 24; go_must ((refine (root_any t mp root 0 wh hTh).mono ?_); rintro e w5 ⟨rfl, hw⟩; subst w5))
          | (go_at_call 27; go_must (refine HRS.out.mono ?_; rintro e w6 ⟨was, rfl, hva, hb6⟩)))
        go_wp2_with (first
          | (go_at_call 16; go_must ((refine (open_any mp root w6 hrl).mono ?_); rintro e w7 ⟨rfl, hT7, hs7, hb7⟩; have HS7 := Lib.hid hs7; clear hs7; refine Stop.of ?_)))
        refine Stop.on ?_
        have hlr : r < wh.heap.size := by obtain ⟨_, _, hb, _⟩ := hRh; exact (Array.getElem?_eq_some_iff.1 hb).1
        have hb67 : Below wh.heap.size wh w7 := hb6.trans (hb7.mono hb6.size)
        have hTG : TGR w w6.heap.size mp bs.length r H' root cs bs S cs w7 := by
          have hlo : w.heap.size ≤ w6.heap.size := Nat.le_trans hbh.size hb6.size
          refine ⟨⟨hbh.trans (hb67.mono hbh.size), hTr.g.lo, hlo, fun hs => absurd (Nat.lt_of_lt_of_le (hIt.sub _ hs) hb6.size) (Nat.lt_irrefl _), τ, root, bs, hIt.below hb67, hT7, hRt, hn, hHt, hDt, hmt, hRt, hheld⟩, ?_, hTr.rlo⟩
          obtain ⟨n1, x, n2, n3⟩ := hRh
          refine ⟨fun hu => hu.elim (fun s => n1 (.inl s)) (fun e => by rw [e] at hlr; exact absurd (Nat.lt_of_lt_of_le hlr hb6.size) (Nat.lt_irrefl _)), x, (hb67.block r hlr).trans n2, IsSl.keep n3 fun g _ hl hs => ⟨hb67.block g hl, fun hu => hu.elim (fun s => hs (.inl s)) (fun e => by rw [e] at hl; exact absurd (Nat.lt_of_lt_of_le hl hb6.size) (Nat.lt_irrefl _))⟩⟩
        have hWas : Was w7 S w6.heap.size r was cs := by
          by_cases hc : cs = []
          · left
            refine ⟨hc, ?_⟩
            rw [hc] at hva
            exact IsSl.empty (IsSl.keep (S' := NoS) hva fun g _ hl hs => ⟨rfl, id⟩) hb7.size
          · right
            have hne := prs_ref_ne (u := was) hva hc (hRh.below hb6) rfl
            refine IsSl.keep hva fun g hg hl hs => ⟨hb7.block g hl, ?_⟩
            rintro ((x | x) | x)
            · exact hs (.inl x)
            · rw [x] at hl; exact Nat.lt_irrefl _ hl
            · exact hne (by rw [hg, x])
        clear hva hT7 hRh hTh hIt hRt hheld hDt hHt hmt hsubh hb67 hb7 hb6 hbh hsh HS7 hlr
        generalize w6.heap.size = t2 at hTG hWas ⊢
        have hbl120 : bs.length ≤ 120 := by omega
        go_wp2_with fail
        go_loopw [11] (fun i wr2 => ∃ (k : Nat) (S2 : Nat → Prop) (cs2 : List Pr), k ≤ os2.length ∧ i = .int .i64 k ∧ TGR w t2 mp bs.length r H' root cs bs S2 cs2 wr2 ∧ cs2.length ≤ 60 + k ∧ Was wr2 S2 t2 r was cs) (fun i _ => os2.length - (intOf i).toNat)
        case atStart => exact ⟨0, S, cs, Nat.zero_le _, rfl, hTG, by omega, hWas⟩
        case round =>
          clear hTG hWas
          obtain ⟨k, S2, cs2, hk2, rfl, hTG, hcl2, hWas⟩ := hrel
          by_cases hlt2 : k < os2.length
          · obtain ⟨b, o, rfl, d0, d1, d2, d3⟩ := h2.at rfl k hlt2
            have hlt' : (k : Int) < (os2.length : Int) := by omega
            have hbl : b < w.heap.size := World.block_lt_of_cell? w _ d0
            have d0 := (hTG.g.bel.cell (p := ⟨b, o + k * 4, none⟩) hbl).trans d0
            have d1 := (hTG.g.bel.cell (p := ⟨b, o + k * 4 + 1, none⟩) hbl).trans d1
            have d2 := (hTG.g.bel.cell (p := ⟨b, o + k * 4 + 2, none⟩) hbl).trans d2
            have d3 := (hTG.g.bel.cell (p := ⟨b, o + k * 4 + 3, none⟩) hbl).trans d3
            have hbl := Nat.lt_of_lt_of_le hbl hTG.g.bel.size
            have hkd := hw2 _ (List.getElem_mem hlt2)
            have hS := step_any hTG os2[k].1 os2[k].2.1 os2[k].2.2.1 os2[k].2.2.2 hkd.1 hkd.2 (by omega)
            have HS := Lib.hid hS; clear hS
            go_wp2_with (first
              | (go_at_call 25; go_must (refine HS.out.mono ?_; rintro e w5 ⟨rfl, S', hT', hF'⟩)))
            go_roundw
            case rel => exact ⟨k + 1, S', _, by omega, by go_num, hT', by have := stepL_len cs2 os2[k].1 os2[k].2.1 os2[k].2.2.1; omega, hWas.fr hF'⟩
            case measure => simp [intOf]; omega
          · obtain rfl : k = os2.length := by omega
            have x1 : ¬ (os2.length : Int) < (os2.length : Int) := by omega
            obtain ⟨υ, root2, bs2, hI2, hT2, hR2, _, _, _, _, hR0, _⟩ := hTG.g.is
            have hr2l := hR2.root_le
            go_wp2_with (first
              | (go_at_call 16; go_must ((refine (open_any mp root wr hrl).mono ?_); rintro e wa ⟨rfl, hTa, hsa, hba⟩; clear hsa; refine Stop.of ?_)))
            refine Stop.on ?_
            have hsA := scan_tree wr.heap.size mp root υ S2 cs bs ⟨#[]⟩ 1073741824 wa (hI2.below hba) hTa hR0 (by omega)
            have hpe : ∀ cs : List Pr, posAt cs ⟨#[]⟩ = 0 := fun cs => by
              cases cs with
              | nil => rfl
              | cons p r => simp [posAt, lt_empty]
            rw [hpe, List.drop_zero, List.take_of_length_le (by omega)] at hsA
            have HsA := Lib.hid hsA; clear hsA
            have HPE := Lib.hid hpe; clear hpe
            go_wp2_with (first
              | (go_at_call 21; go_must (refine HsA.out.mono ?_; rintro e wb ⟨va, rfl, hvA, hbb⟩; refine Stop.of ?_)))
            refine Stop.on ?_
            have hbab := hba.trans (hbb.mono hba.size)
            have hTG2 := hTG.below hbab
            have hWas2 := hWas.below hbab
            have hT2b : TreeAt wb t2 mp root2 0 := (hbab.block t2 (Array.getElem?_eq_some_iff.1 hT2).1).trans hT2
            go_wp2_with (first
              | (go_at_call 24; go_must ((refine (root_any t2 mp root2 0 wb hT2b).mono ?_); rintro e wc ⟨rfl, hw⟩; subst wc))
              | (go_at_call 16; go_must ((refine (open_any mp root2 wb hr2l).mono ?_); rintro e wd ⟨rfl, hTd, hsd, hbd⟩; clear hsd; refine Stop.of ?_)))
            refine Stop.on ?_
            have hsB := scan_tree wb.heap.size mp root2 υ S2 cs2 bs2 ⟨#[]⟩ 1073741824 wd ((hI2.below hbab).below hbd) hTd hR2 (by omega)
            rw [HPE.out, List.drop_zero, List.take_of_length_le (by omega)] at hsB
            have HsB := Lib.hid hsB; clear hsB
            go_wp2_with (first
              | (go_at_call 21; go_must (refine HsB.out.mono ?_; rintro e we ⟨vb, rfl, hvB, hbe⟩; refine Stop.of ?_)))
            refine Stop.on ?_
            have hbde := hbd.trans (hbe.mono hbd.size)
            have hTG3 := hTG2.below hbde
            obtain ⟨Sw, hw3⟩ := (hWas2.below hbde).is
            have hva3 := IsSl.below hvA hbde
            obtain ⟨_, rv, hrb, hrv⟩ := hTG3.ref
            obtain ⟨c0, _, lr⟩ := cellR hrb
            go_wp2_with (first
              | (go_at_call 22; go_must ((refine (same_yes va was cs we _ _ hva3 hw3).mono ?_); rintro e wf ⟨rfl, hbf⟩; refine Stop.of ?_)))
            refine Stop.on ?_
            have hvB3 := IsSl.below hvB hbf
            have hrv3 := IsSl.below hrv hbf
            have c03 := (hbf.cell (p := ⟨r, 0, none⟩) lr).trans c0
            have lr3 := Nat.lt_of_lt_of_le lr hbf.size
            clear c0 lr
            go_wp2_with (first
              | (go_at_call 22; go_must ((refine (same_yes vb rv cs2 wf _ _ hvB3 hrv3).mono ?_); rintro e wg ⟨rfl, hbg⟩)))
            go_ret
            exact ⟨rfl, (hTG3.below hbf).g.bel.trans (hbg.mono (hTG3.below hbf).g.bel.size)⟩
end Go.Proofs.Ytbldcbakhpdigaa

namespace Go.Proofs.Ytbldcbakhpdigaa
open Go.RowKit Go.ChangeShapes Go.WideShapes Go.ChangeAt Go.Joins
open Go.ChangeMaps (open_string shut_string)

theorem laid_outC : laidOutB Try.prog = true := by kernel_rfl
theorem own_noneC : ownKnob Try.prog.godebug = none := by kernel_rfl

set_option maxRecDepth 100000 in
set_option maxHeartbeats 2000000 in
theorem copies_lifted (os : Os) (started : os.Started) (H : Type) (enc : TypeId × Value → H) :
    ReturnsInHanded {} Try.checked os 7 .any (Rows.btreeCopiesSpec.pre6 enc Try.prog Try.f7 Rows.btreeCopiesRow.domain false) (Rows.btreeCopiesSpec.post enc Try.prog Try.f7 false true false false) := by
  refine returnsInHanded_of_change (C := Try.checked) own_noneC started (by kernel_rfl) Try.func7
    (ChangeSpec.witness6 (enc := enc) (C := Try.checked) false ⟨#[], #[.slice none 0 0, .slice none 0 0], []⟩ 8 (by kernel_rfl) (by kernel_rfl) (by kernel_rfl) (by kernel_rfl)) ?_
  intro W base args ds gs before hval0 hW hcnd _
  have hval : ∀ (j : Nat) t v, Try.f7.params[j]? = some t → args[j]? = some v → Value.okWide Try.prog W .any base t v := hval0
  have hW' := hW
  obtain ⟨p, q, hA0, hV, rfl, hfz, hnd⟩ := hW
  have hA : DataW.TrodAll enc Try.prog W 0 (fun _ => true) true Try.f7.params.toList args.toList ds p := hA0
  rw [Try.params7] at hA hval
  obtain ⟨v0, v1, d0, d1, p0, p1, rfl, rfl, rfl, h0, h1⟩ := trodAll_two hA
  obtain ⟨rfl, rfl⟩ := trodVars_none hV
  simp only [List.append_nil] at hW'
  have hlt0 : ∀ x ∈ p0, x.block < W.heap.size := fun x hx => by have := hW'.lt x (by simp [hx]); simpa using this
  have hlt1 : ∀ x ∈ p1, x.block < W.heap.size := fun x hx => by have := hW'.lt x (by simp [hx]); simpa using this
  have h0k := h0
  have h1k := h1
  obtain ⟨a0, len0, cap0, rfl⟩ := okWide_slice Try.underlying22 (hval 0 22 v0 rfl rfl)
  obtain ⟨a1, len1, cap1, rfl⟩ := okWide_slice Try.underlying22 (hval 1 22 v1 rfl rfl)
  obtain ⟨fuel0, hf0⟩ := h0
  obtain ⟨fuel1, hf1⟩ := h1
  obtain ⟨x0, ops0, e0, hops0, hwf0, _⟩ := open_ops (by simpa [Value.cells] using hf0)
  obtain ⟨x1, ops1, e1, hops1, hwf1, _⟩ := open_ops (by simpa [Value.cells] using hf1)
  simp at e0 e1
  subst e0 e1
  clear hA0 hval0
  refine (copies_walk _ _ ops0 ops1 W hops0 hops1 (fun o ho => ⟨(hwf0 o ho).1, (hwf0 o ho).2.1⟩) (fun o ho => ⟨(hwf1 o ho).1, (hwf1 o ho).2.1⟩)).mono fun e W' ⟨he, hb⟩ => ?_
  subst he
  refine ⟨_, rfl, _, _, _, [], p0 ++ p1, [], hW', ?_, ?_, rfl, hb.frame _, fun h => by cases h⟩
  · exact trodAll_mk1 (shut_bool Try.underlying4 true)
  · exact trodAll_mk2 (Below.trod laid_outC (by kernel_rfl) (of_decide_eq_true (by kernel_rfl)) h0k hb hlt0) (Below.trod laid_outC (by kernel_rfl) (of_decide_eq_true (by kernel_rfl)) h1k hb hlt1)

theorem copies_holds : Rows.BtreeCopiesSaid :=
  OpenClaim.holds_of_wide (p := Try.pinned) (s := Rows.btreeCopiesSpec) (c := Rows.btreeCopiesRow) 7 Try.f7 rfl rfl rfl rfl rfl rfl rfl ⟨rfl, rfl, rfl, rfl, rfl⟩ rfl rfl rfl rfl rfl (by kernel_rfl) Try.func7 (by kernel_rfl)
    (of_decide_eq_true (by kernel_rfl)) (by unfold Func.isWrapper; first | (rw [if_pos (by decide +kernel)]; kernel_rfl) | (rw [if_neg (by decide +kernel)]; exact ⟨rfl, rfl⟩))
    (fun os started H enc _ => copies_lifted os started H enc)
#print axioms copies_holds
end Go.Proofs.Ytbldcbakhpdigaa

