/- BtreePages: whatever the input, the call returns true; the input reads as it did. No condition. -/
import Derived.Test.YtbldcbakhpdigaaJ9
import Derived.Test.YtbldcbakhpdigaaRows
import Derived.ProofKit
/- BtreeEmpty: the walk. -/
namespace Go.Proofs.Ytbldcbakhpdigaa
open Go.RowKit

theorem look_none {rs : List Pr} (hr : RisingP rs) {key : ByteArray} (h : ∀ p ∈ rs, p.1 ≠ key) : lookP rs key = none := by
  cases hq : lookP rs key with
  | none => rfl
  | some x => exact absurd rfl (h _ ((lookP_some hr).1 hq))
theorem del_front {p : Pr} {r : List Pr} (hr : RisingP (p :: r)) : delP (p :: r) p.1 = r ∧ lookP (p :: r) p.1 = some p.2 ∧ lookP r p.1 = none := by
  obtain ⟨h1, h2⟩ := List.pairwise_cons.1 hr
  have hne : ∀ q ∈ r, q.1 ≠ p.1 := fun q hq e => lt_ne (h1 q hq) e.symm
  refine ⟨?_, (lookP_some hr).2 (by simp), look_none h2 hne⟩
  rw [← filter_del hr, List.filter_cons, if_neg (by rw [eqS rfl]; simp), List.filter_eq_self.2 fun q hq => by rw [neS (hne q hq)]; rfl]
theorem del_last {p : Pr} {r : List Pr} (hr : RisingP (r ++ [p])) : delP (r ++ [p]) p.1 = r ∧ lookP (r ++ [p]) p.1 = some p.2 ∧ lookP r p.1 = none := by
  obtain ⟨h1, _, h3⟩ := List.pairwise_append.1 hr
  have hne : ∀ q ∈ r, q.1 ≠ p.1 := fun q hq e => lt_ne (h3 q hq p (by simp)) e
  refine ⟨?_, (lookP_some hr).2 (by simp), look_none h1 hne⟩
  rw [← filter_del hr, List.filter_append, List.filter_cons, if_neg (by rw [eqS rfl]; simp), List.filter_nil, List.append_nil, List.filter_eq_self.2 fun q hq => by rw [neS (hne q hq)]; rfl]

/-- all keys and values are good -/
def Gd (cs : List Pr) : Prop := ∀ p ∈ cs, GoodKV p.1 p.2
theorem putP_gd {cs : List Pr} (h : Gd cs) (key value : ByteArray) : Gd (putP cs key value) := by
  unfold putP
  split
  · rename_i hg
    intro p hp
    unfold insP at hp
    split at hp
    · rcases List.mem_or_eq_of_mem_set hp with hp | rfl
      · exact h p hp
      · exact hg
    · rcases List.mem_append.1 hp with hp | hp
      · exact h p (List.mem_of_mem_take hp)
      · rcases List.mem_cons.1 hp with rfl | hp
        · exact hg
        · exact h p (List.mem_of_mem_drop hp)
  · exact h

theorem prs_nx {w w' : World} {S S' : Nat → Prop} {v : Value} {ps : List Pr} {t mp : Nat} {root err : Int} (h : IsPrs w S v ps) (ht : TreeAt w t mp root err) (hx : Nx S S' t w w') : IsPrs w' S' v ps := by
  by_cases hp : ps = []
  · subst hp
    obtain ⟨ao, c, rfl, h1, h2, h3, h4, h5, h6⟩ := h
    refine ⟨ao, c, rfl, h1, h2, h3, h4, fun ad had => ?_, fun j u hu => by simp [prCells] at hu⟩
    have := h5 ad had
    exact ⟨this.1, Nat.lt_of_lt_of_le this.2.1 hx.1.size, fun x => (hx.2 _ x).elim this.2.2 (fun y => absurd this.2.1 (Nat.not_lt.2 y))⟩
  · have hne : v.ownBlock ≠ some t := by
      obtain ⟨p, r, rfl⟩ := List.exists_cons_of_ne_nil hp
      obtain ⟨ao, c, rfl, _, _, _, _, _, h6⟩ := h
      obtain ⟨b, o, rfl, hc⟩ := h6 0 (.string p.1) rfl
      intro e
      cases e
      rw [Nat.add_zero] at hc
      unfold TreeAt at ht
      rcases o with _ | _ | _ | o <;> simp [World.cell?, ht] at hc
    refine IsSl.keep h fun g hg hl hs => ⟨hx.1.block g hl (fun y => y.elim hs (fun e => hne (by rw [hg, e]))), fun x => (hx.2 g x).elim hs (fun y => absurd hl (Nat.not_lt.2 y))⟩

set_option maxRecDepth 100000 in
set_option maxHeartbeats 8000000 in
theorem empty_walk (v0 : Value) (ps : List Pr) (bk : Bool) (w : World) (hps : IsPL w v0 ps) :
    Calls Try.prog 6 #[v0, .bool bk] w fun e w' => e = .returned (.bool true) ∧ Below w.heap.size w w' := by
  obtain ⟨ao, cp, rfl, _, _⟩ := hps.form
  go_enter Try.func6, Try.ntmps6
  by_cases hlen : 200 < ps.length
  · have x1 : (200 : Int) < (ps.length : Int) := by omega
    go_wp2_with (first
      | (go_at_call 9; (refine (fixed_any w).mono ?_); rintro e w1 ⟨rfl, hb1⟩)
      | (go_at_call 9; (refine (fixed_any _).mono ?_); rintro e w2 ⟨rfl, hb2⟩))
    go_ret
    exact ⟨rfl, hb1.trans (hb2.mono hb1.size)⟩
  · have x1 : decide ((200 : Int) < (ps.length : Int)) = false := decide_eq_false (by omega)
    go_upto_region 5 with (first
      | (go_at_call 9; (refine (fixed_any w).mono ?_); rintro e w1 ⟨rfl, hb1⟩)
      | (go_at_call 10; go_must ((refine (newmem_any 4096 w1).mono ?_); rintro e w2 ⟨rfl, hI2, hs2, hb2⟩; have HS2 := Lib.hid hs2; clear hs2))
      | (go_at_call 16; go_must ((refine (open_any (w1.heap.size + 2) 0 w2 (by omega)).mono ?_); rintro e w3 ⟨rfl, hT3, hs3, hb3⟩; have HS3 := Lib.hid hs3; clear hs3)))
    have hTS0 := TS.new hb1 hI2 HS2.out hb2 hT3 hb3 rfl
    clear hI2 hT3 HS2 HS3 hb2 hb3
    generalize w1.heap.size + 2 = mp at hTS0 ⊢
    generalize w2.heap.size = t at hTS0 ⊢
    generalize (fun g => w1.heap.size ≤ g ∧ g < w1.heap.size + 3) = S0 at hTS0
    clear hb1 x1
    go_wp2_with fail
    go_loopw [7] (fun i wr => ∃ (k : Nat) (S : Nat → Prop) (cs : List Pr), k ≤ ps.length ∧ i = .int .i64 k ∧ TS w t mp S cs wr ∧ cs.length ≤ k ∧ Gd cs) (fun i _ => ps.length - (intOf i).toNat)
    case atStart => exact ⟨0, S0, [], Nat.zero_le _, rfl, hTS0, Nat.le_refl _, fun p hp => by cases hp⟩
    case round =>
      clear hTS0
      obtain ⟨k, S, cs, hk, rfl, hTS, hcl, hgd⟩ := hrel
      by_cases hlt : k < ps.length
      · obtain ⟨b, o, rfl, d1, d2⟩ := hps.at rfl k hlt
        have hlt' : (k : Int) < (ps.length : Int) := by omega
        have hbl := World.block_lt_of_cell? w _ d1
        have hP := (hTS.below ((Below.refl _ wr).drew)).put ps[k].1 ps[k].2 (by omega)
        have HP := Lib.hid hP; clear hP
        go_wp2_with fail
        refine wp_region_ord (fun W => Below w.heap.size w W) (fun i => !([11].contains i)) [0, 1, 2, 3, 4, 5, 6, 7, 8, 9, 10, 11] rfl (by kernel_rfl) hTS.bel.drew ?_
        repeat ((refine ord_q (v := ?_) rfl rfl (fun _ _ _ h => h) rfl (fun W hW => ?_) ?_); rotate_left; (focus ((try dsimp only at hW); have q0 := (hW.cell (p := ⟨b, o + k * 2, none⟩) hbl).trans d1; have q1 := (hW.cell (p := ⟨b, o + k * 2 + 1, none⟩) hbl).trans d2; have q2 := Nat.lt_of_lt_of_le hbl hW.size; first | (go_simp; first | done | with_reducible rfl))); (try simp only [Act.put, List.setIfInBounds_toArray, List.set_cons_zero, List.set_cons_succ]))
        refine ord_e rfl rfl rfl ?_; intro K hK; go_simp
        refine HP.out.mono ?_; rintro e w4 ⟨rfl, S', hTS4, _⟩
        refine hK.out _ _ hTS4.bel ?_
        refine ord_nil ?_
        go_wp2_with fail
        go_roundw
        case rel => exact ⟨k + 1, S', _, by omega, by go_num, hTS4, by have := putP_len cs ps[k].1 ps[k].2; omega, putP_gd hgd _ _⟩
        case measure => simp [intOf]; omega
      · obtain rfl : k = ps.length := by omega
        have x1 : ¬ (ps.length : Int) < (ps.length : Int) := by omega
        have hn2 : cs.length ≤ 200 := by omega
        have hw := hTS.whole (by omega)
        have HW := Lib.hid hw; clear hw
        go_wp2_with (go_at_call 21; go_must (refine HW.out.mono ?_; rintro e w4 ⟨v, rfl, hv, hb4⟩; refine Stop.of ?_))
        refine Stop.on ?_
        have hTS4 := hTS.below hb4
        obtain ⟨vo, vc, rfl, _, _, _, _⟩ := IsSl.form hv
        have hr := hTS.rise
        clear hTS HW hcl hlt x1
        go_wp2_with fail
        go_loopw [10, 11, 12, 13, 14, 15] (fun i _ _ _ _ _ wr2 => ∃ (k : Nat) (S2 : Nat → Prop), k ≤ cs.length ∧ i = .int .i64 k ∧ TS w t mp S2 (if bk then cs.take (cs.length - k) else cs.drop k) wr2 ∧ IsPrs wr2 S2 (.slice vo cs.length vc) cs) (fun i _ _ _ _ _ _ => cs.length - (intOf i).toNat)
        case atStart => exact ⟨0, S, Nat.zero_le _, rfl, by simpa using hTS4, hv⟩
        case round =>
          clear hTS4 hv
          obtain ⟨k, S2, hk2, rfl, hTS2, hv2⟩ := hrel
          by_cases hlt2 : k < cs.length
          · obtain ⟨b, o, rfl, d1, d2⟩ := hv2.at rfl k hlt2
            have hlt' : (k : Int) < (cs.length : Int) := by omega
            have hbl := World.block_lt_of_cell? wr _ d1
            clear d2
            cases bk with
            | false =>
              rw [if_neg (by simp)] at hTS2
              have hds : cs.drop k = cs[k] :: cs.drop (k + 1) := List.drop_eq_getElem_cons hlt2
              have hgk := hgd cs[k] (List.getElem_mem _)
              have hdd := del_front (p := cs[k]) (r := cs.drop (k + 1)) (by rw [← hds]; exact hTS2.rise)
              rw [← hds] at hdd
              have HDD := Lib.hid hdd; clear hdd
              have HDS := Lib.hid hds; clear hds
              have hd1 := hTS2.del cs[k].1 (by simp; omega) ⟨hgk.1.1, hgk.1.2⟩
              rw [HDD.out.2.1, HDD.out.1] at hd1
              simp only [Option.isSome_some] at hd1
              have HD1 := Lib.hid hd1; clear hd1
              go_wp2_with (go_at_call 23; go_must (refine HD1.out.mono ?_; rintro e w5 ⟨rfl, S3, hTS3, hNx3⟩; refine Stop.of ?_))
              refine Stop.on ?_
              have hd2 := hTS3.del cs[k].1 (by simp; omega) ⟨hgk.1.1, hgk.1.2⟩
              rw [HDD.out.2.2, delP_none HDD.out.2.2] at hd2
              simp only [Option.isSome_none] at hd2
              have HD2 := Lib.hid hd2; clear hd2
              obtain ⟨_, _, _, _, hTA, _⟩ := hTS2.is
              have hv3 := prs_nx hv2 hTA hNx3
              obtain ⟨_, _, _, _, hTA3, _⟩ := hTS3.is
              go_wp2_with (go_at_call 23; go_must (refine HD2.out.mono ?_; rintro e w6 ⟨rfl, S4, hTS4, hNx4⟩))
              have hv4 := prs_nx hv3 hTA3 hNx4
              go_roundw
              case rel => exact ⟨k + 1, S4, by omega, by go_num, by rw [if_neg (by simp)]; exact hTS4, hv4⟩
              case measure => simp [intOf]; omega
            | true =>
              rw [if_pos rfl] at hTS2
              obtain ⟨m, hm⟩ : ∃ m, cs.length = k + 1 + m := ⟨cs.length - (k + 1), by omega⟩
              have hmi : (cs.length : Int) - 1 - (k : Int) = (m : Int) := by omega
              have hml : m < cs.length := by omega
              have hds : cs.take (cs.length - k) = cs.take m ++ [cs[m]] := by rw [show cs.length - k = m + 1 from by omega, List.take_succ_eq_append_getElem hml]
              have HM := Lib.hid hm; clear hm
              have hml' : (m : Int) < (cs.length : Int) := by omega
              obtain ⟨_, _, e, d3, _⟩ := hv2.at rfl m hml
              cases e
              have hgk := hgd cs[m] (List.getElem_mem _)
              have hdd := del_last (p := cs[m]) (r := cs.take m) (by rw [← hds]; exact hTS2.rise)
              rw [← hds] at hdd
              have HDD := Lib.hid hdd; clear hdd
              have HDS := Lib.hid hds; clear hds
              have hd1 := hTS2.del cs[m].1 (by simp; omega) ⟨hgk.1.1, hgk.1.2⟩
              rw [HDD.out.2.1, HDD.out.1] at hd1
              simp only [Option.isSome_some] at hd1
              have HD1 := Lib.hid hd1; clear hd1
              go_wp2_with (go_at_call 23; go_must (refine HD1.out.mono ?_; rintro e w5 ⟨rfl, S3, hTS3, hNx3⟩; refine Stop.of ?_))
              refine Stop.on ?_
              have hd2 := hTS3.del cs[m].1 (by simp; omega) ⟨hgk.1.1, hgk.1.2⟩
              rw [HDD.out.2.2, delP_none HDD.out.2.2] at hd2
              simp only [Option.isSome_none] at hd2
              have HD2 := Lib.hid hd2; clear hd2
              obtain ⟨_, _, _, _, hTA, _⟩ := hTS2.is
              have hv3 := prs_nx hv2 hTA hNx3
              obtain ⟨_, _, _, _, hTA3, _⟩ := hTS3.is
              go_wp2_with (go_at_call 23; go_must (refine HD2.out.mono ?_; rintro e w6 ⟨rfl, S4, hTS4, hNx4⟩))
              have hv4 := prs_nx hv3 hTA3 hNx4
              go_roundw
              case rel => exact ⟨k + 1, S4, by omega, by go_num, by have e : cs.length - (k + 1) = m := (by have := HM.out; omega); simp only [e]; exact hTS4, hv4⟩
              case measure => simp [intOf]; omega
          · obtain rfl : k = cs.length := by omega
            have x1 : ¬ (cs.length : Int) < (cs.length : Int) := by omega
            have hTE : TS w t mp S2 [] wr := by
              have := hTS2
              cases bk <;> simpa using this
            have hb := hTE.bare
            have HB1 := Lib.hid hb.1
            have HB2 := Lib.hid hb.2
            clear hb
            go_wp2_with (first
              | (go_at_call 12; go_must (refine HB1.out.mono ?_; rintro e w6 ⟨rfl, hw⟩; subst w6))
              | (go_at_call 24; go_must (refine HB2.out.mono ?_; rintro e w6 ⟨rfl, hw⟩; subst w6)))
            go_ret
            exact ⟨rfl, hTE.bel⟩
end Go.Proofs.Ytbldcbakhpdigaa

/- Scan: its slice is new. -/
namespace Go.Proofs.Ytbldcbakhpdigaa
open Go.RowKit

set_option maxRecDepth 100000 in
set_option maxHeartbeats 4000000 in
theorem scan_own (t mp : Nat) (root : Int) (σ : MSt) (S : Nat → Prop) (key : ByteArray) (most : Int) (L : List Pr) (n : Nat) (w : World) (h : Inv σ S mp w) (ht : TreeAt w t mp root 0) (hr : root ≠ 0) (hm : 0 < most) (hn : n ≤ 40) (hL : WalkL σ key n root L) (hl : L.length ≤ 999999) :
    Calls Try.prog 21 #[.pointer (some ⟨t, 0, none⟩), .string key, .int .i64 most] w fun e w' => ∃ v, e = .returned (.tuple #[v, .int .i64 0]) ∧ OwnSl w' S w.heap.size 49 2 v (L.take most.toNat).length (prCells (L.take most.toNat)) ∧ Below w.heap.size w w' := by
  have hbm := below_one w (.cells #[.int .i64 most] 3)
  have htl : t < w.heap.size := (Array.getElem?_eq_some_iff.1 ht).1
  have hsub := h.sub
  have ht1 := (hbm.block t htl).trans ht
  have hb2 := below_two w (.cells #[.int .i64 most] 3) (.cells #[.slice none 0 0] 40)
  obtain ⟨_, c1, _, _, _, _, hl2⟩ := cells3 ((hb2.block t htl).trans ht)
  have d1 := (below_one (w.alloc (.cells #[.int .i64 most] 3)) (.cells #[.slice none 0 0] 40)).cell (p := ⟨w.heap.size, 0, none⟩) (by simp)
  rw [show (w.alloc (.cells #[.int .i64 most] 3)).cell? ⟨w.heap.size, 0, none⟩ = some (.int .i64 most) from by rw [World.cell?_alloc_new]; rfl] at d1
  have hr2 : (root == 0) = false := by simpa using hr
  have hm2 : ¬ most ≤ 0 := by omega
  have hmf : ∀ (fn : Fn) (first cap : Array Value) (w : World), (Instr.makeFunc fn first cap).run Try.prog w = .ok (.func fn first cap) w := fun _ _ _ _ => rfl
  have hA : Acc ((w.alloc (.cells #[.int .i64 most] 3)).alloc (.cells #[.slice none 0 0] 40)) S w.heap.size (w.heap.size + 1) w.heap.size (.slice none 0 0) [] most := by
    refine ⟨?_, OwnSl.nil _ _ _ _ _, ?_, fun x => absurd (hsub _ x) (by omega), fun x => absurd (hsub _ x) (Nat.lt_irrefl _)⟩
    · have := heap_alloc_new (w.alloc (.cells #[.int .i64 most] 3)) (.cells #[.slice none 0 0] 40); rwa [World.size_alloc] at this
    · exact ((below_one (w.alloc (.cells #[.int .i64 most] 3)) (.cells #[.slice none 0 0] 40)).block _ (by simp)).trans (heap_alloc_new _ _)
  have hw := walk_any t mp w.heap.size (w.heap.size + 1) w.heap.size root 0 σ S key most n root L hL 0 (.slice none 0 0) [] _ (h.below hb2) ((hb2.block t htl).trans ht) (by omega) (by omega) hA hb2.size (by simpa using hm) (by simpa using hl)
  have HW := Lib.hid hw; clear hw hA
  go_enter Try.func21, Try.ntmps21
  go_wp2_with (first
    | (go_at_call 33; go_must ((refine (usable_any t mp root 0 _ ht1).mono ?_); rintro e w1 ⟨rfl, hw⟩; subst w1))
    | (go_at_call 42; go_must (refine HW.out.mono ?_; rintro e w5 ⟨rfl, v, hA5, hY5⟩; have c5 : w5.cell? ⟨w.heap.size + 1, 0, none⟩ = some v := (by simp [World.cell?, hA5.out]); have c6 := (Array.getElem?_eq_some_iff.1 hA5.out).1)))
  go_ret2
  refine ⟨v, rfl, ?_, ?_⟩
  · have := hA5.own
    rw [List.nil_append, show (most - (([] : List Pr).length : Int)).toNat = most.toNat from by simp] at this
    exact this
  · exact hb2.trans (hY5.1.toBelow hb2.size (fun i hi x => x.elim (fun e => by omega) (fun e => by simp [Value.ownBlock] at e)))

theorem TS.scan2 {w0 : World} {t mp : Nat} {S : Nat → Prop} {cs : List Pr} {w : World} (h : TS w0 t mp S cs w) (key : ByteArray) (most : Int) (hl : cs.length ≤ 2048) :
    Calls Try.prog 21 #[.pointer (some ⟨t, 0, none⟩), .string key, .int .i64 most] w fun e w' => ∃ v, e = .returned (.tuple #[v, .int .i64 0]) ∧ OwnSl w' S w.heap.size 49 2 v ((cs.drop (posAt cs key)).take most.toNat).length (prCells ((cs.drop (posAt cs key)).take most.toNat)) ∧ Below w.heap.size w w' := by
  obtain ⟨σ, root, bs, hI, hT', hR, hn, hH, hD, hm⟩ := h.is
  by_cases hm : most ≤ 0
  · refine (scan_none t mp root key most w hT' (.inr hm)).mono ?_
    rintro e w' ⟨rfl, hb⟩
    refine ⟨_, rfl, ?_, hb⟩
    rw [show most.toNat = 0 from by omega, List.take_zero]
    exact OwnSl.nil _ _ _ _ _
  · rcases hR with ⟨rfl, rfl, _⟩ | ⟨h', hT⟩
    · refine (scan_none t mp 0 key most w hT' (.inl rfl)).mono ?_
      rintro e w' ⟨rfl, hb⟩
      refine ⟨_, rfl, ?_, hb⟩
      rw [List.drop_nil, List.take_nil]
      exact OwnSl.nil _ _ _ _ _
    · exact scan_own t mp root σ S key most _ h' w hI hT' (by have := hT.top; omega) (by omega) (by have := hT.low (by omega); omega) hT.walk (by simp only [List.length_drop]; omega)
end Go.Proofs.Ytbldcbakhpdigaa

/- BtreePages: the walk. -/
namespace Go.Proofs.Ytbldcbakhpdigaa
open Go.RowKit

theorem posAt_empty (cs : List Pr) : posAt cs ⟨#[]⟩ = 0 := by
  cases cs with
  | nil => rfl
  | cons p r => simp [posAt, lt_empty]

/-- nothing lies between a string and the same with a zero byte behind it -/
theorem bl_next : ∀ k x : List UInt8, Op.bytesLess k (k ++ [0]) = true ∧ (Op.bytesLess k x = true → Op.bytesLess x (k ++ [0]) = false)
  | [], [] => ⟨rfl, fun h => by cases h⟩
  | [], b :: x => ⟨rfl, fun _ => by simp [Op.bytesLess]⟩
  | a :: k, [] => ⟨by have := (bl_next k []).1; simp [Op.bytesLess, this], fun h => by cases h⟩
  | a :: k, b :: x => by
    obtain ⟨h1, h2⟩ := bl_next k x
    refine ⟨by simp [Op.bytesLess, h1], fun h => ?_⟩
    simp only [Op.bytesLess, Bool.or_eq_true, Bool.and_eq_true, decide_eq_true_eq, beq_iff_eq] at h
    simp only [List.cons_append, Op.bytesLess, Bool.or_eq_false_iff, Bool.and_eq_false_iff, decide_eq_false_iff_not, beq_eq_false_iff_ne]
    rcases h with h | ⟨rfl, h⟩
    · rw [UInt8.lt_iff_toNat_lt] at h ⊢
      exact ⟨by omega, .inl fun e => by rw [e] at h; omega⟩
    · exact ⟨UInt8.lt_irrefl _, .inr (h2 h)⟩
theorem lt_next (k : ByteArray) : lt k (k ++ ⟨#[0]⟩) = true ∧ ∀ x, lt k x = true → lt x (k ++ ⟨#[0]⟩) = false := by
  have e : (k ++ (⟨#[0]⟩ : ByteArray)).toList = k.toList ++ [0] := by rw [toList_eq, toList_eq]; simp
  unfold lt
  rw [e]
  exact ⟨(bl_next k.toList []).1, fun x => (bl_next k.toList x.toList).2⟩
/-- behind a key: the pairs from the next one on -/
theorem posAt_next {cs : List Pr} (hr : RisingP cs) (i : Nat) (hi : i < cs.length) : posAt cs (cs[i].1 ++ ⟨#[0]⟩) = i + 1 := by
  obtain ⟨f1, f2⟩ := posAt_facts (cs[i].1 ++ ⟨#[0]⟩) cs hr
  have h1 := lt_next cs[i].1
  have hlo : i < posAt cs (cs[i].1 ++ ⟨#[0]⟩) := by
    rcases Nat.lt_or_ge i (posAt cs (cs[i].1 ++ ⟨#[0]⟩)) with h | h
    · exact h
    · have := f2 i hi h
      rw [h1.1] at this; cases this
  have hhi : ¬ i + 1 < posAt cs (cs[i].1 ++ ⟨#[0]⟩) := fun h => by
    have hl := posAt_le cs (cs[i].1 ++ ⟨#[0]⟩)
    have h2 := f1 (i + 1) (by omega) h
    have h3 := h1.2 _ (List.pairwise_iff_getElem.1 hr i (i + 1) hi (by omega) (by omega))
    rw [h3] at h2; cases h2
  omega

set_option maxRecDepth 100000 in
set_option maxHeartbeats 8000000 in
theorem pages_walk (v0 : Value) (ps : List Pr) (sz : Int) (w : World) (hps : IsPL w v0 ps) (hz0 : 0 ≤ sz) (hz1 : sz ≤ 255) :
    Calls Try.prog 5 #[v0, .int .u8 sz] w fun e w' => e = .returned (.bool true) ∧ Below w.heap.size w w' := by
  obtain ⟨ao, cp, rfl, _, _⟩ := hps.form
  go_enter Try.func5, Try.ntmps5
  by_cases hlen : 200 < ps.length
  · have x1 : (200 : Int) < (ps.length : Int) := by omega
    go_wp2_with (first
      | (go_at_call 9; (refine (fixed_any w).mono ?_); rintro e w1 ⟨rfl, hb1⟩)
      | (go_at_call 9; (refine (fixed_any _).mono ?_); rintro e w2 ⟨rfl, hb2⟩))
    go_ret
    exact ⟨rfl, hb1.trans (hb2.mono hb1.size)⟩
  · have x1 : decide ((200 : Int) < (ps.length : Int)) = false := decide_eq_false (by omega)
    go_upto_region 4 with (first
      | (go_at_call 9; (refine (fixed_any w).mono ?_); rintro e w1 ⟨rfl, hb1⟩)
      | (go_at_call 10; go_must ((refine (newmem_any 4096 w1).mono ?_); rintro e w2 ⟨rfl, hI2, hs2, hb2⟩; have HS2 := Lib.hid hs2; clear hs2))
      | (go_at_call 16; go_must ((refine (open_any (w1.heap.size + 2) 0 w2 (by omega)).mono ?_); rintro e w3 ⟨rfl, hT3, hs3, hb3⟩; have HS3 := Lib.hid hs3; clear hs3)))
    have hTS0 := TS.new hb1 hI2 HS2.out hb2 hT3 hb3 rfl
    clear hI2 hT3 HS2 HS3 hb2 hb3
    generalize w1.heap.size + 2 = mp at hTS0 ⊢
    generalize w2.heap.size = t at hTS0 ⊢
    generalize (fun g => w1.heap.size ≤ g ∧ g < w1.heap.size + 3) = S0 at hTS0
    clear hb1 x1
    go_wp2_with fail
    go_loopw [6] (fun i wr => ∃ (k : Nat) (S : Nat → Prop) (cs : List Pr), k ≤ ps.length ∧ i = .int .i64 k ∧ TS w t mp S cs wr ∧ cs.length ≤ k ∧ Gd cs) (fun i _ => ps.length - (intOf i).toNat)
    case atStart => exact ⟨0, S0, [], Nat.zero_le _, rfl, hTS0, Nat.le_refl _, fun p hp => by cases hp⟩
    case round =>
      clear hTS0
      obtain ⟨k, S, cs, hk, rfl, hTS, hcl, hgd⟩ := hrel
      by_cases hlt : k < ps.length
      · obtain ⟨b, o, rfl, d1, d2⟩ := hps.at rfl k hlt
        have hlt' : (k : Int) < (ps.length : Int) := by omega
        have hbl := World.block_lt_of_cell? w _ d1
        have hP := (hTS.below ((Below.refl _ wr).drew)).put ps[k].1 ps[k].2 (by omega)
        have HP := Lib.hid hP; clear hP
        go_wp2_with fail
        refine wp_region_ord (fun W => Below w.heap.size w W) (fun i => !([11].contains i)) [0, 1, 2, 3, 4, 5, 6, 7, 8, 9, 10, 11] rfl (by kernel_rfl) hTS.bel.drew ?_
        repeat ((refine ord_q (v := ?_) rfl rfl (fun _ _ _ h => h) rfl (fun W hW => ?_) ?_); rotate_left; (focus ((try dsimp only at hW); have q0 := (hW.cell (p := ⟨b, o + k * 2, none⟩) hbl).trans d1; have q1 := (hW.cell (p := ⟨b, o + k * 2 + 1, none⟩) hbl).trans d2; have q2 := Nat.lt_of_lt_of_le hbl hW.size; first | (go_simp; first | done | with_reducible rfl))); (try simp only [Act.put, List.setIfInBounds_toArray, List.set_cons_zero, List.set_cons_succ]))
        refine ord_e rfl rfl rfl ?_; intro K hK; go_simp
        refine HP.out.mono ?_; rintro e w4 ⟨rfl, S', hTS4, _⟩
        refine hK.out _ _ hTS4.bel ?_
        refine ord_nil ?_
        go_wp2_with fail
        go_roundw
        case rel => exact ⟨k + 1, S', _, by omega, by go_num, hTS4, by have := putP_len cs ps[k].1 ps[k].2; omega, putP_gd hgd _ _⟩
        case measure => simp [intOf]; omega
      · obtain rfl : k = ps.length := by omega
        have x1 : ¬ (ps.length : Int) < (ps.length : Int) := by omega
        have hn2 : cs.length ≤ 200 := by omega
        have hw := hTS.whole (by omega)
        have HW := Lib.hid hw; clear hw
        go_wp2_with (go_at_call 21; go_must (refine HW.out.mono ?_; rintro e w4 ⟨v, rfl, hv, hb4⟩; refine Stop.of ?_))
        refine Stop.on ?_
        have hTS4 := hTS.below hb4
        have hTS4' := hTS4.bel
        obtain ⟨vo, vc, rfl, _, _, _, _⟩ := IsSl.form hv
        have hr := hTS.rise
        clear hTS HW hcl hlt x1
        go_wp2_with fail
        go_loopw [9, 10, 11, 12, 13] (fun g f i _ _ wr2 => ∃ (k j : Nat) (from_ : ByteArray), k ≤ cs.length + 1 ∧ i = .int .i64 k ∧ f = .string from_ ∧ posAt cs from_ = j ∧ j ≤ cs.length ∧ (k ≤ j ∨ j = cs.length) ∧ OwnSl wr2 S w4.heap.size 49 2 g j (prCells (cs.take j)) ∧ TS w t mp S cs wr2 ∧ Below w4.heap.size w4 wr2) (fun _ _ i _ _ _ => cs.length + 1 - (intOf i).toNat)
        case atStart => exact ⟨0, 0, ⟨#[]⟩, by omega, rfl, rfl, posAt_empty cs, by omega, .inl (by omega), OwnSl.nil _ _ _ _ _, hTS4, Below.refl _ _⟩
        case round =>
          clear hTS4
          obtain ⟨k, j, fr, hk2, rfl, rfl, hj, hjl, hkj, hg, hTS2, hb42⟩ := hrel
          have HJ := Lib.hid hj; clear hj
          obtain ⟨go, gc, rfl, _, _, _, _⟩ := IsSl.form hg.isSl
          by_cases hlt2 : k ≤ cs.length
          · have hlt' : (k : Int) ≤ (cs.length : Int) := by omega
            have hsc := hTS2.scan2 fr (sz + 1) (by omega)
            rw [HJ.out] at hsc
            have hq : ((cs.drop j).take (sz + 1).toNat).length = min (cs.length - j) (sz + 1).toNat := by simp; omega
            generalize hL : (cs.drop j).take (sz + 1).toNat = L at hsc hq
            have HL := Lib.hid hL; clear hL
            generalize hql : L.length = q at hsc hq
            have HQL := Lib.hid hql; clear hql
            have HSC := Lib.hid hsc; clear hsc
            have hq1 : q ≤ 256 := by omega
            have hsub := hTS2.sub.1
            go_wp2_with (first
              | (go_at_call 21; go_must (refine HSC.out.mono ?_; rintro e w5 ⟨l, rfl, hl, hb5⟩; refine Stop.of ?_)))
            refine Stop.on ?_
            obtain ⟨lo, lc, rfl, _, _, _, _⟩ := IsSl.form hl.isSl
            have hTS5 := hTS2.below hb5
            have hb45 := hb42.trans (hb5.mono hb42.size)
            have hsub5 := hTS5.sub.1
            have hg5 := hg.below hb5
            have hsrc := hl.isSl.src (P := Try.prog) Try.underlying40 (one_prs _)
            have hle : j + q ≤ cs.length := by omega
            have htk : cs.take j ++ L = cs.take (j + q) := by
              rw [← HL.out, List.take_add]
              congr 1
              have := HQL.out
              rw [← HL.out] at this
              rw [← this]
              simp
            have HTK := Lib.hid htk; clear htk
            have HQ := Lib.hid hq; clear hq
            clear hsub
            go_wp2_with (first
              | (at_builtin; (refine wpList_app rfl (.tmp 65) (.tmp 66) 40 40 rfl S w4.heap.size 49 2 32 _ Try.underlying40 info_pair rfl (.slice go j gc) j _ rfl hg5 (.slice lo q lc) q (prCells L) rfl hsrc hsub5 hb45.size (by unfold maxLen; omega) (by omega) ?_); go_must (intro ao6 c6 w6 hown6 hk6 hb6 hd6; refine Stop.of ?_)))
            refine Stop.on ?_
            obtain ⟨_, _, _, _, hTA, _⟩ := hTS5.is
            have hTS6 := hTS5.keepM hk6 (fun g hs e => hg5.2 g e hs) (hg5.ne hTA (by decide)) (fun g hl e => absurd (Nat.lt_of_lt_of_le hl (Nat.le_trans hTS4'.size (hg5.lo g e))) (Nat.lt_irrefl _))
            have hb46 := hb45.trans hb6
            have hl6 := hl.keep (w' := w6) (S' := S) fun g hg' hl' hs => ⟨hk6.block g hl' (fun e => by
              have a := hl.lo g hg'
              have b := (hg.1.lt g e).2
              omega), hs⟩
            have hown6' : OwnSl w6 S w4.heap.size 49 2 (.slice ao6 (j + q) c6) (j + q) (prCells (cs.take (j + q))) := by
              rw [← HTK.out, prCells_append]; exact hown6
            by_cases hq0 : q = 0
            · have x1 : ¬ (0 : Int) < (q : Int) := by omega
              have HQ0 := Lib.hid hq0; clear hq0
              go_wp2_with fail
              go_roundw
              case rel => exact ⟨k + 1, j + q, fr, by omega, by go_num, rfl, by rw [HJ.out, HQ0.out]; rfl, hle, by have := HQ.out; have := HQ0.out; omega, hown6', hTS6, hb46⟩
              case measure => simp [intOf]; omega
            · have x1 : (0 : Int) < (q : Int) := by omega
              obtain ⟨m, hm⟩ : ∃ m, q = m + 1 := ⟨q - 1, by omega⟩
              have hmi : (q : Int) - 1 = (m : Int) := by omega
              have hmq : (m : Int) < (q : Int) := by omega
              have hm2 : m < L.length := by rw [HQL.out]; omega
              have hlI : IsPrs w6 S (.slice lo q lc) L := by unfold IsPrs; rw [HQL.out]; exact hl6.isSl
              obtain ⟨lb, lo2, rfl, d1, _⟩ := hlI.at rfl m hm2
              have hlb := World.block_lt_of_cell? w6 _ d1
              have hjm : j + m < cs.length := by omega
              have hLm : L[m] = cs[j + m]'hjm := by
                have := HL.out
                subst this
                simp
              have hgm := hgd _ (List.getElem_mem hjm)
              have hks : L[m].1.size ≤ 128 := by rw [hLm]; exact hgm.1.2
              have HLM := Lib.hid hLm; clear hLm
              have HM := Lib.hid hm; clear hm
              go_wp2_with fail
              go_roundw
              case rel => exact ⟨k + 1, j + q, L[m].1 ++ ⟨#[0]⟩, by omega, by go_num, rfl, by rw [HLM.out, posAt_next hr (j + m) (by have := HM.out; omega)]; have := HM.out; omega, hle, by have := HM.out; omega, hown6', hTS6, hb46⟩
              case measure => simp [intOf]; omega
          · have hk3 : k = cs.length + 1 := by omega
            have hjn : j = cs.length := by omega
            subst hk3
            subst hjn
            have x1 : ¬ ((cs.length : Int) + 1 ≤ (cs.length : Int)) := by omega
            have hg2 : IsPrs wr S (.slice go cs.length gc) cs := by
              have := hg.isSl
              rw [List.take_length] at this
              exact this
            go_wp2_with (first
              | (go_at_call 22; go_must ((refine (same_yes _ _ cs _ S S hg2 (IsSl.below hv hb42)).mono ?_); rintro e w6 ⟨rfl, hb6⟩)))
            go_ret
            exact ⟨rfl, hTS2.bel.trans (hb6.mono hTS2.bel.size)⟩
end Go.Proofs.Ytbldcbakhpdigaa

namespace Go.Proofs.Ytbldcbakhpdigaa
open Go.RowKit Go.ChangeShapes Go.WideShapes Go.ChangeAt Go.Joins
open Go.ChangeMaps (open_string shut_string)

theorem laid_outP : laidOutB Try.prog = true := by kernel_rfl
theorem own_noneP : ownKnob Try.prog.godebug = none := by kernel_rfl

set_option maxRecDepth 100000 in
set_option maxHeartbeats 2000000 in
theorem pages_lifted (os : Os) (started : os.Started) (H : Type) (enc : TypeId × Value → H) :
    ReturnsInHanded {} Try.checked os 5 .any (Rows.btreePagesSpec.pre6 enc Try.prog Try.f5 Rows.btreePagesRow.domain false) (Rows.btreePagesSpec.post enc Try.prog Try.f5 false true false false) := by
  refine returnsInHanded_of_change (C := Try.checked) own_noneP started (by kernel_rfl) Try.func5
    (ChangeSpec.witness6 (enc := enc) (C := Try.checked) false ⟨#[], #[.slice none 0 0, .int .u8 0], []⟩ 8 (by kernel_rfl) (by kernel_rfl) (by kernel_rfl) (by kernel_rfl)) ?_
  intro W base args ds gs before hval0 hW hcnd _
  have hval : ∀ (j : Nat) t v, Try.f5.params[j]? = some t → args[j]? = some v → Value.okWide Try.prog W .any base t v := hval0
  have hW' := hW
  obtain ⟨p, q, hA0, hV, rfl, hfz, hnd⟩ := hW
  have hA : DataW.TrodAll enc Try.prog W 0 (fun _ => true) true Try.f5.params.toList args.toList ds p := hA0
  rw [Try.params5] at hA hval
  obtain ⟨v0, v1, d0, d1, p0, p1, rfl, rfl, rfl, h0, h1⟩ := trodAll_two hA
  obtain ⟨rfl, rfl⟩ := trodVars_none hV
  simp only [List.append_nil] at hW'
  obtain ⟨sz, rfl, rfl, rfl, wz⟩ := open_int Try.underlying5 (hval 1 5 v1 rfl rfl) h1
  have hz : 0 ≤ sz ∧ sz ≤ 255 := by
    have wz' := wz
    simp only [Lit.wf, Bool.and_eq_true, decide_eq_true_eq] at wz'
    exact ⟨Int.le_trans (by decide) wz'.1, Int.le_trans wz'.2 (by decide)⟩
  have hlt : ∀ x ∈ p0, x.block < W.heap.size := fun x hx => by have := hW'.lt x (by simpa using hx); simpa using this
  have h0k := h0
  obtain ⟨a0, len, cap, rfl⟩ := okWide_slice Try.underlying40 (hval 0 40 v0 rfl rfl)
  obtain ⟨fuel, hf⟩ := h0
  obtain ⟨v, ps, e1, hps⟩ := open_prs (by simpa [Value.cells] using hf)
  simp at e1
  subst e1
  clear hA0 hval0
  refine (pages_walk _ ps sz W hps hz.1 hz.2).mono fun e W' ⟨he, hb⟩ => ?_
  subst he
  refine ⟨_, rfl, _, _, _, [], p0 ++ [], [], hW', ?_, ?_, rfl, hb.frame _, fun h => by cases h⟩
  · exact trodAll_mk1 (shut_bool Try.underlying4 true)
  · exact trodAll_mk2 (Below.trod laid_outP (by kernel_rfl) (of_decide_eq_true (by kernel_rfl)) h0k hb hlt) (shut_int Try.underlying5 wz)

theorem pages_holds : Rows.BtreePagesSaid :=
  OpenClaim.holds_of_wide (p := Try.pinned) (s := Rows.btreePagesSpec) (c := Rows.btreePagesRow) 5 Try.f5 rfl rfl rfl rfl rfl rfl rfl ⟨rfl, rfl, rfl, rfl, rfl⟩ rfl rfl rfl rfl rfl (by kernel_rfl) Try.func5 (by kernel_rfl)
    (of_decide_eq_true (by kernel_rfl)) (by unfold Func.isWrapper; first | (rw [if_pos (by decide +kernel)]; kernel_rfl) | (rw [if_neg (by decide +kernel)]; exact ⟨rfl, rfl⟩))
    (fun os started H enc _ => pages_lifted os started H enc)
#print axioms pages_holds
end Go.Proofs.Ytbldcbakhpdigaa

