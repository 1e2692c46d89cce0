/- BtreeOrder: whatever the input, the call returns true; the input reads as it did. No condition. -/
import Derived.Test.YtbldcbakhpdigaaJ9
import Derived.Test.YtbldcbakhpdigaaRows
import Derived.ProofKit
/- BtreeEmpty: the walk. -/
namespace Go.Proofs.Ytbldcbakhpdigaa
open Go.RowKit

theorem look_none {rs : List Pr} (hr : RisingP rs) {key : ByteArray} (h : ∀ p ∈ rs, p.1 ≠ key) : lookP rs key = none := by
  cases hq : lookP rs key with
  | none => rfl
  | some x => exact absurd rfl (h _ ((lookP_some hr).1 hq))
theorem del_front {p : Pr} {r : List Pr} (hr : RisingP (p :: r)) : delP (p :: r) p.1 = r ∧ lookP (p :: r) p.1 = some p.2 ∧ lookP r p.1 = none := by
  obtain ⟨h1, h2⟩ := List.pairwise_cons.1 hr
  have hne : ∀ q ∈ r, q.1 ≠ p.1 := fun q hq e => lt_ne (h1 q hq) e.symm
  refine ⟨?_, (lookP_some hr).2 (by simp), look_none h2 hne⟩
  rw [← filter_del hr, List.filter_cons, if_neg (by rw [eqS rfl]; simp), List.filter_eq_self.2 fun q hq => by rw [neS (hne q hq)]; rfl]
theorem del_last {p : Pr} {r : List Pr} (hr : RisingP (r ++ [p])) : delP (r ++ [p]) p.1 = r ∧ lookP (r ++ [p]) p.1 = some p.2 ∧ lookP r p.1 = none := by
  obtain ⟨h1, _, h3⟩ := List.pairwise_append.1 hr
  have hne : ∀ q ∈ r, q.1 ≠ p.1 := fun q hq e => lt_ne (h3 q hq p (by simp)) e
  refine ⟨?_, (lookP_some hr).2 (by simp), look_none h1 hne⟩
  rw [← filter_del hr, List.filter_append, List.filter_cons, if_neg (by rw [eqS rfl]; simp), List.filter_nil, List.append_nil, List.filter_eq_self.2 fun q hq => by rw [neS (hne q hq)]; rfl]

/-- all keys and values are good -/
def Gd (cs : List Pr) : Prop := ∀ p ∈ cs, GoodKV p.1 p.2
theorem putP_gd {cs : List Pr} (h : Gd cs) (key value : ByteArray) : Gd (putP cs key value) := by
  unfold putP
  split
  · rename_i hg
    intro p hp
    unfold insP at hp
    split at hp
    · rcases List.mem_or_eq_of_mem_set hp with hp | rfl
      · exact h p hp
      · exact hg
    · rcases List.mem_append.1 hp with hp | hp
      · exact h p (List.mem_of_mem_take hp)
      · rcases List.mem_cons.1 hp with rfl | hp
        · exact hg
        · exact h p (List.mem_of_mem_drop hp)
  · exact h

theorem prs_nx {w w' : World} {S S' : Nat → Prop} {v : Value} {ps : List Pr} {t mp : Nat} {root err : Int} (h : IsPrs w S v ps) (ht : TreeAt w t mp root err) (hx : Nx S S' t w w') : IsPrs w' S' v ps := by
  by_cases hp : ps = []
  · subst hp
    obtain ⟨ao, c, rfl, h1, h2, h3, h4, h5, h6⟩ := h
    refine ⟨ao, c, rfl, h1, h2, h3, h4, fun ad had => ?_, fun j u hu => by simp [prCells] at hu⟩
    have := h5 ad had
    exact ⟨this.1, Nat.lt_of_lt_of_le this.2.1 hx.1.size, fun x => (hx.2 _ x).elim this.2.2 (fun y => absurd this.2.1 (Nat.not_lt.2 y))⟩
  · have hne : v.ownBlock ≠ some t := by
      obtain ⟨p, r, rfl⟩ := List.exists_cons_of_ne_nil hp
      obtain ⟨ao, c, rfl, _, _, _, _, _, h6⟩ := h
      obtain ⟨b, o, rfl, hc⟩ := h6 0 (.string p.1) rfl
      intro e
      cases e
      rw [Nat.add_zero] at hc
      unfold TreeAt at ht
      rcases o with _ | _ | _ | o <;> simp [World.cell?, ht] at hc
    refine IsSl.keep h fun g hg hl hs => ⟨hx.1.block g hl (fun y => y.elim hs (fun e => hne (by rw [hg, e]))), fun x => (hx.2 g x).elim hs (fun y => absurd hl (Nat.not_lt.2 y))⟩

set_option maxRecDepth 100000 in
set_option maxHeartbeats 8000000 in
theorem empty_walk (v0 : Value) (ps : List Pr) (bk : Bool) (w : World) (hps : IsPL w v0 ps) :
    Calls Try.prog 6 #[v0, .bool bk] w fun e w' => e = .returned (.bool true) ∧ Below w.heap.size w w' := by
  obtain ⟨ao, cp, rfl, _, _⟩ := hps.form
  go_enter Try.func6, Try.ntmps6
  by_cases hlen : 200 < ps.length
  · have x1 : (200 : Int) < (ps.length : Int) := by omega
    go_wp2_with (first
      | (go_at_call 9; (refine (fixed_any w).mono ?_); rintro e w1 ⟨rfl, hb1⟩)
      | (go_at_call 9; (refine (fixed_any _).mono ?_); rintro e w2 ⟨rfl, hb2⟩))
    go_ret
    exact ⟨rfl, hb1.trans (hb2.mono hb1.size)⟩
  · have x1 : decide ((200 : Int) < (ps.length : Int)) = false := decide_eq_false (by omega)
    go_upto_region 5 with (first
      | (go_at_call 9; (refine (fixed_any w).mono ?_); rintro e w1 ⟨rfl, hb1⟩)
      | (go_at_call 10; go_must ((refine (newmem_any 4096 w1).mono ?_); rintro e w2 ⟨rfl, hI2, hs2, hb2⟩; have HS2 := Lib.hid hs2; clear hs2))
      | (go_at_call 16; go_must ((refine (open_any (w1.heap.size + 2) 0 w2 (by omega)).mono ?_); rintro e w3 ⟨rfl, hT3, hs3, hb3⟩; have HS3 := Lib.hid hs3; clear hs3)))
    have hTS0 := TS.new hb1 hI2 HS2.out hb2 hT3 hb3 rfl
    clear hI2 hT3 HS2 HS3 hb2 hb3
    generalize w1.heap.size + 2 = mp at hTS0 ⊢
    generalize w2.heap.size = t at hTS0 ⊢
    generalize (fun g => w1.heap.size ≤ g ∧ g < w1.heap.size + 3) = S0 at hTS0
    clear hb1 x1
    go_wp2_with fail
    go_loopw [7] (fun i wr => ∃ (k : Nat) (S : Nat → Prop) (cs : List Pr), k ≤ ps.length ∧ i = .int .i64 k ∧ TS w t mp S cs wr ∧ cs.length ≤ k ∧ Gd cs) (fun i _ => ps.length - (intOf i).toNat)
    case atStart => exact ⟨0, S0, [], Nat.zero_le _, rfl, hTS0, Nat.le_refl _, fun p hp => by cases hp⟩
    case round =>
      clear hTS0
      obtain ⟨k, S, cs, hk, rfl, hTS, hcl, hgd⟩ := hrel
      by_cases hlt : k < ps.length
      · obtain ⟨b, o, rfl, d1, d2⟩ := hps.at rfl k hlt
        have hlt' : (k : Int) < (ps.length : Int) := by omega
        have hbl := World.block_lt_of_cell? w _ d1
        have hP := (hTS.below ((Below.refl _ wr).drew)).put ps[k].1 ps[k].2 (by omega)
        have HP := Lib.hid hP; clear hP
        go_wp2_with fail
        refine wp_region_ord (fun W => Below w.heap.size w W) (fun i => !([11].contains i)) [0, 1, 2, 3, 4, 5, 6, 7, 8, 9, 10, 11] rfl (by kernel_rfl) hTS.bel.drew ?_
        repeat ((refine ord_q (v := ?_) rfl rfl (fun _ _ _ h => h) rfl (fun W hW => ?_) ?_); rotate_left; (focus ((try dsimp only at hW); have q0 := (hW.cell (p := ⟨b, o + k * 2, none⟩) hbl).trans d1; have q1 := (hW.cell (p := ⟨b, o + k * 2 + 1, none⟩) hbl).trans d2; have q2 := Nat.lt_of_lt_of_le hbl hW.size; first | (go_simp; first | done | with_reducible rfl))); (try simp only [Act.put, List.setIfInBounds_toArray, List.set_cons_zero, List.set_cons_succ]))
        refine ord_e rfl rfl rfl ?_; intro K hK; go_simp
        refine HP.out.mono ?_; rintro e w4 ⟨rfl, S', hTS4, _⟩
        refine hK.out _ _ hTS4.bel ?_
        refine ord_nil ?_
        go_wp2_with fail
        go_roundw
        case rel => exact ⟨k + 1, S', _, by omega, by go_num, hTS4, by have := putP_len cs ps[k].1 ps[k].2; omega, putP_gd hgd _ _⟩
        case measure => simp [intOf]; omega
      · obtain rfl : k = ps.length := by omega
        have x1 : ¬ (ps.length : Int) < (ps.length : Int) := by omega
        have hn2 : cs.length ≤ 200 := by omega
        have hw := hTS.whole (by omega)
        have HW := Lib.hid hw; clear hw
        go_wp2_with (go_at_call 21; go_must (refine HW.out.mono ?_; rintro e w4 ⟨v, rfl, hv, hb4⟩; refine Stop.of ?_))
        refine Stop.on ?_
        have hTS4 := hTS.below hb4
        obtain ⟨vo, vc, rfl, _, _, _, _⟩ := IsSl.form hv
        have hr := hTS.rise
        clear hTS HW hcl hlt x1
        go_wp2_with fail
        go_loopw [10, 11, 12, 13, 14, 15] (fun i _ _ _ _ _ wr2 => ∃ (k : Nat) (S2 : Nat → Prop), k ≤ cs.length ∧ i = .int .i64 k ∧ TS w t mp S2 (if bk then cs.take (cs.length - k) else cs.drop k) wr2 ∧ IsPrs wr2 S2 (.slice vo cs.length vc) cs) (fun i _ _ _ _ _ _ => cs.length - (intOf i).toNat)
        case atStart => exact ⟨0, S, Nat.zero_le _, rfl, by simpa using hTS4, hv⟩
        case round =>
          clear hTS4 hv
          obtain ⟨k, S2, hk2, rfl, hTS2, hv2⟩ := hrel
          by_cases hlt2 : k < cs.length
          · obtain ⟨b, o, rfl, d1, d2⟩ := hv2.at rfl k hlt2
            have hlt' : (k : Int) < (cs.length : Int) := by omega
            have hbl := World.block_lt_of_cell? wr _ d1
            clear d2
            cases bk with
            | false =>
              rw [if_neg (by simp)] at hTS2
              have hds : cs.drop k = cs[k] :: cs.drop (k + 1) := List.drop_eq_getElem_cons hlt2
              have hgk := hgd cs[k] (List.getElem_mem _)
              have hdd := del_front (p := cs[k]) (r := cs.drop (k + 1)) (by rw [← hds]; exact hTS2.rise)
              rw [← hds] at hdd
              have HDD := Lib.hid hdd; clear hdd
              have HDS := Lib.hid hds; clear hds
              have hd1 := hTS2.del cs[k].1 (by simp; omega) ⟨hgk.1.1, hgk.1.2⟩
              rw [HDD.out.2.1, HDD.out.1] at hd1
              simp only [Option.isSome_some] at hd1
              have HD1 := Lib.hid hd1; clear hd1
              go_wp2_with (go_at_call 23; go_must (refine HD1.out.mono ?_; rintro e w5 ⟨rfl, S3, hTS3, hNx3⟩; refine Stop.of ?_))
              refine Stop.on ?_
              have hd2 := hTS3.del cs[k].1 (by simp; omega) ⟨hgk.1.1, hgk.1.2⟩
              rw [HDD.out.2.2, delP_none HDD.out.2.2] at hd2
              simp only [Option.isSome_none] at hd2
              have HD2 := Lib.hid hd2; clear hd2
              obtain ⟨_, _, _, _, hTA, _⟩ := hTS2.is
              have hv3 := prs_nx hv2 hTA hNx3
              obtain ⟨_, _, _, _, hTA3, _⟩ := hTS3.is
              go_wp2_with (go_at_call 23; go_must (refine HD2.out.mono ?_; rintro e w6 ⟨rfl, S4, hTS4, hNx4⟩))
              have hv4 := prs_nx hv3 hTA3 hNx4
              go_roundw
              case rel => exact ⟨k + 1, S4, by omega, by go_num, by rw [if_neg (by simp)]; exact hTS4, hv4⟩
              case measure => simp [intOf]; omega
            | true =>
              rw [if_pos rfl] at hTS2
              obtain ⟨m, hm⟩ : ∃ m, cs.length = k + 1 + m := ⟨cs.length - (k + 1), by omega⟩
              have hmi : (cs.length : Int) - 1 - (k : Int) = (m : Int) := by omega
              have hml : m < cs.length := by omega
              have hds : cs.take (cs.length - k) = cs.take m ++ [cs[m]] := by rw [show cs.length - k = m + 1 from by omega, List.take_succ_eq_append_getElem hml]
              have HM := Lib.hid hm; clear hm
              have hml' : (m : Int) < (cs.length : Int) := by omega
              obtain ⟨_, _, e, d3, _⟩ := hv2.at rfl m hml
              cases e
              have hgk := hgd cs[m] (List.getElem_mem _)
              have hdd := del_last (p := cs[m]) (r := cs.take m) (by rw [← hds]; exact hTS2.rise)
              rw [← hds] at hdd
              have HDD := Lib.hid hdd; clear hdd
              have HDS := Lib.hid hds; clear hds
              have hd1 := hTS2.del cs[m].1 (by simp; omega) ⟨hgk.1.1, hgk.1.2⟩
              rw [HDD.out.2.1, HDD.out.1] at hd1
              simp only [Option.isSome_some] at hd1
              have HD1 := Lib.hid hd1; clear hd1
              go_wp2_with (go_at_call 23; go_must (refine HD1.out.mono ?_; rintro e w5 ⟨rfl, S3, hTS3, hNx3⟩; refine Stop.of ?_))
              refine Stop.on ?_
              have hd2 := hTS3.del cs[m].1 (by simp; omega) ⟨hgk.1.1, hgk.1.2⟩
              rw [HDD.out.2.2, delP_none HDD.out.2.2] at hd2
              simp only [Option.isSome_none] at hd2
              have HD2 := Lib.hid hd2; clear hd2
              obtain ⟨_, _, _, _, hTA, _⟩ := hTS2.is
              have hv3 := prs_nx hv2 hTA hNx3
              obtain ⟨_, _, _, _, hTA3, _⟩ := hTS3.is
              go_wp2_with (go_at_call 23; go_must (refine HD2.out.mono ?_; rintro e w6 ⟨rfl, S4, hTS4, hNx4⟩))
              have hv4 := prs_nx hv3 hTA3 hNx4
              go_roundw
              case rel => exact ⟨k + 1, S4, by omega, by go_num, by have e : cs.length - (k + 1) = m := (by have := HM.out; omega); simp only [e]; exact hTS4, hv4⟩
              case measure => simp [intOf]; omega
          · obtain rfl : k = cs.length := by omega
            have x1 : ¬ (cs.length : Int) < (cs.length : Int) := by omega
            have hTE : TS w t mp S2 [] wr := by
              have := hTS2
              cases bk <;> simpa using this
            have hb := hTE.bare
            have HB1 := Lib.hid hb.1
            have HB2 := Lib.hid hb.2
            clear hb
            go_wp2_with (first
              | (go_at_call 12; go_must (refine HB1.out.mono ?_; rintro e w6 ⟨rfl, hw⟩; subst w6))
              | (go_at_call 24; go_must (refine HB2.out.mono ?_; rintro e w6 ⟨rfl, hw⟩; subst w6)))
            go_ret
            exact ⟨rfl, hTE.bel⟩
end Go.Proofs.Ytbldcbakhpdigaa

/- BtreeOrder: the walk. -/
namespace Go.Proofs.Ytbldcbakhpdigaa
open Go.RowKit

theorem ins_front {p : Pr} {r : List Pr} (hr : RisingP (p :: r)) : insP r p.1 p.2 = p :: r := by
  obtain ⟨h1, h2⟩ := List.pairwise_cons.1 hr
  have hp : posAt r p.1 = 0 := posAt_none r p.1 h1
  have ha : isAt r p.1 = false := by
    unfold isAt
    rw [hp]
    cases r with
    | nil => rfl
    | cons q r => simp; exact fun e => lt_ne (h1 q (by simp)) e.symm
  unfold insP
  rw [ha, hp]
  simp

/-- two trees, side by side -/
def Sep (Sa : Nat → Prop) (ta : Nat) (Sb : Nat → Prop) (tb : Nat) : Prop := ∀ g, (Sa g ∨ g = ta) → ¬ (Sb g ∨ g = tb)
def Uab (Sa : Nat → Prop) (ta : Nat) (Sb : Nat → Prop) (tb : Nat) : Nat → Prop := fun g => (Sa g ∨ g = ta) ∨ (Sb g ∨ g = tb)

/-- the law's state: tree a, tree b, the document's tree -/
structure Tri (w0 : World) (ta ma tb mb r : Nat) (Sa Sb : Nat → Prop) (as_ bs rs : List Pr) (w : World) : Prop where
  a : TS w0 ta ma Sa as_ w
  b : TS w0 tb mb Sb bs w
  sep : Sep Sa ta Sb tb
  ref : IsRef w (Uab Sa ta Sb tb) r rs
  rlo : w0.heap.size ≤ r

theorem Tri.rlt {w0 : World} {ta ma tb mb r : Nat} {Sa Sb : Nat → Prop} {xs bs rs : List Pr} {w : World} (h : Tri w0 ta ma tb mb r Sa Sb xs bs rs w) : r < w.heap.size := by
  obtain ⟨_, _, hb, _⟩ := h.ref
  exact (Array.getElem?_eq_some_iff.1 hb).1
theorem Tri.below {w0 : World} {ta ma tb mb r : Nat} {Sa Sb : Nat → Prop} {xs bs rs : List Pr} {w w' : World} (h : Tri w0 ta ma tb mb r Sa Sb xs bs rs w) (hb : Below w.heap.size w w') : Tri w0 ta ma tb mb r Sa Sb xs bs rs w' := ⟨h.a.below hb, h.b.below hb, h.sep, h.ref.below hb, h.rlo⟩
theorem Tri.chgA {w0 : World} {ta ma tb mb r : Nat} {Sa Sa' Sb : Nat → Prop} {xs xs' bs rs : List Pr} {w w' : World} (h : Tri w0 ta ma tb mb r Sa Sb xs bs rs w) (ha : TS w0 ta ma Sa' xs' w') (hx : Nx Sa Sa' ta w w') : Tri w0 ta ma tb mb r Sa' Sb xs' bs rs w' := by
  have hsb := h.b.sub
  refine ⟨ha, h.b.keepM hx.1 (fun g hg x => h.sep g x (.inl hg)) (fun x => h.sep tb x (.inr rfl)) (fun g hg x => x.elim (fun s => absurd hg (Nat.not_lt.2 (h.a.lo g s))) (fun e => absurd hg (Nat.not_lt.2 (by rw [e]; exact h.a.tlo)))), fun g hg hb => ?_, ?_, h.rlo⟩
  · rcases hg with hg | hg
    · rcases hx.2 g hg with hg | hg
      · exact h.sep g (.inl hg) hb
      · rcases hb with hb | hb
        · exact absurd (hsb.1 g hb) (Nat.not_lt.2 hg)
        · rw [hb] at hg; exact absurd hsb.2 (Nat.not_lt.2 hg)
    · exact h.sep g (.inr hg) hb
  · refine h.ref.step ⟨hx.1.mono (fun _ _ x => .inl x), fun g hg => ?_⟩
    rcases hg with (hg | hg) | hg
    · exact (hx.2 g hg).imp (fun s => .inl (.inl s)) id
    · exact .inl (.inl (.inr hg))
    · exact .inl (.inr hg)
theorem Tri.chgB {w0 : World} {ta ma tb mb r : Nat} {Sa Sb Sb' : Nat → Prop} {xs bs bs' rs : List Pr} {w w' : World} (h : Tri w0 ta ma tb mb r Sa Sb xs bs rs w) (hb : TS w0 tb mb Sb' bs' w') (hx : Nx Sb Sb' tb w w') : Tri w0 ta ma tb mb r Sa Sb' xs bs' rs w' := by
  have hsa := h.a.sub
  refine ⟨h.a.keepM hx.1 (fun g hg x => h.sep g (.inl hg) x) (fun x => h.sep ta (.inr rfl) x) (fun g hg x => x.elim (fun s => absurd hg (Nat.not_lt.2 (h.b.lo g s))) (fun e => absurd hg (Nat.not_lt.2 (by rw [e]; exact h.b.tlo)))), hb, fun g ha hg => ?_, ?_, h.rlo⟩
  · rcases hg with hg | hg
    · rcases hx.2 g hg with hg | hg
      · exact h.sep g ha (.inl hg)
      · rcases ha with ha | ha
        · exact absurd (hsa.1 g ha) (Nat.not_lt.2 hg)
        · rw [ha] at hg; exact absurd hsa.2 (Nat.not_lt.2 hg)
    · exact h.sep g ha (.inr hg)
  · refine h.ref.step ⟨hx.1.mono (fun _ _ x => .inr x), fun g hg => ?_⟩
    rcases hg with hg | (hg | hg)
    · exact .inl (.inl hg)
    · exact (hx.2 g hg).imp (fun s => .inr (.inl s)) id
    · exact .inl (.inr (.inr hg))
theorem Tri.chgR {w0 : World} {ta ma tb mb r : Nat} {Sa Sb : Nat → Prop} {xs bs rs rs' : List Pr} {w w' : World} (h : Tri w0 ta ma tb mb r Sa Sb xs bs rs w) (hr : IsRef w' (Uab Sa ta Sb tb) r rs') (hk : Keep (· = r) w w') : Tri w0 ta ma tb mb r Sa Sb xs bs rs' w' := by
  have hn := h.ref.1
  have hlo : ∀ g, g < w0.heap.size → ¬ g = r := fun g hg e => absurd hg (Nat.not_lt.2 (by rw [e]; exact h.rlo))
  exact ⟨h.a.keepM hk (fun g hg e => hn (.inl (.inl (by rw [← e]; exact hg)))) (fun e => hn (.inl (.inr e.symm))) hlo, h.b.keepM hk (fun g hg e => hn (.inr (.inl (by rw [← e]; exact hg)))) (fun e => hn (.inr (.inr e.symm))) hlo, h.sep, hr, h.rlo⟩
theorem Tri.subU {w0 : World} {ta ma tb mb r : Nat} {Sa Sb : Nat → Prop} {xs bs rs : List Pr} {w : World} (h : Tri w0 ta ma tb mb r Sa Sb xs bs rs w) : ∀ g, Uab Sa ta Sb tb g → g < w.heap.size := by
  rintro g ((hg | rfl) | (hg | rfl))
  · exact h.a.sub.1 g hg
  · exact h.a.sub.2
  · exact h.b.sub.1 g hg
  · exact h.b.sub.2

set_option maxRecDepth 100000 in
set_option maxHeartbeats 2000000 in
theorem order_walk (v0 : Value) (ps : List Pr) (w : World) (hps : IsPL w v0 ps) :
    Calls Try.prog 4 #[v0] w fun e w' => e = .returned (.bool true) ∧ Below w.heap.size w w' := by
  obtain ⟨ao, cp, rfl, _, _⟩ := hps.form
  go_enter Try.func4, Try.ntmps4
  by_cases hlen : 200 < ps.length
  · have x1 : (200 : Int) < (ps.length : Int) := by omega
    go_wp2_with (first
      | (go_at_call 9; (refine (fixed_any w).mono ?_); rintro e w1 ⟨rfl, hb1⟩)
      | (go_at_call 9; (refine (fixed_any _).mono ?_); rintro e w2 ⟨rfl, hb2⟩))
    go_ret
    exact ⟨rfl, hb1.trans (hb2.mono hb1.size)⟩
  · have x1 : decide ((200 : Int) < (ps.length : Int)) = false := decide_eq_false (by omega)
    go_upto_region 4 with (first
      | (go_at_call 9; go_must ((refine (fixed_any w).mono ?_); rintro e w1 ⟨rfl, hb1⟩))
      | (go_at_call 10; go_must ((refine (newmem_any 4096 w1).mono ?_); rintro e w2 ⟨rfl, hI2, hs2, hb2⟩; have HS2 := Lib.hid hs2; clear hs2))
      | (go_at_call 16; go_must ((refine (open_any (w1.heap.size + 2) 0 w2 (by omega)).mono ?_); rintro e w3 ⟨rfl, hT3, hs3, hb3⟩; have HS3 := Lib.hid hs3; clear hs3; refine Stop.of ?_)))
    refine Stop.on ?_
    go_upto_region 4 with (first
      | (go_at_call 10; go_must ((refine (newmem_any 4096 w3).mono ?_); rintro e w4 ⟨rfl, hI4, hs4, hb4⟩; have HS4 := Lib.hid hs4; clear hs4))
      | (go_at_call 16; go_must ((refine (open_any (w3.heap.size + 2) 0 w4 (by omega)).mono ?_); rintro e w5 ⟨rfl, hT5, hs5, hb5⟩; have HS5 := Lib.hid hs5; clear hs5)))
    have hTa := TS.new hb1 hI2 HS2.out hb2 hT3 hb3 rfl
    have hTb := TS.new hTa.bel hI4 HS4.out hb4 hT5 hb5 rfl
    have hTa5 := hTa.below (hb4.trans (hb5.mono hb4.size))
    have hb6 := below_one w5 (.cells #[.slice none 0 0] 45)
    have hTr : Tri w w2.heap.size (w1.heap.size + 2) w4.heap.size (w3.heap.size + 2) w5.heap.size _ _ [] [] [] (w5.alloc (.cells #[.slice none 0 0] 45)) :=
      ⟨hTa5.below hb6, hTb.below hb6, fun g ha hb => by
        have e1 := HS2.out; have e2 := HS3.out; have e3 := HS4.out
        have l1 := hb2.size; have l2 := hb3.size
        rcases ha with ha | ha <;> rcases hb with hb | hb <;> omega,
       ⟨fun hu => by
          have e1 := HS2.out; have e2 := HS3.out; have e3 := HS4.out; have e4 := HS5.out
          rcases hu with (hu | hu) | (hu | hu) <;> omega, _, heap_alloc_new w5 _, IsSl.nil _ _ _⟩, hTb.bel.size⟩
    clear hTa hTb hTa5 hT3 hT5 hI2 hI4 HS2 HS3 HS4 HS5 hb1 hb2 hb3 hb4 hb5 hb6 x1
    generalize w1.heap.size + 2 = ma at hTr ⊢
    generalize w3.heap.size + 2 = mb at hTr ⊢
    generalize (fun g => w1.heap.size ≤ g ∧ g < w1.heap.size + 3) = Sa0 at hTr
    generalize (fun g => w3.heap.size ≤ g ∧ g < w3.heap.size + 3) = Sb0 at hTr
    generalize w5.alloc (.cells #[.slice none 0 0] 45) = w6 at hTr ⊢
    generalize w2.heap.size = ta at hTr ⊢
    generalize w4.heap.size = tb at hTr ⊢
    generalize w5.heap.size = r at hTr ⊢
    go_wp2_with fail
    go_loopw [6, 7, 8] (fun i _ _ wr => ∃ (k : Nat) (Sa Sb : Nat → Prop) (cs : List Pr), k ≤ ps.length ∧ i = .int .i64 k ∧ Tri w ta ma tb mb r Sa Sb cs [] cs wr ∧ cs.length ≤ k ∧ Gd cs) (fun i _ _ _ => ps.length - (intOf i).toNat)
    case atStart => exact ⟨0, Sa0, Sb0, [], Nat.zero_le _, rfl, hTr, Nat.le_refl _, fun p hp => by cases hp⟩
    case round =>
      clear hTr
      obtain ⟨k, Sa, Sb, cs, hk, rfl, hTr, hcl, hgd⟩ := hrel
      have hr := hTr.a.rise
      by_cases hlt : k < ps.length
      · obtain ⟨b, o, rfl, d1, d2⟩ := hps.at rfl k hlt
        have hlt' : (k : Int) < (ps.length : Int) := by omega
        have hbl : b < w.heap.size := World.block_lt_of_cell? w _ d1
        have d1' := (hTr.a.bel.cell (p := ⟨b, o + k * 2, none⟩) hbl).trans d1
        have hbl' := Nat.lt_of_lt_of_le hbl hTr.a.bel.size
        have hG := rget_any r cs ps[k].1 wr _ hTr.ref hr (by omega)
        cases hlk : (lookP cs ps[k].1).isSome with
        | true =>
          rw [hlk] at hG
          have HG := Lib.hid hG; clear hG hlk
          go_wp2_with (go_at_call 17; go_must (refine HG.out.mono ?_; rintro e wg ⟨rfl, hw⟩; subst wg))
          refine wp_region_ord (fun W => Below w.heap.size w W) (fun _ => true) [0, 1, 2, 3, 4, 5, 6, 7, 8, 9, 10, 11, 12, 13, 14] rfl (by kernel_rfl) hTr.a.bel.drew ?_
          repeat ((refine ord_q (v := ?_) rfl rfl (fun _ _ _ h => h) rfl (fun W hW => ?_) ?_); rotate_left; (focus ((try dsimp only at hW); have q0 := (hW.cell (p := ⟨b, o + k * 2, none⟩) hbl).trans d1; have q1 := (hW.cell (p := ⟨b, o + k * 2 + 1, none⟩) hbl).trans d2; have q2 := Nat.lt_of_lt_of_le hbl hW.size; first | (go_simp; first | done | with_reducible rfl))); (try simp only [Act.put, List.setIfInBounds_toArray, List.set_cons_zero, List.set_cons_succ]))
          repeat ((refine ord_skip rfl rfl (fun _ _ _ h => h) rfl ?_); (try simp only [Act.put, List.setIfInBounds_toArray, List.set_cons_zero, List.set_cons_succ]))
          repeat ((refine ord_q (v := ?_) rfl rfl (fun _ _ _ h => h) rfl (fun W hW => ?_) ?_); rotate_left; (focus ((try dsimp only at hW); have q0 := (hW.cell (p := ⟨b, o + k * 2, none⟩) hbl).trans d1; have q1 := (hW.cell (p := ⟨b, o + k * 2 + 1, none⟩) hbl).trans d2; have q2 := Nat.lt_of_lt_of_le hbl hW.size; first | (go_simp; first | done | with_reducible rfl))); (try simp only [Act.put, List.setIfInBounds_toArray, List.set_cons_zero, List.set_cons_succ]))
          refine ord_nil ?_
          go_wp2_with fail
          go_roundw
          case rel => exact ⟨k + 1, Sa, Sb, cs, by omega, by go_num, hTr.below ((Below.refl _ wr).drew), by omega, hgd⟩
          case measure => simp [intOf]; omega
        | false =>
          rw [hlk] at hG
          have HG := Lib.hid hG; clear hG
          have HLK := Lib.hid hlk; clear hlk
          by_cases hgood : GoodKV ps[k].1 ps[k].2
          · have HGOOD := Lib.hid hgood; clear hgood
            go_wp2_with (go_at_call 17; go_must (refine HG.out.mono ?_; rintro e wg ⟨rfl, hw⟩; subst wg))
            refine wp_region_ord (fun W => Below w.heap.size w W) (fun i => !([13].contains i)) [0, 1, 2, 3, 4, 5, 6, 7, 8, 9, 10, 11, 12, 13, 14] rfl (by kernel_rfl) hTr.a.bel.drew ?_
            repeat ((refine ord_q (v := ?_) rfl rfl (fun _ _ _ h => h) rfl (fun W hW => ?_) ?_); rotate_left; (focus ((try dsimp only at hW); have q0 := (hW.cell (p := ⟨b, o + k * 2, none⟩) hbl).trans d1; have q1 := (hW.cell (p := ⟨b, o + k * 2 + 1, none⟩) hbl).trans d2; have q2 := Nat.lt_of_lt_of_le hbl hW.size; first | (go_simp; first | done | with_reducible rfl))); (try simp only [Act.put, List.setIfInBounds_toArray, List.set_cons_zero, List.set_cons_succ]))
            refine ord_e rfl rfl rfl ?_; intro K hK; go_simp
            refine (good_yes _ _ _ HGOOD.out).mono ?_; rintro e w8 ⟨rfl, hw⟩; subst w8
            refine hK.out _ _ hTr.a.bel.drew ?_
            (try simp only [Act.put, List.setIfInBounds_toArray, List.set_cons_zero, List.set_cons_succ])
            repeat ((refine ord_q (v := ?_) rfl rfl (fun _ _ _ h => h) rfl (fun W hW => ?_) ?_); rotate_left; (focus ((try dsimp only at hW); have q0 := (hW.cell (p := ⟨b, o + k * 2, none⟩) hbl).trans d1; have q1 := (hW.cell (p := ⟨b, o + k * 2 + 1, none⟩) hbl).trans d2; have q2 := Nat.lt_of_lt_of_le hbl hW.size; first | (go_simp; first | done | with_reducible rfl))); (try simp only [Act.put, List.setIfInBounds_toArray, List.set_cons_zero, List.set_cons_succ]))
            refine ord_nil ?_
            have hTd := hTr.below ((Below.refl _ wr).drew)
            have hRP := rput_any r cs ps[k].1 ps[k].2 wr.drew.drew _ (hTd.below ((Below.refl _ wr.drew).drew)).subU (hTd.below ((Below.refl _ wr.drew).drew)).ref hr (by omega)
            have HRP := Lib.hid hRP; clear hRP
            go_wp2_with fail
            refine wp_region_ord (fun W => Below w.heap.size w W) (fun i => !([11].contains i)) [0, 1, 2, 3, 4, 5, 6, 7, 8, 9, 10, 11] rfl (by kernel_rfl) hTr.a.bel.drew.drew ?_
            repeat ((refine ord_q (v := ?_) rfl rfl (fun _ _ _ h => h) rfl (fun W hW => ?_) ?_); rotate_left; (focus ((try dsimp only at hW); have q0 := (hW.cell (p := ⟨b, o + k * 2, none⟩) hbl).trans d1; have q1 := (hW.cell (p := ⟨b, o + k * 2 + 1, none⟩) hbl).trans d2; have q2 := Nat.lt_of_lt_of_le hbl hW.size; first | (go_simp; first | done | with_reducible rfl))); (try simp only [Act.put, List.setIfInBounds_toArray, List.set_cons_zero, List.set_cons_succ]))
            refine ord_e rfl rfl rfl ?_; intro K hK; go_simp
            refine HRP.out.mono ?_; rintro e w9 ⟨rfl, hR9, hk9⟩
            have hT9 := (hTd.below ((Below.refl _ wr.drew).drew)).chgR hR9 hk9
            refine hK.out _ _ hT9.a.bel ?_
            refine ord_nil ?_
            have hPA := (hT9.below ((Below.refl _ w9).drew)).a.put ps[k].1 ps[k].2 (by omega)
            unfold putP at hPA
            rw [if_pos HGOOD.out, if_pos HGOOD.out] at hPA
            have HPA := Lib.hid hPA; clear hPA
            go_wp2_with fail
            refine wp_region_ord (fun W => Below w.heap.size w W) (fun i => !([11].contains i)) [0, 1, 2, 3, 4, 5, 6, 7, 8, 9, 10, 11, 12] rfl (by kernel_rfl) hT9.a.bel.drew ?_
            repeat ((refine ord_q (v := ?_) rfl rfl (fun _ _ _ h => h) rfl (fun W hW => ?_) ?_); rotate_left; (focus ((try dsimp only at hW); have q0 := (hW.cell (p := ⟨b, o + k * 2, none⟩) hbl).trans d1; have q1 := (hW.cell (p := ⟨b, o + k * 2 + 1, none⟩) hbl).trans d2; have q2 := Nat.lt_of_lt_of_le hbl hW.size; first | (go_simp; first | done | with_reducible rfl))); (try simp only [Act.put, List.setIfInBounds_toArray, List.set_cons_zero, List.set_cons_succ]))
            refine ord_e rfl rfl rfl ?_; intro K hK; go_simp
            refine HPA.out.mono ?_; rintro e w10 ⟨rfl, Sa', hTa', hNx⟩
            have hT10 := (hT9.below ((Below.refl _ w9).drew)).chgA hTa' hNx
            refine hK.out _ _ hT10.a.bel ?_
            (try simp only [Act.put, List.setIfInBounds_toArray, List.set_cons_zero, List.set_cons_succ])
            repeat ((refine ord_q (v := ?_) rfl rfl (fun _ _ _ h => h) rfl (fun W hW => ?_) ?_); rotate_left; (focus ((try dsimp only at hW); have q0 := (hW.cell (p := ⟨b, o + k * 2, none⟩) hbl).trans d1; have q1 := (hW.cell (p := ⟨b, o + k * 2 + 1, none⟩) hbl).trans d2; have q2 := Nat.lt_of_lt_of_le hbl hW.size; first | (go_simp; first | done | with_reducible rfl))); (try simp only [Act.put, List.setIfInBounds_toArray, List.set_cons_zero, List.set_cons_succ]))
            refine ord_nil ?_
            have hgd2 := putP_gd hgd ps[k].1 ps[k].2
            have hln2 := putP_len cs ps[k].1 ps[k].2
            unfold putP at hgd2 hln2
            rw [if_pos HGOOD.out] at hgd2 hln2
            go_wp2_with fail
            go_roundw
            case rel => exact ⟨k + 1, Sa', Sb, _, by omega, by go_num, hT10, by omega, hgd2⟩
            case measure => simp [intOf]; omega
          · have HGOOD := Lib.hid hgood; clear hgood
            go_wp2_with (go_at_call 17; go_must (refine HG.out.mono ?_; rintro e wg ⟨rfl, hw⟩; subst wg))
            refine wp_region_ord (fun W => Below w.heap.size w W) (fun i => !([13].contains i)) [0, 1, 2, 3, 4, 5, 6, 7, 8, 9, 10, 11, 12, 13, 14] rfl (by kernel_rfl) hTr.a.bel.drew ?_
            repeat ((refine ord_q (v := ?_) rfl rfl (fun _ _ _ h => h) rfl (fun W hW => ?_) ?_); rotate_left; (focus ((try dsimp only at hW); have q0 := (hW.cell (p := ⟨b, o + k * 2, none⟩) hbl).trans d1; have q1 := (hW.cell (p := ⟨b, o + k * 2 + 1, none⟩) hbl).trans d2; have q2 := Nat.lt_of_lt_of_le hbl hW.size; first | (go_simp; first | done | with_reducible rfl))); (try simp only [Act.put, List.setIfInBounds_toArray, List.set_cons_zero, List.set_cons_succ]))
            refine ord_e rfl rfl rfl ?_; intro K hK; go_simp
            refine (good_no _ _ _ HGOOD.out).mono ?_; rintro e w8 ⟨rfl, hw⟩; subst w8
            refine hK.out _ _ hTr.a.bel.drew ?_
            (try simp only [Act.put, List.setIfInBounds_toArray, List.set_cons_zero, List.set_cons_succ])
            repeat ((refine ord_q (v := ?_) rfl rfl (fun _ _ _ h => h) rfl (fun W hW => ?_) ?_); rotate_left; (focus ((try dsimp only at hW); have q0 := (hW.cell (p := ⟨b, o + k * 2, none⟩) hbl).trans d1; have q1 := (hW.cell (p := ⟨b, o + k * 2 + 1, none⟩) hbl).trans d2; have q2 := Nat.lt_of_lt_of_le hbl hW.size; first | (go_simp; first | done | with_reducible rfl))); (try simp only [Act.put, List.setIfInBounds_toArray, List.set_cons_zero, List.set_cons_succ]))
            refine ord_nil ?_
            go_wp2_with fail
            go_roundw
            case rel => exact ⟨k + 1, Sa, Sb, cs, by omega, by go_num, hTr.below ((Below.refl _ wr).drew), by omega, hgd⟩
            case measure => simp [intOf]; omega
      · obtain rfl : k = ps.length := by omega
        have x1 : ¬ (ps.length : Int) < (ps.length : Int) := by omega
        have hn2 : cs.length ≤ 200 := by omega
        obtain ⟨_, rv, hrb, hrv⟩ := hTr.ref
        obtain ⟨c0, _, lr⟩ := cellR hrb
        obtain ⟨ro, rc, rfl, _, _, _, _⟩ := IsSl.form hrv
        clear hlt hcl
        go_wp2_with fail
        go_loopw [9] (fun i wr2 => ∃ (m : Nat) (Sb2 : Nat → Prop), m ≤ cs.length ∧ i = .int .i64 ((m : Int) - 1) ∧ Tri w ta ma tb mb r Sa Sb2 cs (cs.drop m) cs wr2) (fun i _ => (intOf i + 1).toNat)
        case atStart => exact ⟨cs.length, Sb, Nat.le_refl _, rfl, by rw [List.drop_length]; exact hTr⟩
        case round =>
          clear c0 lr hrb hrv hTr
          obtain ⟨m, Sb2, hm, rfl, hT2⟩ := hrel
          by_cases hm0 : 0 < m
          · obtain ⟨j, rfl⟩ : ∃ j, m = j + 1 := ⟨m - 1, by omega⟩
            have hj : j < cs.length := by omega
            have e1 : ((j + 1 : Nat) : Int) - 1 = (j : Int) := by omega
            rw [e1]
            have hj' : (j : Int) < (cs.length : Int) := by omega
            have hds : cs.drop j = cs[j] :: cs.drop (j + 1) := List.drop_eq_getElem_cons hj
            have hrd : RisingP (cs.drop j) := hr.sublist (List.drop_sublist _ _)
            have hif := ins_front (p := cs[j]) (r := cs.drop (j + 1)) (by rw [← hds]; exact hrd)
            rw [← hds] at hif
            have hgj := hgd _ (List.getElem_mem hj)
            have hPB := (hT2.below ((Below.refl _ wr).drew)).b.put cs[j].1 cs[j].2 (by simp; omega)
            unfold putP at hPB
            rw [if_pos hgj, if_pos hgj, hif] at hPB
            have HPB := Lib.hid hPB; clear hPB
            clear hds hrd hif e1
            obtain ⟨_, rv, hrb, hrv⟩ := hT2.ref
            obtain ⟨c0, _, lr⟩ := cellR hrb
            obtain ⟨ro, rc, rfl, _, _, _, _⟩ := IsSl.form hrv
            obtain ⟨rb, rp, rfl, d1, d2⟩ := hrv.at rfl j hj
            have lb := World.block_lt_of_cell? wr _ d1
            go_wp2_with fail
            refine wp_region_ord (fun W => W.cell? ⟨r, 0, none⟩ = some (.slice (some ⟨rb, rp, none⟩) cs.length rc) ∧ r < W.heap.size ∧ W.cell? ⟨rb, rp + j * 2, none⟩ = some (.string cs[j].1) ∧ W.cell? ⟨rb, rp + j * 2 + 1, none⟩ = some (.string cs[j].2) ∧ rb < W.heap.size) (fun i => !([17].contains i)) [0, 1, 2, 3, 4, 5, 6, 7, 8, 9, 10, 11, 12, 13, 14, 15, 16, 17, 18] rfl (by kernel_rfl) ⟨c0, lr, d1, d2, lb⟩ ?_
            repeat ((refine ord_q (v := ?_) rfl rfl (fun _ _ _ h => h) rfl (fun W hW => ?_) ?_); rotate_left; (focus ((try dsimp only at hW); obtain ⟨q0, q1, q2, q3, q4⟩ := hW; first | (go_simp; first | done | with_reducible rfl))); (try simp only [Act.put, List.setIfInBounds_toArray, List.set_cons_zero, List.set_cons_succ]))
            refine ord_e rfl rfl rfl ?_; intro K hK; go_simp
            refine HPB.out.mono ?_; rintro e w10 ⟨rfl, Sb3, hTb3, hNx⟩
            have hT10 := (hT2.below ((Below.refl _ wr).drew)).chgB hTb3 hNx
            have hs10 : Keep (fun g => Uab Sa ta Sb2 tb g) wr w10 := ((Keep.refl (fun g => Uab Sa ta Sb2 tb g) wr).drew).trans hNx.1 (fun _ _ x => .inr x)
            have hrU : ¬ Uab Sa ta Sb2 tb r := hT2.ref.1
            have hbU : ¬ Uab Sa ta Sb2 tb rb := by
              obtain ⟨_, _, e, _, _, _, _, h5, _⟩ := hrv
              cases e
              exact (h5 _ rfl).2.2
            refine hK.out _ _ ⟨(hs10.cell (p := ⟨r, 0, none⟩) lr hrU).trans c0, Nat.lt_of_lt_of_le lr hs10.size, (hs10.cell (p := ⟨rb, rp + j * 2, none⟩) lb hbU).trans d1, (hs10.cell (p := ⟨rb, rp + j * 2 + 1, none⟩) lb hbU).trans d2, Nat.lt_of_lt_of_le lb hs10.size⟩ ?_
            (try simp only [Act.put, List.setIfInBounds_toArray, List.set_cons_zero, List.set_cons_succ])
            repeat ((refine ord_q (v := ?_) rfl rfl (fun _ _ _ h => h) rfl (fun W hW => ?_) ?_); rotate_left; (focus ((try dsimp only at hW); obtain ⟨q0, q1, q2, q3, q4⟩ := hW; first | (go_simp; first | done | with_reducible rfl))); (try simp only [Act.put, List.setIfInBounds_toArray, List.set_cons_zero, List.set_cons_succ]))
            refine ord_nil ?_
            go_wp2_with fail
            go_roundw
            case rel => exact ⟨j, Sb3, by omega, by go_num, hT10⟩
            case measure => simp [intOf]
          · obtain rfl : m = 0 := by omega
            rw [List.drop_zero] at hT2
            have e1 : ((0 : Nat) : Int) - 1 = -1 := rfl
            rw [e1]
            have hWA := hT2.a.whole (by omega)
            have HWA := Lib.hid hWA; clear hWA
            go_wp2_with (first
              | (go_at_call 21; go_must (refine HWA.out.mono ?_; rintro e wa ⟨va, rfl, hva, hba⟩; refine Stop.of ?_)))
            refine Stop.on ?_
            have hTa := hT2.below hba
            have hWB := hTa.b.whole (by omega)
            have HWB := Lib.hid hWB; clear hWB
            go_wp2_with (first
              | (go_at_call 21; go_must (refine HWB.out.mono ?_; rintro e wb ⟨vb, rfl, hvb, hbb⟩; refine Stop.of ?_)))
            refine Stop.on ?_
            have hTb := hTa.below hbb
            have hva2 := IsSl.below hva hbb
            obtain ⟨_, rv, hrb, hrv⟩ := hTb.ref
            obtain ⟨c0, _, lr⟩ := cellR hrb
            go_wp2_with (first
              | (go_at_call 22; go_must ((refine (same_yes va vb cs _ Sa Sb2 hva2 hvb).mono ?_); rintro e w11 ⟨rfl, hb11⟩; refine Stop.of ?_)))
            refine Stop.on ?_
            have hva3 := IsSl.below hva2 hb11
            have hrv3 := IsSl.below hrv hb11
            have c03 := (hb11.cell (p := ⟨r, 0, none⟩) lr).trans c0
            have lr3 := Nat.lt_of_lt_of_le lr hb11.size
            clear c0 lr
            go_wp2_with (first
              | (go_at_call 22; go_must ((refine (same_yes va rv cs _ Sa _ hva3 hrv3).mono ?_); rintro e w12 ⟨rfl, hb12⟩)))
            go_ret
            exact ⟨rfl, (hTb.below hb11).a.bel.trans (hb12.mono (hTb.below hb11).a.bel.size)⟩
end Go.Proofs.Ytbldcbakhpdigaa

namespace Go.Proofs.Ytbldcbakhpdigaa
open Go.RowKit Go.ChangeShapes Go.WideShapes Go.ChangeAt Go.Joins
open Go.ChangeMaps (open_string shut_string)

theorem laid_outO : laidOutB Try.prog = true := by kernel_rfl
theorem own_noneO : ownKnob Try.prog.godebug = none := by kernel_rfl

set_option maxRecDepth 100000 in
set_option maxHeartbeats 2000000 in
theorem order_lifted (os : Os) (started : os.Started) (H : Type) (enc : TypeId × Value → H) :
    ReturnsInHanded {} Try.checked os 4 .any (Rows.btreeOrderSpec.pre6 enc Try.prog Try.f4 Rows.btreeOrderRow.domain false) (Rows.btreeOrderSpec.post enc Try.prog Try.f4 false true false false) := by
  refine returnsInHanded_of_change (C := Try.checked) own_noneO started (by kernel_rfl) Try.func4
    (ChangeSpec.witness6 (enc := enc) (C := Try.checked) false ⟨#[], #[.slice none 0 0], []⟩ 8 (by kernel_rfl) (by kernel_rfl) (by kernel_rfl) (by kernel_rfl)) ?_
  intro W base args ds gs before hval0 hW hcnd _
  have hval : ∀ (j : Nat) t v, Try.f4.params[j]? = some t → args[j]? = some v → Value.okWide Try.prog W .any base t v := hval0
  have hW' := hW
  obtain ⟨p, q, hA0, hV, rfl, hfz, hnd⟩ := hW
  have hA : DataW.TrodAll enc Try.prog W 0 (fun _ => true) true Try.f4.params.toList args.toList ds p := hA0
  rw [Try.params4] at hA hval
  obtain ⟨v0, d0, rfl, rfl, h0⟩ := trodAll_one hA
  obtain ⟨rfl, rfl⟩ := trodVars_none hV
  simp only [List.append_nil] at hW'
  have hlt : ∀ x ∈ p, x.block < W.heap.size := fun x hx => by have := hW'.lt x (by simpa using hx); simpa using this
  have h0k := h0
  obtain ⟨a0, len, cap, rfl⟩ := okWide_slice Try.underlying40 (hval 0 40 v0 rfl rfl)
  obtain ⟨fuel, hf⟩ := h0
  obtain ⟨v, ps, e1, hps⟩ := open_prs (by simpa [Value.cells] using hf)
  simp at e1
  subst e1
  clear hA0 hval0
  refine (order_walk _ ps W hps).mono fun e W' ⟨he, hb⟩ => ?_
  subst he
  refine ⟨_, rfl, _, _, _, [], p, [], hW', ?_, ?_, rfl, hb.frame _, fun h => by cases h⟩
  · exact trodAll_mk1 (shut_bool Try.underlying4 true)
  · exact trodAll_mk1 (Below.trod laid_outO (by kernel_rfl) (of_decide_eq_true (by kernel_rfl)) h0k hb hlt)

theorem order_holds : Rows.BtreeOrderSaid :=
  OpenClaim.holds_of_wide (p := Try.pinned) (s := Rows.btreeOrderSpec) (c := Rows.btreeOrderRow) 4 Try.f4 rfl rfl rfl rfl rfl rfl rfl ⟨rfl, rfl, rfl, rfl, rfl⟩ rfl rfl rfl rfl rfl (by kernel_rfl) Try.func4 (by kernel_rfl)
    (of_decide_eq_true (by kernel_rfl)) (by unfold Func.isWrapper; first | (rw [if_pos (by decide +kernel)]; kernel_rfl) | (rw [if_neg (by decide +kernel)]; exact ⟨rfl, rfl⟩))
    (fun os started H enc _ => order_lifted os started H enc)
#print axioms order_holds
end Go.Proofs.Ytbldcbakhpdigaa

