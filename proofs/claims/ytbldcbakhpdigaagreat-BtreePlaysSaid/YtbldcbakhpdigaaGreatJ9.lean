/- all that BtreePlays stands on. -/
import Derived.Test.YtbldcbakhpdigaaGreatJ8
import Derived.Shelf.Sort.Plain
import Derived.Shelf.Slices.In.SortNone
import Derived.Sort.OwnSortedInts
import Derived.Deep.SlicePairs
import Derived.Lib.SmallJoins
/- The document's answer: Scan, Same. -/
namespace Go.Proofs.YtbldcbakhpdigaaGreat
open Go.RowKit

def scL (rs : List Pr) (P M k : Nat) : List Pr := ((rs.take k).drop P).take M
theorem scL_len (rs : List Pr) (P M k : Nat) (hk : k ≤ rs.length) : (scL rs P M k).length = min (k - P) M := by
  unfold scL; simp; omega
theorem scL_no (rs : List Pr) (P M k : Nat) (hk : k < rs.length) (h : k < P ∨ M ≤ k - P) : scL rs P M (k + 1) = scL rs P M k := by
  unfold scL
  rw [List.take_succ_eq_append_getElem hk]
  rcases h with h | h
  · rw [List.drop_of_length_le (by simp; omega), List.drop_of_length_le (by simp; omega)]
  · rw [List.drop_append, List.take_append_of_le_length (by simp; omega)]
theorem scL_yes (rs : List Pr) (P M k : Nat) (hk : k < rs.length) (h : P ≤ k) (h2 : k - P < M) : scL rs P M (k + 1) = scL rs P M k ++ [rs[k]] := by
  unfold scL
  rw [List.take_succ_eq_append_getElem hk, List.drop_append_of_le_length (by simp; omega)]
  have hx : ((rs.take k).drop P).length = k - P := by simp; omega
  generalize (rs.take k).drop P = X at hx
  rw [List.take_of_length_le (l := X) (by omega), List.take_of_length_le (by rw [List.length_append, List.length_singleton]; omega)]

set_option maxRecDepth 100000 in
set_option maxHeartbeats 4000000 in
theorem rscan_any (r : Nat) (rs : List Pr) (key : ByteArray) (most : Int) (w : World) (S : Nat → Prop) (hsub : ∀ g, S g → g < w.heap.size) (h : IsRef w S r rs) (hr : RisingP rs) (hl : rs.length ≤ 90000) :
    Calls Tryz.prog 21 #[.pointer (some ⟨r, 0, none⟩), .string key, .int .i64 most] w fun e w' => ∃ v, e = .returned v ∧ IsPrs w' S v ((rs.drop (posAt rs key)).take most.toNat) ∧ Below w.heap.size w w' := by
  obtain ⟨hSr, v, hb, hv⟩ := h
  obtain ⟨c0, cf, lr⟩ := cellR hb
  obtain ⟨ao, cp, rfl, _, _, _, _⟩ := IsSl.form hv
  obtain ⟨f1, f2⟩ := posAt_facts key rs hr
  have hPl := posAt_le rs key
  generalize posAt rs key = P at *
  have HF1 := Lib.hid f1; clear f1
  have HF2 := Lib.hid f2; clear f2
  obtain ⟨M, hM⟩ : ∃ M, M = most.toNat := ⟨_, rfl⟩
  rw [← hM]
  have HM := Lib.hid hM; clear hM
  go_enter Tryz.func21, Tryz.ntmps21
  go_wp2
  go_loopw [7, 8] (fun l i wr => ∃ (k : Nat), k ≤ rs.length ∧ i = .int .i64 k ∧ OwnSl wr S w.heap.size 53 2 l (scL rs P M k).length (prCells (scL rs P M k)) ∧ Below w.heap.size w wr) (fun _ i _ => rs.length - (intOf i).toNat)
  case atStart => exact ⟨0, Nat.zero_le _, rfl, by have : scL rs P M 0 = [] := (by simp [scL]); rw [this]; exact OwnSl.nil _ _ _ _ _, Below.refl _ _⟩
  case round =>
    obtain ⟨k, hk, rfl, hown, hbel⟩ := hrel
    have hbr := (hbel.block r lr).trans hb
    obtain ⟨c0', cf', lr'⟩ := cellR hbr
    have hpl := scL_len rs P M k hk
    have hsubR : ∀ g, S g → g < wr.heap.size := fun g hg => Nat.lt_of_lt_of_le (hsub g hg) hbel.size
    generalize hn : (scL rs P M k).length = n at hown hpl
    have HN := Lib.hid hn; clear hn
    have hn1 : n ≤ 90000 := by omega
    obtain ⟨lo, lc, rfl, _, _, _, _⟩ := IsSl.form hown.isSl
    by_cases hlt : k < rs.length
    · obtain ⟨b, o, rfl, d1, d2⟩ := hv.at rfl k hlt
      have d1' := (hbel.cell (p := ⟨b, o + k * 2, none⟩) (World.block_lt_of_cell? w _ d1)).trans d1
      have d2' := (hbel.cell (p := ⟨b, o + k * 2 + 1, none⟩) (World.block_lt_of_cell? w _ d2)).trans d2
      have hbl := World.block_lt_of_cell? wr _ d1'
      have hlt' : (k : Int) < (rs.length : Int) := by omega
      clear d1 d2
      by_cases hP : P ≤ k
      · have hg : Op.bytesLess rs[k].1.toList key.toList = false := HF2.out k hlt hP
        by_cases hM : k - P < M
        · have hm : (n : Int) < most := by have := HM.out; omega
          have hba := below_one wr (.cells #[.string rs[k].1, .string rs[k].2] 53)
          have HPL := Lib.hid hpl; clear hpl
          go_wp2_with (at_builtin; (refine wpList_app rfl (.tmp 34) (.tmp 42) 29 29 rfl S w.heap.size 53 2 32 _ Tryz.underlying29 info_pair rfl (.slice lo n lc) n _ rfl (hown.below hba) (.slice (some ⟨wr.heap.size, 0, none⟩) 1 1) 1 [.string rs[k].1, .string rs[k].2] rfl (src_new (w := wr) [.string rs[k].1, .string rs[k].2] 53 2 1 1 rfl Tryz.underlying29 rfl (by intro u hu; simp only [List.mem_cons, List.not_mem_nil, or_false] at hu; rcases hu with rfl | rfl <;> rfl)) (sub_alloc hsubR _) ?_ ?_ ?_ ?_); go_must ((focus (have := hbel.size; simp only [World.size_alloc]; omega)); (focus (unfold maxLen; omega)); (focus omega); intro ao3 c3 w3 hown3 hk3 hb3 hd3))
          go_roundw
          case rel =>
            refine ⟨k + 1, by omega, by go_num, ?_, (hbel.trans (hba.mono hbel.size)).trans hb3⟩
            rw [scL_yes rs P M k hlt hP hM, List.length_append, HN.out, prCells_append]
            exact hown3
          case measure => simp [intOf]; omega
        · have hm : ¬ (n : Int) < most := by have := HM.out; omega
          have HPL := Lib.hid hpl; clear hpl
          go_wp2_with fail
          go_roundw
          case rel =>
            refine ⟨k + 1, by omega, by go_num, ?_, hbel⟩
            rw [scL_no rs P M k hlt (.inr (by omega)), HN.out]
            exact hown
          case measure => simp [intOf]; omega
      · have hg : Op.bytesLess rs[k].1.toList key.toList = true := HF1.out k hlt (by omega)
        have HPL := Lib.hid hpl; clear hpl
        go_wp2_with fail
        go_roundw
        case rel =>
          refine ⟨k + 1, by omega, by go_num, ?_, hbel⟩
          rw [scL_no rs P M k hlt (.inl (by omega)), HN.out]
          exact hown
        case measure => simp [intOf]; omega
    · obtain rfl : k = rs.length := by omega
      have x1 : ¬ (rs.length : Int) < (rs.length : Int) := by omega
      have HPL := Lib.hid hpl; clear hpl
      go_wp2_with fail
      go_ret
      refine ⟨_, rfl, ?_, hbel⟩
      have e : scL rs P M rs.length = (rs.drop P).take M := by unfold scL; rw [List.take_length]
      rw [← e]
      unfold IsPrs
      rw [HN.out]
      exact hown.isSl

set_option maxRecDepth 100000 in
set_option maxHeartbeats 4000000 in
/-- two lists that are the same -/
theorem same_yes (a b : Value) (ps : List Pr) (w : World) (S1 S2 : Nat → Prop) (ha : IsPrs w S1 a ps) (hb : IsPrs w S2 b ps) :
    Calls Tryz.prog 13 #[a, b] w fun e w' => e = .returned (.bool true) ∧ Below w.heap.size w w' := by
  obtain ⟨ao, ac, rfl, _, _, _, _⟩ := IsSl.form ha
  obtain ⟨bo, bc, rfl, _, _, _, _⟩ := IsSl.form hb
  go_enter Tryz.func13, Tryz.ntmps13
  go_wp2
  go_loopw [5] (fun i wr => ∃ k : Nat, k ≤ ps.length ∧ i = .int .i64 k ∧ Below w.heap.size w wr) (fun i _ => ps.length - (intOf i).toNat)
  case atStart => exact ⟨0, Nat.zero_le _, rfl, Below.refl _ _⟩
  case round =>
    obtain ⟨k, hk, rfl, hbel⟩ := hrel
    by_cases hlt : k < ps.length
    · obtain ⟨b1, o1, rfl, d1, d2⟩ := ha.at rfl k hlt
      obtain ⟨b2, o2, rfl, d3, d4⟩ := hb.at rfl k hlt
      have hlt' : (k : Int) < (ps.length : Int) := by omega
      have l1 := World.block_lt_of_cell? w _ d1
      have l2 := World.block_lt_of_cell? w _ d3
      go_wp2_with fail
      refine wp_region_ord (fun W => Below w.heap.size w W) (fun _ => true) [0, 1, 2, 3, 4, 5, 6, 7, 8] rfl (by kernel_rfl) hbel.drew ?_
      repeat ((refine ord_q (v := ?_) rfl rfl (fun _ _ _ h => h) rfl (fun W hW => ?_) ?_); rotate_left; (focus ((try dsimp only at hW); have q0 := (hW.cell (p := ⟨b1, o1 + k * 2, none⟩) l1).trans d1; have q1 := (hW.cell (p := ⟨b1, o1 + k * 2 + 1, none⟩) l1).trans d2; have q2 := (hW.cell (p := ⟨b2, o2 + k * 2, none⟩) l2).trans d3; have q3 := (hW.cell (p := ⟨b2, o2 + k * 2 + 1, none⟩) l2).trans d4; have q4 := Nat.lt_of_lt_of_le l1 hW.size; have q5 := Nat.lt_of_lt_of_le l2 hW.size; first | (go_simp; first | done | with_reducible rfl))); (try simp only [Act.put, List.setIfInBounds_toArray, List.set_cons_zero, List.set_cons_succ]))
      refine ord_nil ?_
      go_wp2_with fail
      go_roundw
      case rel => exact ⟨k + 1, by omega, by go_num, hbel.drew⟩
      case measure => simp [intOf]; omega
    · obtain rfl : k = ps.length := by omega
      have x1 : ¬ (ps.length : Int) < (ps.length : Int) := by omega
      go_wp2_with fail
      go_ret
      exact ⟨rfl, hbel⟩
end Go.Proofs.YtbldcbakhpdigaaGreat

/- fixed: the document's examples. -/
namespace Go.Proofs.YtbldcbakhpdigaaGreat
open Go.RowKit

abbrev sA : ByteArray := ⟨#[97]⟩
abbrev sB : ByteArray := ⟨#[98]⟩
abbrev s1 : ByteArray := ⟨#[49]⟩
abbrev s2 : ByteArray := ⟨#[50]⟩
theorem ins1 : insP [] sA s1 = [(sA, s1)] := by kernel_rfl
theorem ins2 : insP [(sA, s1)] sB s2 = [(sA, s1), (sB, s2)] := by kernel_rfl
theorem look1 : lookP [(sA, s1), (sB, s2)] sA = some s1 := by kernel_rfl
theorem del1 : delP [(sA, s1), (sB, s2)] sA = [(sB, s2)] := by kernel_rfl
theorem drop1 : [(sB, s2)].drop (posAt [(sB, s2)] ⟨#[]⟩) = [(sB, s2)] := by kernel_rfl
theorem rise2 : RisingP [(sA, s1), (sB, s2)] := by
  have h : lt sA sB = true := by kernel_rfl
  simp [RisingP, h]

/-- a tree of at most one leaf, and its store, all of it new since w0 -/
def TinyAt (w0 : World) (t mp : Nat) (ps : List Pr) (most : Nat) (w : World) : Prop :=
  ∃ σ S root, Inv σ S mp w ∧ TreeAt w t mp root 0 ∧ ¬ S t ∧ Tiny σ root ps ∧ σ.most = most ∧ Below w0.heap.size w0 w ∧ (∀ g, S g → w0.heap.size ≤ g) ∧ w0.heap.size ≤ t

theorem TinyAt.below {w0 w w' : World} {t mp m : Nat} {ps : List Pr} (h : TinyAt w0 t mp ps m w) (hb : Below w.heap.size w w') : TinyAt w0 t mp ps m w' := by
  obtain ⟨σ, S, root, h1, h2, h3, h4, h5, h6, h7, h8⟩ := h
  exact ⟨σ, S, root, h1.below hb, (hb.block t (Array.getElem?_eq_some_iff.1 h2).1).trans h2, h3, h4, h5, h6.trans (hb.mono h6.size), h7, h8⟩
theorem TinyAt.chg {w0 w w' : World} {t mp m : Nat} {ps : List Pr} {S : Nat → Prop} (hb : Below w0.heap.size w0 w) (hS : ∀ g, S g → w0.heap.size ≤ g) (ht : w0.heap.size ≤ t) (h : ChgPost t mp S (fun σ' b => Tiny σ' b ps ∧ σ'.most = m) w w') : TinyAt w0 t mp ps m w' := by
  obtain ⟨σ', S', b, h1, h2, h3, ⟨h4, h5⟩, h6, h7⟩ := h
  exact ⟨σ', S', b, h1, h2, h3, h4, h5, hb.trans (h6.toBelow hb.size (fun i hi x => x.elim (fun y => absurd hi (Nat.not_lt.2 (hS i y))) (fun y => absurd hi (by rw [y]; exact Nat.not_lt.2 ht)))), fun g hg => (h7 g hg).elim (hS g) (fun y => Nat.le_trans hb.size y), ht⟩

theorem TinyAt.put {w0 w : World} {t mp m : Nat} {ps qs : List Pr} (h : TinyAt w0 t mp ps m w) (key value : ByteArray) (hr : RisingP ps) (hg : GoodKV key value) (hq : insP ps key value = qs) (ok : Nd.Ok ⟨qs, [], []⟩) (hs : Nd.size ⟨qs, [], []⟩ ≤ 512) (hm : qs.length + 1 ≤ m) :
    Calls Tryz.prog 14 #[.pointer (some ⟨t, 0, none⟩), .string key, .string value] w fun e w' => e = .returned (.int .i64 0) ∧ TinyAt w0 t mp qs m w' := by
  obtain ⟨σ, S, root, h1, h2, h3, h4, rfl, h6, h7, h8⟩ := h
  subst hq
  refine (put_tiny t mp root σ S ps key value w h1 h2 h3 h4 hr hg ok hs hm).mono ?_
  rintro e w' ⟨rfl, hc⟩
  exact ⟨rfl, TinyAt.chg h6 h7 h8 hc⟩
theorem TinyAt.delete {w0 w : World} {t mp m : Nat} {ps qs : List Pr} (h : TinyAt w0 t mp ps m w) (key x : ByteArray) (hr : RisingP ps) (hg : 1 ≤ key.size ∧ key.size ≤ 128) (hx : lookP ps key = some x) (hq : delP ps key = qs) (ok : Nd.Ok ⟨qs, [], []⟩) (hs : Nd.size ⟨qs, [], []⟩ ≤ 512) (hm : qs.length + 1 ≤ m) :
    Calls Tryz.prog 16 #[.pointer (some ⟨t, 0, none⟩), .string key] w fun e w' => e = .returned (.tuple #[.bool true, .int .i64 0]) ∧ TinyAt w0 t mp qs m w' := by
  obtain ⟨σ, S, root, h1, h2, h3, h4, rfl, h6, h7, h8⟩ := h
  subst hq
  refine (delete_tiny t mp root σ S ps key x w h1 h2 h3 h4 hr hg hx ok hs hm).mono ?_
  rintro e w' ⟨rfl, hc⟩
  exact ⟨rfl, TinyAt.chg h6 h7 h8 hc⟩
theorem TinyAt.get {w0 w : World} {t mp m : Nat} {ps : List Pr} (h : TinyAt w0 t mp ps m w) (key : ByteArray) (r : Option ByteArray) (hr : RisingP ps) (hg : 1 ≤ key.size ∧ key.size ≤ 128) (hx : lookP ps key = r) :
    Calls Tryz.prog 15 #[.pointer (some ⟨t, 0, none⟩), .string key] w fun e w' => e = .returned (.tuple #[.string (r.getD ⟨#[]⟩), .bool r.isSome, .int .i64 0]) ∧ TinyAt w0 t mp ps m w' := by
  have h0 := h
  obtain ⟨σ, S, root, h1, h2, h3, h4, h5, h6, h7, h8⟩ := h
  refine (get_any t mp root σ S key r w h1 h2 hg.1 hg.2 0 (by omega) (by rw [← hx]; exact h4.look hr key)).mono ?_
  rintro e w' ⟨rfl, hb⟩
  exact ⟨rfl, h0.below hb⟩
theorem TinyAt.scan {w0 w : World} {t mp m : Nat} {ps L : List Pr} (h : TinyAt w0 t mp ps m w) (key : ByteArray) (most : Int) (hne : ps ≠ []) (hr : RisingP ps) (hm : 0 < most) (hx : ps.drop (posAt ps key) = L) (hl : ps.length ≤ 1000) :
    Calls Tryz.prog 12 #[.pointer (some ⟨t, 0, none⟩), .string key, .int .i64 most] w fun e w' => ∃ v, e = .returned (.tuple #[v, .int .i64 0]) ∧ IsPrs w' NoS v (L.take most.toNat) ∧ TinyAt w0 t mp ps m w' := by
  have h0 := h
  obtain ⟨σ, S, root, h1, h2, h3, h4, h5, h6, h7, h8⟩ := h
  subst hx
  refine (scan_any t mp root σ S key most _ 0 w h1 h2 (by have := (h4.one hne).2.lo; omega) hm (by omega) (h4.walk hne hr key) (by rw [List.length_drop]; omega)).mono ?_
  rintro e w' ⟨v, rfl, hv, hb⟩
  refine ⟨v, rfl, ?_, h0.below hb⟩
  obtain ⟨ao, c, e1, e2, e3, e4, e5, e6, e7⟩ := hv
  exact ⟨ao, c, e1, e2, e3, e4, e5, fun ad had => ⟨(e6 ad had).1, (e6 ad had).2.1, id⟩, e7⟩
theorem TinyAt.used {w0 w : World} {t mp m : Nat} {ps : List Pr} (h : TinyAt w0 t mp ps m w) (hne : ps ≠ []) :
    Calls Tryz.prog 8 #[.pointer (some ⟨mp, 0, none⟩)] w fun e w' => e = .returned (.int .i64 1) ∧ TinyAt w0 t mp ps m w' := by
  have h0 := h
  obtain ⟨σ, S, root, h1, h2, h3, h4, h5, h6, h7, h8⟩ := h
  refine (used_any mp σ S w h1).mono ?_
  rintro e w' ⟨rfl, rfl⟩
  exact ⟨by rw [(h4.one hne).1]; rfl, h0⟩
theorem TinyAt.bad {w0 w : World} {t mp m : Nat} {ps : List Pr} (h : TinyAt w0 t mp ps m w) (key value : ByteArray) (hb : ¬ GoodKV key value) :
    Calls Tryz.prog 14 #[.pointer (some ⟨t, 0, none⟩), .string key, .string value] w fun e w' => e = .returned (.int .i64 1) ∧ TinyAt w0 t mp ps m w' := by
  have h0 := h
  obtain ⟨σ, S, root, h1, h2, h3, h4, h5, h6, h7, h8⟩ := h
  refine (put_bad t mp root key value w h2 hb).mono ?_
  rintro e w' ⟨rfl, hb⟩
  exact ⟨rfl, h0.below hb⟩
theorem TinyAt.start (w0 w1 w2 : World) (n : Int) (h1 : Inv (MSt.new n w0.heap.size) (fun g => w0.heap.size ≤ g ∧ g < w0.heap.size + 3) (w0.heap.size + 2) w1) (hs : w1.heap.size = w0.heap.size + 3) (hb1 : Below w0.heap.size w0 w1) (ht : TreeAt w2 w1.heap.size (w0.heap.size + 2) 0 0) (hb2 : Below w1.heap.size w1 w2) :
    TinyAt w0 w1.heap.size (w0.heap.size + 2) [] (min (max n 0) 4096).toNat w2 :=
  ⟨_, _, 0, h1.below hb2, ht, by omega, ⟨fun _ => ⟨rfl, rfl⟩, fun h => absurd rfl h, rfl⟩, rfl, hb1.trans (hb2.mono hb1.size), fun g hg => hg.1, hb1.size⟩

theorem okL (ps : List Pr) (h : ∀ p ∈ ps, p.1.size ≤ 128 ∧ p.2.size ≤ 64) (hl : ps.length ≤ 2000) : Nd.Ok ⟨ps, [], []⟩ := ⟨h, by simp, by simp, rfl, by simp, hl, by simp⟩
theorem rise1 : RisingP [(sA, s1)] := by simp [RisingP]
theorem rise1' : RisingP [(sB, s2)] := by simp [RisingP]

set_option maxRecDepth 100000 in
set_option maxHeartbeats 4000000 in
theorem fixed_any (w : World) : Calls Tryz.prog 4 #[] w fun e w' => e = .returned (.bool true) ∧ Below w.heap.size w w' := by
  go_enter Tryz.func4, Tryz.ntmps4
  have ok1 := Lib.hid (okL [(sA, s1)] (by simp; decide) (by simp))
  have ok2 := Lib.hid (okL [(sA, s1), (sB, s2)] (by simp; decide) (by simp))
  have ok3 := Lib.hid (okL [(sB, s2)] (by simp; decide) (by simp))
  go_wp2_with (first
    | (go_at_call 5; go_must ((refine (newmem_any 9 w).mono ?_); rintro e w1 ⟨rfl, hI1, hs1, hb1⟩; have HS1 := Lib.hid hs1; clear hs1))
    | (go_at_call 6; go_must ((refine (open_any (w.heap.size + 2) 0 w1 (Int.le_refl _)).mono ?_); rintro e w2 ⟨rfl, ht2, hs2, hb2⟩; have hT := (TinyAt.start w w1 w2 9 hI1 HS1.out hb1 ht2 hb2); clear hI1 hb1 ht2 hs2 hb2))
    | (go_at_call 14; refine (hT.put sA s1 List.Pairwise.nil ?_ ins1 ok1.out ?_ ?_).mono ?_; (focus (exact ⟨⟨by decide, by decide⟩, by decide⟩)); (focus (decide)); (focus (decide)); clear hT; rintro e w3 ⟨rfl, hT3⟩)
    | (go_at_call 14; refine (hT3.put sB s2 rise1 ?_ ins2 ok2.out ?_ ?_).mono ?_; (focus (exact ⟨⟨by decide, by decide⟩, by decide⟩)); (focus (decide)); (focus (decide)); clear hT3; rintro e w4 ⟨rfl, hT4⟩)
    | (go_at_call 8; go_must (refine (hT4.used (by simp)).mono ?_; clear hT4; rintro e w5 ⟨rfl, hT5⟩))
    | (go_at_call 15; go_must (refine (hT5.get sA (some s1) rise2 ⟨by decide, by decide⟩ look1).mono ?_; clear hT5; rintro e w6 ⟨rfl, hT6⟩))
    | (go_at_call 16; go_must (refine (hT6.delete sA s1 rise2 ⟨by decide, by decide⟩ look1 del1 ok3.out ?_ ?_).mono ?_; (focus (decide)); (focus (decide)); clear hT6; rintro e w7 ⟨rfl, hT7⟩))
    | (go_at_call 12; go_must (refine (hT7.scan ⟨#[]⟩ 9 (by simp) rise1' (by decide) drop1 (by decide)).mono ?_; clear hT7; rintro e w8 ⟨v, rfl, hv, hT8⟩; refine Stop.of ?_)))
  have hv' : IsPrs w8 NoS v [(sB, s2)] := hv
  obtain ⟨ao, c, rfl, g1, g2, _, _⟩ := IsSl.form hv'
  obtain ⟨pb, po, rfl, d1, d2⟩ := hv'.at rfl 0 (by decide)
  have d1' : w8.cell? ⟨pb, po, none⟩ = some (.string sB) := d1
  have hpl : pb < w8.heap.size := World.block_lt_of_cell? w8 _ d1
  clear d1 d2 hv hv'
  refine Stop.on ?_
  go_wp2_with (first
    | (go_at_call 14; refine (hT8.bad ⟨#[]⟩ ⟨#[120]⟩ (fun h => absurd h.1.1 (by decide))).mono ?_; rintro e w9 ⟨rfl, hT9⟩))
  go_ret
  obtain ⟨σ, S, root, _, _, _, _, _, h6, _, _⟩ := hT9
  exact ⟨rfl, h6⟩
end Go.Proofs.YtbldcbakhpdigaaGreat

/- A tree on a store of 4096 blocks, as the laws use it; an argument that is a list of pairs. -/
namespace Go.Proofs.YtbldcbakhpdigaaGreat
open Go.RowKit

/-- of the old blocks only the store's and the tree's own have changed; the store's new blocks are new -/
def Nx (S S' : Nat → Prop) (t : Nat) (w w' : World) : Prop := Keep (fun g => S g ∨ g = t) w w' ∧ ∀ g, S' g → S g ∨ w.heap.size ≤ g
theorem Nx.of_below {S : Nat → Prop} {t : Nat} {w w' : World} (h : Below w.heap.size w w') : Nx S S t w w' := ⟨Keep.of_below h _, fun _ h => .inl h⟩

/-- the tree at t over the store at mp has the pairs cs; it and the store lie behind w0 -/
structure TS (w0 : World) (t mp : Nat) (S : Nat → Prop) (cs : List Pr) (w : World) : Prop where
  bel : Below w0.heap.size w0 w
  lo : ∀ g, S g → w0.heap.size ≤ g
  tlo : w0.heap.size ≤ t
  nt : ¬ S t
  is : ∃ σ root bs, Inv σ S mp w ∧ TreeAt w t mp root 0 ∧ TrR σ root cs bs ∧ bs.Nodup ∧ σ.H = .map [] ∧ Maps.size σ.D = bs.length ∧ σ.most = 4096

theorem TS.rise {w0 : World} {t mp : Nat} {S : Nat → Prop} {cs : List Pr} {w : World} (h : TS w0 t mp S cs w) : RisingP cs := by
  obtain ⟨σ, root, bs, _, _, hT, _⟩ := h.is
  exact hT.rise
theorem TS.sub {w0 : World} {t mp : Nat} {S : Nat → Prop} {cs : List Pr} {w : World} (h : TS w0 t mp S cs w) : (∀ g, S g → g < w.heap.size) ∧ t < w.heap.size := by
  obtain ⟨σ, root, bs, hI, hT, _⟩ := h.is
  exact ⟨hI.sub, (Array.getElem?_eq_some_iff.1 hT).1⟩
/-- the tree stays where others change -/
theorem TS.keepM {w0 : World} {t mp : Nat} {S M : Nat → Prop} {cs : List Pr} {w w' : World} (h : TS w0 t mp S cs w) (hk : Keep M w w') (h1 : ∀ g, S g → ¬ M g) (h2 : ¬ M t) (h3 : ∀ g, g < w0.heap.size → ¬ M g) : TS w0 t mp S cs w' := by
  obtain ⟨σ, root, bs, hI, hT, r⟩ := h.is
  have hl := (Array.getElem?_eq_some_iff.1 hT).1
  exact ⟨h.bel.trans (hk.toBelow h.bel.size h3), h.lo, h.tlo, h.nt, σ, root, bs, hI.keepM hk h1, (hk.block t hl h2).trans hT, r⟩
theorem TS.below {w0 : World} {t mp : Nat} {S : Nat → Prop} {cs : List Pr} {w w' : World} (h : TS w0 t mp S cs w) (hb : Below w.heap.size w w') : TS w0 t mp S cs w' :=
  h.keepM (M := fun _ => False) (Keep.of_below hb _) (fun _ _ => id) id (fun _ _ => id)

theorem nh_none {σ : MSt} (h : σ.H = .map []) (bs : List Int) : nh σ bs = bs.length := by
  unfold nh
  rw [List.filter_eq_self.2 fun b _ => by rw [held_none h]; rfl]

theorem TS.chg {w0 : World} {t mp : Nat} {S : Nat → Prop} {cs cs' : List Pr} {w w' : World} {σ : MSt} {bs : List Int} (h : TS w0 t mp S cs w) (hn : bs.Nodup) (hH : σ.H = .map []) (hD : Maps.size σ.D = bs.length) (hm : σ.most = 4096) (hc : ChgPost t mp S (TreeTo σ bs cs') w w') : ∃ S', TS w0 t mp S' cs' w' ∧ Nx S S' t w w' := by
  obtain ⟨σ', S', b, hI, hT, hst, ⟨bs', hR, hC⟩, hk, hS⟩ := hc
  have hlo : ∀ g, g < w0.heap.size → ¬ (S g ∨ g = t) := fun g hg x => x.elim (fun s => absurd hg (Nat.not_lt.2 (h.lo g s))) (fun e => absurd hg (Nat.not_lt.2 (by rw [e]; exact h.tlo)))
  refine ⟨S', ⟨h.bel.trans (hk.toBelow h.bel.size hlo), fun g hg => (hS g hg).elim (h.lo g) (fun y => Nat.le_trans h.bel.size y), h.tlo, hst, σ', b, bs', hI, hT, hR, hC.nd hn, hC.H.trans hH, ?_, hC.most.trans hm⟩, hk, hS⟩
  have := hC.size
  rw [nh_none hH, nh_none hH] at this
  omega

instance (k v : ByteArray) : Decidable (GoodKV k v) := by unfold GoodKV; infer_instance
/-- what Put does to the pairs -/
def putP (cs : List Pr) (key value : ByteArray) : List Pr := if GoodKV key value then insP cs key value else cs
theorem putP_len (cs : List Pr) (key value : ByteArray) : (putP cs key value).length ≤ cs.length + 1 := by
  unfold putP insP
  split
  · split <;> simp; omega
  · omega

theorem TS.put {w0 : World} {t mp : Nat} {S : Nat → Prop} {cs : List Pr} {w : World} (h : TS w0 t mp S cs w) (key value : ByteArray) (hl : cs.length ≤ 2040) :
    Calls Tryz.prog 14 #[.pointer (some ⟨t, 0, none⟩), .string key, .string value] w fun e w' => e = .returned (.int .i64 (if GoodKV key value then 0 else 1)) ∧ ∃ S', TS w0 t mp S' (putP cs key value) w' ∧ Nx S S' t w w' := by
  obtain ⟨σ, root, bs, hI, hT, hR, hn, hH, hD, hm⟩ := h.is
  unfold putP
  by_cases hg : GoodKV key value
  · rw [if_pos hg, if_pos hg]
    refine (put_tree t mp root σ S cs bs key value w hI hT h.nt hR hn (by omega) (by unfold Room; rw [nh_none hH, hD, hm]; omega) hg).mono ?_
    rintro e w' ⟨rfl, hc⟩
    exact ⟨rfl, h.chg hn hH hD hm hc⟩
  · rw [if_neg hg, if_neg hg]
    refine (put_bad t mp root key value w hT hg).mono ?_
    rintro e w' ⟨rfl, hb⟩
    exact ⟨rfl, S, h.below hb, Nx.of_below hb⟩

theorem TS.del {w0 : World} {t mp : Nat} {S : Nat → Prop} {cs : List Pr} {w : World} (h : TS w0 t mp S cs w) (key : ByteArray) (hl : cs.length ≤ 2040) (hg : 1 ≤ key.size ∧ key.size ≤ 128) :
    Calls Tryz.prog 16 #[.pointer (some ⟨t, 0, none⟩), .string key] w fun e w' => e = .returned (.tuple #[.bool (lookP cs key).isSome, .int .i64 0]) ∧ ∃ S', TS w0 t mp S' (delP cs key) w' ∧ Nx S S' t w w' := by
  obtain ⟨σ, root, bs, hI, hT, hR, hn, hH, hD, hm⟩ := h.is
  refine (delete_tree t mp root σ S cs bs key w hI hT h.nt hR hn (by omega) (by unfold Room; rw [nh_none hH, hD, hm]; omega) hg).mono ?_
  rintro e w' ⟨rfl, hc⟩
  exact ⟨rfl, h.chg hn hH hD hm hc⟩

theorem TS.scan {w0 : World} {t mp : Nat} {S : Nat → Prop} {cs : List Pr} {w : World} (h : TS w0 t mp S cs w) (key : ByteArray) (most : Int) (hl : cs.length ≤ 2048) :
    Calls Tryz.prog 12 #[.pointer (some ⟨t, 0, none⟩), .string key, .int .i64 most] w fun e w' => ∃ v, e = .returned (.tuple #[v, .int .i64 0]) ∧ IsPrs w' S v ((cs.drop (posAt cs key)).take most.toNat) ∧ Below w.heap.size w w' := by
  obtain ⟨σ, root, bs, hI, hT, hR, hn, hH, hD, hm⟩ := h.is
  exact scan_tree t mp root σ S cs bs key most w hI hT hR (by omega)

/-- the whole -/
theorem TS.whole {w0 : World} {t mp : Nat} {S : Nat → Prop} {cs : List Pr} {w : World} (h : TS w0 t mp S cs w) (hl : cs.length ≤ 2048) :
    Calls Tryz.prog 12 #[.pointer (some ⟨t, 0, none⟩), .string ⟨#[]⟩, .int .i64 1073741824] w fun e w' => ∃ v, e = .returned (.tuple #[v, .int .i64 0]) ∧ IsPrs w' S v cs ∧ Below w.heap.size w w' := by
  have h1 := h.scan ⟨#[]⟩ 1073741824 hl
  have hp : posAt cs ⟨#[]⟩ = 0 := by
    cases cs with
    | nil => rfl
    | cons p r => simp [posAt, lt_empty]
  rw [hp, List.drop_zero, List.take_of_length_le (by omega)] at h1
  exact h1

theorem TS.used {w0 : World} {t mp : Nat} {S : Nat → Prop} {cs : List Pr} {w : World} (h : TS w0 t mp S cs w) :
    Calls Tryz.prog 8 #[.pointer (some ⟨mp, 0, none⟩)] w fun e w' => (∃ n : Nat, e = .returned (.int .i64 n) ∧ n ≤ 2 * cs.length) ∧ w' = w := by
  obtain ⟨σ, root, bs, hI, hT, hR, hn, hH, hD, hm⟩ := h.is
  refine (used_any mp σ S w hI).mono ?_
  rintro e w' ⟨rfl, rfl⟩
  exact ⟨⟨_, rfl, by rw [hD]; exact hR.count⟩, rfl⟩
/-- nothing is left of a tree without pairs -/
theorem TS.bare {w0 : World} {t mp : Nat} {S : Nat → Prop} {w : World} (h : TS w0 t mp S [] w) :
    Calls Tryz.prog 8 #[.pointer (some ⟨mp, 0, none⟩)] w (fun e w' => e = .returned (.int .i64 0) ∧ w' = w) ∧ Calls Tryz.prog 10 #[.pointer (some ⟨t, 0, none⟩)] w fun e w' => e = .returned (.int .i64 0) ∧ w' = w := by
  obtain ⟨σ, root, bs, hI, hT, hR, hn, hH, hD, hm⟩ := h.is
  have hc := hR.count
  have hr : root = 0 := by
    rcases hR with ⟨h0, _⟩ | ⟨h, ht⟩
    · exact h0
    · exact absurd rfl ht.content.ne
  constructor
  · refine (used_any mp σ S w hI).mono ?_
    rintro e w' ⟨rfl, rfl⟩
    simp at hc
    rw [hD, hc]
    exact ⟨rfl, rfl⟩
  · subst hr
    exact root_any t mp 0 0 w hT

/-- a new store of 4096 blocks and a tree on it -/
theorem TS.new {w0 w w1 w2 : World} {t mp : Nat} (hb0 : Below w0.heap.size w0 w) (hI : Inv (MSt.new 4096 w.heap.size) (fun g => w.heap.size ≤ g ∧ g < w.heap.size + 3) mp w1) (hs : w1.heap.size = w.heap.size + 3) (hb1 : Below w.heap.size w w1) (hT : TreeAt w2 t mp 0 0) (hb2 : Below w1.heap.size w1 w2) (ht : t = w1.heap.size) : TS w0 t mp (fun g => w.heap.size ≤ g ∧ g < w.heap.size + 3) [] w2 :=
  ⟨(hb0.trans (hb1.mono hb0.size)).trans (hb2.mono (Nat.le_trans hb0.size hb1.size)), fun g hg => Nat.le_trans hb0.size hg.1, by rw [ht]; exact Nat.le_trans hb0.size hb1.size, fun h => by omega, _, 0, [], hI.below hb2, hT, .inl ⟨rfl, rfl, rfl⟩, List.nodup_nil, rfl, by simp [MSt.new, Maps.size_eq], rfl⟩

/-- v is a slice that came in: it reads as pairs -/
def IsPL (w : World) (v : Value) (ps : List Pr) : Prop := ∃ ao c, v = .slice ao ps.length c ∧ ps.length ≤ c ∧ c ≤ maxLen ∧
  ∀ i (_ : i < ps.length), ∃ b o, ao = some ⟨b, o, none⟩ ∧ w.cell? ⟨b, o + i * 2, none⟩ = some (.string ps[i].1) ∧ w.cell? ⟨b, o + i * 2 + 1, none⟩ = some (.string ps[i].2)
theorem IsPL.at {w : World} {v : Value} {ps : List Pr} {ao : Option Addr} {n c : Nat} (h : IsPL w v ps) (hv : v = .slice ao n c) (i : Nat) (hi : i < ps.length) :
    ∃ b o, ao = some ⟨b, o, none⟩ ∧ w.cell? ⟨b, o + i * 2, none⟩ = some (.string ps[i].1) ∧ w.cell? ⟨b, o + i * 2 + 1, none⟩ = some (.string ps[i].2) := by
  obtain ⟨ao', c', rfl, _, _, h6⟩ := h
  cases hv
  exact h6 i hi
theorem IsPL.form {w : World} {v : Value} {ps : List Pr} (h : IsPL w v ps) : ∃ ao c, v = .slice ao ps.length c ∧ ps.length ≤ c ∧ c ≤ 9223372036854775807 := by
  obtain ⟨ao, c, rfl, h1, h2, _⟩ := h
  exact ⟨ao, c, rfl, h1, by simpa [maxLen] using h2⟩
end Go.Proofs.YtbldcbakhpdigaaGreat

/- What BtreeEmpty and the later laws need, plain. -/
namespace Go.Proofs.YtbldcbakhpdigaaGreat
open Go.RowKit

theorem look_none {rs : List Pr} (hr : RisingP rs) {key : ByteArray} (h : ∀ p ∈ rs, p.1 ≠ key) : lookP rs key = none := by
  cases hq : lookP rs key with
  | none => rfl
  | some x => exact absurd rfl (h _ ((lookP_some hr).1 hq))
theorem del_front {p : Pr} {r : List Pr} (hr : RisingP (p :: r)) : delP (p :: r) p.1 = r ∧ lookP (p :: r) p.1 = some p.2 ∧ lookP r p.1 = none := by
  obtain ⟨h1, h2⟩ := List.pairwise_cons.1 hr
  have hne : ∀ q ∈ r, q.1 ≠ p.1 := fun q hq e => lt_ne (h1 q hq) e.symm
  refine ⟨?_, (lookP_some hr).2 (by simp), look_none h2 hne⟩
  rw [← filter_del hr, List.filter_cons, if_neg (by rw [eqS rfl]; simp), List.filter_eq_self.2 fun q hq => by rw [neS (hne q hq)]; rfl]
theorem del_last {p : Pr} {r : List Pr} (hr : RisingP (r ++ [p])) : delP (r ++ [p]) p.1 = r ∧ lookP (r ++ [p]) p.1 = some p.2 ∧ lookP r p.1 = none := by
  obtain ⟨h1, _, h3⟩ := List.pairwise_append.1 hr
  have hne : ∀ q ∈ r, q.1 ≠ p.1 := fun q hq e => lt_ne (h3 q hq p (by simp)) e
  refine ⟨?_, (lookP_some hr).2 (by simp), look_none h1 hne⟩
  rw [← filter_del hr, List.filter_append, List.filter_cons, if_neg (by rw [eqS rfl]; simp), List.filter_nil, List.append_nil, List.filter_eq_self.2 fun q hq => by rw [neS (hne q hq)]; rfl]

/-- all keys and values are good -/
def Gd (cs : List Pr) : Prop := ∀ p ∈ cs, GoodKV p.1 p.2
theorem putP_gd {cs : List Pr} (h : Gd cs) (key value : ByteArray) : Gd (putP cs key value) := by
  unfold putP
  split
  · rename_i hg
    intro p hp
    unfold insP at hp
    split at hp
    · rcases List.mem_or_eq_of_mem_set hp with hp | rfl
      · exact h p hp
      · exact hg
    · rcases List.mem_append.1 hp with hp | hp
      · exact h p (List.mem_of_mem_take hp)
      · rcases List.mem_cons.1 hp with rfl | hp
        · exact hg
        · exact h p (List.mem_of_mem_drop hp)
  · exact h

theorem prs_nx {w w' : World} {S S' : Nat → Prop} {v : Value} {ps : List Pr} {t mp : Nat} {root err : Int} (h : IsPrs w S v ps) (ht : TreeAt w t mp root err) (hx : Nx S S' t w w') : IsPrs w' S' v ps := by
  by_cases hp : ps = []
  · subst hp
    obtain ⟨ao, c, rfl, h1, h2, h3, h4, h5, h6⟩ := h
    refine ⟨ao, c, rfl, h1, h2, h3, h4, fun ad had => ?_, fun j u hu => by simp [prCells] at hu⟩
    have := h5 ad had
    exact ⟨this.1, Nat.lt_of_lt_of_le this.2.1 hx.1.size, fun x => (hx.2 _ x).elim this.2.2 (fun y => absurd this.2.1 (Nat.not_lt.2 y))⟩
  · have hne : v.ownBlock ≠ some t := by
      obtain ⟨p, r, rfl⟩ := List.exists_cons_of_ne_nil hp
      obtain ⟨ao, c, rfl, _, _, _, _, _, h6⟩ := h
      obtain ⟨b, o, rfl, hc⟩ := h6 0 (.string p.1) rfl
      intro e
      cases e
      rw [Nat.add_zero] at hc
      unfold TreeAt at ht
      rcases o with _ | _ | _ | o <;> simp [World.cell?, ht] at hc
    refine IsSl.keep h fun g hg hl hs => ⟨hx.1.block g hl (fun y => y.elim hs (fun e => hne (by rw [hg, e]))), fun x => (hx.2 g x).elim hs (fun y => absurd hl (Nat.not_lt.2 y))⟩
end Go.Proofs.YtbldcbakhpdigaaGreat

/- Scan: its slice is new. -/
namespace Go.Proofs.YtbldcbakhpdigaaGreat
open Go.RowKit

set_option maxRecDepth 100000 in
set_option maxHeartbeats 4000000 in
theorem scan_own (t mp : Nat) (root : Int) (σ : MSt) (S : Nat → Prop) (key : ByteArray) (most : Int) (L : List Pr) (n : Nat) (w : World) (h : Inv σ S mp w) (ht : TreeAt w t mp root 0) (hr : root ≠ 0) (hm : 0 < most) (hn : n ≤ 40) (hL : WalkL σ key n root L) (hl : L.length ≤ 999999) :
    Calls Tryz.prog 12 #[.pointer (some ⟨t, 0, none⟩), .string key, .int .i64 most] w fun e w' => ∃ v, e = .returned (.tuple #[v, .int .i64 0]) ∧ OwnSl w' S w.heap.size 53 2 v (L.take most.toNat).length (prCells (L.take most.toNat)) ∧ Below w.heap.size w w' := by
  have hbm := below_one w (.cells #[.int .i64 most] 3)
  have htl : t < w.heap.size := (Array.getElem?_eq_some_iff.1 ht).1
  have hsub := h.sub
  have ht1 := (hbm.block t htl).trans ht
  have hb2 := below_two w (.cells #[.int .i64 most] 3) (.cells #[.slice none 0 0] 29)
  obtain ⟨_, c1, _, _, _, _, hl2⟩ := cells3 ((hb2.block t htl).trans ht)
  have d1 := (below_one (w.alloc (.cells #[.int .i64 most] 3)) (.cells #[.slice none 0 0] 29)).cell (p := ⟨w.heap.size, 0, none⟩) (by simp)
  rw [show (w.alloc (.cells #[.int .i64 most] 3)).cell? ⟨w.heap.size, 0, none⟩ = some (.int .i64 most) from by rw [World.cell?_alloc_new]; rfl] at d1
  have hr2 : (root == 0) = false := by simpa using hr
  have hm2 : ¬ most ≤ 0 := by omega
  have hmf : ∀ (fn : Fn) (first cap : Array Value) (w : World), (Instr.makeFunc fn first cap).run Tryz.prog w = .ok (.func fn first cap) w := fun _ _ _ _ => rfl
  have hA : Acc ((w.alloc (.cells #[.int .i64 most] 3)).alloc (.cells #[.slice none 0 0] 29)) S w.heap.size (w.heap.size + 1) w.heap.size (.slice none 0 0) [] most := by
    refine ⟨?_, OwnSl.nil _ _ _ _ _, ?_, fun x => absurd (hsub _ x) (by omega), fun x => absurd (hsub _ x) (Nat.lt_irrefl _)⟩
    · have := heap_alloc_new (w.alloc (.cells #[.int .i64 most] 3)) (.cells #[.slice none 0 0] 29); rwa [World.size_alloc] at this
    · exact ((below_one (w.alloc (.cells #[.int .i64 most] 3)) (.cells #[.slice none 0 0] 29)).block _ (by simp)).trans (heap_alloc_new _ _)
  have hw := walk_any t mp w.heap.size (w.heap.size + 1) w.heap.size root 0 σ S key most n root L hL 0 (.slice none 0 0) [] _ (h.below hb2) ((hb2.block t htl).trans ht) (by omega) (by omega) hA hb2.size (by simpa using hm) (by simpa using hl)
  have HW := Lib.hid hw; clear hw hA
  go_enter Tryz.func12, Tryz.ntmps12
  go_wp2_with (first
    | (go_at_call 22; go_must ((refine (usable_any t mp root 0 _ ht1).mono ?_); rintro e w1 ⟨rfl, hw⟩; subst w1))
    | (go_at_call 27; go_must (refine HW.out.mono ?_; rintro e w5 ⟨rfl, v, hA5, hY5⟩; have c5 : w5.cell? ⟨w.heap.size + 1, 0, none⟩ = some v := (by simp [World.cell?, hA5.out]); have c6 := (Array.getElem?_eq_some_iff.1 hA5.out).1)))
  go_ret2
  refine ⟨v, rfl, ?_, ?_⟩
  · have := hA5.own
    rw [List.nil_append, show (most - (([] : List Pr).length : Int)).toNat = most.toNat from by simp] at this
    exact this
  · exact hb2.trans (hY5.1.toBelow hb2.size (fun i hi x => x.elim (fun e => by omega) (fun e => by simp [Value.ownBlock] at e)))

theorem TS.scan2 {w0 : World} {t mp : Nat} {S : Nat → Prop} {cs : List Pr} {w : World} (h : TS w0 t mp S cs w) (key : ByteArray) (most : Int) (hl : cs.length ≤ 2048) :
    Calls Tryz.prog 12 #[.pointer (some ⟨t, 0, none⟩), .string key, .int .i64 most] w fun e w' => ∃ v, e = .returned (.tuple #[v, .int .i64 0]) ∧ OwnSl w' S w.heap.size 53 2 v ((cs.drop (posAt cs key)).take most.toNat).length (prCells ((cs.drop (posAt cs key)).take most.toNat)) ∧ Below w.heap.size w w' := by
  obtain ⟨σ, root, bs, hI, hT', hR, hn, hH, hD, hm⟩ := h.is
  by_cases hm : most ≤ 0
  · refine (scan_none t mp root key most w hT' (.inr hm)).mono ?_
    rintro e w' ⟨rfl, hb⟩
    refine ⟨_, rfl, ?_, hb⟩
    rw [show most.toNat = 0 from by omega, List.take_zero]
    exact OwnSl.nil _ _ _ _ _
  · rcases hR with ⟨rfl, rfl, _⟩ | ⟨h', hT⟩
    · refine (scan_none t mp 0 key most w hT' (.inl rfl)).mono ?_
      rintro e w' ⟨rfl, hb⟩
      refine ⟨_, rfl, ?_, hb⟩
      rw [List.drop_nil, List.take_nil]
      exact OwnSl.nil _ _ _ _ _
    · exact scan_own t mp root σ S key most _ h' w hI hT' (by have := hT.top; omega) (by omega) (by have := hT.low (by omega); omega) hT.walk (by simp only [List.length_drop]; omega)
end Go.Proofs.YtbldcbakhpdigaaGreat

/- The laws' state, blocks held or not; docketlaw06's step. -/
namespace Go.Proofs.YtbldcbakhpdigaaGreat
open Go.RowKit

/-- the tree at t has the pairs cs; the store has base blocks beside it; the tree at root0, whose blocks are held, has the pairs cs0 -/
structure TG (w0 : World) (t mp base : Nat) (H : DataW Unit) (root0 : Int) (cs0 : List Pr) (bs0 : List Int) (S : Nat → Prop) (cs : List Pr) (w : World) : Prop where
  bel : Below w0.heap.size w0 w
  lo : ∀ g, S g → w0.heap.size ≤ g
  tlo : w0.heap.size ≤ t
  nt : ¬ S t
  is : ∃ σ root bs, Inv σ S mp w ∧ TreeAt w t mp root 0 ∧ TrR σ root cs bs ∧ bs.Nodup ∧ σ.H = H ∧ Maps.size σ.D = base + nh σ bs ∧ σ.most = 4096 ∧ TrR σ root0 cs0 bs0 ∧ ∀ x ∈ bs0, σ.held x = true

section
variable {w0 : World} {t mp base : Nat} {H : DataW Unit} {root0 : Int} {cs0 : List Pr} {bs0 : List Int} {S : Nat → Prop} {cs : List Pr} {w : World}

theorem TG.rise (h : TG w0 t mp base H root0 cs0 bs0 S cs w) : RisingP cs := by
  obtain ⟨σ, root, bs, _, _, hT, _⟩ := h.is
  exact hT.rise
theorem TG.sub (h : TG w0 t mp base H root0 cs0 bs0 S cs w) : (∀ g, S g → g < w.heap.size) ∧ t < w.heap.size := by
  obtain ⟨σ, root, bs, hI, hT, _⟩ := h.is
  exact ⟨hI.sub, (Array.getElem?_eq_some_iff.1 hT).1⟩
theorem TG.keepM {M : Nat → Prop} {w' : World} (h : TG w0 t mp base H root0 cs0 bs0 S cs w) (hk : Keep M w w') (h1 : ∀ g, S g → ¬ M g) (h2 : ¬ M t) (h3 : ∀ g, g < w0.heap.size → ¬ M g) : TG w0 t mp base H root0 cs0 bs0 S cs w' := by
  obtain ⟨σ, root, bs, hI, hT, r⟩ := h.is
  have hl := (Array.getElem?_eq_some_iff.1 hT).1
  exact ⟨h.bel.trans (hk.toBelow h.bel.size h3), h.lo, h.tlo, h.nt, σ, root, bs, hI.keepM hk h1, (hk.block t hl h2).trans hT, r⟩
theorem TG.below {w' : World} (h : TG w0 t mp base H root0 cs0 bs0 S cs w) (hb : Below w.heap.size w w') : TG w0 t mp base H root0 cs0 bs0 S cs w' :=
  h.keepM (M := fun _ => False) (Keep.of_below hb _) (fun _ _ => id) id (fun _ _ => id)
theorem TG.chg {cs' : List Pr} {w' : World} {σ : MSt} {bs : List Int} (h : TG w0 t mp base H root0 cs0 bs0 S cs w) (hn : bs.Nodup) (hH : σ.H = H) (hD : Maps.size σ.D = base + nh σ bs) (hm : σ.most = 4096) (h0 : TrR σ root0 cs0 bs0) (hh : ∀ x ∈ bs0, σ.held x = true) (hc : ChgPost t mp S (TreeTo σ bs cs') w w') : ∃ S', TG w0 t mp base H root0 cs0 bs0 S' cs' w' ∧ Nx S S' t w w' := by
  obtain ⟨σ', S', b, hI, hT, hst, ⟨bs', hR', hC⟩, hk, hS⟩ := hc
  have hlo : ∀ g, g < w0.heap.size → ¬ (S g ∨ g = t) := fun g hg x => x.elim (fun s => absurd hg (Nat.not_lt.2 (h.lo g s))) (fun e => absurd hg (Nat.not_lt.2 (by rw [e]; exact h.tlo)))
  refine ⟨S', ⟨h.bel.trans (hk.toBelow h.bel.size hlo), fun g hg => (hS g hg).elim (h.lo g) (fun y => Nat.le_trans h.bel.size y), h.tlo, hst, σ', b, bs', hI, hT, hR', hC.nd hn, hC.H.trans hH, ?_, hC.most.trans hm, h0.keep hC (fun x hx => .inr (hh x hx)), fun x hx => by rw [held_eq hC.H]; exact hh x hx⟩, hk, hS⟩
  have := hC.size
  rw [nh_eq hC.H]
  omega

theorem TG.put (h : TG w0 t mp base H root0 cs0 bs0 S cs w) (key value : ByteArray) (hl : base + 2 * cs.length ≤ 4090) (hg : GoodKV key value) :
    Calls Tryz.prog 14 #[.pointer (some ⟨t, 0, none⟩), .string key, .string value] w fun e w' => e = .returned (.int .i64 0) ∧ ∃ S', TG w0 t mp base H root0 cs0 bs0 S' (insP cs key value) w' ∧ Nx S S' t w w' := by
  obtain ⟨σ, root, bs, hI, hT, hR, hn, hH, hD, hm, h0, hh⟩ := h.is
  refine (put_tree t mp root σ S cs bs key value w hI hT h.nt hR hn (by omega) (by unfold Room; omega) hg).mono ?_
  rintro e w' ⟨rfl, hc⟩
  exact ⟨rfl, h.chg hn hH hD hm h0 hh hc⟩
theorem TG.putBad (h : TG w0 t mp base H root0 cs0 bs0 S cs w) (key value : ByteArray) (hg : ¬ GoodKV key value) :
    Calls Tryz.prog 14 #[.pointer (some ⟨t, 0, none⟩), .string key, .string value] w fun e w' => e = .returned (.int .i64 1) ∧ Below w.heap.size w w' := by
  obtain ⟨σ, root, bs, hI, hT, _⟩ := h.is
  exact put_bad t mp root key value w hT hg
theorem TG.del (h : TG w0 t mp base H root0 cs0 bs0 S cs w) (key : ByteArray) (hl : base + 2 * cs.length ≤ 4090) (hg : 1 ≤ key.size ∧ key.size ≤ 128) :
    Calls Tryz.prog 16 #[.pointer (some ⟨t, 0, none⟩), .string key] w fun e w' => e = .returned (.tuple #[.bool (lookP cs key).isSome, .int .i64 0]) ∧ ∃ S', TG w0 t mp base H root0 cs0 bs0 S' (delP cs key) w' ∧ Nx S S' t w w' := by
  obtain ⟨σ, root, bs, hI, hT, hR, hn, hH, hD, hm, h0, hh⟩ := h.is
  refine (delete_tree t mp root σ S cs bs key w hI hT h.nt hR hn (by omega) (by unfold Room; omega) hg).mono ?_
  rintro e w' ⟨rfl, hc⟩
  exact ⟨rfl, h.chg hn hH hD hm h0 hh hc⟩
theorem TG.delBad (h : TG w0 t mp base H root0 cs0 bs0 S cs w) (key : ByteArray) (hg : ¬ (1 ≤ key.size ∧ key.size ≤ 128)) :
    Calls Tryz.prog 16 #[.pointer (some ⟨t, 0, none⟩), .string key] w fun e w' => e = .returned (.tuple #[.bool false, .int .i64 1]) ∧ Below w.heap.size w w' := by
  obtain ⟨σ, root, bs, hI, hT, _⟩ := h.is
  exact delete_bad t mp root key w hT hg
theorem TG.get (h : TG w0 t mp base H root0 cs0 bs0 S cs w) (key : ByteArray) (hl : cs.length ≤ 4090) (hg : 1 ≤ key.size ∧ key.size ≤ 128) :
    Calls Tryz.prog 15 #[.pointer (some ⟨t, 0, none⟩), .string key] w fun e w' => e = .returned (.tuple #[.string ((lookP cs key).getD ⟨#[]⟩), .bool (lookP cs key).isSome, .int .i64 0]) ∧ Below w.heap.size w w' := by
  obtain ⟨σ, root, bs, hI, hT, hR, _⟩ := h.is
  exact get_tree t mp root σ S cs bs key w hI hT hR hl hg
theorem TG.getBad (h : TG w0 t mp base H root0 cs0 bs0 S cs w) (key : ByteArray) (hg : ¬ (1 ≤ key.size ∧ key.size ≤ 128)) :
    Calls Tryz.prog 15 #[.pointer (some ⟨t, 0, none⟩), .string key] w fun e w' => e = .returned (.tuple #[.string ⟨#[]⟩, .bool false, .int .i64 1]) ∧ w' = w := by
  obtain ⟨σ, root, bs, hI, hT, _⟩ := h.is
  exact get_bad t mp root key w hT hg
theorem TG.scan (h : TG w0 t mp base H root0 cs0 bs0 S cs w) (key : ByteArray) (most : Int) (hl : cs.length ≤ 4090) :
    Calls Tryz.prog 12 #[.pointer (some ⟨t, 0, none⟩), .string key, .int .i64 most] w fun e w' => ∃ v, e = .returned (.tuple #[v, .int .i64 0]) ∧ IsPrs w' S v ((cs.drop (posAt cs key)).take most.toNat) ∧ Below w.heap.size w w' := by
  obtain ⟨σ, root, bs, hI, hT, hR, _⟩ := h.is
  exact scan_tree t mp root σ S cs bs key most w hI hT hR hl
end

/-- the tree's and the document's state -/
structure TGR (w0 : World) (t mp base r : Nat) (H : DataW Unit) (root0 : Int) (cs0 : List Pr) (bs0 : List Int) (S : Nat → Prop) (cs : List Pr) (w : World) : Prop where
  g : TG w0 t mp base H root0 cs0 bs0 S cs w
  ref : IsRef w (fun g => S g ∨ g = t) r cs
  rlo : w0.heap.size ≤ r

section
variable {w0 : World} {t mp base r : Nat} {H : DataW Unit} {root0 : Int} {cs0 : List Pr} {bs0 : List Int} {S : Nat → Prop} {cs : List Pr} {w : World}

theorem TGR.below {w' : World} (h : TGR w0 t mp base r H root0 cs0 bs0 S cs w) (hb : Below w.heap.size w w') : TGR w0 t mp base r H root0 cs0 bs0 S cs w' := ⟨h.g.below hb, h.ref.below hb, h.rlo⟩
theorem TGR.sub (h : TGR w0 t mp base r H root0 cs0 bs0 S cs w) : ∀ g, (S g ∨ g = t) → g < w.heap.size := by
  rintro g (hg | rfl)
  · exact h.g.sub.1 g hg
  · exact h.g.sub.2
/-- the tree has changed: the document's has not yet -/
theorem ref_nx {S' : Nat → Prop} {w' : World} (h : IsRef w (fun g => S g ∨ g = t) r cs) (hx : Nx S S' t w w') : IsRef w' (fun g => S' g ∨ g = t) r cs :=
  h.step ⟨hx.1, fun g hg => hg.elim (fun s => (hx.2 g s).imp .inl id) (fun e => .inl (.inr e))⟩
/-- the document's has changed -/
theorem tg_ref {w' : World} (h : TG w0 t mp base H root0 cs0 bs0 S cs w) (hr : ¬ (S r ∨ r = t)) (hlo : w0.heap.size ≤ r) (hk : Keep (· = r) w w') : TG w0 t mp base H root0 cs0 bs0 S cs w' :=
  h.keepM hk (fun g hg e => hr (.inl (by rw [← e]; exact hg))) (fun e => hr (.inr e.symm)) (fun g hg e => absurd hg (Nat.not_lt.2 (by rw [e]; exact hlo)))

/-- what an operation makes of the pairs -/
def stepL (cs : List Pr) (kind : Int) (key value : ByteArray) : List Pr := if kind % 4 = 0 then putP cs key value else if kind % 4 = 1 then (if 1 ≤ key.size ∧ key.size ≤ 128 then delP cs key else cs) else cs
theorem stepL_len (cs : List Pr) (kind : Int) (key value : ByteArray) : (stepL cs kind key value).length ≤ cs.length + 1 := by
  unfold stepL
  split
  · exact putP_len cs key value
  · split
    · split
      · exact (del_locF key).len cs
      · omega
    · omega

/-- what a step leaves as it was -/
def Fr (S S' : Nat → Prop) (t r : Nat) (w w' : World) : Prop := Keep (fun g => (S g ∨ g = t) ∨ g = r) w w' ∧ ∀ g, S' g → S g ∨ w.heap.size ≤ g
theorem fr1 {w' : World} (h : Below w.heap.size w w') : Fr S S t r w w' := ⟨Keep.of_below h _, fun _ h => .inl h⟩
theorem fr3 {S2 : Nat → Prop} {w1 w2 w3 : World} (hb : Below w.heap.size w w1) (hx : Nx S S2 t w1 w2) (hk : Keep (· = r) w2 w3) : Fr S S2 t r w w3 :=
  ⟨((Keep.of_below hb _).trans hx.1 (fun _ _ h => .inl h)).trans hk (fun _ _ h => .inr h), fun g hg => (hx.2 g hg).imp id (fun y => Nat.le_trans hb.size y)⟩

def StepPost (w0 : World) (t mp base r : Nat) (H : DataW Unit) (root0 : Int) (cs0 : List Pr) (bs0 : List Int) (S : Nat → Prop) (cs' : List Pr) (w : World) (e : Ending) (w' : World) : Prop :=
  e = .returned (.bool true) ∧ ∃ S', TGR w0 t mp base r H root0 cs0 bs0 S' cs' w' ∧ Fr S S' t r w w'

theorem goodKV_empty (key : ByteArray) : GoodKV key ⟨#[]⟩ ↔ 1 ≤ key.size ∧ key.size ≤ 128 := ⟨fun h => h.1, fun h => ⟨h, Nat.zero_le _⟩⟩
end
end Go.Proofs.YtbldcbakhpdigaaGreat

/- docketlaw06's step: the walk. -/
namespace Go.Proofs.YtbldcbakhpdigaaGreat
open Go.RowKit

theorem cells4 {w : World} {b t : Nat} {v0 v1 v2 v3 : Value} (h : w.heap[b]? = some (.cells #[v0, v1, v2, v3] t (0, 0))) :
    w.cell? ⟨b, 0, none⟩ = some v0 ∧ w.cell? ⟨b, 1, none⟩ = some v1 ∧ w.cell? ⟨b, 2, none⟩ = some v2 ∧ w.cell? ⟨b, 3, none⟩ = some v3 ∧ b < w.heap.size := by
  refine ⟨?_, ?_, ?_, ?_, (Array.getElem?_eq_some_iff.1 h).1⟩ <;> simp [World.cell?, h]

section
variable {w0 : World} {t mp base r : Nat} {H : DataW Unit} {root0 : Int} {cs0 : List Pr} {bs0 : List Int} {S : Nat → Prop} {cs : List Pr} {w : World}

set_option maxRecDepth 100000 in
set_option maxHeartbeats 2000000 in
theorem step_put (h : TGR w0 t mp base r H root0 cs0 bs0 S cs w) (kind : Int) (key value : ByteArray) (most : Int) (hk0 : 0 ≤ kind) (hk1 : kind ≤ 255) (hk : kind % 4 = 0) (hl : base + 2 * cs.length ≤ 4090) (hg : GoodKV key value) :
    Calls Tryz.prog 7 #[.pointer (some ⟨t, 0, none⟩), .pointer (some ⟨r, 0, none⟩), .agg #[.int .u8 kind, .string key, .string value, .int .i64 most]] w (StepPost w0 t mp base r H root0 cs0 bs0 S (insP cs key value) w) := by
  have hr := h.g.rise
  have hb1 := below_one w (.cells #[.int .u8 kind, .string key, .string value, .int .i64 most] 34)
  have h1 := h.below hb1
  have hob : (w.alloc (.cells #[.int .u8 kind, .string key, .string value, .int .i64 most] 34)).heap[w.heap.size]? = some (.cells #[.int .u8 kind, .string key, .string value, .int .i64 most] 34 (0, 0)) := heap_alloc_new w _
  have hnS : ¬ (S w.heap.size ∨ w.heap.size = t) := fun x => absurd (h.sub _ x) (Nat.lt_irrefl _)
  have hso : w.heap.size < (w.alloc (.cells #[.int .u8 kind, .string key, .string value, .int .i64 most] 34)).heap.size := by simp
  have hP := h1.g.put key value hl hg
  have HP := Lib.hid hP; clear hP
  go_enter Tryz.func7, Tryz.ntmps7
  go_wp2_with (first
    | (go_at_call 14; go_must (refine HP.out.mono ?_; rintro e w2 ⟨rfl, S2, hT2, hN2⟩; refine Stop.of ?_)))
  refine Stop.on ?_
  have hR2 := ref_nx h1.ref hN2
  have hob2 := (hN2.1.block _ hso hnS).trans hob
  obtain ⟨o0, o1, o2, o3, lo⟩ := cells4 hob2
  clear hob
  have hsub2 : ∀ g, (S2 g ∨ g = t) → g < w2.heap.size := by
    rintro g (hg | rfl)
    · exact hT2.sub.1 g hg
    · exact hT2.sub.2
  have hRP := rput_any r cs key value w2 _ hsub2 hR2 hr (by omega)
  have HRP := Lib.hid hRP; clear hRP
  go_wp2_with (first
    | (go_at_call 17; go_must ((refine (good_yes _ _ _ hg).mono ?_); rintro e w3 ⟨rfl, hw⟩; subst w3))
    | (go_at_call 18; go_must (refine HRP.out.mono ?_; rintro e w4 ⟨rfl, hR4, hk4⟩)))
  go_ret
  exact ⟨rfl, S2, ⟨tg_ref hT2 hR2.1 h.rlo hk4, hR4, h.rlo⟩, fr3 hb1 hN2 hk4⟩

set_option maxRecDepth 100000 in
set_option maxHeartbeats 2000000 in
theorem step_putBad (h : TGR w0 t mp base r H root0 cs0 bs0 S cs w) (kind : Int) (key value : ByteArray) (most : Int) (hk0 : 0 ≤ kind) (hk1 : kind ≤ 255) (hk : kind % 4 = 0) (hg : ¬ GoodKV key value) :
    Calls Tryz.prog 7 #[.pointer (some ⟨t, 0, none⟩), .pointer (some ⟨r, 0, none⟩), .agg #[.int .u8 kind, .string key, .string value, .int .i64 most]] w (StepPost w0 t mp base r H root0 cs0 bs0 S (cs) w) := by
  have hr := h.g.rise
  have hb1 := below_one w (.cells #[.int .u8 kind, .string key, .string value, .int .i64 most] 34)
  have h1 := h.below hb1
  have hob : (w.alloc (.cells #[.int .u8 kind, .string key, .string value, .int .i64 most] 34)).heap[w.heap.size]? = some (.cells #[.int .u8 kind, .string key, .string value, .int .i64 most] 34 (0, 0)) := heap_alloc_new w _
  have hnS : ¬ (S w.heap.size ∨ w.heap.size = t) := fun x => absurd (h.sub _ x) (Nat.lt_irrefl _)
  have hso : w.heap.size < (w.alloc (.cells #[.int .u8 kind, .string key, .string value, .int .i64 most] 34)).heap.size := by simp
  have hP := h1.g.putBad key value hg
  have HP := Lib.hid hP; clear hP
  go_enter Tryz.func7, Tryz.ntmps7
  go_wp2_with (first
    | (go_at_call 14; go_must (refine HP.out.mono ?_; rintro e w2 ⟨rfl, hb2⟩; refine Stop.of ?_)))
  refine Stop.on ?_
  obtain ⟨o0, o1, o2, o3, lo⟩ := cells4 ((hb2.block _ hso).trans hob)
  clear hob
  go_wp2_with (first
    | (go_at_call 17; go_must ((refine (good_no _ _ _ hg).mono ?_); rintro e w3 ⟨rfl, hw⟩; subst w3)))
  go_ret
  exact ⟨rfl, S, h1.below hb2, fr1 (hb1.trans (hb2.mono hb1.size))⟩

set_option maxRecDepth 100000 in
set_option maxHeartbeats 2000000 in
theorem step_del (h : TGR w0 t mp base r H root0 cs0 bs0 S cs w) (kind : Int) (key value : ByteArray) (most : Int) (hk0 : 0 ≤ kind) (hk1 : kind ≤ 255) (hk : kind % 4 = 1) (hl : base + 2 * cs.length ≤ 4090) (hg : 1 ≤ key.size ∧ key.size ≤ 128) :
    Calls Tryz.prog 7 #[.pointer (some ⟨t, 0, none⟩), .pointer (some ⟨r, 0, none⟩), .agg #[.int .u8 kind, .string key, .string value, .int .i64 most]] w (StepPost w0 t mp base r H root0 cs0 bs0 S (delP cs key) w) := by
  have hr := h.g.rise
  have hb1 := below_one w (.cells #[.int .u8 kind, .string key, .string value, .int .i64 most] 34)
  have h1 := h.below hb1
  have hob : (w.alloc (.cells #[.int .u8 kind, .string key, .string value, .int .i64 most] 34)).heap[w.heap.size]? = some (.cells #[.int .u8 kind, .string key, .string value, .int .i64 most] 34 (0, 0)) := heap_alloc_new w _
  have hnS : ¬ (S w.heap.size ∨ w.heap.size = t) := fun x => absurd (h.sub _ x) (Nat.lt_irrefl _)
  have hso : w.heap.size < (w.alloc (.cells #[.int .u8 kind, .string key, .string value, .int .i64 most] 34)).heap.size := by simp
  have hP := h1.g.del key hl hg
  have HP := Lib.hid hP; clear hP
  go_enter Tryz.func7, Tryz.ntmps7
  go_wp2_with (first
    | (go_at_call 16; go_must (refine HP.out.mono ?_; rintro e w2 ⟨rfl, S2, hT2, hN2⟩; refine Stop.of ?_)))
  refine Stop.on ?_
  have hR2 := ref_nx h1.ref hN2
  have hob2 := (hN2.1.block _ hso hnS).trans hob
  obtain ⟨o0, o1, o2, o3, lo⟩ := cells4 hob2
  clear hob
  have hsub2 : ∀ g, (S2 g ∨ g = t) → g < w2.heap.size := by
    rintro g (hg | rfl)
    · exact hT2.sub.1 g hg
    · exact hT2.sub.2
  have hRP := rdelete_any r cs key w2 _ hsub2 hR2 hr (by omega)
  have HRP := Lib.hid hRP; clear hRP
  go_wp2_with (first
    | (go_at_call 17; go_must ((refine (good_yes _ _ _ ((goodKV_empty key).2 hg)).mono ?_); rintro e w3 ⟨rfl, hw⟩; subst w3))
    | (go_at_call 19; go_must (refine HRP.out.mono ?_; rintro e w4 ⟨rfl, hR4, hk4⟩)))
  go_ret
  exact ⟨by simp, S2, ⟨tg_ref hT2 hR2.1 h.rlo hk4, hR4, h.rlo⟩, fr3 hb1 hN2 hk4⟩

set_option maxRecDepth 100000 in
set_option maxHeartbeats 2000000 in
theorem step_delBad (h : TGR w0 t mp base r H root0 cs0 bs0 S cs w) (kind : Int) (key value : ByteArray) (most : Int) (hk0 : 0 ≤ kind) (hk1 : kind ≤ 255) (hk : kind % 4 = 1) (hg : ¬ (1 ≤ key.size ∧ key.size ≤ 128)) :
    Calls Tryz.prog 7 #[.pointer (some ⟨t, 0, none⟩), .pointer (some ⟨r, 0, none⟩), .agg #[.int .u8 kind, .string key, .string value, .int .i64 most]] w (StepPost w0 t mp base r H root0 cs0 bs0 S (cs) w) := by
  have hr := h.g.rise
  have hb1 := below_one w (.cells #[.int .u8 kind, .string key, .string value, .int .i64 most] 34)
  have h1 := h.below hb1
  have hob : (w.alloc (.cells #[.int .u8 kind, .string key, .string value, .int .i64 most] 34)).heap[w.heap.size]? = some (.cells #[.int .u8 kind, .string key, .string value, .int .i64 most] 34 (0, 0)) := heap_alloc_new w _
  have hnS : ¬ (S w.heap.size ∨ w.heap.size = t) := fun x => absurd (h.sub _ x) (Nat.lt_irrefl _)
  have hso : w.heap.size < (w.alloc (.cells #[.int .u8 kind, .string key, .string value, .int .i64 most] 34)).heap.size := by simp
  have hP := h1.g.delBad key hg
  have HP := Lib.hid hP; clear hP
  go_enter Tryz.func7, Tryz.ntmps7
  go_wp2_with (first
    | (go_at_call 16; go_must (refine HP.out.mono ?_; rintro e w2 ⟨rfl, hb2⟩; refine Stop.of ?_)))
  refine Stop.on ?_
  obtain ⟨o0, o1, o2, o3, lo⟩ := cells4 ((hb2.block _ hso).trans hob)
  clear hob
  go_wp2_with (first
    | (go_at_call 17; go_must ((refine (good_no _ _ _ (fun x => hg ((goodKV_empty key).1 x))).mono ?_); rintro e w3 ⟨rfl, hw⟩; subst w3)))
  go_ret
  exact ⟨rfl, S, h1.below hb2, fr1 (hb1.trans (hb2.mono hb1.size))⟩

set_option maxRecDepth 100000 in
set_option maxHeartbeats 2000000 in
theorem step_get (h : TGR w0 t mp base r H root0 cs0 bs0 S cs w) (kind : Int) (key value : ByteArray) (most : Int) (hk0 : 0 ≤ kind) (hk1 : kind ≤ 255) (hk : kind % 4 = 2) (hl : base + 2 * cs.length ≤ 4090) (hg : 1 ≤ key.size ∧ key.size ≤ 128) :
    Calls Tryz.prog 7 #[.pointer (some ⟨t, 0, none⟩), .pointer (some ⟨r, 0, none⟩), .agg #[.int .u8 kind, .string key, .string value, .int .i64 most]] w (StepPost w0 t mp base r H root0 cs0 bs0 S (cs) w) := by
  have hr := h.g.rise
  have hb1 := below_one w (.cells #[.int .u8 kind, .string key, .string value, .int .i64 most] 34)
  have h1 := h.below hb1
  have hob : (w.alloc (.cells #[.int .u8 kind, .string key, .string value, .int .i64 most] 34)).heap[w.heap.size]? = some (.cells #[.int .u8 kind, .string key, .string value, .int .i64 most] 34 (0, 0)) := heap_alloc_new w _
  have hnS : ¬ (S w.heap.size ∨ w.heap.size = t) := fun x => absurd (h.sub _ x) (Nat.lt_irrefl _)
  have hso : w.heap.size < (w.alloc (.cells #[.int .u8 kind, .string key, .string value, .int .i64 most] 34)).heap.size := by simp
  have hP := h1.g.get key (by omega) hg
  have HP := Lib.hid hP; clear hP
  go_enter Tryz.func7, Tryz.ntmps7
  go_wp2_with (first
    | (go_at_call 15; go_must (refine HP.out.mono ?_; rintro e w2 ⟨rfl, hb2⟩; refine Stop.of ?_)))
  refine Stop.on ?_
  obtain ⟨o0, o1, o2, o3, lo⟩ := cells4 ((hb2.block _ hso).trans hob)
  clear hob
  have h2 := h1.below hb2
  have hRG := rget_any r cs key w2 _ h2.ref hr (by omega)
  have HRG := Lib.hid hRG; clear hRG
  generalize (lookP cs key).getD ⟨#[]⟩ = x at HRG ⊢
  generalize (lookP cs key).isSome = y at HRG ⊢
  go_wp2_with (first
    | (go_at_call 17; go_must ((refine (good_yes _ _ _ ((goodKV_empty key).2 hg)).mono ?_); rintro e w3 ⟨rfl, hw⟩; subst w3))
    | (go_at_call 20; go_must (refine HRG.out.mono ?_; rintro e w4 ⟨rfl, hw⟩; subst w4)))
  go_ret
  exact ⟨by simp, S, h2, fr1 (hb1.trans (hb2.mono hb1.size))⟩

set_option maxRecDepth 100000 in
set_option maxHeartbeats 2000000 in
theorem step_getBad (h : TGR w0 t mp base r H root0 cs0 bs0 S cs w) (kind : Int) (key value : ByteArray) (most : Int) (hk0 : 0 ≤ kind) (hk1 : kind ≤ 255) (hk : kind % 4 = 2) (hg : ¬ (1 ≤ key.size ∧ key.size ≤ 128)) :
    Calls Tryz.prog 7 #[.pointer (some ⟨t, 0, none⟩), .pointer (some ⟨r, 0, none⟩), .agg #[.int .u8 kind, .string key, .string value, .int .i64 most]] w (StepPost w0 t mp base r H root0 cs0 bs0 S (cs) w) := by
  have hr := h.g.rise
  have hb1 := below_one w (.cells #[.int .u8 kind, .string key, .string value, .int .i64 most] 34)
  have h1 := h.below hb1
  have hob : (w.alloc (.cells #[.int .u8 kind, .string key, .string value, .int .i64 most] 34)).heap[w.heap.size]? = some (.cells #[.int .u8 kind, .string key, .string value, .int .i64 most] 34 (0, 0)) := heap_alloc_new w _
  have hnS : ¬ (S w.heap.size ∨ w.heap.size = t) := fun x => absurd (h.sub _ x) (Nat.lt_irrefl _)
  have hso : w.heap.size < (w.alloc (.cells #[.int .u8 kind, .string key, .string value, .int .i64 most] 34)).heap.size := by simp
  have hP := h1.g.getBad key hg
  have HP := Lib.hid hP; clear hP
  obtain ⟨o0, o1, o2, o3, lo⟩ := cells4 hob
  clear hob
  go_enter Tryz.func7, Tryz.ntmps7
  go_wp2_with (first
    | (go_at_call 15; go_must (refine HP.out.mono ?_; rintro e w2 ⟨rfl, hw⟩; subst w2))
    | (go_at_call 17; go_must ((refine (good_no _ _ _ (fun x => hg ((goodKV_empty key).1 x))).mono ?_); rintro e w3 ⟨rfl, hw⟩; subst w3)))
  go_ret
  exact ⟨by simp, S, h1, fr1 hb1⟩

set_option maxRecDepth 100000 in
set_option maxHeartbeats 2000000 in
theorem step_scan (h : TGR w0 t mp base r H root0 cs0 bs0 S cs w) (kind : Int) (key value : ByteArray) (most : Int) (hk0 : 0 ≤ kind) (hk1 : kind ≤ 255) (hk : kind % 4 = 3) (hl : base + 2 * cs.length ≤ 4090)  :
    Calls Tryz.prog 7 #[.pointer (some ⟨t, 0, none⟩), .pointer (some ⟨r, 0, none⟩), .agg #[.int .u8 kind, .string key, .string value, .int .i64 most]] w (StepPost w0 t mp base r H root0 cs0 bs0 S (cs) w) := by
  have hr := h.g.rise
  have hb1 := below_one w (.cells #[.int .u8 kind, .string key, .string value, .int .i64 most] 34)
  have h1 := h.below hb1
  have hob : (w.alloc (.cells #[.int .u8 kind, .string key, .string value, .int .i64 most] 34)).heap[w.heap.size]? = some (.cells #[.int .u8 kind, .string key, .string value, .int .i64 most] 34 (0, 0)) := heap_alloc_new w _
  have hnS : ¬ (S w.heap.size ∨ w.heap.size = t) := fun x => absurd (h.sub _ x) (Nat.lt_irrefl _)
  have hso : w.heap.size < (w.alloc (.cells #[.int .u8 kind, .string key, .string value, .int .i64 most] 34)).heap.size := by simp
  have hP := h1.g.scan key most (by omega)
  have HP := Lib.hid hP; clear hP
  go_enter Tryz.func7, Tryz.ntmps7
  go_wp2_with (first
    | (go_at_call 12; go_must (refine HP.out.mono ?_; rintro e w2 ⟨v, rfl, hv, hb2⟩; refine Stop.of ?_)))
  refine Stop.on ?_
  obtain ⟨o0, o1, o2, o3, lo⟩ := cells4 ((hb2.block _ hso).trans hob)
  clear hob
  have h2 := h1.below hb2
  have hRS := rscan_any r cs key most w2 _ h2.sub h2.ref hr (by omega)
  have HRS := Lib.hid hRS; clear hRS
  go_wp2_with (first
    | (go_at_call 21; go_must (refine HRS.out.mono ?_; rintro e w4 ⟨u, rfl, hu, hb4⟩; refine Stop.of ?_)))
  refine Stop.on ?_
  have hS := same_yes v u _ w4 _ _ (IsSl.below hv hb4) hu
  have HS := Lib.hid hS; clear hS
  go_wp2_with (first
    | (go_at_call 13; go_must (refine HS.out.mono ?_; rintro e w5 ⟨rfl, hb5⟩)))
  go_ret
  exact ⟨rfl, S, (h2.below hb4).below hb5, fr1 (((hb1.trans (hb2.mono hb1.size)).trans (hb4.mono (Nat.le_trans hb1.size hb2.size))).trans (hb5.mono (Nat.le_trans (Nat.le_trans hb1.size hb2.size) hb4.size)))⟩


theorem step_any (h : TGR w0 t mp base r H root0 cs0 bs0 S cs w) (kind : Int) (key value : ByteArray) (most : Int) (hk0 : 0 ≤ kind) (hk1 : kind ≤ 255) (hl : base + 2 * cs.length ≤ 4090) :
    Calls Tryz.prog 7 #[.pointer (some ⟨t, 0, none⟩), .pointer (some ⟨r, 0, none⟩), .agg #[.int .u8 kind, .string key, .string value, .int .i64 most]] w (StepPost w0 t mp base r H root0 cs0 bs0 S (stepL cs kind key value) w) := by
  unfold stepL putP
  have hm : kind % 4 = 0 ∨ kind % 4 = 1 ∨ kind % 4 = 2 ∨ kind % 4 = 3 := by omega
  rcases hm with hm | hm | hm | hm
  · rw [if_pos hm]
    by_cases hg : GoodKV key value
    · rw [if_pos hg]; exact step_put h kind key value most hk0 hk1 hm hl hg
    · rw [if_neg hg]; exact step_putBad h kind key value most hk0 hk1 hm hg
  · rw [if_neg (by omega), if_pos hm]
    by_cases hg : 1 ≤ key.size ∧ key.size ≤ 128
    · rw [if_pos hg]; exact step_del h kind key value most hk0 hk1 hm hl hg
    · rw [if_neg hg]; exact step_delBad h kind key value most hk0 hk1 hm hg
  · rw [if_neg (by omega), if_neg (by omega)]
    by_cases hg : 1 ≤ key.size ∧ key.size ≤ 128
    · exact step_get h kind key value most hk0 hk1 hm hl hg
    · exact step_getBad h kind key value most hk0 hk1 hm hg
  · rw [if_neg (by omega), if_neg (by omega)]
    exact step_scan h kind key value most hk0 hk1 hm hl
end
end Go.Proofs.YtbldcbakhpdigaaGreat

/- slices.Sort at []int: the kit's contract laid over this program (what its command 'shelf_lay' would lay). (Printed by gen/sortl.py.) -/
namespace Go.Proofs.YtbldcbakhpdigaaGreat
open Go.RowKit Go.Shelf

def sortRen : Go.Shelf.Ren := ⟨fun x => match x with | 189 => 24 | 125 => 44 | 257 => 43 | 128 => 68 | 129 => 69 | 294 => 59 | 295 => 60 | 296 => 61 | 297 => 62 | 298 => 63 | 299 => 64 | 216 => 65 | 300 => 66 | 301 => 67 | 328 => 83 | 329 => 84 | 330 => 85 | 331 => 86 | 332 => 87 | 215 => 88 | 343 => 100 | n => n, fun x => match x with | 28 => 36 | 3 => 3 | 46 => 93 | 0 => 0 | 51 => 124 | 53 => 126 | 4 => 4 | 183 => 117 | 182 => 116 | 131 => 84 | 5 => 5 | 9 => 9 | 218 => 138 | 222 => 142 | 228 => 157 | 229 => 158 | n => n, fun n => n⟩
theorem sortLays : Lays.n189 Tryz.prog sortRen where
  mixed := by kernel_rfl
  f125 := Tryz.func44.trans (congrArg some (by kernel_rfl))
  f128 := Tryz.func68.trans (congrArg some (by kernel_rfl))
  f129 := Tryz.func69.trans (congrArg some (by kernel_rfl))
  f189 := Tryz.func24.trans (congrArg some (by kernel_rfl))
  f215 := Tryz.func88.trans (congrArg some (by kernel_rfl))
  f216 := Tryz.func65.trans (congrArg some (by kernel_rfl))
  f257 := Tryz.func43.trans (congrArg some (by kernel_rfl))
  f294 := Tryz.func59.trans (congrArg some (by kernel_rfl))
  f295 := Tryz.func60.trans (congrArg some (by kernel_rfl))
  f296 := Tryz.func61.trans (congrArg some (by kernel_rfl))
  f297 := Tryz.func62.trans (congrArg some (by kernel_rfl))
  f298 := Tryz.func63.trans (congrArg some (by kernel_rfl))
  f299 := Tryz.func64.trans (congrArg some (by kernel_rfl))
  f300 := Tryz.func66.trans (congrArg some (by kernel_rfl))
  f301 := Tryz.func67.trans (congrArg some (by kernel_rfl))
  f328 := Tryz.func83.trans (congrArg some (by kernel_rfl))
  f329 := Tryz.func84.trans (congrArg some (by kernel_rfl))
  f330 := Tryz.func85.trans (congrArg some (by kernel_rfl))
  f331 := Tryz.func86.trans (congrArg some (by kernel_rfl))
  f332 := Tryz.func87.trans (congrArg some (by kernel_rfl))
  f343 := Tryz.func100.trans (congrArg some (by kernel_rfl))
  t0 := Tryz.underlying0
  a0 := Tryz.isAgg0
  z0 := Tryz.sizeOf0
  v0 := Tryz.zeroValue0
  t3 := Tryz.underlying3
  a3 := Tryz.isAgg3
  z3 := Tryz.sizeOf3
  v3 := Tryz.zeroValue3
  t4 := Tryz.underlying4
  a4 := Tryz.isAgg4
  z4 := Tryz.sizeOf4
  v4 := Tryz.zeroValue4
  t5 := Tryz.underlying5
  a5 := Tryz.isAgg5
  z5 := Tryz.sizeOf5
  v5 := Tryz.zeroValue5
  t9 := Tryz.underlying9
  a9 := Tryz.isAgg9
  z9 := Tryz.sizeOf9
  v9 := Tryz.zeroValue9
  t28 := Tryz.underlying36
  a28 := Tryz.isAgg36
  z28 := Tryz.sizeOf36
  v28 := Tryz.zeroValue36
  t46 := Tryz.underlying93
  a46 := Tryz.isAgg93
  z46 := Tryz.sizeOf93
  v46 := Tryz.zeroValue93
  t51 := Tryz.underlying124
  a51 := Tryz.isAgg124
  z51 := Tryz.sizeOf124
  v51 := Tryz.zeroValue124
  t53 := Tryz.underlying126
  a53 := Tryz.isAgg126
  z53 := Tryz.sizeOf126
  v53 := Tryz.zeroValue126
  t131 := Tryz.underlying84
  a131 := Tryz.isAgg84
  z131 := Tryz.sizeOf84
  v131 := Tryz.zeroValue84
  t182 := Tryz.underlying116
  a182 := Tryz.isAgg116
  z182 := Tryz.sizeOf116
  v182 := Tryz.zeroValue116
  t183 := Tryz.underlying117
  a183 := Tryz.isAgg117
  z183 := Tryz.sizeOf117
  v183 := Tryz.zeroValue117
  t218 := Tryz.underlying138
  a218 := Tryz.isAgg138
  z218 := Tryz.sizeOf138
  v218 := Tryz.zeroValue138
  t222 := Tryz.underlying142
  a222 := Tryz.isAgg142
  z222 := Tryz.sizeOf142
  v222 := Tryz.zeroValue142
  t228 := Tryz.underlying157
  a228 := Tryz.isAgg157
  z228 := Tryz.sizeOf157
  v228 := Tryz.zeroValue157
  t229 := Tryz.underlying158
  a229 := Tryz.isAgg158
  z229 := Tryz.sizeOf158
  v229 := Tryz.zeroValue158
end Go.Proofs.YtbldcbakhpdigaaGreat

/- Blocks: level by level, then sorted. -/
namespace Go.Proofs.YtbldcbakhpdigaaGreat
open Go.RowKit

/-- blocks of equal height, and all blocks below them -/
def Fo (σ : MSt) (h : Nat) : List Int → List Int → Prop
  | [], bs => bs = []
  | b :: L, bs => ∃ lo hi c x bs', TrM σ h 2 lo hi b c x ∧ Fo σ h L bs' ∧ bs = x ++ bs'
theorem Fo.append {σ : MSt} {h : Nat} : ∀ {L M : List Int} {x y : List Int}, Fo σ h L x → Fo σ h M y → Fo σ h (L ++ M) (x ++ y)
  | [], _, _, _, h1, h2 => by obtain rfl := h1; exact h2
  | b :: L, _, _, _, ⟨lo, hi, c, x, bs', h1, h2, rfl⟩, hM => ⟨lo, hi, c, x, _, h1, Fo.append h2 hM, List.append_assoc _ _ _⟩
theorem RowL.fo {σ : MSt} {h : Nat} {hi : Option ByteArray} : ∀ {l : List (ByteArray × Int)} {cs : List Pr} {bs : List Int}, RowL (TrM σ h 2) hi l cs bs → Fo σ h (l.map (·.2)) bs
  | [], _, _, ⟨_, e⟩ => e
  | (k, _) :: _, _, _, ⟨c, _, x, bs', h1, h2, _, e⟩ => ⟨k, _, c, x, bs', h1, RowL.fo h2, e⟩

/-- the levels, from one on down -/
inductive BL (σ : MSt) : Nat → List Int → List Int → Prop
  | done : BL σ 0 [] []
  | step {n : Nat} {L : List Int} {nds : List Nd} {T : List Int} : L ≠ [] → nds.length = L.length → (∀ i (h1 : i < L.length) (h2 : i < nds.length), Blk σ L[i] nds[i]) → BL σ n (nds.flatMap (·.kids)) T → BL σ (n + 1) L (L ++ T)
theorem BL.le {σ : MSt} {n : Nat} {L T : List Int} (h : BL σ n L T) : L.length ≤ T.length := by
  cases h with
  | done => simp
  | step _ _ _ _ => simp

theorem Fo.zero {σ : MSt} : ∀ {L bs : List Int}, Fo σ 0 L bs → ∃ nds : List Nd, nds.length = L.length ∧ (∀ i (h1 : i < L.length) (h2 : i < nds.length), Blk σ L[i] nds[i]) ∧ nds.flatMap (·.kids) = [] ∧ bs = L
  | [], _, h => ⟨[], rfl, fun i h1 => absurd h1 (by simp), rfl, h⟩
  | b :: L, _, ⟨lo, hi, c, x, bs', ⟨nd, h1, _, h3, _, _, _, _, h8⟩, h2, e⟩ => by
    obtain ⟨nds, q1, q2, q3, rfl⟩ := Fo.zero h2
    subst e h8
    refine ⟨nd :: nds, by simp [q1], fun i i1 i2 => ?_, by rw [List.flatMap_cons, h3, q3]; rfl, rfl⟩
    cases i with
    | zero => exact h1
    | succ i => exact q2 i (by simpa using i1) (by simpa using i2)
theorem Fo.succ {σ : MSt} {h : Nat} : ∀ {L bs : List Int}, Fo σ (h + 1) L bs → ∃ (nds : List Nd) (bs' : List Int), nds.length = L.length ∧ (∀ i (h1 : i < L.length) (h2 : i < nds.length), Blk σ L[i] nds[i]) ∧ Fo σ h (nds.flatMap (·.kids)) bs' ∧ (L ++ bs').Perm bs ∧ (L ≠ [] → nds.flatMap (·.kids) ≠ [])
  | [], _, h => ⟨[], [], rfl, fun i h1 => absurd h1 (by simp), rfl, by obtain rfl := h; exact List.Perm.refl _, fun h => absurd rfl h⟩
  | b :: L, _, ⟨lo, hi, c, x, bs', ⟨nd, x', h1, ho, hk, _, e1, h6⟩, h2, e⟩ => by
    obtain ⟨nds, y, q1, q2, q3, q4, _⟩ := Fo.succ h2
    subst e e1
    obtain ⟨b0, l, e0, _, e3⟩ := zip_lows ho.kk hk lo
    have hf : Fo σ h nd.kids x' := by
      have := h6.fo
      unfold Nd.row at this
      rw [e0] at this
      rw [e3]
      exact this
    refine ⟨nd :: nds, x' ++ y, by simp [q1], fun i i1 i2 => ?_, by rw [List.flatMap_cons]; exact hf.append q3, ?_, fun _ => by rw [List.flatMap_cons]; intro h0; exact hk (List.append_eq_nil_iff.1 h0).1⟩
    · cases i with
      | zero => exact h1
      | succ i => exact q2 i (by simpa using i1) (by simpa using i2)
    · have p1 : (L ++ (x' ++ y)).Perm (x' ++ (L ++ y)) := by
        rw [← List.append_assoc, ← List.append_assoc]
        exact List.Perm.append_right _ List.perm_append_comm
      exact (p1.trans (List.Perm.append_left _ q4)).cons b
theorem Fo.bl {σ : MSt} : ∀ {h : Nat} {L bs : List Int}, L ≠ [] → Fo σ h L bs → ∃ T, BL σ (h + 1) L T ∧ T.Perm bs
  | 0, L, bs, hL, hf => by
    obtain ⟨nds, q1, q2, q3, rfl⟩ := hf.zero
    refine ⟨bs ++ [], .step hL q1 q2 (by rw [q3]; exact .done), by rw [List.append_nil]⟩
  | h + 1, L, bs, hL, hf => by
    obtain ⟨nds, bs', q1, q2, q3, q4, q5⟩ := hf.succ
    obtain ⟨T, r1, r2⟩ := Fo.bl (q5 hL) q3
    exact ⟨L ++ T, .step hL q1 q2 r1, (List.Perm.append_left _ r2).trans q4⟩
/-- a tree's blocks, level by level -/
theorem TrR.bl {σ : MSt} {root : Int} {cs : List Pr} {bs : List Int} (h : TrR σ root cs bs) (hl : cs.length ≤ 4095) : ∃ n T, n ≤ 12 ∧ BL σ n (if root = 0 then [] else [root]) T ∧ T.Perm bs := by
  rcases h with ⟨rfl, _, rfl⟩ | ⟨h, ht⟩
  · exact ⟨0, [], by omega, .done, List.Perm.refl _⟩
  · have hr := ht.top
    have hlow := ht.low hl
    obtain ⟨T, h1, h2⟩ := Fo.bl (L := [root]) (by simp) (show Fo σ h [root] (bs ++ []) from ⟨_, _, _, _, _, ht, rfl, rfl⟩)
    rw [List.append_nil] at h2
    exact ⟨h + 1, T, by omega, by rw [if_neg (by omega)]; exact h1, h2⟩

/-- the slice of ints, sorted -/
def srtI (T : List Int) : List Int := T.mergeSort fun x y => decide (x ≤ y)
theorem srtI_len (T : List Int) : (srtI T).length = T.length := List.length_mergeSort _
theorem srtI_rise {T : List Int} (h : T.Nodup) : (srtI T).Pairwise (· < ·) := by
  have h1 : (srtI T).Pairwise fun a b => decide (a ≤ b) = true := List.pairwise_mergeSort (fun a b c h1 h2 => by simp at *; omega) (fun a b => by simp; omega) T
  have h2 : (srtI T).Nodup := (List.mergeSort_perm T _).nodup_iff.2 h
  exact (h1.and h2).imp fun {a b} ⟨h1, h2⟩ => by have := of_decide_eq_true h1; omega
theorem srtI_mem {T : List Int} (x : Int) : x ∈ srtI T ↔ x ∈ T := (List.mergeSort_perm T _).mem_iff

theorem sort_own (v : Value) (T : List Int) (w : World) (S : Nat → Prop) (B : Nat) (h : OwnSl w S B 3 1 v T.length (T.map (.int .i64))) (hl : T.length ≤ 100000) (hB : B ≤ w.heap.size) :
    Calls Tryz.prog 24 #[v] w fun e w' => e = .returned (.tuple #[]) ∧ OwnSl w' S B 3 1 v (srtI T).length ((srtI T).map (.int .i64)) ∧ Below B w w' := by
  obtain ⟨⟨hxl, hr⟩, hn⟩ := h
  rcases hr with ⟨rfl, h0⟩ | ⟨g, cap, cur, rfl, hb, hg, h1, h2, h3, h4⟩
  · refine (Any.slices_Sort_int_none sortLays none 0 w).mono ?_
    rintro e w' ⟨rfl, rfl⟩
    have hT : T = [] := List.eq_nil_of_length_eq_zero h0
    subst hT
    refine ⟨rfl, ?_, Below.refl _ _⟩
    have : srtI [] = [] := List.eq_nil_of_length_eq_zero (srtI_len [])
    rw [this]
    exact OwnSl.nil _ _ _ _ _
  · have hH : Go.Sort.Holds (Value.int .i64) w g 0 T.toArray := holds_of_blockI hg (by rw [← h4, Nat.mul_one])
    refine (Any.slices_Sort_int sortLays g 0 cap T w hH (Array.getElem?_eq_some_iff.1 hg).1 (by omega)).mono ?_
    rintro e w' ⟨rfl, n, os, rfl⟩
    have hgb := grownBy_sortedI (w := w) (g := g) (n := n) (os := os) (srtI T).toArray
    refine ⟨rfl, ⟨?_, hn⟩, ⟨hgb.os, hgb.tape, hgb.output, hgb.size, fun k hk => hgb.block k (Nat.lt_of_lt_of_le hk hB) (fun e => by have := Option.some.inj e; omega)⟩⟩
    have := ownsRow_sortedI (w := w) (base := B) (n := n) (os := os) (ts := srtI T) (srtI_len T) hb hg h1 h2 h3
    rw [srtI_len]
    exact this
end Go.Proofs.YtbldcbakhpdigaaGreat

/- Blocks: the walk. -/
namespace Go.Proofs.YtbldcbakhpdigaaGreat
open Go.RowKit

theorem flatK_take (nds : List Nd) (k : Nat) (h : k < nds.length) : (nds.take (k + 1)).flatMap (·.kids) = (nds.take k).flatMap (·.kids) ++ nds[k].kids := by
  rw [List.take_succ_eq_append_getElem h, List.flatMap_append, List.flatMap_cons, List.flatMap_nil, List.append_nil]
theorem flatK_le (nds : List Nd) (k : Nat) : ((nds.take k).flatMap (·.kids)).length ≤ (nds.flatMap (·.kids)).length := by
  have : (nds.take k).flatMap (·.kids) ++ (nds.drop k).flatMap (·.kids) = nds.flatMap (·.kids) := by rw [← List.flatMap_append, List.take_append_drop]
  rw [← this]; simp

set_option maxRecDepth 100000 in
set_option maxHeartbeats 2000000 in
theorem blocks_zero (t mp : Nat) (S : Nat → Prop) (w : World) (ht : TreeAt w t mp 0 0) :
    Calls Tryz.prog 9 #[.pointer (some ⟨t, 0, none⟩)] w fun e w' => ∃ v, e = .returned (.tuple #[v, .int .i64 0]) ∧ IsInts w' S v (srtI []) ∧ Below w.heap.size w w' := by
  obtain ⟨_, c1, _, _, _, _, hlt⟩ := cells3 ht
  go_enter Tryz.func9, Tryz.ntmps9
  go_wp2_with (first
    | (go_at_call 22; go_must ((refine (usable_any t mp 0 0 _ ht).mono ?_); rintro e w1 ⟨rfl, hw⟩; subst w1)))
  go_loopw [5, 6, 7, 8, 10, 11, 12] (fun o l _ _ _ _ _ wr => o = .slice none 0 0 ∧ l = .slice none 0 0 ∧ Below w.heap.size w wr) (fun _ _ _ _ _ _ _ _ => 0)
  case atStart => exact ⟨rfl, rfl, below_one w _⟩
  case round =>
    obtain ⟨rfl, rfl, hb⟩ := hrel
    go_wp2_with (first
      | (go_at_call 24; go_must ((refine (sort_own (.slice none 0 0) [] _ S w.heap.size (OwnSl.nil _ _ _ _ _) (by simp) hb.size).mono ?_); rintro e w2 ⟨rfl, ho, hb2⟩)))
    go_ret2
    exact ⟨_, rfl, ho.isSl, hb.trans hb2⟩

set_option maxRecDepth 100000 in
set_option maxHeartbeats 4000000 in
theorem blocks_some (t mp : Nat) (root : Int) (σ : MSt) (S : Nat → Prop) (w : World) (h : Inv σ S mp w) (ht : TreeAt w t mp root 0) (hr : root ≠ 0) (n : Nat) (T : List Int) (hn : n ≤ 12) (hB : BL σ n [root] T) (hl : T.length ≤ 9000) :
    Calls Tryz.prog 9 #[.pointer (some ⟨t, 0, none⟩)] w fun e w' => ∃ v, e = .returned (.tuple #[v, .int .i64 0]) ∧ IsInts w' S v (srtI T) ∧ Below w.heap.size w w' := by
  obtain ⟨_, c1, _, _, _, _, hlt⟩ := cells3 ht
  have hsub := h.sub
  have hr0 : (root == 0) = false := by simpa using hr
  have HB := Lib.hid hB; clear hB
  have h0 : OwnSl (w.alloc (.cells #[.int .i64 root] 3)) S w.heap.size 3 1 (.slice (some ⟨w.heap.size, 0, none⟩) 1 1) 1 [.int .i64 root] := own_new (w := w) (S := S) (B := w.heap.size) (e := 3) (k := 1) [.int .i64 root] 1 1 rfl rfl (Nat.le_refl _) (by simp [maxLen]) (Nat.le_refl _) hsub
  go_enter Tryz.func9, Tryz.ntmps9
  go_wp2_with (first
    | (go_at_call 22; go_must ((refine (usable_any t mp root 0 _ ht).mono ?_); rintro e w1 ⟨rfl, hw⟩; subst w1)))
  go_loopw [5, 6, 7, 8, 10, 11, 12] (fun o l x _ _ _ _ wr => ∃ (O L T' : List Int) (d m : Nat), x = .int .i64 d ∧ d + m ≤ 12 ∧ OwnSl wr S w.heap.size 3 1 o O.length (O.map (.int .i64)) ∧ OwnSl wr S w.heap.size 3 1 l L.length (L.map (.int .i64)) ∧ BL σ m L T' ∧ O ++ T' = T ∧ Below w.heap.size w wr) (fun _ _ x _ _ _ _ _ => 13 - (intOf x).toNat)
  case atStart => exact ⟨[], [root], T, 0, n, rfl, by omega, OwnSl.nil _ _ _ _ _, h0, HB.out, rfl, below_one w _⟩
  case round =>
    clear h0
    obtain ⟨O, L, T', d, m, rfl, hdm, hO, hL, hBL, hT, hbel⟩ := hrel
    have hlen : O.length + T'.length ≤ 9000 := by rw [← List.length_append, hT]; exact hl
    cases hBL with
    | done =>
      rw [List.append_nil] at hT
      have HT := Lib.hid hT; clear hT
      obtain ⟨ao, c, rfl, _, _, _, _⟩ := IsSl.form hL.isSl
      go_wp2_with (first
        | (go_at_call 24; go_must ((refine (sort_own _ O _ S w.heap.size hO (by omega) hbel.size).mono ?_); rintro e w2 ⟨rfl, ho, hb2⟩)))
      go_ret2
      rw [HT.out] at ho
      exact ⟨_, rfl, ho.isSl, hbel.trans hb2⟩
    | @step m _ nds T2 hne hnl hblk hB2 =>
      have HBK := Lib.hid hblk; clear hblk
      have HB2 := Lib.hid hB2; clear hB2
      have HT := Lib.hid hT; clear hT
      have hle2 := HB2.out.le
      have hnle := flatK_le nds
      have HNL := Lib.hid hnle; clear hnle
      rw [List.length_append] at hlen
      obtain ⟨ao, c, rfl, _, _, _, _⟩ := IsSl.form hL.isSl
      obtain ⟨oo, oc, rfl, _, _, _, _⟩ := IsSl.form hO.isSl
      have hLp : 0 < L.length := List.length_pos_iff.2 hne
      have hLp' : (0 : Int) < (L.length : Int) := by omega
      clear hne
      have hd40 : (d : Int) ≤ 40 := by omega
      obtain ⟨wo, rfl⟩ : ∃ x : World, x = wr := ⟨_, rfl⟩
      go_wp2_with fail
      go_loopw [8, 10, 11, 12, 35] (fun v _ _ _ i wk => ∃ k : Nat, k ≤ L.length ∧ i = .int .i64 k ∧ OwnSl wk S wo.heap.size 3 1 v ((nds.take k).flatMap (·.kids)).length (((nds.take k).flatMap (·.kids)).map (.int .i64)) ∧ Below wo.heap.size wo wk) (fun _ _ _ _ i _ => L.length - (intOf i).toNat)
      case atStart => exact ⟨0, by omega, rfl, OwnSl.nil _ _ _ _ _, Below.refl _ _⟩
      case round =>
        obtain ⟨k, hk, rfl, hV, hbk⟩ := hrel
        have hbw := hbel.trans (hbk.mono hbel.size)
        obtain ⟨Fk, hFk⟩ : ∃ F, F = (nds.take k).flatMap (·.kids) := ⟨_, rfl⟩
        rw [← hFk] at hV
        obtain ⟨vo, vc, rfl, _, _, _, _⟩ := IsSl.form hV.isSl
        by_cases hkl : k < L.length
        · have hkn : k < nds.length := by omega
          have hb := HBK.out k hkl hkn
          obtain ⟨pb, po, rfl, d1⟩ := IsInts.at (zs := L) (hL.isSl.below hbk) rfl k hkl
          have hpb := World.block_lt_of_cell? wr _ d1
          have hkli : (k : Int) < (L.length : Int) := by omega
          have hNk := HNL.out (k + 1)
          rw [flatK_take nds k hkn, ← hFk, List.length_append] at hNk
          have hFT := flatK_take nds k hkn
          rw [← hFk] at hFT
          clear hFk
          have HFT := Lib.hid hFT; clear hFT
          have hIr := h.below hbw
          have htr : TreeAt wr t mp root 0 := (hbw.block t hlt).trans ht
          go_wp2_with (first
            | (go_at_call 23; go_must ((refine (load_any t mp root 0 L[k] d σ S nds[k] _ hIr htr hb hd40).mono ?_); rintro e w1 ⟨nb, rfl, hn1, hb1⟩; refine Stop.of ?_)))
          refine Stop.on ?_
          obtain ⟨_, v0, v1, v2, hbn, _, _, hk2⟩ := hn1.isNode
          obtain ⟨_, _, e2, _, _, _, hl3⟩ := cells3 hbn
          have hsrc := IsSl.src (P := Tryz.prog) hk2 Tryz.underlying36 (one_ints _)
          obtain ⟨ko, kc, rfl, _, _, _, _⟩ := IsSl.form hk2
          have hV1 := hV.below hb1
          have hbk1 := hbk.trans (hb1.mono hbk.size)
          have hsub1 : ∀ g, S g → g < w1.heap.size := fun g hg => Nat.lt_of_lt_of_le (hsub g hg) (Nat.le_trans hbw.size hb1.size)
          go_wp2_with (first
            | (at_builtin; (refine wpList_app rfl (.tmp 49) (.tmp 53) 36 36 rfl S wo.heap.size 3 1 8 _ Tryz.underlying36 info_int rfl (.slice vo Fk.length vc) Fk.length _ rfl hV1 (.slice ko nds[k].kids.length kc) nds[k].kids.length _ rfl hsrc hsub1 hbk1.size (by unfold maxLen; omega) (by omega) ?_); go_must (intro ao6 c6 w6 hown6 hk6 hb6 hd6; refine Stop.of ?_)))
          refine Stop.on ?_
          go_wp2_with fail
          go_roundw
          case rel => exact ⟨k + 1, by omega, by go_num, by rw [HFT.out, List.length_append, List.map_append]; exact hown6, hbk1.trans hb6⟩
          case measure => simp [intOf]; omega
        · have hke : k = L.length := by omega
          subst hke
          rw [← hnl, List.take_length] at hFk
          have HFK := Lib.hid hFk; clear hFk
          have hfl : Fk.length ≤ 9000 := by rw [HFK.out]; omega
          have hsrc := IsSl.src (P := Tryz.prog) (hL.isSl.below hbk) Tryz.underlying36 (one_ints _)
          have hsub1 : ∀ g, S g → g < wr.heap.size := fun g hg => Nat.lt_of_lt_of_le (hsub g hg) hbw.size
          have hOr := hO.below hbk
          clear hk hkl
          have hle3 : (nds.flatMap (·.kids)).length ≤ 9000 := by omega
          have hbg := hbw.size
          go_wp2_with (first
            | (at_builtin; (refine wpList_app rfl (.tmp 56) (.tmp 57) 36 36 rfl S w.heap.size 3 1 8 _ Tryz.underlying36 info_int rfl (.slice oo O.length oc) O.length _ rfl hOr (.slice ao L.length c) L.length _ rfl hsrc hsub1 hbg (by unfold maxLen; omega) (by omega) ?_); go_must (intro ao7 c7 w7 hown7 hk7 hb7 hd7; refine Stop.of ?_)))
          refine Stop.on ?_
          have hV7 := hV.keep (w' := w7) (S' := S) fun g hg' hl' hs => ⟨hk7.block g hl' (fun e => by
            have a := hV.lo g hg'
            have b := (hO.1.lt g e).2
            omega), hs⟩
          go_wp2_with fail
          go_roundw
          case rel => exact ⟨O ++ L, nds.flatMap (·.kids), T2, d + 1, m, by go_num, by omega, by rw [List.length_append, List.map_append]; exact hown7, by rw [← HFK.out]; exact hV7.base hbel.size, HB2.out, by rw [List.append_assoc, HT.out], hbw.trans hb7⟩
          case measure => simp [intOf]; omega
end Go.Proofs.YtbldcbakhpdigaaGreat

/- Slices of operations. -/
namespace Go.Proofs.YtbldcbakhpdigaaGreat
open Go.RowKit

abbrev OpV := Int × ByteArray × ByteArray × Int
/-- v is a slice of those operations -/
def IsOps (w : World) (v : Value) (os : List OpV) : Prop := ∃ ao c, v = .slice ao os.length c ∧ os.length ≤ c ∧ c ≤ maxLen ∧
  ∀ i (_ : i < os.length), ∃ b o, ao = some ⟨b, o, none⟩ ∧ w.cell? ⟨b, o + i * 4, none⟩ = some (.int .u8 os[i].1) ∧ w.cell? ⟨b, o + i * 4 + 1, none⟩ = some (.string os[i].2.1) ∧ w.cell? ⟨b, o + i * 4 + 2, none⟩ = some (.string os[i].2.2.1) ∧ w.cell? ⟨b, o + i * 4 + 3, none⟩ = some (.int .i64 os[i].2.2.2)
theorem IsOps.at {w : World} {v : Value} {os : List OpV} {ao : Option Addr} {n c : Nat} (h : IsOps w v os) (hv : v = .slice ao n c) (i : Nat) (hi : i < os.length) :
    ∃ b o, ao = some ⟨b, o, none⟩ ∧ w.cell? ⟨b, o + i * 4, none⟩ = some (.int .u8 os[i].1) ∧ w.cell? ⟨b, o + i * 4 + 1, none⟩ = some (.string os[i].2.1) ∧ w.cell? ⟨b, o + i * 4 + 2, none⟩ = some (.string os[i].2.2.1) ∧ w.cell? ⟨b, o + i * 4 + 3, none⟩ = some (.int .i64 os[i].2.2.2) := by
  obtain ⟨ao', c', rfl, _, _, h6⟩ := h
  cases hv
  exact h6 i hi
end Go.Proofs.YtbldcbakhpdigaaGreat

/- A slice of operations that came in as an argument. -/
namespace Go.Proofs.YtbldcbakhpdigaaGreat
open Go.RowKit Go.ChangeShapes Go.WideShapes Go.ChangeAt Go.Deep

theorem add_none (a : Addr) : a.add 0 = a := by unfold Addr.add; simp

theorem open_op {H : Type} {enc : TypeId × Value → H} {w : World} {base : Nat} {spare : Nat → Bool} {held : Bool} {n : Nat} {cs : List Value} {a : Addr} {D : DataW H} {pl : List MemPlace} (h1 : w.cells? base a 4 = some cs) (h2 : DataW.trod enc Tryz.prog w base spare held n 34 cs = some (D, pl)) :
    ∃ o : OpV, a.spot = none ∧ (0 ≤ o.1 ∧ o.1 ≤ 255 ∧ (Lit.int .i64 o.2.2.2).wf = true) ∧ o.2.1.size ≤ maxLen ∧ w.cell? a = some (.int .u8 o.1) ∧ w.cell? (a.add 1) = some (.string o.2.1) ∧ w.cell? (a.add 2) = some (.string o.2.2.1) ∧ w.cell? (a.add 3) = some (.int .i64 o.2.2.2) := by
  obtain ⟨_, hlen, hcell⟩ := World.cells?_some h1
  match cs, hlen with
  | [v0, v1, v2, v3], _ =>
    obtain ⟨y0, y1, y2, y3, m, hx, _, g0, g1, g2, g3⟩ := Go.Joins.trod_struct4 Tryz.underlying34 h2
    have c8 : Tryz.prog.cellsOf 5 = 1 := by kernel_rfl
    have c9 : Tryz.prog.cellsOf 9 = 1 := by kernel_rfl
    have c3 : Tryz.prog.cellsOf 3 = 1 := by kernel_rfl
    simp [c8, c9, c3] at g0 g1 g2 g3
    obtain ⟨k, e0, _, wk⟩ := DataW.trod_int Tryz.underlying5 g0
    obtain ⟨s1, e1, _, ws⟩ := DataW.trod_string Tryz.underlying9 g1
    obtain ⟨s2, e2, _⟩ := DataW.trod_string Tryz.underlying9 g2
    obtain ⟨z, e3, _, wz⟩ := DataW.trod_int Tryz.underlying3 g3
    simp at e0 e1 e2 e3
    subst e0 e1 e2 e3
    have d0 := hcell 0 (by omega)
    have d1 := hcell 1 (by omega)
    have d2 := hcell 2 (by omega)
    have d3 := hcell 3 (by omega)
    refine ⟨(k, s1, s2, z), ?_, ⟨?_, ?_, wz⟩, ws, by rw [add_none] at d0; simpa using d0, by simpa using d1, by simpa using d2, by simpa using d3⟩
    · have := World.cell?_spot (show w.cell? (a.add 0) = some _ from d0)
      rwa [add_none] at this
    · simp only [Lit.wf, Bool.and_eq_true, decide_eq_true_eq] at wk
      exact Int.le_trans (by decide) wk.1
    · simp only [Lit.wf, Bool.and_eq_true, decide_eq_true_eq] at wk
      exact Int.le_trans wk.2 (by decide)

theorem open_ops {H : Type} {enc : TypeId × Value → H} {W : World} {fuel : Nat} {cs : List Value} {x : DataW H × List MemPlace} (h : DataW.trod enc Tryz.prog W 0 (fun _ => true) true fuel 22 cs = some x) :
    ∃ v os, cs = [v] ∧ IsOps W v os ∧ (∀ o ∈ os, 0 ≤ o.1 ∧ o.1 ≤ 255 ∧ (Lit.int .i64 o.2.2.2).wf = true) ∧ ∀ o ∈ os, o.2.1.size ≤ maxLen := by
  rcases open_slice Tryz.underlying22 h with ⟨rfl, _⟩ | ⟨a, len, cap, m, n, D, Pl, rfl, hb, hl, hm, hmm, rfl, hx⟩
  · exact ⟨_, [], rfl, ⟨none, 0, rfl, Nat.le_refl _, Nat.zero_le _, fun i hi => by simp at hi⟩, by simp, by simp⟩
  · have hc4 : Tryz.prog.cellsOf 34 = 4 := by kernel_rfl
    have hlm : len ≤ m := by rw [hmm]; simp; exact hl
    have each : ∀ i, i < len → ∃ o : OpV, (a.add (i * 4)).spot = none ∧ (0 ≤ o.1 ∧ o.1 ≤ 255 ∧ (Lit.int .i64 o.2.2.2).wf = true) ∧ o.2.1.size ≤ maxLen ∧ W.cell? (a.add (i * 4)) = some (.int .u8 o.1) ∧ W.cell? ((a.add (i * 4)).add 1) = some (.string o.2.1) ∧ W.cell? ((a.add (i * 4)).add 2) = some (.string o.2.2.1) ∧ W.cell? ((a.add (i * 4)).add 3) = some (.int .i64 o.2.2.2) := by
      intro i hi
      obtain ⟨cs', h1, h2⟩ := hx i (by omega)
      rw [hc4] at h1
      exact open_op h1 h2
    obtain ⟨f, hf⟩ := choose_lt each
    refine ⟨_, (List.range len).map f, rfl, ⟨some a, cap, by simp, by simpa using hl, hm, fun i hi => ?_⟩, ?_, ?_⟩
    · simp at hi
      obtain ⟨g0, _, _, g1, g2, g3, g4⟩ := hf i hi
      obtain ⟨b, o, sp⟩ := a
      have hs : sp = none := by
        have := (hf 0 (by omega)).1
        rw [Nat.zero_mul, add_none] at this
        exact this
      subst hs
      rw [Addr.add_lit] at g1 g2 g3 g4
      rw [Addr.add_lit] at g2 g3 g4
      refine ⟨b, o, rfl, ?_, ?_, ?_, ?_⟩ <;> simpa using by assumption
    · intro o ho
      obtain ⟨i, hi, rfl⟩ := List.mem_map.1 ho
      exact (hf i (List.mem_range.1 hi)).2.1
    · intro o ho
      obtain ⟨i, hi, rfl⟩ := List.mem_map.1 ho
      exact (hf i (List.mem_range.1 hi)).2.2.1
end Go.Proofs.YtbldcbakhpdigaaGreat

/- A region that draws its order, walked in one order, as XRegion; but what is known of the world may change at a pivot: an operation that comes behind or ahead of every other one in each order. No program in sight. -/
namespace Go.Proofs.YtbldcbakhpdigaaGreat
open Go.RowKit

section
variable {P : Program} {ops : Array Oper} {Q : Exit → Act → World → Prop} {md : Region.Mode} {S : World → Prop}

/-- all that j waits for -/
def clos (md : Region.Mode) (ops : Array Oper) (j : Nat) : List Nat := marks md ops (List.range ops.size).reverse (edges md ops j)
def pivot (md : Region.Mode) (ops : Array Oper) (j : Nat) : Bool := (List.range ops.size).all fun i => i == j || (clos md ops j).contains i || (clos md ops i).contains j

theorem clos_listed {listed : Array Bool} (hs : Shutd md ops listed) {i j : Nat} (hj : j ∈ Region.ready md ops listed) (hi : i ∈ clos md ops j) : listed.getD i false = true :=
  marks_listed hs (List.range ops.size).reverse _ (fun k hk => by simpa using hk) (fun x hx => edges_of_ready hj hx) i hi

theorem not_pivot {i j : Nat} {listed : Array Bool} (hs : Shutd md ops listed) (hi : i ∈ Region.ready md ops listed) (hj : j ∈ Region.ready md ops listed) (hne : i ≠ j) : pivot md ops j = false := by
  cases hw : pivot md ops j with
  | false => rfl
  | true =>
    have h0 := List.all_eq_true.1 hw i (List.mem_range.2 (lt_of_ready hi))
    simp only [Bool.or_eq_true, beq_iff_eq, hne, false_or, List.contains_iff_mem] at h0
    rcases h0 with h0 | h0
    · have h1 := getD_true_of_false (clos_listed hs hj h0)
      rw [(mem_ready.1 hi).1] at h1
      cases h1
    · have h1 := getD_true_of_false (clos_listed hs hi h0)
      rw [(mem_ready.1 hj).1] at h1
      cases h1

def wpAnyH (P : Program) (md : Region.Mode) (ops : Array Oper) (Q : Exit → Act → World → Prop) : Nat → (World → Prop) → Array Bool → Act → World → Prop
  | 0, _, listed, a, w => Region.ready md ops listed = [] ∧ Q .normal a w
  | fuel + 1, S, listed, a, w =>
    (Region.ready md ops listed = [] → Q .normal a w) ∧
    ∀ i ∈ Region.ready md ops listed, wpOp P ops Q i (fun a' w' => ∃ S', (S' = S ∨ pivot md ops i = true) ∧ S' w' ∧ wpAnyH P md ops Q fuel S' (listed.setIfInBounds i true) a' w') a w

theorem wpAny_of_H : ∀ (fuel : Nat) (S : World → Prop) (listed : Array Bool) (a : Act) (w : World), wpAnyH P md ops Q fuel S listed a w → wpAny P md ops Q fuel listed a w
  | 0, _, _, _, _, h => h
  | fuel + 1, _, _, _, _, h => ⟨h.1, fun i hi => wpOp_mono (fun a' w' ⟨_, _, _, h'⟩ => wpAny_of_H fuel _ _ a' w' h') (h.2 i hi)⟩

theorem wpAnyH_first {i : Nat} {oi : Oper} {v : Value} (hi : ops[i]? = some oi) (hsel : ∀ (j : Nat) (o : Oper) cs b, ops[j]? = some o → o.op ≠ .select cs b)
    (hQ : ∀ c a w, Q (.panic c) (a.put oi.dst v) w → Q (.panic c) a w) :
    ∀ (fuel : Nat) (listed : Array Bool) (a : Act) (w : World), Shutd md ops listed →
      (∀ j oj, ops[j]? = some oj → j ≠ i → listed.getD j true = false → (∀ e ∈ oj.after, Region.binds md e = true → e.on ≠ i) → oi.apart ops oj = true) →
      i ∈ Region.ready md ops listed → YieldsIf P ops S oi v a → S w →
      wpAnyH P md ops Q fuel S (listed.setIfInBounds i true) (a.put oi.dst v) w → wpAnyH P md ops Q (fuel + 1) S listed a w := by
  intro fuel
  induction fuel with
  | zero =>
    intro listed a w hsh _ hr hy hS H
    refine ⟨fun h => (by rw [h] at hr; cases hr), fun j hj => ?_⟩
    by_cases hji : j = i
    · subst hji; exact hy.wpOp hi hS ⟨S, .inl rfl, hS, H⟩
    · have := ready_mono hj hji
      rw [H.1] at this
      cases this
  | succ fuel ih =>
    intro listed a w hsh hfree hr hy hS H
    refine ⟨fun h => (by rw [h] at hr; cases hr), fun j hj => ?_⟩
    by_cases hji : j = i
    · subst hji; exact hy.wpOp hi hS ⟨S, .inl rfl, hS, H⟩
    · have h1 := H.2 j (ready_mono hj hji)
      have hnw := not_pivot hsh hr hj (Ne.symm hji)
      obtain ⟨hjun, oj, hoj, hall⟩ := mem_ready.1 hj
      have hnot : ∀ e ∈ oj.after, Region.binds md e = true → e.on ≠ i := fun e he hb heq => by
        have q1 := hall e he hb
        have q0 := (mem_ready.1 hr).1
        rw [heq] at q1
        rcases Nat.lt_or_ge i listed.size with h' | h'
        · simp [h'] at q0 q1; rw [q0] at q1; cases q1
        · simp [Array.getElem?_eq_none h'] at q1
      have h2 := wpOp_putIf hoj (hfree j oj hoj hji hjun hnot) (fun cs b => hsel i oi cs b hi) (fun cs b => hsel j oj cs b hoj) hQ hy h1
      have hfree' : ∀ k ok, ops[k]? = some ok → k ≠ i → (listed.setIfInBounds j true).getD k true = false →
          (∀ e ∈ ok.after, Region.binds md e = true → e.on ≠ i) → oi.apart ops ok = true := fun k ok hk hki hun hno => by
        refine hfree k ok hk hki ?_ hno
        by_cases hjk : j = k
        · subst hjk; exact hjun
        · rw [getD_set_ne true hjk] at hun; exact hun
      refine wpOp_mono (fun a' w' h3 => ?_) h2
      obtain ⟨S', hS1, hS', hr'⟩ := h3.2
      obtain rfl : S' = S := hS1.resolve_right (by rw [hnw]; simp)
      refine ⟨_, .inl rfl, hS', ih (listed.setIfInBounds j true) a' w' (hsh.set hj) hfree' (ready_mono hr (Ne.symm hji)) h3.1 hS' ?_⟩
      rw [Array.setIfInBounds_comm _ _ hji]
      exact hr'

def ordOkH (md : Region.Mode) (ops : Array Oper) (q : Nat → Bool) : List Nat → Array Bool → Bool
  | [], listed => (Region.ready md ops listed).isEmpty
  | i :: rest, listed =>
    (if q i then (Region.ready md ops listed).contains i && Region.free md ops listed i
     else (Region.ready md ops listed == [i])) && ordOkH md ops q rest (listed.setIfInBounds i true)

def wpOrdH (P : Program) (md : Region.Mode) (ops : Array Oper) (Q : Exit → Act → World → Prop) (q : Nat → Bool) : List Nat → (World → Prop) → Act → World → Prop
  | [], _, a, w => Q .normal a w
  | i :: rest, S, a, w =>
    if q i then ∃ o v, ops[i]? = some o ∧ (∀ c a w, Q (.panic c) (a.put o.dst v) w → Q (.panic c) a w) ∧ YieldsIf P ops S o v a ∧ wpOrdH P md ops Q q rest S (a.put o.dst v) w
    else wpOp P ops Q i (fun a' w' => ∃ S', (S' = S ∨ pivot md ops i = true) ∧ S' w' ∧ wpOrdH P md ops Q q rest S' a' w') a w

theorem wpAnyH_of_ord (hs : Region.noSelect ops = true) {q : Nat → Bool} : ∀ (order : List Nat) (fuel : Nat) (S : World → Prop) (listed : Array Bool) (a : Act) (w : World), Shutd md ops listed →
    ordOkH md ops q order listed = true → order.length ≤ fuel → S w → wpOrdH P md ops Q q order S a w → wpAnyH P md ops Q fuel S listed a w
  | [], fuel, _, listed, a, w, _, hok, _, _, h => by
    have h0 : Region.ready md ops listed = [] := by simpa [ordOkH] using hok
    cases fuel with
    | zero => exact ⟨h0, h⟩
    | succ fuel => exact ⟨fun _ => h, fun i hi => by rw [h0] at hi; cases hi⟩
  | i :: rest, 0, _, _, _, _, _, _, hf, _, _ => absurd hf (by simp)
  | i :: rest, fuel + 1, S, listed, a, w, hsh, hok, hf, hS, h => by
    simp only [ordOkH, Bool.and_eq_true] at hok
    obtain ⟨hi, hrest⟩ := hok
    by_cases hq : q i = true
    · simp only [hq, if_true, Bool.and_eq_true] at hi
      simp only [wpOrdH, hq, if_true] at h
      obtain ⟨o, v, ho, hQ, hy, h⟩ := h
      exact wpAnyH_first ho (Region.noSelect_spec hs) hQ fuel listed a w hsh (Region.free_spec ho hi.2) (by simpa using hi.1) hy hS
        (wpAnyH_of_ord hs rest fuel S _ _ _ (hsh.set (by simpa using hi.1)) hrest (by simpa using hf) hS h)
    · rw [if_neg hq, beq_iff_eq] at hi
      simp only [wpOrdH] at h
      rw [if_neg hq] at h
      have hr : Region.ready md ops listed = [i] := hi
      refine ⟨fun h0 => (by rw [hr] at h0; cases h0), fun j hj => ?_⟩
      rw [hr] at hj
      obtain rfl : j = i := by simpa using hj
      refine wpOp_mono (fun a' w' ⟨S', h1, h2, h3⟩ => ⟨S', h1, h2, wpAnyH_of_ord hs rest fuel S' _ _ _ (hsh.set (by rw [hr]; exact List.mem_singleton.2 rfl)) hrest (by simpa using hf) h2 h3⟩) h

/-- the beginning -/
theorem wp_region_piv {id : Nat} {a : Act} {w : World} (S : World → Prop) (q : Nat → Bool) (order : List Nat) (hm : P.follows .mixedOrders = true) (hok : (Region.noSelect ops && decide (order.length ≤ ops.size) && ordOkH .any ops q order (Array.replicate ops.size false)) = true)
    (hS : S w.drew) (h : wpOrdH P .any ops Q q order S a w.drew) : (Code.region id ops true).wp P Q a w := by
  simp only [Bool.and_eq_true, decide_eq_true_eq] at hok
  exact wp_region_any hm (wpAny_of_H _ _ _ _ _ (wpAnyH_of_ord hok.1.1 order _ _ _ _ _ Shutd.replicate hok.2 hok.1.2 hS h))

theorem piv_nil {q : Nat → Bool} {a : Act} {w : World} (h : Q .normal a w) : wpOrdH P md ops Q q [] S a w := h
theorem piv_q {q : Nat → Bool} {i : Nat} {rest : List Nat} {a : Act} {w : World} {o : Oper} {v : Value} (hq : q i = true) (hi' : ops.toList[i]? = some o) (hQ : ∀ c a w, Q (.panic c) (a.put o.dst v) w → Q (.panic c) a w)
    (hw : Region.wanted o (yielded ops a.tmps) = true) (hy : ∀ W, S W → (execOp a.eval o).run P W = .ok (.value v) W) (h : wpOrdH P md ops Q q rest S (a.put o.dst v) w) : wpOrdH P md ops Q q (i :: rest) S a w := by
  have hi : ops[i]? = some o := by rw [← Array.getElem?_toList]; exact hi'
  simp only [wpOrdH, hq, if_true]; exact ⟨o, v, hi, hQ, .inl ⟨hw, hy⟩, h⟩
theorem piv_skip {q : Nat → Bool} {i : Nat} {rest : List Nat} {a : Act} {w : World} {o : Oper} (hq : q i = true) (hi' : ops.toList[i]? = some o) (hQ : ∀ c a w, Q (.panic c) (a.put o.dst undef) w → Q (.panic c) a w)
    (hw : Region.wanted o (yielded ops a.tmps) = false) (h : wpOrdH P md ops Q q rest S (a.put o.dst undef) w) : wpOrdH P md ops Q q (i :: rest) S a w := by
  have hi : ops[i]? = some o := by rw [← Array.getElem?_toList]; exact hi'
  simp only [wpOrdH, hq, if_true]; exact ⟨o, undef, hi, hQ, .inr ⟨hw, rfl⟩, h⟩
/-- an effect that keeps S -/
theorem piv_e {q : Nat → Bool} {i : Nat} {rest : List Nat} {a : Act} {w : World} {o : Oper} (hq : q i = false) (hi' : ops.toList[i]? = some o) (hw : Region.wanted o (yielded ops a.tmps) = true)
    (h : ∀ K : Act → World → Prop, Shut (∀ a w, S w → wpOrdH P md ops Q q rest S a w → K a w) → o.wp P a w K Q) : wpOrdH P md ops Q q (i :: rest) S a w := by
  have hi : ops[i]? = some o := by rw [← Array.getElem?_toList]; exact hi'
  simp only [wpOrdH, hq, wpOp, hi, hw, if_true]
  exact .inl (h _ (fun a w hS hW => ⟨S, .inl rfl, hS, hW⟩))
/-- an effect at a pivot: from here on S' -/
theorem piv_p {q : Nat → Bool} {i : Nat} {rest : List Nat} {a : Act} {w : World} {o : Oper} (hq : q i = false) (hi' : ops.toList[i]? = some o) (hw : Region.wanted o (yielded ops a.tmps) = true) (hp : pivot md ops i = true)
    (h : ∀ K : Act → World → Prop, Shut (∀ (S' : World → Prop) a w, S' w → wpOrdH P md ops Q q rest S' a w → K a w) → o.wp P a w K Q) : wpOrdH P md ops Q q (i :: rest) S a w := by
  have hi : ops[i]? = some o := by rw [← Array.getElem?_toList]; exact hi'
  simp only [wpOrdH, hq, wpOp, hi, hw, if_true]
  exact .inl (h _ (fun S' a w hS hW => ⟨S', .inr hp, hS, hW⟩))
end
end Go.Proofs.YtbldcbakhpdigaaGreat



