/- A slice of pairs that came in as an argument. -/
import Derived.Test.YtbldcbakhpdigaaJ8
import Derived.Deep.SlicePairs
import Derived.Lib.SmallJoins
/- The document's answer: Scan, Same. -/
namespace Go.Proofs.Ytbldcbakhpdigaa
open Go.RowKit

def scL (rs : List Pr) (P M k : Nat) : List Pr := ((rs.take k).drop P).take M
theorem scL_len (rs : List Pr) (P M k : Nat) (hk : k ≤ rs.length) : (scL rs P M k).length = min (k - P) M := by
  unfold scL; simp; omega
theorem scL_no (rs : List Pr) (P M k : Nat) (hk : k < rs.length) (h : k < P ∨ M ≤ k - P) : scL rs P M (k + 1) = scL rs P M k := by
  unfold scL
  rw [List.take_succ_eq_append_getElem hk]
  rcases h with h | h
  · rw [List.drop_of_length_le (by simp; omega), List.drop_of_length_le (by simp; omega)]
  · rw [List.drop_append, List.take_append_of_le_length (by simp; omega)]
theorem scL_yes (rs : List Pr) (P M k : Nat) (hk : k < rs.length) (h : P ≤ k) (h2 : k - P < M) : scL rs P M (k + 1) = scL rs P M k ++ [rs[k]] := by
  unfold scL
  rw [List.take_succ_eq_append_getElem hk, List.drop_append_of_le_length (by simp; omega)]
  have hx : ((rs.take k).drop P).length = k - P := by simp; omega
  generalize (rs.take k).drop P = X at hx
  rw [List.take_of_length_le (l := X) (by omega), List.take_of_length_le (by rw [List.length_append, List.length_singleton]; omega)]

set_option maxRecDepth 100000 in
set_option maxHeartbeats 4000000 in
theorem rscan_any (r : Nat) (rs : List Pr) (key : ByteArray) (most : Int) (w : World) (S : Nat → Prop) (hsub : ∀ g, S g → g < w.heap.size) (h : IsRef w S r rs) (hr : RisingP rs) (hl : rs.length ≤ 90000) :
    Calls Try.prog 27 #[.pointer (some ⟨r, 0, none⟩), .string key, .int .i64 most] w fun e w' => ∃ v, e = .returned v ∧ IsPrs w' S v ((rs.drop (posAt rs key)).take most.toNat) ∧ Below w.heap.size w w' := by
  obtain ⟨hSr, v, hb, hv⟩ := h
  obtain ⟨c0, cf, lr⟩ := cellR hb
  obtain ⟨ao, cp, rfl, _, _, _, _⟩ := IsSl.form hv
  obtain ⟨f1, f2⟩ := posAt_facts key rs hr
  have hPl := posAt_le rs key
  generalize posAt rs key = P at *
  have HF1 := Lib.hid f1; clear f1
  have HF2 := Lib.hid f2; clear f2
  obtain ⟨M, hM⟩ : ∃ M, M = most.toNat := ⟨_, rfl⟩
  rw [← hM]
  have HM := Lib.hid hM; clear hM
  go_enter Try.func27, Try.ntmps27
  go_wp2
  go_loopw [7, 8] (fun l i wr => ∃ (k : Nat), k ≤ rs.length ∧ i = .int .i64 k ∧ OwnSl wr S w.heap.size 49 2 l (scL rs P M k).length (prCells (scL rs P M k)) ∧ Below w.heap.size w wr) (fun _ i _ => rs.length - (intOf i).toNat)
  case atStart => exact ⟨0, Nat.zero_le _, rfl, by have : scL rs P M 0 = [] := (by simp [scL]); rw [this]; exact OwnSl.nil _ _ _ _ _, Below.refl _ _⟩
  case round =>
    obtain ⟨k, hk, rfl, hown, hbel⟩ := hrel
    have hbr := (hbel.block r lr).trans hb
    obtain ⟨c0', cf', lr'⟩ := cellR hbr
    have hpl := scL_len rs P M k hk
    have hsubR : ∀ g, S g → g < wr.heap.size := fun g hg => Nat.lt_of_lt_of_le (hsub g hg) hbel.size
    generalize hn : (scL rs P M k).length = n at hown hpl
    have HN := Lib.hid hn; clear hn
    have hn1 : n ≤ 90000 := by omega
    obtain ⟨lo, lc, rfl, _, _, _, _⟩ := IsSl.form hown.isSl
    by_cases hlt : k < rs.length
    · obtain ⟨b, o, rfl, d1, d2⟩ := hv.at rfl k hlt
      have d1' := (hbel.cell (p := ⟨b, o + k * 2, none⟩) (World.block_lt_of_cell? w _ d1)).trans d1
      have d2' := (hbel.cell (p := ⟨b, o + k * 2 + 1, none⟩) (World.block_lt_of_cell? w _ d2)).trans d2
      have hbl := World.block_lt_of_cell? wr _ d1'
      have hlt' : (k : Int) < (rs.length : Int) := by omega
      clear d1 d2
      by_cases hP : P ≤ k
      · have hg : Op.bytesLess rs[k].1.toList key.toList = false := HF2.out k hlt hP
        by_cases hM : k - P < M
        · have hm : (n : Int) < most := by have := HM.out; omega
          have hba := below_one wr (.cells #[.string rs[k].1, .string rs[k].2] 49)
          have HPL := Lib.hid hpl; clear hpl
          go_wp2_with (at_builtin; (refine wpList_app rfl (.tmp 34) (.tmp 42) 40 40 rfl S w.heap.size 49 2 32 _ Try.underlying40 info_pair rfl (.slice lo n lc) n _ rfl (hown.below hba) (.slice (some ⟨wr.heap.size, 0, none⟩) 1 1) 1 [.string rs[k].1, .string rs[k].2] rfl (src_new (w := wr) [.string rs[k].1, .string rs[k].2] 49 2 1 1 rfl Try.underlying40 rfl (by intro u hu; simp only [List.mem_cons, List.not_mem_nil, or_false] at hu; rcases hu with rfl | rfl <;> rfl)) (sub_alloc hsubR _) ?_ ?_ ?_ ?_); go_must ((focus (have := hbel.size; simp only [World.size_alloc]; omega)); (focus (unfold maxLen; omega)); (focus omega); intro ao3 c3 w3 hown3 hk3 hb3 hd3))
          go_roundw
          case rel =>
            refine ⟨k + 1, by omega, by go_num, ?_, (hbel.trans (hba.mono hbel.size)).trans hb3⟩
            rw [scL_yes rs P M k hlt hP hM, List.length_append, HN.out, prCells_append]
            exact hown3
          case measure => simp [intOf]; omega
        · have hm : ¬ (n : Int) < most := by have := HM.out; omega
          have HPL := Lib.hid hpl; clear hpl
          go_wp2_with fail
          go_roundw
          case rel =>
            refine ⟨k + 1, by omega, by go_num, ?_, hbel⟩
            rw [scL_no rs P M k hlt (.inr (by omega)), HN.out]
            exact hown
          case measure => simp [intOf]; omega
      · have hg : Op.bytesLess rs[k].1.toList key.toList = true := HF1.out k hlt (by omega)
        have HPL := Lib.hid hpl; clear hpl
        go_wp2_with fail
        go_roundw
        case rel =>
          refine ⟨k + 1, by omega, by go_num, ?_, hbel⟩
          rw [scL_no rs P M k hlt (.inl (by omega)), HN.out]
          exact hown
        case measure => simp [intOf]; omega
    · obtain rfl : k = rs.length := by omega
      have x1 : ¬ (rs.length : Int) < (rs.length : Int) := by omega
      have HPL := Lib.hid hpl; clear hpl
      go_wp2_with fail
      go_ret
      refine ⟨_, rfl, ?_, hbel⟩
      have e : scL rs P M rs.length = (rs.drop P).take M := by unfold scL; rw [List.take_length]
      rw [← e]
      unfold IsPrs
      rw [HN.out]
      exact hown.isSl

set_option maxRecDepth 100000 in
set_option maxHeartbeats 4000000 in
/-- two lists that are the same -/
theorem same_yes (a b : Value) (ps : List Pr) (w : World) (S1 S2 : Nat → Prop) (ha : IsPrs w S1 a ps) (hb : IsPrs w S2 b ps) :
    Calls Try.prog 22 #[a, b] w fun e w' => e = .returned (.bool true) ∧ Below w.heap.size w w' := by
  obtain ⟨ao, ac, rfl, _, _, _, _⟩ := IsSl.form ha
  obtain ⟨bo, bc, rfl, _, _, _, _⟩ := IsSl.form hb
  go_enter Try.func22, Try.ntmps22
  go_wp2
  go_loopw [5] (fun i wr => ∃ k : Nat, k ≤ ps.length ∧ i = .int .i64 k ∧ Below w.heap.size w wr) (fun i _ => ps.length - (intOf i).toNat)
  case atStart => exact ⟨0, Nat.zero_le _, rfl, Below.refl _ _⟩
  case round =>
    obtain ⟨k, hk, rfl, hbel⟩ := hrel
    by_cases hlt : k < ps.length
    · obtain ⟨b1, o1, rfl, d1, d2⟩ := ha.at rfl k hlt
      obtain ⟨b2, o2, rfl, d3, d4⟩ := hb.at rfl k hlt
      have hlt' : (k : Int) < (ps.length : Int) := by omega
      have l1 := World.block_lt_of_cell? w _ d1
      have l2 := World.block_lt_of_cell? w _ d3
      go_wp2_with fail
      refine wp_region_ord (fun W => Below w.heap.size w W) (fun _ => true) [0, 1, 2, 3, 4, 5, 6, 7, 8] rfl (by kernel_rfl) hbel.drew ?_
      repeat ((refine ord_q (v := ?_) rfl rfl (fun _ _ _ h => h) rfl (fun W hW => ?_) ?_); rotate_left; (focus ((try dsimp only at hW); have q0 := (hW.cell (p := ⟨b1, o1 + k * 2, none⟩) l1).trans d1; have q1 := (hW.cell (p := ⟨b1, o1 + k * 2 + 1, none⟩) l1).trans d2; have q2 := (hW.cell (p := ⟨b2, o2 + k * 2, none⟩) l2).trans d3; have q3 := (hW.cell (p := ⟨b2, o2 + k * 2 + 1, none⟩) l2).trans d4; have q4 := Nat.lt_of_lt_of_le l1 hW.size; have q5 := Nat.lt_of_lt_of_le l2 hW.size; first | (go_simp; first | done | with_reducible rfl))); (try simp only [Act.put, List.setIfInBounds_toArray, List.set_cons_zero, List.set_cons_succ]))
      refine ord_nil ?_
      go_wp2_with fail
      go_roundw
      case rel => exact ⟨k + 1, by omega, by go_num, hbel.drew⟩
      case measure => simp [intOf]; omega
    · obtain rfl : k = ps.length := by omega
      have x1 : ¬ (ps.length : Int) < (ps.length : Int) := by omega
      go_wp2_with fail
      go_ret
      exact ⟨rfl, hbel⟩
end Go.Proofs.Ytbldcbakhpdigaa

/- fixed: the document's examples. -/
namespace Go.Proofs.Ytbldcbakhpdigaa
open Go.RowKit

abbrev sA : ByteArray := ⟨#[97]⟩
abbrev sB : ByteArray := ⟨#[98]⟩
abbrev s1 : ByteArray := ⟨#[49]⟩
abbrev s2 : ByteArray := ⟨#[50]⟩
theorem ins1 : insP [] sA s1 = [(sA, s1)] := by kernel_rfl
theorem ins2 : insP [(sA, s1)] sB s2 = [(sA, s1), (sB, s2)] := by kernel_rfl
theorem look1 : lookP [(sA, s1), (sB, s2)] sA = some s1 := by kernel_rfl
theorem del1 : delP [(sA, s1), (sB, s2)] sA = [(sB, s2)] := by kernel_rfl
theorem drop1 : [(sB, s2)].drop (posAt [(sB, s2)] ⟨#[]⟩) = [(sB, s2)] := by kernel_rfl
theorem rise2 : RisingP [(sA, s1), (sB, s2)] := by
  have h : lt sA sB = true := by kernel_rfl
  simp [RisingP, h]

/-- a tree of at most one leaf, and its store, all of it new since w0 -/
def TinyAt (w0 : World) (t mp : Nat) (ps : List Pr) (most : Nat) (w : World) : Prop :=
  ∃ σ S root, Inv σ S mp w ∧ TreeAt w t mp root 0 ∧ ¬ S t ∧ Tiny σ root ps ∧ σ.most = most ∧ Below w0.heap.size w0 w ∧ (∀ g, S g → w0.heap.size ≤ g) ∧ w0.heap.size ≤ t

theorem TinyAt.below {w0 w w' : World} {t mp m : Nat} {ps : List Pr} (h : TinyAt w0 t mp ps m w) (hb : Below w.heap.size w w') : TinyAt w0 t mp ps m w' := by
  obtain ⟨σ, S, root, h1, h2, h3, h4, h5, h6, h7, h8⟩ := h
  exact ⟨σ, S, root, h1.below hb, (hb.block t (Array.getElem?_eq_some_iff.1 h2).1).trans h2, h3, h4, h5, h6.trans (hb.mono h6.size), h7, h8⟩
theorem TinyAt.chg {w0 w w' : World} {t mp m : Nat} {ps : List Pr} {S : Nat → Prop} (hb : Below w0.heap.size w0 w) (hS : ∀ g, S g → w0.heap.size ≤ g) (ht : w0.heap.size ≤ t) (h : ChgPost t mp S (fun σ' b => Tiny σ' b ps ∧ σ'.most = m) w w') : TinyAt w0 t mp ps m w' := by
  obtain ⟨σ', S', b, h1, h2, h3, ⟨h4, h5⟩, h6, h7⟩ := h
  exact ⟨σ', S', b, h1, h2, h3, h4, h5, hb.trans (h6.toBelow hb.size (fun i hi x => x.elim (fun y => absurd hi (Nat.not_lt.2 (hS i y))) (fun y => absurd hi (by rw [y]; exact Nat.not_lt.2 ht)))), fun g hg => (h7 g hg).elim (hS g) (fun y => Nat.le_trans hb.size y), ht⟩

theorem TinyAt.put {w0 w : World} {t mp m : Nat} {ps qs : List Pr} (h : TinyAt w0 t mp ps m w) (key value : ByteArray) (hr : RisingP ps) (hg : GoodKV key value) (hq : insP ps key value = qs) (ok : Nd.Ok ⟨qs, [], []⟩) (hs : Nd.size ⟨qs, [], []⟩ ≤ 512) (hm : qs.length + 1 ≤ m) :
    Calls Try.prog 20 #[.pointer (some ⟨t, 0, none⟩), .string key, .string value] w fun e w' => e = .returned (.int .i64 0) ∧ TinyAt w0 t mp qs m w' := by
  obtain ⟨σ, S, root, h1, h2, h3, h4, rfl, h6, h7, h8⟩ := h
  subst hq
  refine (put_tiny t mp root σ S ps key value w h1 h2 h3 h4 hr hg ok hs hm).mono ?_
  rintro e w' ⟨rfl, hc⟩
  exact ⟨rfl, TinyAt.chg h6 h7 h8 hc⟩
theorem TinyAt.delete {w0 w : World} {t mp m : Nat} {ps qs : List Pr} (h : TinyAt w0 t mp ps m w) (key x : ByteArray) (hr : RisingP ps) (hg : 1 ≤ key.size ∧ key.size ≤ 128) (hx : lookP ps key = some x) (hq : delP ps key = qs) (ok : Nd.Ok ⟨qs, [], []⟩) (hs : Nd.size ⟨qs, [], []⟩ ≤ 512) (hm : qs.length + 1 ≤ m) :
    Calls Try.prog 23 #[.pointer (some ⟨t, 0, none⟩), .string key] w fun e w' => e = .returned (.tuple #[.bool true, .int .i64 0]) ∧ TinyAt w0 t mp qs m w' := by
  obtain ⟨σ, S, root, h1, h2, h3, h4, rfl, h6, h7, h8⟩ := h
  subst hq
  refine (delete_tiny t mp root σ S ps key x w h1 h2 h3 h4 hr hg hx ok hs hm).mono ?_
  rintro e w' ⟨rfl, hc⟩
  exact ⟨rfl, TinyAt.chg h6 h7 h8 hc⟩
theorem TinyAt.get {w0 w : World} {t mp m : Nat} {ps : List Pr} (h : TinyAt w0 t mp ps m w) (key : ByteArray) (r : Option ByteArray) (hr : RisingP ps) (hg : 1 ≤ key.size ∧ key.size ≤ 128) (hx : lookP ps key = r) :
    Calls Try.prog 28 #[.pointer (some ⟨t, 0, none⟩), .string key] w fun e w' => e = .returned (.tuple #[.string (r.getD ⟨#[]⟩), .bool r.isSome, .int .i64 0]) ∧ TinyAt w0 t mp ps m w' := by
  have h0 := h
  obtain ⟨σ, S, root, h1, h2, h3, h4, h5, h6, h7, h8⟩ := h
  refine (get_any t mp root σ S key r w h1 h2 hg.1 hg.2 0 (by omega) (by rw [← hx]; exact h4.look hr key)).mono ?_
  rintro e w' ⟨rfl, hb⟩
  exact ⟨rfl, h0.below hb⟩
theorem TinyAt.scan {w0 w : World} {t mp m : Nat} {ps L : List Pr} (h : TinyAt w0 t mp ps m w) (key : ByteArray) (most : Int) (hne : ps ≠ []) (hr : RisingP ps) (hm : 0 < most) (hx : ps.drop (posAt ps key) = L) (hl : ps.length ≤ 1000) :
    Calls Try.prog 21 #[.pointer (some ⟨t, 0, none⟩), .string key, .int .i64 most] w fun e w' => ∃ v, e = .returned (.tuple #[v, .int .i64 0]) ∧ IsPrs w' NoS v (L.take most.toNat) ∧ TinyAt w0 t mp ps m w' := by
  have h0 := h
  obtain ⟨σ, S, root, h1, h2, h3, h4, h5, h6, h7, h8⟩ := h
  subst hx
  refine (scan_any t mp root σ S key most _ 0 w h1 h2 (by have := (h4.one hne).2.lo; omega) hm (by omega) (h4.walk hne hr key) (by rw [List.length_drop]; omega)).mono ?_
  rintro e w' ⟨v, rfl, hv, hb⟩
  refine ⟨v, rfl, ?_, h0.below hb⟩
  obtain ⟨ao, c, e1, e2, e3, e4, e5, e6, e7⟩ := hv
  exact ⟨ao, c, e1, e2, e3, e4, e5, fun ad had => ⟨(e6 ad had).1, (e6 ad had).2.1, id⟩, e7⟩
theorem TinyAt.used {w0 w : World} {t mp m : Nat} {ps : List Pr} (h : TinyAt w0 t mp ps m w) (hne : ps ≠ []) :
    Calls Try.prog 12 #[.pointer (some ⟨mp, 0, none⟩)] w fun e w' => e = .returned (.int .i64 1) ∧ TinyAt w0 t mp ps m w' := by
  have h0 := h
  obtain ⟨σ, S, root, h1, h2, h3, h4, h5, h6, h7, h8⟩ := h
  refine (used_any mp σ S w h1).mono ?_
  rintro e w' ⟨rfl, rfl⟩
  exact ⟨by rw [(h4.one hne).1]; rfl, h0⟩
theorem TinyAt.bad {w0 w : World} {t mp m : Nat} {ps : List Pr} (h : TinyAt w0 t mp ps m w) (key value : ByteArray) (hb : ¬ GoodKV key value) :
    Calls Try.prog 20 #[.pointer (some ⟨t, 0, none⟩), .string key, .string value] w fun e w' => e = .returned (.int .i64 1) ∧ TinyAt w0 t mp ps m w' := by
  have h0 := h
  obtain ⟨σ, S, root, h1, h2, h3, h4, h5, h6, h7, h8⟩ := h
  refine (put_bad t mp root key value w h2 hb).mono ?_
  rintro e w' ⟨rfl, hb⟩
  exact ⟨rfl, h0.below hb⟩
theorem TinyAt.start (w0 w1 w2 : World) (n : Int) (h1 : Inv (MSt.new n w0.heap.size) (fun g => w0.heap.size ≤ g ∧ g < w0.heap.size + 3) (w0.heap.size + 2) w1) (hs : w1.heap.size = w0.heap.size + 3) (hb1 : Below w0.heap.size w0 w1) (ht : TreeAt w2 w1.heap.size (w0.heap.size + 2) 0 0) (hb2 : Below w1.heap.size w1 w2) :
    TinyAt w0 w1.heap.size (w0.heap.size + 2) [] (min (max n 0) 4096).toNat w2 :=
  ⟨_, _, 0, h1.below hb2, ht, by omega, ⟨fun _ => ⟨rfl, rfl⟩, fun h => absurd rfl h, rfl⟩, rfl, hb1.trans (hb2.mono hb1.size), fun g hg => hg.1, hb1.size⟩

theorem okL (ps : List Pr) (h : ∀ p ∈ ps, p.1.size ≤ 128 ∧ p.2.size ≤ 64) (hl : ps.length ≤ 2000) : Nd.Ok ⟨ps, [], []⟩ := ⟨h, by simp, by simp, rfl, by simp, hl, by simp⟩
theorem rise1 : RisingP [(sA, s1)] := by simp [RisingP]
theorem rise1' : RisingP [(sB, s2)] := by simp [RisingP]

set_option maxRecDepth 100000 in
set_option maxHeartbeats 4000000 in
theorem fixed_any (w : World) : Calls Try.prog 9 #[] w fun e w' => e = .returned (.bool true) ∧ Below w.heap.size w w' := by
  go_enter Try.func9, Try.ntmps9
  have ok1 := Lib.hid (okL [(sA, s1)] (by simp; decide) (by simp))
  have ok2 := Lib.hid (okL [(sA, s1), (sB, s2)] (by simp; decide) (by simp))
  have ok3 := Lib.hid (okL [(sB, s2)] (by simp; decide) (by simp))
  go_wp2_with (first
    | (go_at_call 10; go_must ((refine (newmem_any 9 w).mono ?_); rintro e w1 ⟨rfl, hI1, hs1, hb1⟩; have HS1 := Lib.hid hs1; clear hs1))
    | (go_at_call 16; go_must ((refine (open_any (w.heap.size + 2) 0 w1 (Int.le_refl _)).mono ?_); rintro e w2 ⟨rfl, ht2, hs2, hb2⟩; have hT := (TinyAt.start w w1 w2 9 hI1 HS1.out hb1 ht2 hb2); clear hI1 hb1 ht2 hs2 hb2))
    | (go_at_call 20; refine (hT.put sA s1 List.Pairwise.nil ?_ ins1 ok1.out ?_ ?_).mono ?_; (focus (exact ⟨⟨by decide, by decide⟩, by decide⟩)); (focus (decide)); (focus (decide)); clear hT; rintro e w3 ⟨rfl, hT3⟩)
    | (go_at_call 20; refine (hT3.put sB s2 rise1 ?_ ins2 ok2.out ?_ ?_).mono ?_; (focus (exact ⟨⟨by decide, by decide⟩, by decide⟩)); (focus (decide)); (focus (decide)); clear hT3; rintro e w4 ⟨rfl, hT4⟩)
    | (go_at_call 12; go_must (refine (hT4.used (by simp)).mono ?_; clear hT4; rintro e w5 ⟨rfl, hT5⟩))
    | (go_at_call 28; go_must (refine (hT5.get sA (some s1) rise2 ⟨by decide, by decide⟩ look1).mono ?_; clear hT5; rintro e w6 ⟨rfl, hT6⟩))
    | (go_at_call 23; go_must (refine (hT6.delete sA s1 rise2 ⟨by decide, by decide⟩ look1 del1 ok3.out ?_ ?_).mono ?_; (focus (decide)); (focus (decide)); clear hT6; rintro e w7 ⟨rfl, hT7⟩))
    | (go_at_call 21; go_must (refine (hT7.scan ⟨#[]⟩ 9 (by simp) rise1' (by decide) drop1 (by decide)).mono ?_; clear hT7; rintro e w8 ⟨v, rfl, hv, hT8⟩; refine Stop.of ?_)))
  have hv' : IsPrs w8 NoS v [(sB, s2)] := hv
  obtain ⟨ao, c, rfl, g1, g2, _, _⟩ := IsSl.form hv'
  obtain ⟨pb, po, rfl, d1, d2⟩ := hv'.at rfl 0 (by decide)
  have d1' : w8.cell? ⟨pb, po, none⟩ = some (.string sB) := d1
  have hpl : pb < w8.heap.size := World.block_lt_of_cell? w8 _ d1
  clear d1 d2 hv hv'
  refine Stop.on ?_
  go_wp2_with (first
    | (go_at_call 20; refine (hT8.bad ⟨#[]⟩ ⟨#[120]⟩ (fun h => absurd h.1.1 (by decide))).mono ?_; rintro e w9 ⟨rfl, hT9⟩))
  go_ret
  obtain ⟨σ, S, root, _, _, _, _, _, h6, _, _⟩ := hT9
  exact ⟨rfl, h6⟩
end Go.Proofs.Ytbldcbakhpdigaa

/- A tree on a store of 4096 blocks, as the laws use it; an argument that is a list of pairs. -/
namespace Go.Proofs.Ytbldcbakhpdigaa
open Go.RowKit

/-- of the old blocks only the store's and the tree's own have changed; the store's new blocks are new -/
def Nx (S S' : Nat → Prop) (t : Nat) (w w' : World) : Prop := Keep (fun g => S g ∨ g = t) w w' ∧ ∀ g, S' g → S g ∨ w.heap.size ≤ g
theorem Nx.of_below {S : Nat → Prop} {t : Nat} {w w' : World} (h : Below w.heap.size w w') : Nx S S t w w' := ⟨Keep.of_below h _, fun _ h => .inl h⟩

/-- the tree at t over the store at mp has the pairs cs; it and the store lie behind w0 -/
structure TS (w0 : World) (t mp : Nat) (S : Nat → Prop) (cs : List Pr) (w : World) : Prop where
  bel : Below w0.heap.size w0 w
  lo : ∀ g, S g → w0.heap.size ≤ g
  tlo : w0.heap.size ≤ t
  nt : ¬ S t
  is : ∃ σ root bs, Inv σ S mp w ∧ TreeAt w t mp root 0 ∧ TrR σ root cs bs ∧ bs.Nodup ∧ σ.H = .map [] ∧ Maps.size σ.D = bs.length ∧ σ.most = 4096

theorem TS.rise {w0 : World} {t mp : Nat} {S : Nat → Prop} {cs : List Pr} {w : World} (h : TS w0 t mp S cs w) : RisingP cs := by
  obtain ⟨σ, root, bs, _, _, hT, _⟩ := h.is
  exact hT.rise
theorem TS.sub {w0 : World} {t mp : Nat} {S : Nat → Prop} {cs : List Pr} {w : World} (h : TS w0 t mp S cs w) : (∀ g, S g → g < w.heap.size) ∧ t < w.heap.size := by
  obtain ⟨σ, root, bs, hI, hT, _⟩ := h.is
  exact ⟨hI.sub, (Array.getElem?_eq_some_iff.1 hT).1⟩
/-- the tree stays where others change -/
theorem TS.keepM {w0 : World} {t mp : Nat} {S M : Nat → Prop} {cs : List Pr} {w w' : World} (h : TS w0 t mp S cs w) (hk : Keep M w w') (h1 : ∀ g, S g → ¬ M g) (h2 : ¬ M t) (h3 : ∀ g, g < w0.heap.size → ¬ M g) : TS w0 t mp S cs w' := by
  obtain ⟨σ, root, bs, hI, hT, r⟩ := h.is
  have hl := (Array.getElem?_eq_some_iff.1 hT).1
  exact ⟨h.bel.trans (hk.toBelow h.bel.size h3), h.lo, h.tlo, h.nt, σ, root, bs, hI.keepM hk h1, (hk.block t hl h2).trans hT, r⟩
theorem TS.below {w0 : World} {t mp : Nat} {S : Nat → Prop} {cs : List Pr} {w w' : World} (h : TS w0 t mp S cs w) (hb : Below w.heap.size w w') : TS w0 t mp S cs w' :=
  h.keepM (M := fun _ => False) (Keep.of_below hb _) (fun _ _ => id) id (fun _ _ => id)

theorem nh_none {σ : MSt} (h : σ.H = .map []) (bs : List Int) : nh σ bs = bs.length := by
  unfold nh
  rw [List.filter_eq_self.2 fun b _ => by rw [held_none h]; rfl]

theorem TS.chg {w0 : World} {t mp : Nat} {S : Nat → Prop} {cs cs' : List Pr} {w w' : World} {σ : MSt} {bs : List Int} (h : TS w0 t mp S cs w) (hn : bs.Nodup) (hH : σ.H = .map []) (hD : Maps.size σ.D = bs.length) (hm : σ.most = 4096) (hc : ChgPost t mp S (TreeTo σ bs cs') w w') : ∃ S', TS w0 t mp S' cs' w' ∧ Nx S S' t w w' := by
  obtain ⟨σ', S', b, hI, hT, hst, ⟨bs', hR, hC⟩, hk, hS⟩ := hc
  have hlo : ∀ g, g < w0.heap.size → ¬ (S g ∨ g = t) := fun g hg x => x.elim (fun s => absurd hg (Nat.not_lt.2 (h.lo g s))) (fun e => absurd hg (Nat.not_lt.2 (by rw [e]; exact h.tlo)))
  refine ⟨S', ⟨h.bel.trans (hk.toBelow h.bel.size hlo), fun g hg => (hS g hg).elim (h.lo g) (fun y => Nat.le_trans h.bel.size y), h.tlo, hst, σ', b, bs', hI, hT, hR, hC.nd hn, hC.H.trans hH, ?_, hC.most.trans hm⟩, hk, hS⟩
  have := hC.size
  rw [nh_none hH, nh_none hH] at this
  omega

instance (k v : ByteArray) : Decidable (GoodKV k v) := by unfold GoodKV; infer_instance
/-- what Put does to the pairs -/
def putP (cs : List Pr) (key value : ByteArray) : List Pr := if GoodKV key value then insP cs key value else cs
theorem putP_len (cs : List Pr) (key value : ByteArray) : (putP cs key value).length ≤ cs.length + 1 := by
  unfold putP insP
  split
  · split <;> simp; omega
  · omega

theorem TS.put {w0 : World} {t mp : Nat} {S : Nat → Prop} {cs : List Pr} {w : World} (h : TS w0 t mp S cs w) (key value : ByteArray) (hl : cs.length ≤ 2040) :
    Calls Try.prog 20 #[.pointer (some ⟨t, 0, none⟩), .string key, .string value] w fun e w' => e = .returned (.int .i64 (if GoodKV key value then 0 else 1)) ∧ ∃ S', TS w0 t mp S' (putP cs key value) w' ∧ Nx S S' t w w' := by
  obtain ⟨σ, root, bs, hI, hT, hR, hn, hH, hD, hm⟩ := h.is
  unfold putP
  by_cases hg : GoodKV key value
  · rw [if_pos hg, if_pos hg]
    refine (put_tree t mp root σ S cs bs key value w hI hT h.nt hR hn (by omega) (by unfold Room; rw [nh_none hH, hD, hm]; omega) hg).mono ?_
    rintro e w' ⟨rfl, hc⟩
    exact ⟨rfl, h.chg hn hH hD hm hc⟩
  · rw [if_neg hg, if_neg hg]
    refine (put_bad t mp root key value w hT hg).mono ?_
    rintro e w' ⟨rfl, hb⟩
    exact ⟨rfl, S, h.below hb, Nx.of_below hb⟩

theorem TS.del {w0 : World} {t mp : Nat} {S : Nat → Prop} {cs : List Pr} {w : World} (h : TS w0 t mp S cs w) (key : ByteArray) (hl : cs.length ≤ 2040) (hg : 1 ≤ key.size ∧ key.size ≤ 128) :
    Calls Try.prog 23 #[.pointer (some ⟨t, 0, none⟩), .string key] w fun e w' => e = .returned (.tuple #[.bool (lookP cs key).isSome, .int .i64 0]) ∧ ∃ S', TS w0 t mp S' (delP cs key) w' ∧ Nx S S' t w w' := by
  obtain ⟨σ, root, bs, hI, hT, hR, hn, hH, hD, hm⟩ := h.is
  refine (delete_tree t mp root σ S cs bs key w hI hT h.nt hR hn (by omega) (by unfold Room; rw [nh_none hH, hD, hm]; omega) hg).mono ?_
  rintro e w' ⟨rfl, hc⟩
  exact ⟨rfl, h.chg hn hH hD hm hc⟩

theorem TS.scan {w0 : World} {t mp : Nat} {S : Nat → Prop} {cs : List Pr} {w : World} (h : TS w0 t mp S cs w) (key : ByteArray) (most : Int) (hl : cs.length ≤ 2048) :
    Calls Try.prog 21 #[.pointer (some ⟨t, 0, none⟩), .string key, .int .i64 most] w fun e w' => ∃ v, e = .returned (.tuple #[v, .int .i64 0]) ∧ IsPrs w' S v ((cs.drop (posAt cs key)).take most.toNat) ∧ Below w.heap.size w w' := by
  obtain ⟨σ, root, bs, hI, hT, hR, hn, hH, hD, hm⟩ := h.is
  exact scan_tree t mp root σ S cs bs key most w hI hT hR (by omega)

/-- the whole -/
theorem TS.whole {w0 : World} {t mp : Nat} {S : Nat → Prop} {cs : List Pr} {w : World} (h : TS w0 t mp S cs w) (hl : cs.length ≤ 2048) :
    Calls Try.prog 21 #[.pointer (some ⟨t, 0, none⟩), .string ⟨#[]⟩, .int .i64 1073741824] w fun e w' => ∃ v, e = .returned (.tuple #[v, .int .i64 0]) ∧ IsPrs w' S v cs ∧ Below w.heap.size w w' := by
  have h1 := h.scan ⟨#[]⟩ 1073741824 hl
  have hp : posAt cs ⟨#[]⟩ = 0 := by
    cases cs with
    | nil => rfl
    | cons p r => simp [posAt, lt_empty]
  rw [hp, List.drop_zero, List.take_of_length_le (by omega)] at h1
  exact h1

theorem TS.used {w0 : World} {t mp : Nat} {S : Nat → Prop} {cs : List Pr} {w : World} (h : TS w0 t mp S cs w) :
    Calls Try.prog 12 #[.pointer (some ⟨mp, 0, none⟩)] w fun e w' => (∃ n : Nat, e = .returned (.int .i64 n) ∧ n ≤ 2 * cs.length) ∧ w' = w := by
  obtain ⟨σ, root, bs, hI, hT, hR, hn, hH, hD, hm⟩ := h.is
  refine (used_any mp σ S w hI).mono ?_
  rintro e w' ⟨rfl, rfl⟩
  exact ⟨⟨_, rfl, by rw [hD]; exact hR.count⟩, rfl⟩
/-- nothing is left of a tree without pairs -/
theorem TS.bare {w0 : World} {t mp : Nat} {S : Nat → Prop} {w : World} (h : TS w0 t mp S [] w) :
    Calls Try.prog 12 #[.pointer (some ⟨mp, 0, none⟩)] w (fun e w' => e = .returned (.int .i64 0) ∧ w' = w) ∧ Calls Try.prog 24 #[.pointer (some ⟨t, 0, none⟩)] w fun e w' => e = .returned (.int .i64 0) ∧ w' = w := by
  obtain ⟨σ, root, bs, hI, hT, hR, hn, hH, hD, hm⟩ := h.is
  have hc := hR.count
  have hr : root = 0 := by
    rcases hR with ⟨h0, _⟩ | ⟨h, ht⟩
    · exact h0
    · exact absurd rfl ht.content.ne
  constructor
  · refine (used_any mp σ S w hI).mono ?_
    rintro e w' ⟨rfl, rfl⟩
    simp at hc
    rw [hD, hc]
    exact ⟨rfl, rfl⟩
  · subst hr
    exact root_any t mp 0 0 w hT

/-- a new store of 4096 blocks and a tree on it -/
theorem TS.new {w0 w w1 w2 : World} {t mp : Nat} (hb0 : Below w0.heap.size w0 w) (hI : Inv (MSt.new 4096 w.heap.size) (fun g => w.heap.size ≤ g ∧ g < w.heap.size + 3) mp w1) (hs : w1.heap.size = w.heap.size + 3) (hb1 : Below w.heap.size w w1) (hT : TreeAt w2 t mp 0 0) (hb2 : Below w1.heap.size w1 w2) (ht : t = w1.heap.size) : TS w0 t mp (fun g => w.heap.size ≤ g ∧ g < w.heap.size + 3) [] w2 :=
  ⟨(hb0.trans (hb1.mono hb0.size)).trans (hb2.mono (Nat.le_trans hb0.size hb1.size)), fun g hg => Nat.le_trans hb0.size hg.1, by rw [ht]; exact Nat.le_trans hb0.size hb1.size, fun h => by omega, _, 0, [], hI.below hb2, hT, .inl ⟨rfl, rfl, rfl⟩, List.nodup_nil, rfl, by simp [MSt.new, Maps.size_eq], rfl⟩

/-- v is a slice that came in: it reads as pairs -/
def IsPL (w : World) (v : Value) (ps : List Pr) : Prop := ∃ ao c, v = .slice ao ps.length c ∧ ps.length ≤ c ∧ c ≤ maxLen ∧
  ∀ i (_ : i < ps.length), ∃ b o, ao = some ⟨b, o, none⟩ ∧ w.cell? ⟨b, o + i * 2, none⟩ = some (.string ps[i].1) ∧ w.cell? ⟨b, o + i * 2 + 1, none⟩ = some (.string ps[i].2)
theorem IsPL.at {w : World} {v : Value} {ps : List Pr} {ao : Option Addr} {n c : Nat} (h : IsPL w v ps) (hv : v = .slice ao n c) (i : Nat) (hi : i < ps.length) :
    ∃ b o, ao = some ⟨b, o, none⟩ ∧ w.cell? ⟨b, o + i * 2, none⟩ = some (.string ps[i].1) ∧ w.cell? ⟨b, o + i * 2 + 1, none⟩ = some (.string ps[i].2) := by
  obtain ⟨ao', c', rfl, _, _, h6⟩ := h
  cases hv
  exact h6 i hi
theorem IsPL.form {w : World} {v : Value} {ps : List Pr} (h : IsPL w v ps) : ∃ ao c, v = .slice ao ps.length c ∧ ps.length ≤ c ∧ c ≤ 9223372036854775807 := by
  obtain ⟨ao, c, rfl, h1, h2, _⟩ := h
  exact ⟨ao, c, rfl, h1, by simpa [maxLen] using h2⟩
end Go.Proofs.Ytbldcbakhpdigaa

namespace Go.Proofs.Ytbldcbakhpdigaa
open Go.RowKit Go.ChangeShapes Go.WideShapes Go.ChangeAt Go.Deep

theorem open_prs {H : Type} {enc : TypeId × Value → H} {W : World} {fuel : Nat} {cs : List Value} {x : DataW H × List MemPlace} (h : DataW.trod enc Try.prog W 0 (fun _ => true) true fuel 40 cs = some x) :
    ∃ v ps, cs = [v] ∧ IsPL W v ps := by
  rcases open_slice_pairs Try.underlying40 Try.underlying49 (by kernel_rfl) rfl rfl (by kernel_rfl) (by kernel_rfl) h with ⟨rfl, _⟩ | ⟨a, len, cap, m, n, V0, V1, D0, D1, P0, P1, rfl, hb, hl, hm, hmm, rfl, hx⟩
  · exact ⟨_, [], rfl, none, 0, rfl, Nat.le_refl _, Nat.zero_le _, fun i hi => by simp at hi⟩
  · have hlm : len ≤ m := by rw [hmm]; simp; exact hl
    have each : ∀ i, i < len → ∃ p : Pr, W.cell? (a.add (i * 2)) = some (.string p.1) ∧ W.cell? (a.add (i * 2 + 1)) = some (.string p.2) := by
      intro i hi
      obtain ⟨h1, h2, h3, h4⟩ := hx i (by omega)
      obtain ⟨s1, e1, _⟩ := DataW.trod_string Try.underlying9 h3
      obtain ⟨s2, e2, _⟩ := DataW.trod_string Try.underlying9 h4
      simp at e1 e2
      rw [e1] at h1
      rw [e2] at h2
      exact ⟨(s1, s2), h1, h2⟩
    obtain ⟨f, hf⟩ := choose_lt each
    refine ⟨_, (List.range len).map f, rfl, some a, cap, by simp, by simpa using hl, hm, fun i hi => ?_⟩
    simp at hi
    obtain ⟨g1, g2⟩ := hf i hi
    obtain ⟨b, o, sp⟩ := a
    have hs : sp = none := by
      have := World.cell?_spot (hf 0 (by omega)).1
      simpa [Addr.add] using this
    subst hs
    rw [Addr.add_lit] at g1 g2
    refine ⟨b, o, rfl, ?_, ?_⟩
    · simpa using g1
    · rw [Nat.add_assoc]; simpa using g2
end Go.Proofs.Ytbldcbakhpdigaa

