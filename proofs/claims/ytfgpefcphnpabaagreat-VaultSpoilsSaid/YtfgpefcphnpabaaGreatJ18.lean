/- parts -/
import Derived.Test.YtfgpefcphnpabaaGreatJ17
namespace Go.Proofs.YtfgpefcphnpabaaGreat
open Go.RowKit
set_option maxRecDepth 100000
set_option maxHeartbeats 8000000
def EG (t : Nat) (mp : VS) (root : Int) (key : ByteArray) (g : Nat) (cb : Array Value) (σ : MSt) (S : Nat → Prop) (N : Prop) (P : MSt → Int → Prop) (W : World) : Prop :=
 Calls Tryz.prog 112 #[.pointer (some ⟨t, 0, none⟩), .int .i64 root, .int .i64 0, .string key, .string ⟨#[]⟩, .func (.func g) #[] cb] W fun e w1 => (∃ v S1, e = .returned v ∧ Step S S1 W w1 ∧
  Calls Tryz.prog 111 #[.pointer (some ⟨t, 0, none⟩), v] w1 fun e2 w2 => (∃ b σ' S', e2 = .returned (.int .i64 b) ∧ Inv σ' S' mp w2 ∧ Step S1 S' w1 w2 ∧ P σ' b) ∨ (N ∧ Gave mp σ S1 w1 e2 w2)) ∨ (N ∧ Gave mp σ S W e w1)
def ChgPost (t : Nat) (mp : VS) (S : Nat → Prop) (P : MSt → Int → Prop) (w w' : World) : Prop :=
 ∃ σ' S' b, Inv σ' S' mp w' ∧ TreeAt w' t mp b 0 ∧ ¬ S' t ∧ P σ' b ∧ Keep (fun g => S g ∨ g = t) w w' ∧ ∀ g, S' g → S g ∨ w.heap.size ≤ g
def LostPost (t : Nat) (mp : VS) (root : Int) (σ : MSt) (S : Nat → Prop) (N : Prop) (w w' : World) : Prop :=
 N ∧ ∃ σ' S', Inv σ' S' mp w' ∧ TreeAt w' t mp root 12 ∧ ¬ S' t ∧ σ'.H = σ.H ∧ σ'.most = σ.most ∧ Keep (fun g => S g ∨ g = t) w w' ∧ ∀ g, S' g → S g ∨ w.heap.size ≤ g
def Lost (mp : VS) (σ : MSt) (S : Nat → Prop) (N : Prop) (W w2 : World) : Prop := N ∧ ∃ σ' S', Inv σ' S' mp w2 ∧ Step S S' W w2 ∧ σ'.H = σ.H ∧ σ'.most = σ.most
theorem SB.step {t : Nat} {mp : VS} {tb kb : Nat} {root err : Int} {key : ByteArray} {S S' : Nat → Prop} {W W' : World} (h : SB t mp root err tb kb key W) (hs : Step S S' W W') (h1 : ¬ S t) (h2 : ¬ S tb) (h3 : ¬ S kb) : SB t mp root err tb kb key W' :=
 ⟨(hs.1.block _ (Array.getElem?_eq_some_iff.1 h.tr).1 h1).trans h.tr, (hs.1.block _ (Array.getElem?_eq_some_iff.1 h.bx).1 h2).trans h.bx, (hs.1.block _ (Array.getElem?_eq_some_iff.1 h.ky).1 h3).trans h.ky⟩
theorem eg_use {t : Nat} {mp : VS} {tb kb g : Nat} {root : Int} {key : ByteArray} {cb : Array Value} {σ : MSt} {S : Nat → Prop} {N : Prop} {P : MSt → Int → Prop} {w W : World} (hEG : EG t mp root key g cb σ S N P W) (hsub : ∀ g, S g → g < w.heap.size) (hst : ¬ S t) (_hbW : Below w.heap.size w W) (htb : w.heap.size ≤ tb) (hkb : w.heap.size ≤ kb) (hSB : SB t mp root 0 tb kb key W) :
  Calls Tryz.prog 112 #[.pointer (some ⟨t, 0, none⟩), .int .i64 root, .int .i64 0, .string key, .string ⟨#[]⟩, .func (.func g) #[] cb] W fun e w1 => (∃ v, e = .returned v ∧ SB t mp root 0 tb kb key w1 ∧
   Calls Tryz.prog 111 #[.pointer (some ⟨t, 0, none⟩), v] w1 fun e2 w2 => (∃ b, e2 = .returned (.int .i64 b) ∧ SB t mp root 0 tb kb key w2 ∧ (∀ g, w.heap.size ≤ g → g < W.heap.size → w2.heap[g]? = W.heap[g]?) ∧ W.heap.size ≤ w2.heap.size ∧ (∃ σ' S', Inv σ' S' mp w2 ∧ Step S S' W w2 ∧ P σ' b)) ∨
    (e2 = .panicked (brk 12) ∧ SB t mp root 0 tb kb key w2 ∧ (∀ g, w.heap.size ≤ g → g < W.heap.size → w2.heap[g]? = W.heap[g]?) ∧ W.heap.size ≤ w2.heap.size ∧ Lost mp σ S N W w2)) ∨
   (e = .panicked (brk 12) ∧ SB t mp root 0 tb kb key w1 ∧ (∀ g, w.heap.size ≤ g → g < W.heap.size → w1.heap[g]? = W.heap[g]?) ∧ W.heap.size ≤ w1.heap.size ∧ Lost mp σ S N W w1) := by
 have hn : ∀ x, w.heap.size ≤ x → ¬ S x := fun x hx hs => absurd (hsub x hs) (Nat.not_lt.2 hx)
 refine hEG.mono ?_
 rintro e w1 (⟨v, S1, rfl, hs1, hG⟩ | ⟨hN, rfl, τ, Sτ, g1, g2, g3, g4⟩)
 ·have hS1 : ∀ x, x < W.heap.size → ¬ S x → ¬ S1 x := fun x hx hs h1 => (hs1.2 x h1).elim hs (fun y => absurd hx (Nat.not_lt.2 y))
  have hl1 := (Array.getElem?_eq_some_iff.1 hSB.tr).1
  have hl2 := (Array.getElem?_eq_some_iff.1 hSB.bx).1
  have hl3 := (Array.getElem?_eq_some_iff.1 hSB.ky).1
  have hfr : ∀ {S2 : Nat → Prop} {w2 : World}, Step S1 S2 w1 w2 → ∀ g, w.heap.size ≤ g → g < W.heap.size → w2.heap[g]? = W.heap[g]? := fun hs2 g hg hl =>
   (hs2.1.block g (Nat.lt_of_lt_of_le hl hs1.1.size) (hS1 g hl (hn g hg))).trans (hs1.1.block g hl (hn g hg))
  refine .inl ⟨v, rfl, hSB.step hs1 hst (hn _ htb) (hn _ hkb), hG.mono ?_⟩
  rintro e2 w2 (⟨b, σ', S', rfl, hI, hs2, hP⟩ | ⟨hN, rfl, τ, Sτ, g1, g2, g3, g4⟩)
  ·exact .inl ⟨b, rfl, (hSB.step hs1 hst (hn _ htb) (hn _ hkb)).step hs2 (hS1 _ hl1 hst) (hS1 _ hl2 (hn _ htb)) (hS1 _ hl3 (hn _ hkb)), hfr hs2, Nat.le_trans hs1.1.size hs2.1.size, σ', S', hI, hs1.trans hs2, hP⟩
  ·exact .inr ⟨rfl, (hSB.step hs1 hst (hn _ htb) (hn _ hkb)).step g2 (hS1 _ hl1 hst) (hS1 _ hl2 (hn _ htb)) (hS1 _ hl3 (hn _ hkb)), hfr g2, Nat.le_trans hs1.1.size g2.1.size, hN, τ, Sτ, g1, hs1.trans g2, g3, g4⟩
 ·exact .inr ⟨rfl, hSB.step g2 hst (hn _ htb) (hn _ hkb), fun g hg hl => g2.1.block g hl (hn g hg), g2.1.size, hN, τ, Sτ, g1, g2, g3, g4⟩
theorem keep_end {t rb : Nat} {mp : VS} {σ' : MSt} {S S' : Nat → Prop} {w W w2 w' : World} (hsub : ∀ g, S g → g < w.heap.size) (hst : ¬ S t) (htl : t < w.heap.size) (hbW : Below w.heap.size w W) (hI : Inv σ' S' mp w2) (hs : Step S S' W w2) (h1 : w.heap.size ≤ rb) (h2 : rb < W.heap.size) (hk : Keep (fun g => g = rb ∨ g = t) w2 w') :
  Inv σ' S' mp w' ∧ ¬ S' t ∧ Keep (fun g => S g ∨ g = t) w w' ∧ ∀ g, S' g → S g ∨ w.heap.size ≤ g := by
 have hn : ∀ x, w.heap.size ≤ x → ¬ S x := fun x hx hs => absurd (hsub x hs) (Nat.not_lt.2 hx)
 have hS' : ∀ x, x < W.heap.size → ¬ S x → ¬ S' x := fun x hx hs1 h1 => (hs.2 x h1).elim hs1 (fun y => absurd hx (Nat.not_lt.2 y))
 have htW : t < W.heap.size := Nat.lt_of_lt_of_le htl hbW.size
 refine ⟨hI.keepM hk (fun g hg x => x.elim (fun e => hS' rb h2 (hn rb h1) (by rw [← e]; exact hg)) (fun e => hS' t htW hst (by rw [← e]; exact hg))), hS' t htW hst, ?_, fun g hg => (hs.2 g hg).imp id (fun y => Nat.le_trans hbW.size y)⟩
 exact (((Step.of_below (S := S) hbW).trans hs).1.mono (fun _ _ h => .inl h)).trans hk (fun i hi x => x.elim (fun e => absurd hi (by rw [e]; exact Nat.not_lt.2 h1)) .inr)
theorem chg_end {t : Nat} {mp : VS} {S : Nat → Prop} {P : MSt → Int → Prop} {w w' : World} (hsub : ∀ g, S g → g < w.heap.size) (hst : ¬ S t) (htl : t < w.heap.size)
  (h : ∃ W b w2 rb, Below w.heap.size w W ∧ (∃ σ' S', Inv σ' S' mp w2 ∧ Step S S' W w2 ∧ P σ' b) ∧ w.heap.size ≤ rb ∧ rb < W.heap.size ∧ W.heap.size ≤ w2.heap.size ∧ Keep (fun g => g = rb ∨ g = t) w2 w' ∧ TreeAt w' t mp b 0) : ChgPost t mp S P w w' := by
 obtain ⟨W, b, w2, rb, hbW, ⟨σ', S', hI, hs, hP⟩, h1, h2, h3, hk, ht⟩ := h
 obtain ⟨a, b', c, d⟩ := keep_end hsub hst htl hbW hI hs h1 h2 hk
 exact ⟨σ', S', b, a, ht, b', hP, c, d⟩
theorem lost_end {t : Nat} {mp : VS} {root : Int} {σ : MSt} {S : Nat → Prop} {N : Prop} {w w' : World} (hsub : ∀ g, S g → g < w.heap.size) (hst : ¬ S t) (htl : t < w.heap.size)
  (h : ∃ W w2 rb, Below w.heap.size w W ∧ Lost mp σ S N W w2 ∧ w.heap.size ≤ rb ∧ rb < W.heap.size ∧ W.heap.size ≤ w2.heap.size ∧ Keep (fun g => g = rb ∨ g = t) w2 w' ∧ TreeAt w' t mp root 12) : LostPost t mp root σ S N w w' := by
 obtain ⟨W, w2, rb, hbW, ⟨hN, σ', S', hI, hs, g3, g4⟩, h1, h2, h3, hk, ht⟩ := h
 obtain ⟨a, b', c, d⟩ := keep_end hsub hst htl hbW hI hs h1 h2 hk
 exact ⟨hN, σ', S', a, ht, b', g3, g4, c, d⟩
theorem put_via (t : Nat) (mp : VS) (root : Int) (σ : MSt) (S : Nat → Prop) (N : Prop) (P : MSt → Int → Prop) (key value : ByteArray) (w : World) (hsub : ∀ g, S g → g < w.heap.size) (ht : TreeAt w t mp root 0) (hst : ¬ S t) (hk1 : 1 ≤ key.size) (hk2 : key.size ≤ 128) (hv : value.size ≤ 64)
  (hE : ∀ (W : World) (kb vb : Nat), Below w.heap.size w W → Boxes W S [(kb, key), (vb, value)] → EG t mp root key 113 #[.pointer (some ⟨kb, 0, none⟩), .pointer (some ⟨vb, 0, none⟩)] σ S N P W) :
  Calls Tryz.prog 62 #[.pointer (some ⟨t, 0, none⟩), .string key, .string value] w fun e w' => (e = .returned (.int .i64 0) ∧ ChgPost t mp S P w w') ∨ (e = .returned (.int .i64 12) ∧ LostPost t mp root σ S N w w') := by
 have hn : ∀ x, w.heap.size ≤ x → ¬ S x := fun x hx hs => absurd (hsub x hs) (Nat.not_lt.2 hx)
 refine (put_of t mp root key value w (fun W b w2 => ∃ σ' S', Inv σ' S' mp w2 ∧ Step S S' W w2 ∧ P σ' b) (Lost mp σ S N) ht hk1 hk2 hv ?_).mono ?_
 ·intro W tb kb vb hbW htb hkb hvb hSB hvB
  refine eg_use (hE W kb vb hbW ?_) hsub hst hbW htb hkb hSB
  intro p hp
  simp at hp
  rcases hp with rfl | rfl
  ·exact ⟨hSB.ky, hn _ hkb⟩
  ·exact ⟨hvB, hn _ hvb⟩
 ·rintro e w' (⟨rfl, h⟩ | ⟨rfl, h⟩)
  ·exact .inl ⟨rfl, chg_end hsub hst (Array.getElem?_eq_some_iff.1 ht).1 h⟩
  ·exact .inr ⟨rfl, lost_end hsub hst (Array.getElem?_eq_some_iff.1 ht).1 h⟩
def nextLo (l : List (ByteArray × Int)) (hi : Option ByteArray) : Option ByteArray := match l with | [] => hi | (k, _) :: _ => some k
theorem nextLo_append (l m : List (ByteArray × Int)) (hi : Option ByteArray) : nextLo (l ++ m) hi = nextLo l (nextLo m hi) := by
 cases l with
 | nil => rfl
 | cons p l => rfl
def RowL (T : ByteArray → Option ByteArray → Int → List Pr → List Int → Prop) (hi : Option ByteArray) : List (ByteArray × Int) → List Pr → List Int → Prop
 | [], cs, bs => cs = [] ∧ bs = []
 | (k, b) :: l, cs, bs => ∃ c cs' x bs', T k (nextLo l hi) b c x ∧ RowL T hi l cs' bs' ∧ cs = c ++ cs' ∧ bs = x ++ bs'
theorem RowL.append {T : ByteArray → Option ByteArray → Int → List Pr → List Int → Prop} {hi : Option ByteArray} {m : List (ByteArray × Int)} {cm : List Pr} {bm : List Int} (hm : RowL T hi m cm bm) : ∀ {l : List (ByteArray × Int)} {cl : List Pr} {bl : List Int}, RowL T (nextLo m hi) l cl bl → RowL T hi (l ++ m) (cl ++ cm) (bl ++ bm)
 | [], _, _, h => by obtain ⟨rfl, rfl⟩ := h; exact hm
 | (k, b) :: l, _, _, h => by
  obtain ⟨c, cs', x, bs', h1, h2, rfl, rfl⟩ := h
  exact ⟨c, cs' ++ cm, x, bs' ++ bm, by show T k (nextLo (l ++ m) hi) b c x; rw [nextLo_append]; exact h1, RowL.append hm h2, List.append_assoc _ _ _, List.append_assoc _ _ _⟩
theorem RowL.split {T : ByteArray → Option ByteArray → Int → List Pr → List Int → Prop} {hi : Option ByteArray} {m : List (ByteArray × Int)} : ∀ {l : List (ByteArray × Int)} {cs : List Pr} {bs : List Int}, RowL T hi (l ++ m) cs bs → ∃ cl cm bl bm, RowL T (nextLo m hi) l cl bl ∧ RowL T hi m cm bm ∧ cs = cl ++ cm ∧ bs = bl ++ bm
 | [], cs, bs, h => ⟨[], cs, [], bs, ⟨rfl, rfl⟩, h, rfl, rfl⟩
 | (k, b) :: l, _, _, h => by
  obtain ⟨c, cs', x, bs', h1, h2, rfl, rfl⟩ := h
  obtain ⟨cl, cm, bl, bm, g1, g2, rfl, rfl⟩ := RowL.split h2
  exact ⟨c ++ cl, cm, x ++ bl, bm, ⟨c, cl, x, bl, by have h3 : T k (nextLo (l ++ m) hi) b c x := h1; rwa [nextLo_append] at h3, g1, rfl, rfl⟩, g2, (List.append_assoc _ _ _).symm, (List.append_assoc _ _ _).symm⟩
def Within (lo : ByteArray) (hi : Option ByteArray) (k : ByteArray) : Prop := lt k lo = false ∧ ∀ h, hi = some h → lt k h = true
def Nd.row (nd : Nd) (lo : ByteArray) : List (ByteArray × Int) := (lo :: nd.keys).zip nd.kids
def TrM (σ : MSt) : Nat → Nat → ByteArray → Option ByteArray → Int → List Pr → List Int → Prop
 | 0, _, lo, hi, b, cs, bs => ∃ nd, Blk σ b nd ∧ nd.Ok ∧ nd.kids = [] ∧ cs = nd.pairs ∧ cs ≠ [] ∧ RisingP cs ∧ (∀ p ∈ cs, Within lo hi p.1) ∧ bs = [b]
 | h + 1, m, lo, hi, b, cs, bs => ∃ nd bs', Blk σ b nd ∧ nd.Ok ∧ nd.kids ≠ [] ∧ m ≤ nd.kids.length ∧ bs = b :: bs' ∧ RowL (TrM σ h 2) hi (nd.row lo) cs bs'
theorem Within.weaken {lo lo' : ByteArray} {hi hi' : Option ByteArray} {k : ByteArray} (h : Within lo hi k) (hlo : lt lo lo' = false) (hhi : ∀ y, hi' = some y → ∃ x, hi = some x ∧ lt y x = false) : Within lo' hi' k := by
 refine ⟨le_le hlo h.1, fun y hy => ?_⟩
 obtain ⟨x, hx, hxy⟩ := hhi y hy
 exact lt_le (h.2 x hx) hxy
theorem RowL.weakenHi {T : ByteArray → Option ByteArray → Int → List Pr → List Int → Prop} {hi hi' : Option ByteArray} (hT : ∀ k b c x, T k hi b c x → T k hi' b c x) : ∀ {l : List (ByteArray × Int)} {cs : List Pr} {bs : List Int}, RowL T hi l cs bs → RowL T hi' l cs bs
 | [], _, _, h => h
 | [(k, b)], _, _, h => by
  obtain ⟨c, cs', x, bs', h1, h2, h3, h4⟩ := h
  exact ⟨c, cs', x, bs', hT _ _ _ _ h1, h2, h3, h4⟩
 | (k, b) :: (k', b') :: l, _, _, h => by
  obtain ⟨c, cs', x, bs', h1, h2, h3, h4⟩ := h
  exact ⟨c, cs', x, bs', h1, RowL.weakenHi hT h2, h3, h4⟩
theorem RowL.weakenLo {T : ByteArray → Option ByteArray → Int → List Pr → List Int → Prop} {hi : Option ByteArray} {k k' : ByteArray} {b : Int} {l : List (ByteArray × Int)} {cs : List Pr} {bs : List Int} (hT : ∀ z b c x, T k z b c x → T k' z b c x) (h : RowL T hi ((k, b) :: l) cs bs) : RowL T hi ((k', b) :: l) cs bs := by
 obtain ⟨c, cs', x, bs', h1, h2, h3, h4⟩ := h
 exact ⟨c, cs', x, bs', hT _ _ _ _ h1, h2, h3, h4⟩
theorem TrM.weaken {σ : MSt} : ∀ {h m : Nat} {lo lo' : ByteArray} {hi hi' : Option ByteArray} {b : Int} {cs : List Pr} {bs : List Int}, TrM σ h m lo hi b cs bs → lt lo lo' = false → (∀ y, hi' = some y → ∃ x, hi = some x ∧ lt y x = false) → TrM σ h m lo' hi' b cs bs
 | 0, _, _, _, _, _, _, _, _, ⟨nd, h1, h2, h3, h4, h5, h6, h7, h8⟩, hlo, hhi => ⟨nd, h1, h2, h3, h4, h5, h6, fun p hp => (h7 p hp).weaken hlo hhi, h8⟩
 | h + 1, _, lo, lo', hi, hi', b, cs, bs, ⟨nd, bs', h1, h2, h3, h4, h5, h6⟩, hlo, hhi => by
  refine ⟨nd, bs', h1, h2, h3, h4, h5, ?_⟩
  have h7 : RowL (TrM σ h 2) hi' (nd.row lo) cs bs' := RowL.weakenHi (fun k b c x ht => TrM.weaken ht (lt_irrefl k) hhi) h6
  unfold Nd.row at h7 ⊢
  cases hk : nd.kids with
  | nil => exact absurd hk h3
  | cons a r =>
   rw [hk] at h7
   exact RowL.weakenLo (fun z b c x ht => TrM.weaken ht hlo (fun y hy => ⟨y, hy, lt_irrefl y⟩)) h7
theorem TrM.less {σ : MSt} : ∀ {h m m' : Nat} {lo : ByteArray} {hi : Option ByteArray} {b : Int} {cs : List Pr} {bs : List Int}, TrM σ h m lo hi b cs bs → m' ≤ m → TrM σ h m' lo hi b cs bs
 | 0, _, _, _, _, _, _, _, ht, _ => ht
 | _ + 1, _, _, _, _, _, _, _, ⟨nd, bs', h1, h2, h3, h4, h5, h6⟩, hm => ⟨nd, bs', h1, h2, h3, Nat.le_trans hm h4, h5, h6⟩
theorem Within.lo_lt {lo k : ByteArray} {hi : ByteArray} (h : Within lo (some hi) k) : lt lo hi = true := le_lt h.1 (h.2 hi rfl)
structure Content (lo : ByteArray) (hi : Option ByteArray) (cs : List Pr) : Prop where
 ne : cs ≠ []
 rise : RisingP cs
 within : ∀ p ∈ cs, Within lo hi p.1
theorem Content.append {lo k : ByteArray} {hi : Option ByteArray} {a b : List Pr} (ha : Content lo (some k) a) (hb : Content k hi b) : Content lo hi (a ++ b) := by
 have hlk : lt lo k = true := by
  obtain ⟨p, r, rfl⟩ := List.exists_cons_of_ne_nil ha.ne
  exact (ha.within p (by simp)).lo_lt
 refine ⟨by simp [ha.ne], ?_, fun p hp => ?_⟩
 ·refine List.pairwise_append.2 ⟨ha.rise, hb.rise, fun p hp q hq => ?_⟩
  exact lt_le ((ha.within p hp).2 k rfl) (hb.within q hq).1
 ·rcases List.mem_append.1 hp with h | h
  ·refine ⟨(ha.within p h).1, fun y hy => ?_⟩
   obtain ⟨q, r, rfl⟩ := List.exists_cons_of_ne_nil hb.ne
   have hq := hb.within q (by simp)
   exact lt_trans ((ha.within p h).2 k rfl) (le_lt hq.1 (hq.2 y hy))
  ·exact ⟨le_le (lt_asymm hlk) (hb.within p h).1, (hb.within p h).2⟩
theorem RowL.content {T : ByteArray → Option ByteArray → Int → List Pr → List Int → Prop} (hT : ∀ k z b c x, T k z b c x → Content k z c) {hi : Option ByteArray} : ∀ {k : ByteArray} {b : Int} {l : List (ByteArray × Int)} {cs : List Pr} {bs : List Int}, RowL T hi ((k, b) :: l) cs bs → Content k hi cs
 | k, b, [], _, _, h => by
  obtain ⟨c, cs', x, bs', h1, ⟨rfl, rfl⟩, rfl, rfl⟩ := h
  rw [List.append_nil]
  exact hT _ _ _ _ _ h1
 | k, b, (k', b') :: l, _, _, h => by
  obtain ⟨c, cs', x, bs', h1, h2, rfl, rfl⟩ := h
  exact (hT _ _ _ _ _ h1).append (RowL.content hT h2)
theorem TrM.content {σ : MSt} : ∀ {h m : Nat} {lo : ByteArray} {hi : Option ByteArray} {b : Int} {cs : List Pr} {bs : List Int}, TrM σ h m lo hi b cs bs → Content lo hi cs
 | 0, _, _, _, _, _, _, ⟨_, _, _, _, _, h5, h6, h7, _⟩ => ⟨h5, h6, h7⟩
 | h + 1, _, lo, hi, b, cs, bs, ⟨nd, bs', _, _, h3, _, _, h6⟩ => by
  unfold Nd.row at h6
  cases hk : nd.kids with
  | nil => exact absurd hk h3
  | cons a r =>
   rw [hk] at h6
   exact RowL.content (fun k z b c x ht => TrM.content ht) h6
theorem lookP_some {ps : List Pr} (hr : RisingP ps) {key v : ByteArray} : lookP ps key = some v ↔ (key, v) ∈ ps := by
 obtain ⟨f1, f2⟩ := posAt_facts key ps hr
 constructor
 ·intro h
  unfold lookP at h
  split at h
  ·rename_i hat
   obtain ⟨hp, hk⟩ := isAt_lt hat
   rw [List.getElem?_eq_getElem hp] at h
   simp at h
   have := List.getElem_mem hp
   rw [show ps[posAt ps key] = (key, v) from Prod.ext hk h] at this
   exact this
  ·cases h
 ·intro h
  obtain ⟨i, hi, e⟩ := List.getElem_of_mem h
  have hle : ¬ i < posAt ps key := fun hh => by
   have := f1 i hi hh
   rw [e] at this
   rw [lt_irrefl] at this; cases this
  have hge : ¬ posAt ps key < i := fun hh => by
   have h1 := f2 (posAt ps key) (by omega) (Nat.le_refl _)
   have h2 := List.pairwise_iff_getElem.1 hr (posAt ps key) i (by omega) hi hh
   rw [e] at h2
   rw [h1] at h2; cases h2
  have hpi : posAt ps key = i := by omega
  unfold lookP isAt
  rw [hpi, List.getElem?_eq_getElem hi, e]
  simp
theorem RowL.lows {T : ByteArray → Option ByteArray → Int → List Pr → List Int → Prop} (hT : ∀ k z b c x, T k z b c x → Content k z c) {hi : Option ByteArray} : ∀ {k : ByteArray} {b : Int} {l : List (ByteArray × Int)} {cs : List Pr} {bs : List Int}, RowL T hi ((k, b) :: l) cs bs → Rising (k :: l.map (·.1))
 | k, b, [], _, _, _ => List.pairwise_singleton _ _
 | k, b, (k', b') :: l, _, _, h => by
  obtain ⟨c, cs', x, bs', h1, h2, rfl, rfl⟩ := h
  have ih := RowL.lows hT h2
  have hc := hT _ _ _ _ _ h1
  obtain ⟨p, r, rfl⟩ := List.exists_cons_of_ne_nil hc.ne
  have hlt : lt k k' = true := (hc.within p (by simp)).lo_lt
  refine List.pairwise_cons.2 ⟨fun y hy => ?_, ih⟩
  rcases List.mem_cons.1 hy with rfl | hy
  ·exact hlt
  ·exact lt_trans hlt ((List.pairwise_cons.1 ih).1 y hy)
theorem zip_lows {keys : List ByteArray} {kids : List Int} (h : keys.length = kids.length - 1) (hk : kids ≠ []) (lo : ByteArray) : ∃ b l, (lo :: keys).zip kids = (lo, b) :: l ∧ l.map (·.1) = keys ∧ kids = b :: l.map (·.2) := by
 cases kids with
 | nil => exact absurd rfl hk
 | cons b r =>
  refine ⟨b, keys.zip r, rfl, ?_, ?_⟩
  ·rw [List.map_fst_zip]; simp at h; omega
  ·rw [List.map_snd_zip]; simp at h; omega
theorem TrM.rising {σ : MSt} {h m : Nat} {lo : ByteArray} {hi : Option ByteArray} {nd : Nd} {cs : List Pr} {bs : List Int} (ok : nd.Ok) (hk : nd.kids ≠ []) (hr : RowL (TrM σ h m) hi (nd.row lo) cs bs) : Rising nd.keys := by
 obtain ⟨b, l, e, e2, _⟩ := zip_lows ok.kk hk lo
 unfold Nd.row at hr
 rw [e] at hr
 have := RowL.lows (fun k z b c x ht => TrM.content ht) hr
 rw [e2] at this
 exact (List.pairwise_cons.1 this).2
theorem RowL.find {T : ByteArray → Option ByteArray → Int → List Pr → List Int → Prop} (hT : ∀ k z b c x, T k z b c x → Content k z c) {hi : Option ByteArray} {key : ByteArray} (hhi : ∀ y, hi = some y → lt key y = true) : ∀ {k : ByteArray} {b : Int} {l : List (ByteArray × Int)} {cs : List Pr} {bs : List Int}, RowL T hi ((k, b) :: l) cs bs → lt key k = false →
  ∃ (hP : kidAt (l.map (·.1)) key < (b :: l.map (·.2)).length) (k' : ByteArray) (z : Option ByteArray) (c : List Pr) (x : List Int), T k' z (b :: l.map (·.2))[kidAt (l.map (·.1)) key] c x ∧ Within k' z key ∧ ∀ v, (key, v) ∈ cs ↔ (key, v) ∈ c
 | k, b, [], _, _, h, hk => by
  obtain ⟨c, cs', x, bs', h1, ⟨rfl, rfl⟩, rfl, rfl⟩ := h
  exact ⟨by simp [kidAt], k, hi, c, x, h1, ⟨hk, hhi⟩, fun v => by simp⟩
 | k, b, (k', b') :: l, _, _, h, hk => by
  obtain ⟨c, cs', x, bs', h1, h2, rfl, rfl⟩ := h
  cases hlt : lt key k' with
  | true =>
   have e : kidAt (((k', b') :: l).map (·.1)) key = 0 := by simp [kidAt, hlt]
   have hc := RowL.content hT h2
   refine ⟨by rw [e]; simp, k, some k', c, x, ?_, ⟨hk, fun y hy => by cases hy; exact hlt⟩, fun v => ?_⟩
   ·simp only [e]; exact h1
   ·rw [List.mem_append]
    constructor
    ·rintro (h | h)
     ·exact h
     ·have := (hc.within _ h).1
      rw [hlt] at this; cases this
    ·exact .inl
  | false =>
   have e : kidAt (((k', b') :: l).map (·.1)) key = kidAt (l.map (·.1)) key + 1 := by simp [kidAt, hlt]
   obtain ⟨hP, k2, z, c2, x2, g1, g2, g3⟩ := RowL.find hT hhi h2 hlt
   refine ⟨by rw [e]; simpa using hP, k2, z, c2, x2, ?_, g2, fun v => ?_⟩
   ·simp only [e]; exact g1
   ·rw [List.mem_append, ← g3]
    constructor
    ·rintro (h | h)
     ·have := ((hT _ _ _ _ _ h1).within _ h).2 k' rfl
      have h3 : lt key k' = true := this
      rw [hlt] at h3; cases h3
     ·exact h
    ·exact .inr
theorem lookP_eq {a b : List Pr} (ha : RisingP a) (hb : RisingP b) {key : ByteArray} (h : ∀ v, (key, v) ∈ a ↔ (key, v) ∈ b) : lookP a key = lookP b key := by
 cases h1 : lookP a key with
 | some v => exact ((lookP_some hb).2 ((h v).1 ((lookP_some ha).1 h1))).symm
 | none =>
  cases h2 : lookP b key with
  | none => rfl
  | some v =>
   have := (lookP_some ha).2 ((h v).2 ((lookP_some hb).1 h2))
   rw [h1] at this; cases this
theorem TrM.look {σ : MSt} {key : ByteArray} : ∀ {h m : Nat} {lo : ByteArray} {hi : Option ByteArray} {b : Int} {cs : List Pr} {bs : List Int}, TrM σ h m lo hi b cs bs → Within lo hi key → Look σ key h b (lookP cs key)
 | 0, _, _, _, _, _, _, ⟨nd, h1, _, h3, h4, _, h6, _, _⟩, _ => by
  subst h4
  exact .leaf h1 h3 h6
 | h + 1, m, lo, hi, b, cs, bs, ht@⟨nd, bs', h1, h2, h3, _, _, h6⟩, hw => by
  have hkeys := TrM.rising h2 h3 h6
  have hcs := ht.content
  obtain ⟨b0, l, e, e2, e3⟩ := zip_lows h2.kk h3 lo
  unfold Nd.row at h6
  rw [e] at h6
  obtain ⟨hP, k', z, c, x, g1, g2, g3⟩ := RowL.find (fun k z b c x ht => TrM.content ht) (fun y hy => hw.2 y hy) h6 hw.1
  have hl := TrM.look g1 g2
  rw [← lookP_eq hcs.rise g1.content.rise g3] at hl
  have e4 : (l.map (·.1)) = nd.keys := e2
  simp only [e4] at hP hl
  have e5 : b0 :: l.map (·.2) = nd.kids := e3.symm
  simp only [e5] at hP hl
  exact .inner hP h1 hkeys hl
def nh (σ : MSt) (bs : List Int) : Nat := (bs.filter fun b => !σ.held b).length
theorem nh_append (σ : MSt) (a b : List Int) : nh σ (a ++ b) = nh σ a + nh σ b := by simp [nh]
theorem nh_le (σ : MSt) (a : List Int) : nh σ a ≤ a.length := List.length_filter_le _ _
theorem nh_perm {σ : MSt} {a b : List Int} (h : a.Perm b) : nh σ a = nh σ b := (h.filter _).length_eq
theorem held_eq {σ σ' : MSt} (h : σ'.H = σ.H) (x : Int) : σ'.held x = σ.held x := by unfold MSt.held; rw [h]
theorem nh_eq {σ σ' : MSt} (h : σ'.H = σ.H) (a : List Int) : nh σ' a = nh σ a := by
 unfold nh; congr 2; funext x; rw [held_eq h]
def Cln (_ : MSt) : Prop := True
structure Chg (σ σ' : MSt) (us bs : List Int) : Prop where
 H : σ'.H = σ.H
 most : σ'.most = σ.most
 frame : ∀ x, σ.hasB x = true → (x ∉ us ∨ False) → σ'.hasB x = true ∧ σ'.mem x = σ.mem x
 new : ∀ x ∈ bs, σ'.hasB x = true ∧ (x ∈ us ∨ σ.hasB x = false)
 nd : us.Nodup → bs.Nodup
 size : σ'.sz + nh σ us = σ.sz + nh σ bs
 ex : ∀ x, σ'.hasB x = true → x ∈ bs ∨ (σ.hasB x = true ∧ x ∉ us)
theorem Chg.refl {σ : MSt} {us : List Int} (h : ∀ x ∈ us, σ.hasB x = true) : Chg σ σ us us :=
 ⟨rfl, rfl, fun _ h _ => ⟨h, rfl⟩, fun x hx => ⟨h x hx, .inl hx⟩, id, rfl, fun x hx => by
  by_cases hu : x ∈ us
  ·exact .inl hu
  ·exact .inr ⟨hx, hu⟩⟩
theorem Chg.trans {σ σ1 σ2 : MSt} {us bs cs : List Int} (h : Chg σ σ1 us bs) (k : Chg σ1 σ2 bs cs) : Chg σ σ2 us cs := by
 refine ⟨k.H.trans h.H, k.most.trans h.most, fun x hx hn => ?_, fun x hx => ?_, fun hn => k.nd (h.nd hn), ?_, fun x hx => ?_⟩
 ·obtain ⟨a, b⟩ := h.frame x hx hn
  have hb : x ∉ bs ∨ False := by
   rcases hn with hn | hn
   ·refine .inl fun hb => ?_
    rcases (h.new x hb).2 with y | y
    ·exact hn y
    ·rw [hx] at y; cases y
   ·exact hn.elim
  obtain ⟨c, d⟩ := k.frame x a hb
  exact ⟨c, d.trans b⟩
 ·obtain ⟨a, b⟩ := k.new x hx
  refine ⟨a, ?_⟩
  rcases b with b | b
  ·exact (h.new x b).2
  ·cases hh : σ.hasB x with
   | false => exact .inr rfl
   | true =>
    refine .inl (Classical.byContradiction fun hn => ?_)
    have := (h.frame x hh (.inl hn)).1
    rw [b] at this; cases this
 ·have a := h.size
  have b := k.size
  rw [nh_eq h.H, nh_eq h.H] at b
  omega
 ·rcases k.ex x hx with y | ⟨y, z⟩
  ·exact .inl y
  ·exact .inr ((h.ex x y).resolve_left z)
theorem Chg.perm {σ σ' : MSt} {us bs us' bs' : List Int} (h : Chg σ σ' us bs) (ha : us.Perm us') (hb : bs.Perm bs') : Chg σ σ' us' bs' :=
 ⟨h.H, h.most, fun x hx hn => h.frame x hx (hn.imp (fun y z => y (ha.mem_iff.1 z)) id), fun x hx => (h.new x (hb.mem_iff.2 hx)).imp id (fun y => y.imp ha.mem_iff.1 id), fun hn => (hb.nodup_iff).1 (h.nd (ha.nodup_iff.2 hn)), by rw [← nh_perm ha, ← nh_perm hb]; exact h.size, fun x hx => (h.ex x hx).imp hb.mem_iff.1 (fun y => ⟨y.1, fun z => y.2 (ha.mem_iff.2 z)⟩)⟩
theorem Chg.left {σ σ' : MSt} {us bs rs : List Int} (h : Chg σ σ' us bs) (hn : (us ++ rs).Nodup) (hr : ∀ x ∈ rs, σ.hasB x = true) : Chg σ σ' (us ++ rs) (bs ++ rs) := by
 obtain ⟨n1, n2, n3⟩ := List.nodup_append.1 hn
 have hfr : ∀ x ∈ rs, x ∉ us := fun x hx ha => n3 x ha x hx rfl
 refine ⟨h.H, h.most, fun x hx hm => h.frame x hx (hm.imp (fun y z => y (List.mem_append_left _ z)) id), fun x hx => ?_, fun _ => ?_, ?_, fun x hx => ?_⟩
 ·rcases List.mem_append.1 hx with hx | hx
  ·exact (h.new x hx).imp id (fun y => y.imp (List.mem_append_left _) id)
  ·exact ⟨(h.frame x (hr x hx) (.inl (hfr x hx))).1, .inl (List.mem_append_right _ hx)⟩
 ·refine List.nodup_append.2 ⟨h.nd n1, n2, fun x hx y hy e => ?_⟩
  subst e
  rcases (h.new x hx).2 with z | z
  ·exact hfr x hy z
  ·rw [hr x hy] at z; cases z
 ·have := h.size
  rw [nh_append, nh_append]; omega
 ·rcases h.ex x hx with y | ⟨y, z⟩
  ·exact .inl (List.mem_append_left _ y)
  ·by_cases hr : x ∈ rs
   ·exact .inl (List.mem_append_right _ hr)
   ·exact .inr ⟨y, fun e => (List.mem_append.1 e).elim z hr⟩
theorem Chg.mid {σ σ' : MSt} {us bs ls rs : List Int} (h : Chg σ σ' us bs) (hn : (ls ++ us ++ rs).Nodup) (hl : ∀ x ∈ ls, σ.hasB x = true) (hr : ∀ x ∈ rs, σ.hasB x = true) : Chg σ σ' (ls ++ us ++ rs) (ls ++ bs ++ rs) := by
 have p : ∀ l : List Int, (l ++ (ls ++ rs)).Perm (ls ++ l ++ rs) := fun l => by
  rw [← List.append_assoc]; exact List.Perm.append_right _ List.perm_append_comm
 refine (h.left (rs := ls ++ rs) ((p us).nodup_iff.2 hn) fun x hx => ?_).perm (p us) (p bs)
 rcases List.mem_append.1 hx with hx | hx
 ·exact hl x hx
 ·exact hr x hx
theorem Chg.cln {σ σ' : MSt} {us bs : List Int} (_ : Chg σ σ' us bs) (_ : Cln σ) : Cln σ' := trivial
theorem chg_wrote {σ σ' : MSt} {b : Int} {nd : Nd} (h : Wrote σ b nd σ') (_ : Cln σ) : Chg σ σ' [] [b] := by
 have hne : ∀ x, σ.hasB x = true → x ≠ b := fun x hx e => by subst e; have := h.new; rw [hx] at this; cases this
 refine ⟨h.held, h.most, fun x hx _ => ⟨(h.other x (hne x hx)).1.trans hx, (h.other x (hne x hx)).2⟩, fun x hx => ?_, fun _ => by simp, ?_, fun x hx => ?_⟩
 ·obtain rfl : x = b := by simpa using hx
  exact ⟨h.blk.has, .inr h.new⟩
 ·rw [h.size]
  have : σ.held b = false := h.nheld
  simp [nh, this]
 ·by_cases e : x = b
  ·exact .inl (by rw [e]; exact List.mem_cons_self ..)
  ·exact .inr ⟨by rw [← (h.other x e).1]; exact hx, by simp⟩
theorem Inv.cln {σ : MSt} {S : Nat → Prop} {mp : VS} {w : World} (_ : Inv σ S mp w) : Cln σ := trivial
theorem MSt.gone_hasB {σ : MSt} {b x : Int} (h0 : 0 ≤ b) (hne : x ≠ b) : (σ.gone b).hasB x = σ.hasB x := by
 show (decide (0 ≤ x) && (decide (x.toNat < σ.most) && setB σ.now b.toNat false x.toNat)) = _
 unfold MSt.hasB
 by_cases hx : 0 ≤ x
 ·unfold setB; rw [if_neg (by omega)]
 ·simp [hx]
theorem chg_goneT {σ : MSt} {b : Int} (hb : σ.hasB b = true) : Chg σ (σ.gone b) [b] [] := by
 obtain ⟨n, rfl, hn, hnow⟩ := MSt.hasB_nat hb
 refine ⟨rfl, rfl, fun x hx hm => ⟨?_, rfl⟩, (fun x hx => by cases hx), (fun _ => List.nodup_nil), ?_, fun x hx => .inr ?_⟩
 ·rw [MSt.gone_hasB (by omega) (fun e => (hm.resolve_right id) (by simpa using e))]
  exact hx
 ·show countB (fun x => setB σ.now (n : Int).toNat false x || σ.H.old x) σ.most + _ = countB (fun x => σ.now x || σ.H.old x) σ.most + _
  rw [Int.toNat_natCast]
  have hh : σ.held (n : Int) = σ.H.old n := by unfold MSt.held; rw [Int.toNat_natCast]; simp
  simp only [nh, List.filter_cons, hh, List.filter_nil, List.length_nil, Nat.add_zero]
  cases ho : σ.H.old n with
  | true =>
   simp only [Bool.not_true, Bool.false_eq_true, if_false, List.length_nil, Nat.add_zero]
   refine countB_congr _ (fun x _ => ?_)
   unfold setB
   split
   ·rename_i e; subst e; rw [ho, hnow]; rfl
   ·rfl
  | false =>
   simp only [Bool.not_false, if_true, List.length_singleton]
   rw [← countB_off (f := fun x => σ.now x || σ.H.old x) (b := n) (by rw [hnow]; rfl) _ hn]
   congr 1
   refine countB_congr _ (fun x _ => ?_)
   unfold setB
   split
   ·rename_i e; subst e; rw [ho]; rfl
   ·rfl
 ·have hne : x ≠ (n : Int) := fun e => by
   rw [e] at hx
   have : (decide ((0 : Int) ≤ (n : Int)) && (decide ((n : Int).toNat < σ.most) && setB σ.now (n : Int).toNat false (n : Int).toNat)) = true := hx
   simp [setB] at this
  rw [MSt.gone_hasB (by omega) hne] at hx
  exact ⟨hx, by simpa using hne⟩
theorem chg_gone {σ : MSt} {S : Nat → Prop} {mp : VS} {w : World} (_ : Inv σ S mp w) {b : Int} (hb : σ.hasB b = true) : Chg σ (σ.gone b) [b] [] := chg_goneT hb
theorem chg_gone2 {σ : MSt} {S : Nat → Prop} {mp : VS} {w : World} (_ : Inv σ S mp w) {b1 b2 : Int} (h1 : σ.hasB b1 = true) (h2 : σ.hasB b2 = true) (hne : b1 ≠ b2) : Chg σ ((σ.gone b1).gone b2) [b1, b2] [] ∧ (σ.gone b1).hasB b2 = true := by
 have c1 := chg_goneT h1
 have hb := (c1.frame b2 h2 (.inl (by simpa using fun e => hne e.symm))).1
 have c2 := chg_goneT hb
 have c1' := c1.left (rs := [b2]) (by simpa using hne) (fun x hx => by rw [List.mem_singleton.1 hx]; exact h2)
 exact ⟨c1'.trans c2, hb⟩
theorem Blk.move {σ σ' : MSt} {b : Int} {nd : Nd} (h : Blk σ b nd) (h1 : σ'.hasB b = true) (h2 : σ'.mem b = σ.mem b) : Blk σ' b nd :=
 ⟨h1, h.lo, h.hi, by rw [h2]; exact h.mem, h.fits⟩
theorem RowL.change {T T' : ByteArray → Option ByteArray → Int → List Pr → List Int → Prop} {hi : Option ByteArray} : ∀ {l : List (ByteArray × Int)} {cs : List Pr} {bs : List Int}, RowL T hi l cs bs → (∀ k z b c x, (∀ y ∈ x, y ∈ bs) → T k z b c x → T' k z b c x) → RowL T' hi l cs bs
 | [], _, _, h, _ => h
 | (k, b) :: l, _, _, h, hT => by
  obtain ⟨c, cs', x, bs', h1, h2, rfl, rfl⟩ := h
  exact ⟨c, cs', x, bs', hT _ _ _ _ _ (fun y hy => List.mem_append_left _ hy) h1, RowL.change h2 (fun k z b c x hx => hT k z b c x (fun y hy => List.mem_append_right _ (hx y hy))), rfl, rfl⟩
theorem TrM.move {σ σ' : MSt} : ∀ {h m : Nat} {lo : ByteArray} {hi : Option ByteArray} {b : Int} {cs : List Pr} {bs : List Int}, TrM σ h m lo hi b cs bs → (∀ x ∈ bs, σ'.hasB x = true ∧ σ'.mem x = σ.mem x) → TrM σ' h m lo hi b cs bs
 | 0, _, _, _, _, _, _, ⟨nd, h1, h2, h3, h4, h5, h6, h7, h8⟩, hx => by
  have := hx _ (by rw [h8]; exact List.mem_singleton.2 rfl)
  exact ⟨nd, h1.move this.1 this.2, h2, h3, h4, h5, h6, h7, h8⟩
 | h + 1, _, _, _, _, _, _, ⟨nd, bs', h1, h2, h3, h4, h5, h6⟩, hx => by
  subst h5
  have := hx _ (List.mem_cons_self ..)
  exact ⟨nd, bs', h1.move this.1 this.2, h2, h3, h4, rfl, h6.change fun k z b c x hb ht => TrM.move ht fun y hy => hx y (List.mem_cons_of_mem _ (hb y hy))⟩
theorem RowL.has {T : ByteArray → Option ByteArray → Int → List Pr → List Int → Prop} {p : Int → Prop} (hT : ∀ k z b c x, T k z b c x → ∀ y ∈ x, p y) {hi : Option ByteArray} : ∀ {l : List (ByteArray × Int)} {cs : List Pr} {bs : List Int}, RowL T hi l cs bs → ∀ y ∈ bs, p y
 | [], _, _, ⟨_, e⟩ => by subst e; simp
 | (k, b) :: l, _, _, h => by
  obtain ⟨c, cs', x, bs', h1, h2, rfl, rfl⟩ := h
  intro y hy
  rcases List.mem_append.1 hy with hy | hy
  ·exact hT _ _ _ _ _ h1 y hy
  ·exact RowL.has hT h2 y hy
theorem TrM.has {σ : MSt} : ∀ {h m : Nat} {lo : ByteArray} {hi : Option ByteArray} {b : Int} {cs : List Pr} {bs : List Int}, TrM σ h m lo hi b cs bs → ∀ x ∈ bs, σ.hasB x = true
 | 0, _, _, _, _, _, _, ⟨nd, h1, _, _, _, _, _, _, h8⟩ => by
  intro x hx
  rw [h8] at hx
  rw [List.mem_singleton.1 hx]
  exact h1.has
 | h + 1, _, _, _, _, _, _, ⟨nd, bs', h1, _, _, _, h5, h6⟩ => by
  subst h5
  intro x hx
  rcases List.mem_cons.1 hx with rfl | hx
  ·exact h1.has
  ·exact RowL.has (fun _ _ _ _ _ ht => TrM.has ht) h6 x hx
theorem RowL.count {T : ByteArray → Option ByteArray → Int → List Pr → List Int → Prop} (hT : ∀ k z b c x, T k z b c x → x.length + 1 ≤ 2 * c.length) {hi : Option ByteArray} : ∀ {l : List (ByteArray × Int)} {cs : List Pr} {bs : List Int}, RowL T hi l cs bs → bs.length + l.length ≤ 2 * cs.length
 | [], _, _, ⟨e, e2⟩ => by subst e e2; simp
 | (k, b) :: l, _, _, h => by
  obtain ⟨c, cs', x, bs', h1, h2, rfl, rfl⟩ := h
  have a := hT _ _ _ _ _ h1
  have b := RowL.count hT h2
  simp only [List.length_append, List.length_cons]; omega
theorem Nd.row_length (nd : Nd) (ok : nd.Ok) (hk : nd.kids ≠ []) (lo : ByteArray) : (nd.row lo).length = nd.kids.length := by
 have := ok.kk
 have := List.length_pos_iff.2 hk
 unfold Nd.row; simp; omega
theorem TrM.count {σ : MSt} : ∀ {h m : Nat} {lo : ByteArray} {hi : Option ByteArray} {b : Int} {cs : List Pr} {bs : List Int}, TrM σ h m lo hi b cs bs → 2 ≤ m → bs.length + 1 ≤ 2 * cs.length
 | 0, _, _, _, _, _, _, ⟨_, _, _, _, _, h5, _, _, h8⟩, _ => by
  subst h8
  have := List.length_pos_iff.2 h5
  simp; omega
 | h + 1, _, _, _, _, _, _, ⟨nd, bs', _, h2, h3, h4, h5, h6⟩, hm => by
  subst h5
  have := RowL.count (fun _ _ _ _ _ ht => TrM.count ht (Nat.le_refl 2)) h6
  rw [nd.row_length h2 h3] at this
  simp; omega
theorem TrM.count1 {σ : MSt} : ∀ {h m : Nat} {lo : ByteArray} {hi : Option ByteArray} {b : Int} {cs : List Pr} {bs : List Int}, TrM σ h m lo hi b cs bs → bs.length ≤ 2 * cs.length
 | 0, _, _, _, _, _, _, ⟨_, _, _, _, _, h5, _, _, h8⟩ => by
  subst h8
  have := List.length_pos_iff.2 h5
  simp; omega
 | h + 1, _, _, _, _, _, _, ⟨nd, bs', _, h2, h3, h4, h5, h6⟩ => by
  subst h5
  have := RowL.count (fun _ _ _ _ _ ht => TrM.count ht (Nat.le_refl 2)) h6
  rw [nd.row_length h2 h3] at this
  have := List.length_pos_iff.2 h3
  simp; omega
def pcRow (lo : ByteArray) : List Pc → List (ByteArray × Int)
 | [] => []
 | p :: r => (lo, p.1) :: r.map fun q => (q.2, q.1)
theorem pcRow_length (lo : ByteArray) (ps : List Pc) : (pcRow lo ps).length = ps.length := by cases ps <;> simp [pcRow]
theorem pcRow_append (lo : ByteArray) (ps : List Pc) (q : Pc) (qs : List Pc) (hp : ps ≠ []) : pcRow lo (ps ++ q :: qs) = pcRow lo ps ++ pcRow q.2 (q :: qs) := by
 cases ps with
 | nil => exact absurd rfl hp
 | cons p r => simp [pcRow]
theorem Spr.head {nd : Nd} {l : ByteArray} {zs : List (ByteArray × Nd)} (h : Spr nd l zs) (ok : nd.Ok) (hne : nd.kids ≠ [] ∨ nd.pairs ≠ []) : ∃ z r, zs = z :: r ∧ z.1 = leastOf nd l := by
 induction h with
 | none h1 h2 => rcases hne with h | h; exact absurd h1 h; exact absurd h2 h
 | @one nd l h1 h2 => exact ⟨_, _, rfl, rfl⟩
 | @leaf nd l i hi A B hk hs hi1 _ _ iha ihb =>
  have hp : nd.pairs.take i ≠ [] := fun e => by have := congrArg List.length e; simp only [List.length_take, List.length_nil] at this; omega
  obtain ⟨z, r, rfl, hz⟩ := iha (ok.left i hk) (.inr hp)
  refine ⟨z, r ++ B, rfl, hz.trans ?_⟩
  unfold leastOf
  rw [hk]
  cases hq : nd.pairs with
  | nil => rw [hq] at hi; simp at hi
  | cons p ps =>
   obtain ⟨i, rfl⟩ : ∃ d, i = d + 1 := ⟨i - 1, by omega⟩
   rfl
 | @inner nd l i hi A B hk hs hi1 _ _ iha ihb =>
  have h5 := (ok.big hs).2 hk
  have hp : nd.kids.take i ≠ [] := fun e => by have := congrArg List.length e; simp only [List.length_take, List.length_nil] at this; omega
  obtain ⟨z, r, rfl, hz⟩ := iha (ok.leftI i (by omega)) (.inl hp)
  refine ⟨z, r ++ B, rfl, hz.trans ?_⟩
  unfold leastOf
  cases hq : nd.kids with
  | nil => exact absurd hq hk
  | cons k ks =>
   obtain ⟨i, rfl⟩ : ∃ d, i = d + 1 := ⟨i - 1, by omega⟩
   rfl
theorem Puts.split : ∀ {A : List (ByteArray × Nd)} {σ σ' : MSt} {ps : List Pc} {B : List (ByteArray × Nd)}, Puts σ ps (A ++ B) σ' → ∃ ps1 ps2 σ1, ps = ps1 ++ ps2 ∧ Puts σ ps1 A σ1 ∧ Puts σ1 ps2 B σ'
 | [], σ, σ', ps, B, h => ⟨[], ps, σ, rfl, rfl, h⟩
 | z :: A, σ, σ', ps, B, h => by
  cases ps with
  | nil => exact absurd h id
  | cons p ps =>
   obtain ⟨τ, h1, h2, h3⟩ := h
   obtain ⟨ps1, ps2, σ1, rfl, g1, g2⟩ := Puts.split h3
   exact ⟨p :: ps1, ps2, σ1, rfl, ⟨τ, h1, h2, g1⟩, g2⟩
theorem Puts.chg : ∀ {zs : List (ByteArray × Nd)} {σ σ' : MSt} {ps : List Pc}, Puts σ ps zs σ' → Cln σ → Chg σ σ' [] (ps.map (·.1))
 | [], σ, σ', ps, h, _ => by
  cases ps with
  | nil => cases h; exact Chg.refl (by simp)
  | cons p ps => exact absurd h id
 | z :: zs, σ, σ', ps, h, hc => by
  cases ps with
  | nil => exact absurd h id
  | cons p ps =>
   obtain ⟨τ, h1, h2, h3⟩ := h
   have c1 := chg_wrote h2 hc
   have c2 := (Puts.chg h3 (c1.cln hc)).left (rs := [p.1]) (by simp) (fun x hx => by rw [List.mem_singleton.1 hx]; exact h2.blk.has)
   exact c1.trans (c2.perm (List.Perm.refl _) (List.perm_append_comm (l₁ := ps.map (·.1)) (l₂ := [p.1])))
theorem TrM.keep {σ σ' : MSt} {us bs' : List Int} (hc : Chg σ σ' us bs') {h m : Nat} {lo : ByteArray} {hi : Option ByteArray} {b : Int} {cs : List Pr} {bs : List Int} (ht : TrM σ h m lo hi b cs bs) (hd : ∀ x ∈ bs, x ∉ us) : TrM σ' h m lo hi b cs bs :=
 ht.move fun x hx => hc.frame x (ht.has x hx) (.inl (hd x hx))
theorem RowL.keep {σ σ' : MSt} {us bs' : List Int} (hc : Chg σ σ' us bs') {h m : Nat} {hi : Option ByteArray} {l : List (ByteArray × Int)} {cs : List Pr} {bs : List Int} (ht : RowL (TrM σ h m) hi l cs bs) (hd : ∀ x ∈ bs, x ∉ us) : RowL (TrM σ' h m) hi l cs bs :=
 ht.change fun _ _ _ _ _ hx ht => ht.keep hc fun y hy => hd y (hx y hy)
theorem puts_head {σ σ' : MSt} {ps : List Pc} {z : ByteArray × Nd} {r : List (ByteArray × Nd)} (h : Puts σ ps (z :: r) σ') : ∃ q qs, ps = q :: qs ∧ q.2 = z.1 := by
 cases ps with
 | nil => exact absurd h id
 | cons q qs => obtain ⟨_, h1, _⟩ := h; exact ⟨q, qs, rfl, h1⟩
theorem Spr.leafRow {nd : Nd} {l : ByteArray} {zs : List (ByteArray × Nd)} (h : Spr nd l zs) : ∀ {σ σ' : MSt} {ps : List Pc} {lo : ByteArray} {hi : Option ByteArray}, nd.Ok → nd.kids = [] → RisingP nd.pairs → (∀ p ∈ nd.pairs, Within lo hi p.1) → Puts σ ps zs σ' → Cln σ → ∀ m, RowL (TrM σ' 0 m) hi (pcRow lo ps) nd.pairs (ps.map (·.1)) := by
 induction h with
 | @none nd l h1 h2 =>
  intro σ σ' ps lo hi ok hk hr hw hp hc m
  cases ps with
  | nil => rw [h2]; exact ⟨rfl, rfl⟩
  | cons p ps => exact absurd hp id
 | @one nd l h1 h2 =>
  intro σ σ' ps lo hi ok hk hr hw hp hc m
  cases ps with
  | nil => exact absurd hp id
  | cons p ps =>
   cases ps with
   | cons _ _ => obtain ⟨_, _, _, x⟩ := hp; exact absurd x id
   | nil =>
    obtain ⟨τ, h3, h4, rfl⟩ := hp
    exact ⟨nd.pairs, [], [p.1], [], ⟨nd, h4.blk, ok, hk, rfl, h1.resolve_left (fun x => x hk), hr, hw, rfl⟩, ⟨rfl, rfl⟩, by simp, rfl⟩
 | @leaf nd l i hi A B hk hs hi1 sa sb iha ihb =>
  intro σ σ' ps lo hib ok _ hr hw hp hc m
  obtain ⟨ps1, ps2, σ1, rfl, g1, g2⟩ := hp.split
  have okA := ok.left i hk
  have okB := ok.right i hk
  have neA : nd.pairs.take i ≠ [] := fun e => by have := congrArg List.length e; simp only [List.length_take, List.length_nil] at this; omega
  have neB : nd.pairs.drop i ≠ [] := fun e => by have := congrArg List.length e; simp only [List.length_drop, List.length_nil] at this; omega
  obtain ⟨za, ra, rfl, _⟩ := sa.head okA (.inr neA)
  obtain ⟨zb, rb, rfl, hzb⟩ := sb.head okB (.inr neB)
  obtain ⟨q1, qs1, rfl, _⟩ := puts_head g1
  obtain ⟨q, qs, rfl, hq⟩ := puts_head g2
  have hk2 : q.2 = nd.pairs[i].1 := by
   rw [hq, hzb]
   show leastOf _ _ = _
   unfold leastOf
   rw [List.drop_eq_getElem_cons hi]
   rfl
  have hri : ∀ j (hj : j < nd.pairs.length), j < i → lt nd.pairs[j].1 nd.pairs[i].1 = true := fun j hj hji => List.pairwise_iff_getElem.1 hr j i hj hi hji
  have c2 := g2.chg ((g1.chg hc).cln hc)
  have ra' := iha (lo := lo) (hi := some nd.pairs[i].1) okA rfl (hr.sublist (List.take_sublist _ _)) (fun p hp => by
   obtain ⟨j, hj, rfl⟩ := List.getElem_of_mem hp
   simp only [List.length_take] at hj
   refine ⟨?_, fun y hy => ?_⟩
   ·have := (hw _ (List.mem_of_mem_take hp)).1
    exact this
   ·cases hy
    rw [List.getElem_take]
    exact hri j (by omega) (by omega)) g1 hc m
  have rb' := ihb (lo := nd.pairs[i].1) (hi := hib) okB rfl (hr.sublist (List.drop_sublist _ _)) (fun p hp => by
   obtain ⟨j, hj, e⟩ := List.getElem_of_mem hp
   refine ⟨?_, (hw p (List.mem_of_mem_drop hp)).2⟩
   rw [List.getElem_drop] at e
   rw [← e]
   cases j with
   | zero => exact lt_irrefl _
   | succ j =>
    exact lt_asymm (List.pairwise_iff_getElem.1 hr i (i + (j + 1)) hi (by simp only [List.length_drop] at hj; omega) (by omega))) g2 ((g1.chg hc).cln hc) m
  rw [pcRow_append _ _ _ _ (by simp), hk2, List.map_append]
  have ra2 : RowL (TrM σ' 0 m) (nextLo (pcRow nd.pairs[i].1 (q :: qs)) hib) (pcRow lo (q1 :: qs1)) (nd.pairs.take i) ((q1 :: qs1).map (·.1)) := ra'.keep c2 (by simp)
  have := RowL.append rb' ra2
  rw [show Nd.pairs ⟨nd.pairs.drop i, [], []⟩ = nd.pairs.drop i from rfl, List.take_append_drop] at this
  exact this
 | @inner nd l i hi A B hk hs hi1 sa sb iha ihb =>
  intro σ σ' ps lo hi ok hk2
  exact absurd hk2 hk
theorem row_take (nd : Nd) (lo : ByteArray) (i : Nat) (hi : 1 ≤ i) : Nd.row ⟨[], nd.keys.take (i - 1), nd.kids.take i⟩ lo = (nd.row lo).take i := by
 obtain ⟨i, rfl⟩ : ∃ d, i = d + 1 := ⟨i - 1, by omega⟩
 unfold Nd.row
 rw [List.zip_eq_zipWith, List.zip_eq_zipWith, List.take_zipWith]
 rfl
theorem row_drop (nd : Nd) (lo : ByteArray) (i : Nat) (hi : i - 1 < nd.keys.length) (h1 : 1 ≤ i) : Nd.row ⟨[], nd.keys.drop i, nd.kids.drop i⟩ nd.keys[i - 1] = (nd.row lo).drop i := by
 obtain ⟨i, rfl⟩ : ∃ d, i = d + 1 := ⟨i - 1, by omega⟩
 unfold Nd.row
 rw [List.zip_eq_zipWith, List.zip_eq_zipWith, List.drop_zipWith, List.drop_succ_cons]
 simp only [Nat.add_sub_cancel] at hi ⊢
 rw [List.drop_eq_getElem_cons hi]
theorem Spr.innerRow {nd : Nd} {l : ByteArray} {zs : List (ByteArray × Nd)} (h : Spr nd l zs) : ∀ {σ σ' : MSt} {ps : List Pc} {lo : ByteArray} {hi : Option ByteArray} {h m : Nat} {cs : List Pr} {bs : List Int}, nd.Ok → nd.kids ≠ [] → RowL (TrM σ h 2) hi (nd.row lo) cs bs → Puts σ ps zs σ' → Cln σ → m ≤ 2 → m ≤ nd.kids.length →
  ∃ bs', RowL (TrM σ' (h + 1) m) hi (pcRow lo ps) cs bs' ∧ bs'.Perm (ps.map (·.1) ++ bs) := by
 induction h with
 | @none nd l h1 h2 => intro σ σ' ps lo hi h m cs bs ok hk; exact absurd h1 hk
 | @one nd l h1 h2 =>
  intro σ σ' ps lo hi h m cs bs ok hk hr hp hc hm hm2
  have hc2 := hp.chg hc
  cases ps with
  | nil => exact absurd hp id
  | cons p ps =>
   cases ps with
   | cons _ _ => obtain ⟨_, _, _, x⟩ := hp; exact absurd x id
   | nil =>
    obtain ⟨τ, h3, h4, rfl⟩ := hp
    exact ⟨p.1 :: bs, ⟨cs, [], p.1 :: bs, [], ⟨nd, bs, h4.blk, ok, hk, hm2, rfl, hr.keep hc2 (by simp)⟩, ⟨rfl, rfl⟩, by simp, by simp⟩, List.Perm.refl _⟩
 | @leaf nd l i hi A B hk hs hi1 sa sb iha ihb => intro σ σ' ps lo hi h m cs bs ok hk2; exact absurd hk hk2
 | @inner nd l i hi A B hk hs hi1 sa sb iha ihb =>
  intro σ σ' ps lo hib h m cs bs ok _ hr hp hc hm hm2
  have h5 := (ok.big hs).2 hk
  obtain ⟨ps1, ps2, σ1, rfl, g1, g2⟩ := hp.split
  have okA := ok.leftI i (by omega)
  have okB := ok.rightI i
  have neA : nd.kids.take i ≠ [] := fun e => by have := congrArg List.length e; simp only [List.length_take, List.length_nil] at this; omega
  have neB : nd.kids.drop i ≠ [] := fun e => by have := congrArg List.length e; simp only [List.length_drop, List.length_nil] at this; omega
  obtain ⟨za, ra, rfl, _⟩ := sa.head okA (.inl neA)
  obtain ⟨zb, rb, rfl, hzb⟩ := sb.head okB (.inl neB)
  obtain ⟨q1, qs1, rfl, _⟩ := puts_head g1
  obtain ⟨q, qs, rfl, hq⟩ := puts_head g2
  have hk2 : q.2 = nd.keys[i - 1] := by
   rw [hq, hzb]
   show leastOf _ _ = _
   have : leastOf ⟨[], nd.keys.drop i, nd.kids.drop i⟩ nd.keys[i - 1] = nd.keys[i - 1] := by
    unfold leastOf
    cases hq : nd.kids.drop i with
    | nil => exact absurd hq neB
    | cons a r => rfl
   rw [this, this]
  have c1 := g1.chg hc
  have c2 := g2.chg (c1.cln hc)
  have er : nd.row lo = (nd.row lo).take i ++ (nd.row lo).drop i := (List.take_append_drop _ _).symm
  rw [er] at hr
  obtain ⟨cl, cm, bl, bm, r1, r2, rfl, rfl⟩ := hr.split
  rw [← row_drop nd lo i hi (by omega)] at r1 r2
  rw [← row_take nd lo i (by omega)] at r1
  have hnl : ∀ z, nextLo (Nd.row ⟨[], nd.keys.drop i, nd.kids.drop i⟩ nd.keys[i - 1]) z = some nd.keys[i - 1] := by
   intro z
   unfold Nd.row
   cases hq : nd.kids.drop i with
   | nil => exact absurd hq neB
   | cons a r => rfl
  rw [hnl] at r1
  obtain ⟨bs1, x1, y1⟩ := iha (m := m) okA neA r1 g1 hc hm (by simp only [List.length_take]; omega)
  obtain ⟨bs2, x2, y2⟩ := ihb (m := m) okB neB (r2.keep c1 (by simp)) g2 (c1.cln hc) hm (by simp only [List.length_drop]; omega)
  rw [pcRow_append _ _ _ _ (by simp), hk2, List.map_append]
  refine ⟨bs1 ++ bs2, RowL.append x2 (l := pcRow lo (q1 :: qs1)) (x1.keep c2 (by simp)), ?_⟩
  refine (y1.append y2).trans ?_
  generalize (q1 :: qs1).map (·.1) = A at *
  generalize (q :: qs).map (·.1) = B at *
  have : (A ++ bl ++ (B ++ bm)).Perm (A ++ B ++ (bl ++ bm)) := by
   rw [List.append_assoc, List.append_assoc]
   refine List.Perm.append_left A ?_
   rw [← List.append_assoc, ← List.append_assoc]
   exact List.Perm.append_right bm List.perm_append_comm
  exact this
def NdRow (σ : MSt) (h : Nat) (lo : ByteArray) (hi : Option ByteArray) (nd : Nd) (cs : List Pr) (bs : List Int) : Prop :=
 match h with
 | 0 => nd.kids = [] ∧ nd.pairs = cs ∧ RisingP cs ∧ (∀ p ∈ cs, Within lo hi p.1) ∧ bs = []
 | h + 1 => nd.kids ≠ [] ∧ RowL (TrM σ h 2) hi (nd.row lo) cs bs
def Kids (h m : Nat) (nd : Nd) : Prop := h = 0 ∨ m ≤ nd.kids.length
theorem trM_iff {σ : MSt} {h m : Nat} {lo : ByteArray} {hi : Option ByteArray} {b : Int} {cs : List Pr} {bs : List Int} : TrM σ h m lo hi b cs bs ↔ ∃ nd bs', Blk σ b nd ∧ nd.Ok ∧ NdRow σ h lo hi nd cs bs' ∧ Kids h m nd ∧ cs ≠ [] ∧ bs = b :: bs' := by
 cases h with
 | zero =>
  constructor
  ·rintro ⟨nd, h1, h2, h3, h4, h5, h6, h7, h8⟩
   exact ⟨nd, [], h1, h2, ⟨h3, h4.symm, h6, h7, rfl⟩, .inl rfl, h5, h8⟩
  ·rintro ⟨nd, bs', h1, h2, ⟨h3, h4, h5, h6, rfl⟩, _, h7, h8⟩
   exact ⟨nd, h1, h2, h3, h4.symm, h7, h5, h6, h8⟩
 | succ h =>
  constructor
  ·intro ht
   have hc := ht.content.ne
   obtain ⟨nd, bs', h1, h2, h3, h4, h5, h6⟩ := ht
   exact ⟨nd, bs', h1, h2, ⟨h3, h6⟩, .inr h4, hc, h5⟩
  ·rintro ⟨nd, bs', h1, h2, ⟨h3, h6⟩, h4, _, h5⟩
   exact ⟨nd, bs', h1, h2, h3, h4.resolve_left (by omega), h5, h6⟩
theorem spread_row {nd : Nd} {l : ByteArray} {zs : List (ByteArray × Nd)} (hs : Spr nd l zs) {σ σ' : MSt} {ps : List Pc} {lo : ByteArray} {hi : Option ByteArray} {h m : Nat} {cs : List Pr} {bs : List Int} (ok : nd.Ok) (hr : NdRow σ h lo hi nd cs bs) (hp : Puts σ ps zs σ') (hc : Cln σ) (hm : m ≤ 2) (hk : Kids h m nd) (hn : bs.Nodup) (hb : ∀ x ∈ bs, σ.hasB x = true) :
  ∃ bs', RowL (TrM σ' h m) hi (pcRow lo ps) cs bs' ∧ Chg σ σ' bs bs' := by
 have c := hp.chg hc
 cases h with
 | zero =>
  obtain ⟨h1, rfl, h3, h4, rfl⟩ := hr
  exact ⟨_, hs.leafRow ok h1 h3 h4 hp hc m, c⟩
 | succ h =>
  obtain ⟨h1, h2⟩ := hr
  obtain ⟨bs', x, y⟩ := hs.innerRow ok h1 h2 hp hc hm (hk.resolve_left (by omega))
  exact ⟨bs', x, (c.left (rs := bs) (by simpa using hn) hb).perm (by simp) y.symm⟩
def RowOf (nd : Nd) (lo : ByteArray) (R : List (ByteArray × Int)) : Prop := lo :: nd.keys = R.map (·.1) ∧ nd.kids = R.map (·.2)
theorem RowOf.row {nd : Nd} {lo : ByteArray} {R : List (ByteArray × Int)} (h : RowOf nd lo R) : nd.row lo = R := by
 unfold Nd.row
 rw [h.1, h.2, List.zip_map']
 simp
theorem rowOf {nd : Nd} (ok : nd.Ok) (hk : nd.kids ≠ []) (lo : ByteArray) : RowOf nd lo (nd.row lo) := by
 obtain ⟨b, l, e, e2, e3⟩ := zip_lows ok.kk hk lo
 unfold Nd.row
 rw [e]
 exact ⟨by simp [e2], by simp [e3]⟩
theorem RowOf.len {nd : Nd} {lo : ByteArray} {R : List (ByteArray × Int)} (h : RowOf nd lo R) : nd.kids.length = R.length ∧ nd.keys.length + 1 = R.length := by
 have h1 := congrArg List.length h.1
 have h2 := congrArg List.length h.2
 simp at h1 h2
 omega
theorem RowOf.ne {nd : Nd} {lo : ByteArray} {R : List (ByteArray × Int)} (h : RowOf nd lo R) : R ≠ [] := fun e => by
 have := h.len; subst e; simp at this
def relab (lo : ByteArray) : List (ByteArray × Int) → List (ByteArray × Int)
 | [] => []
 | (_, b) :: r => (lo, b) :: r
theorem pcRow_fst (k : ByteArray) (ps : List Pc) : (pcRow k ps).map (·.1) = moreL k ps := by cases ps <;> simp [pcRow, moreL]
theorem pcRow_snd (k : ByteArray) (ps : List Pc) : (pcRow k ps).map (·.2) = ps.map (·.1) := by cases ps <;> simp [pcRow]
theorem repl_rowOf {nd : Nd} {lo k : ByteArray} {b : Int} {L M : List (ByteArray × Int)} {ps : List Pc} (h : RowOf nd lo (L ++ (k, b) :: M)) (hne : L ≠ [] ∨ ps ≠ []) : RowOf (nd.repl L.length ps) lo (L ++ pcRow k ps ++ M) := by
 obtain ⟨h1, h2⟩ := h
 constructor
 ·cases L with
  | nil =>
   simp only [List.nil_append, List.map_cons, List.cons.injEq] at h1
   obtain ⟨rfl, h1⟩ := h1
   cases ps with
   | nil => simp at hne
   | cons p r =>
    simp only [Nd.repl, exKeys, h1, List.length_nil, List.take_zero, List.nil_append, moreL, List.cons_append, List.drop_succ_cons, List.drop_zero, pcRow, List.map_cons, List.map_append, List.map_map, List.cons.injEq, true_and]
    rfl
  | cons l L =>
   simp only [List.cons_append, List.map_cons, List.cons.injEq, List.map_append] at h1
   obtain ⟨rfl, h1⟩ := h1
   have hg : (exKeys nd).getD (L.length + 1) ⟨#[]⟩ = k := by
    simp [exKeys, h1, List.getD_eq_getElem?_getD]
   simp only [Nd.repl, List.length_cons, hg]
   simp only [exKeys, h1, List.take_succ_cons, List.cons_append, List.drop_succ_cons, List.drop_zero, List.map_cons, List.map_append, pcRow_fst]
   congr 1
   rw [List.take_append_of_le_length (by simp), List.take_of_length_le (by simp), List.drop_append]
   simp
 ·simp only [Nd.repl, h2, List.map_append, List.map_cons, pcRow_snd]
  rw [List.take_append_of_le_length (by simp), List.take_of_length_le (by simp)]
  congr 1
  rw [List.drop_append]
  simp
theorem repl_rowOf0 {nd : Nd} {lo k : ByteArray} {b : Int} {M : List (ByteArray × Int)} (h : RowOf nd lo ((k, b) :: M)) (hM : M ≠ []) : RowOf (nd.repl 0 []) lo (relab lo M) := by
 obtain ⟨h1, h2⟩ := h
 simp only [List.map_cons, List.cons.injEq] at h1
 obtain ⟨rfl, h1⟩ := h1
 cases M with
 | nil => exact absurd rfl hM
 | cons m M =>
  constructor
  ·simp [Nd.repl, exKeys, h1, moreL, relab]
  ·simp [Nd.repl, h2, relab]
theorem row_split {key : ByteArray} : ∀ {k : ByteArray} {b : Int} {r : List (ByteArray × Int)}, lt key k = false → ∃ L k' b' M, (k, b) :: r = L ++ (k', b') :: M ∧ L.length = kidAt (r.map (·.1)) key ∧ lt key k' = false ∧ ∀ k2 b2 M2, M = (k2, b2) :: M2 → lt key k2 = true
 | k, b, [], hk => ⟨[], k, b, [], rfl, rfl, hk, fun _ _ _ h => by cases h⟩
 | k, b, (k1, b1) :: r, hk => by
  cases h1 : lt key k1 with
  | true => exact ⟨[], k, b, (k1, b1) :: r, rfl, by simp [kidAt, h1], hk, fun _ _ _ h => by cases h; exact h1⟩
  | false =>
   obtain ⟨L, k', b', M, e, e2, e3, e4⟩ := row_split (b := b1) (r := r) h1
   exact ⟨(k, b) :: L, k', b', M, by rw [e]; rfl, by simp [kidAt, h1, e2], e3, e4⟩
structure LocF (F : List Pr → List Pr) (key : ByteArray) : Prop where
 loc : ∀ cl c cr, (∀ p ∈ cl, lt p.1 key = true) → (∀ p ∈ cr, lt key p.1 = true) → F (cl ++ c ++ cr) = cl ++ F c ++ cr
 rise : ∀ c, RisingP c → RisingP (F c)
 mem : ∀ c, RisingP c → ∀ p ∈ F c, p ∈ c ∨ (p.1 = key ∧ p.1.size ≤ 128 ∧ p.2.size ≤ 64)
 len : ∀ c, (F c).length ≤ c.length + 1
theorem posAt_left (cl r : List Pr) (key : ByteArray) (h : ∀ p ∈ cl, lt p.1 key = true) : posAt (cl ++ r) key = cl.length + posAt r key := by
 unfold posAt
 rw [List.takeWhile_append_of_pos h, List.length_append]
theorem posAt_right (c cr : List Pr) (key : ByteArray) (h : ∀ p ∈ cr, lt key p.1 = true) : posAt (c ++ cr) key = posAt c key := by
 induction c with
 | nil =>
  cases cr with
  | nil => rfl
  | cons p r => simp [posAt, lt_asymm (h p (by simp))]
 | cons p c ih =>
  unfold posAt at *
  rw [List.cons_append, List.takeWhile_cons, List.takeWhile_cons]
  split
  ·simp [ih]
  ·rfl
theorem posAt_both (cl c cr : List Pr) (key : ByteArray) (h1 : ∀ p ∈ cl, lt p.1 key = true) (h2 : ∀ p ∈ cr, lt key p.1 = true) : posAt (cl ++ c ++ cr) key = cl.length + posAt c key := by
 rw [List.append_assoc, posAt_left _ _ _ h1, posAt_right _ _ _ h2]
theorem isAt_both (cl c cr : List Pr) (key : ByteArray) (h1 : ∀ p ∈ cl, lt p.1 key = true) (h2 : ∀ p ∈ cr, lt key p.1 = true) : isAt (cl ++ c ++ cr) key = isAt c key := by
 unfold isAt
 rw [posAt_both cl c cr key h1 h2, List.append_assoc, List.getElem?_append_right (by omega), Nat.add_sub_cancel_left]
 by_cases hc : posAt c key < c.length
 ·rw [List.getElem?_append_left hc]
 ·rw [List.getElem?_append_right (by omega), List.getElem?_eq_none (l := c) (by omega)]
  have hp := posAt_le c key
  cases cr with
  | nil => rfl
  | cons p r =>
   rw [show posAt c key - c.length = 0 by omega]
   have := lt_ne (h2 p (by simp))
   simp only [List.getElem?_cons_zero, decide_eq_false_iff_not]
   exact fun e => this e.symm
theorem ins_loc (key value : ByteArray) : ∀ cl c cr, (∀ p ∈ cl, lt p.1 key = true) → (∀ p ∈ cr, lt key p.1 = true) → insP (cl ++ c ++ cr) key value = cl ++ insP c key value ++ cr := by
 intro cl c cr h1 h2
 have hp := posAt_le c key
 unfold insP
 rw [isAt_both cl c cr key h1 h2, posAt_both cl c cr key h1 h2]
 cases hat : isAt c key with
 | true =>
  obtain ⟨hlt, _⟩ := isAt_lt hat
  simp only [if_true]
  rw [List.append_assoc, List.set_append_right _ _ (by omega), Nat.add_sub_cancel_left, List.set_append_left _ _ hlt, List.append_assoc]
 | false =>
  simp only [Bool.false_eq_true, if_false]
  rw [List.append_assoc, List.take_append, List.drop_append, List.take_of_length_le (by omega), List.drop_of_length_le (by omega), Nat.add_sub_cancel_left, List.take_append_of_le_length hp, List.drop_append_of_le_length hp]
  simp
theorem ins_locF (key value : ByteArray) (hk : key.size ≤ 128) (hv : value.size ≤ 64) : LocF (fun ps => insP ps key value) key := by
 refine ⟨ins_loc key value, fun c hr => ?_, fun c hr p hp => ?_, fun c => ?_⟩
 ·obtain ⟨f1, f2⟩ := posAt_facts key c hr
  unfold insP
  split
  ·rename_i hat
   obtain ⟨hlt, hkey⟩ := isAt_lt hat
   refine List.pairwise_iff_getElem.2 fun i j hi hj hij => ?_
   have := List.pairwise_iff_getElem.1 hr i j (by simpa using hi) (by simpa using hj) hij
   rw [List.getElem_set, List.getElem_set]
   split
   ·rename_i e; subst e
    rw [if_neg (by omega)]
    rw [hkey] at this; exact this
   ·split
    ·rename_i e; subst e
     rw [hkey] at this; exact this
    ·exact this
  ·rename_i hat
   have hne : ∀ i (h : i < c.length), posAt c key ≤ i → lt key c[i].1 = true := by
    intro i hi hle
    have h1 := f2 i hi hle
    cases h2 : lt key c[i].1 with
    | true => rfl
    | false =>
     have e := lt_total h1 h2
     have hi2 : i = posAt c key := by
      rcases Nat.lt_or_ge (posAt c key) i with h3 | h3
      ·have h4 := List.pairwise_iff_getElem.1 hr (posAt c key) i (by omega) hi h3
       have h5 := f2 (posAt c key) (by omega) (Nat.le_refl _)
       rw [e] at h4; rw [h4] at h5; cases h5
      ·omega
     subst hi2
     exfalso
     apply hat
     unfold isAt
     rw [List.getElem?_eq_getElem hi]
     simp [e]
   refine List.pairwise_append.2 ⟨hr.sublist (List.take_sublist _ _), List.pairwise_cons.2 ⟨fun q hq => ?_, hr.sublist (List.drop_sublist _ _)⟩, fun q hq z hz => ?_⟩
   ·obtain ⟨i, hi, rfl⟩ := List.getElem_of_mem hq
    rw [List.getElem_drop]
    exact hne _ _ (by omega)
   ·obtain ⟨i, hi, rfl⟩ := List.getElem_of_mem hq
    rw [List.length_take] at hi
    rw [List.getElem_take]
    have h1 := f1 i (by omega) (by omega)
    rcases List.mem_cons.1 hz with rfl | hz
    ·exact h1
    ·obtain ⟨j, hj, rfl⟩ := List.getElem_of_mem hz
     rw [List.getElem_drop]
     exact lt_trans h1 (hne _ _ (by omega))
 ·unfold insP at hp
  split at hp
  ·rcases List.mem_or_eq_of_mem_set hp with h | rfl
   ·exact .inl h
   ·exact .inr ⟨rfl, hk, hv⟩
  ·rcases List.mem_append.1 hp with h | h
   ·exact .inl (List.mem_of_mem_take h)
   ·rcases List.mem_cons.1 h with rfl | h
    ·exact .inr ⟨rfl, hk, hv⟩
    ·exact .inl (List.mem_of_mem_drop h)
 ·simp only [insP]
  split <;> simp <;> omega
def Room (σ : MSt) (bs : List Int) (n : Nat) : Prop := σ.sz + 2 * n ≤ σ.most + nh σ bs
theorem Chg.room {σ σ' : MSt} {us bs : List Int} {n : Nat} (h : Chg σ σ' us bs) (r : Room σ us n) : Room σ' bs n := by
 have := h.size
 unfold Room at *
 rw [h.most, nh_eq h.H]; omega
theorem TrM.top {σ : MSt} {h m : Nat} {lo : ByteArray} {hi : Option ByteArray} {b : Int} {cs : List Pr} {bs : List Int} (ht : TrM σ h m lo hi b cs bs) : 1 ≤ b ∧ b ≤ 4096 := by
 obtain ⟨nd, _, h1, _⟩ := trM_iff.1 ht
 exact ⟨by have := h1.lo; omega, h1.hi⟩
theorem RowL.tops {T : ByteArray → Option ByteArray → Int → List Pr → List Int → Prop} {q : Int → Prop} (hT : ∀ k z b c x, T k z b c x → q b) {hi : Option ByteArray} : ∀ {l : List (ByteArray × Int)} {cs : List Pr} {bs : List Int}, RowL T hi l cs bs → ∀ p ∈ l, q p.2
 | [], _, _, _ => by simp
 | (k, b) :: l, _, _, h => by
  obtain ⟨c, cs', x, bs', h1, h2, rfl, rfl⟩ := h
  intro p hp
  rcases List.mem_cons.1 hp with rfl | hp
  ·exact hT _ _ _ _ _ h1
  ·exact RowL.tops hT h2 p hp
theorem RowOf.ok {nd : Nd} {lo : ByteArray} {R : List (ByteArray × Int)} (h : RowOf nd lo R) (hp : nd.pairs = []) (hky : ∀ k ∈ nd.keys, k.size ≤ 128) (hkd : ∀ p ∈ R, 1 ≤ p.2 ∧ p.2 ≤ 4096) (hl : R.length ≤ 2000) : nd.Ok := by
 have hlen := h.len
 refine ⟨by simp [hp], hky, fun k hk => ?_, by omega, fun _ => hp, by simp [hp], by omega⟩
 rw [h.2] at hk
 obtain ⟨p, hp, rfl⟩ := List.mem_map.1 hk
 exact hkd p hp
theorem repl_keys {nd : Nd} {i : Nat} {ps : List Pc} (h : ∀ k ∈ nd.keys, k.size ≤ 128) (hp : ∀ p ∈ ps, p.2.size ≤ 128) : ∀ k ∈ (nd.repl i ps).keys, k.size ≤ 128 := by
 have he : ∀ k ∈ exKeys nd, k.size ≤ 128 := fun k hk => by
  rcases List.mem_cons.1 hk with rfl | hk
  ·exact Nat.zero_le _
  ·exact h k hk
 have hg : ((exKeys nd).getD i ⟨#[]⟩).size ≤ 128 := by
  rw [List.getD_eq_getElem?_getD]
  cases hq : (exKeys nd)[i]? with
  | none => exact Nat.zero_le _
  | some x => exact he x (List.mem_of_getElem? hq)
 intro k hk
 have hk := List.mem_of_mem_drop hk
 rcases List.mem_append.1 hk with hk | hk
 ·rcases List.mem_append.1 hk with hk | hk
  ·exact he k (List.mem_of_mem_take hk)
  ·cases ps with
   | nil => cases hk
   | cons p r =>
    rcases List.mem_cons.1 hk with rfl | hk
    ·exact hg
    ·obtain ⟨q, hq, rfl⟩ := List.mem_map.1 hk
     exact hp q (List.mem_cons_of_mem _ hq)
 ·exact he k (List.mem_of_mem_drop hk)
theorem Spr.keys {nd : Nd} {l : ByteArray} {zs : List (ByteArray × Nd)} (h : Spr nd l zs) (ok : nd.Ok) (hl : l.size ≤ 128) : ∀ z ∈ zs, z.1.size ≤ 128 := by
 have hle : ∀ (nd : Nd) (l : ByteArray), nd.Ok → l.size ≤ 128 → (leastOf nd l).size ≤ 128 := fun nd l ok hl => by
  unfold leastOf
  split
  ·cases hq : nd.pairs with
   | nil => exact Nat.zero_le _
   | cons p r => exact (ok.pr p (by rw [hq]; simp)).1
  ·exact hl
 induction h with
 | none _ _ => simp
 | one _ _ => intro z hz; rw [List.mem_singleton.1 hz]; exact hle _ _ ok hl
 | @leaf nd l i hi A B hk hs hi1 _ _ iha ihb =>
  intro z hz
  rcases List.mem_append.1 hz with hz | hz
  ·exact iha (ok.left i hk) hl z hz
  ·exact ihb (ok.right i hk) (hle _ _ (ok.right i hk) (ok.pr _ (List.getElem_mem hi)).1) z hz
 | @inner nd l i hi A B hk hs hi1 _ _ iha ihb =>
  intro z hz
  rcases List.mem_append.1 hz with hz | hz
  ·exact iha (ok.leftI i (by omega)) hl z hz
  ·exact ihb (ok.rightI i) (hle _ _ (ok.rightI i) (ok.ky _ (List.getElem_mem hi))) z hz
theorem Puts.keys : ∀ {zs : List (ByteArray × Nd)} {σ σ' : MSt} {ps : List Pc}, Puts σ ps zs σ' → (∀ z ∈ zs, z.1.size ≤ 128) → ∀ p ∈ ps, p.2.size ≤ 128
 | [], _, _, [], _, _ => by simp
 | [], _, _, _ :: _, h, _ => absurd h id
 | _ :: _, _, _, [], h, _ => absurd h id
 | z :: zs, _, _, p :: ps, h, hz => by
  obtain ⟨τ, h1, h2, h3⟩ := h
  intro q hq
  rcases List.mem_cons.1 hq with rfl | hq
  ·rw [h1]; exact hz z (by simp)
  ·exact Puts.keys h3 (fun y hy => hz y (List.mem_cons_of_mem _ hy)) q hq
structure Pcs (σ : MSt) (h m : Nat) (lo : ByteArray) (hi : Option ByteArray) (ps : List Pc) (cs : List Pr) (bs : List Int) : Prop where
 row : RowL (TrM σ h m) hi (pcRow lo ps) cs bs
 key : ∀ p ∈ ps, p.2.size ≤ 128
 len : ps.length ≤ 900
 m1 : 1 ≤ m
 m2 : m ≤ 2
 single : m = 2 ∨ ps.length = 1
inductive Mid (σ : MSt) (h : Nat) (hi : Option ByteArray) : List (ByteArray × Int) → Nat → List Pr → List Int → Prop
 | two {R i cs bs} : RowL (TrM σ h 2) hi R cs bs → Mid σ h hi R i cs bs
 | one {L k b M cl bl c x cm bm} : RowL (TrM σ h 2) (some k) L cl bl → TrM σ h 1 k (nextLo M hi) b c x → RowL (TrM σ h 2) hi M cm bm → 2 ≤ (L ++ (k, b) :: M).length → Mid σ h hi (L ++ (k, b) :: M) L.length (cl ++ (c ++ cm)) (bl ++ (x ++ bm))
theorem after_repl {σ : MSt} {h m : Nat} {lo k : ByteArray} {b : Int} {hi : Option ByteArray} {nd : Nd} {L M : List (ByteArray × Int)} {cl cm c : List Pr} {bl bm x : List Int} {ps : List Pc} (hR : RowOf nd lo (L ++ (k, b) :: M)) (hL : RowL (TrM σ h 2) (some k) L cl bl) (hM : RowL (TrM σ h 2) hi M cm bm) (hP : Pcs σ h m k (nextLo M hi) ps c x) (h2 : 2 ≤ (L ++ (k, b) :: M).length)
  (hlo : ∀ k1 b1 M', M = (k1, b1) :: M' → lt k1 lo = false) (hkz : ∀ y, nextLo M hi = some y → lt y k = false) :
  ∃ R, RowOf (nd.repl L.length ps) lo R ∧ Mid σ h hi R L.length (cl ++ (c ++ cm)) (bl ++ (x ++ bm)) ∧ R.length ≤ L.length + ps.length + M.length := by
 cases ps with
 | nil =>
  obtain ⟨rfl, rfl⟩ := hP.row
  cases L with
  | nil =>
   obtain ⟨rfl, rfl⟩ := hL
   cases M with
   | nil => simp at h2
   | cons q M =>
    obtain ⟨k1, b1⟩ := q
    refine ⟨_, repl_rowOf0 hR (by simp), .two (RowL.weakenLo (fun z b c x ht => TrM.weaken ht (hlo k1 b1 M rfl) (fun y hy => ⟨y, hy, lt_irrefl y⟩)) hM), by simp [relab]⟩
  | cons l L =>
   refine ⟨_, repl_rowOf hR (.inl (by simp)), .two ?_, by simp [pcRow]; omega⟩
   have hL' : RowL (TrM σ h 2) (nextLo M hi) (l :: L) cl bl := RowL.weakenHi (fun k' b' c' x' ht => TrM.weaken ht (lt_irrefl _) (fun y hy => ⟨k, rfl, hkz y hy⟩)) hL
   have := hM.append hL'
   simpa [pcRow] using this
 | cons p r =>
  refine ⟨_, repl_rowOf hR (.inr (by simp)), ?_, by simp [pcRow]; omega⟩
  by_cases hr : r = []
  ·subst hr
   obtain ⟨c1, c2, x1, x2, ht, ⟨rfl, rfl⟩, rfl, rfl⟩ := hP.row
   rw [List.append_nil, List.append_nil]
   have ht' : TrM σ h 1 k (nextLo M hi) p.1 c1 x1 := ht.less hP.m1
   have := Mid.one (b := p.1) hL ht' hM (by simpa using h2)
   simpa [pcRow] using this
  ·have hm : m = 2 := hP.single.resolve_right (by cases r with | nil => exact absurd rfl hr | cons _ _ => simp)
   subst hm
   have h1 := RowL.append hM hP.row
   rw [List.append_assoc]
   exact .two (RowL.append h1 hL)
structure PairAt (σ : MSt) (h : Nat) (hi : Option ByteArray) (R : List (ByteArray × Int)) (j : Nat) (cs : List Pr) (bs : List Int) (L : List (ByteArray × Int)) (k1 : ByteArray) (b1 : Int) (k2 : ByteArray) (b2 : Int) (M : List (ByteArray × Int)) (cl ca cb cm : List Pr) (bl xa xb bm : List Int) (m1 m2 : Nat) : Prop where
 row : R = L ++ (k1, b1) :: (k2, b2) :: M
 len : L.length = j
 l : RowL (TrM σ h 2) (some k1) L cl bl
 a : TrM σ h m1 k1 (some k2) b1 ca xa
 b : TrM σ h m2 k2 (nextLo M hi) b2 cb xb
 m : RowL (TrM σ h 2) hi M cm bm
 cs : cs = cl ++ (ca ++ (cb ++ cm))
 bs : bs = bl ++ (xa ++ (xb ++ bm))
 m12 : (m1 = 2 ∧ m2 = 2) ∨ (m1 = 1 ∧ m2 = 2) ∨ (m1 = 2 ∧ m2 = 1)
theorem Mid.skip {σ : MSt} {h : Nat} {hi : Option ByteArray} {R : List (ByteArray × Int)} {i : Nat} {cs : List Pr} {bs : List Int} (hm : Mid σ h hi R i cs bs) (hs : R.length < 2 ∨ R.length ≤ i) : RowL (TrM σ h 2) hi R cs bs := by
 cases hm with
 | two h => exact h
 | one h1 h2 h3 h4 => simp at hs h4; omega
theorem Mid.pair {σ : MSt} {h : Nat} {hi : Option ByteArray} {R : List (ByteArray × Int)} {i : Nat} {cs : List Pr} {bs : List Int} (hm : Mid σ h hi R i cs bs) (h2 : 2 ≤ R.length) :
  ∃ L k1 b1 k2 b2 M cl ca cb cm bl xa xb bm m1 m2, PairAt σ h hi R (min i (R.length - 2)) cs bs L k1 b1 k2 b2 M cl ca cb cm bl xa xb bm m1 m2 := by
 cases hm with
 | two hr =>
  obtain ⟨j, hj⟩ : ∃ j, j = min i (R.length - 2) := ⟨_, rfl⟩
  rw [← hj]
  have e1 := List.take_append_drop j R
  have e2 : R.drop j = R[j]'(by omega) :: R[j + 1]'(by omega) :: R.drop (j + 2) := by
   rw [List.drop_eq_getElem_cons (by omega), List.drop_eq_getElem_cons (i := j + 1) (by omega)]
  generalize R[j]'(by omega) = p1 at e2
  generalize R[j + 1]'(by omega) = p2 at e2
  obtain ⟨k1, b1⟩ := p1
  obtain ⟨k2, b2⟩ := p2
  have hl : (R.take j).length = j := by rw [List.length_take]; omega
  rw [e2] at e1
  generalize R.take j = L at e1 hl
  generalize R.drop (j + 2) = M at e1
  rw [← e1] at hr
  obtain ⟨cl, cr, bl, br, r1, r2, rfl, rfl⟩ := hr.split
  obtain ⟨ca, cr, xa, br, ta, ⟨cb, cm, xb, bm, tb, rm, rfl, rfl⟩, rfl, rfl⟩ := r2
  exact ⟨L, k1, b1, k2, b2, M, cl, ca, cb, cm, bl, xa, xb, bm, 2, 2, e1.symm, hl, r1, ta, tb, rm, rfl, rfl, .inl ⟨rfl, rfl⟩⟩
 | @one L k b M cl bl c x cm bm h1 h3 h4 h5 =>
  cases M with
  | cons q M =>
   obtain ⟨k2, b2⟩ := q
   obtain ⟨cb, cm, xb, bm, tb, rm, rfl, rfl⟩ := h4
   exact ⟨L, k, b, k2, b2, M, cl, c, cb, cm, bl, x, xb, bm, 1, 2, rfl, by simp; omega, h1, h3, tb, rm, rfl, rfl, .inr (.inl ⟨rfl, rfl⟩)⟩
  | nil =>
   obtain ⟨rfl, rfl⟩ := h4
   rcases List.eq_nil_or_concat L with rfl | ⟨L, q, rfl⟩
   ·simp at h5
   ·obtain ⟨k1, b1⟩ := q
    rw [List.concat_eq_append] at h1
    obtain ⟨cl', cr, bl', br, r1, r2, rfl, rfl⟩ := h1.split
    obtain ⟨ca, c0, xa, x0, ta, ⟨rfl, rfl⟩, rfl, rfl⟩ := r2
    exact ⟨L, k1, b1, k, b, [], cl', ca, c, [], bl', xa, x, [], 2, 1, by simp, by simp, r1, ta, h3, ⟨rfl, rfl⟩, by simp, by simp, .inr (.inr ⟨rfl, rfl⟩)⟩
def joinNd (A B : Nd) (k : ByteArray) : Nd := ⟨A.pairs ++ B.pairs, if A.kids = [] then [] else A.keys ++ [k] ++ B.keys, A.kids ++ B.kids⟩
theorem NdRow.rows {σ : MSt} {h : Nat} {lo : ByteArray} {hi : Option ByteArray} {nd : Nd} {cs : List Pr} {bs : List Int} (hn : NdRow σ (h + 1) lo hi nd cs bs) (ok : nd.Ok) : RowOf nd lo (nd.row lo) := rowOf ok hn.1 lo
theorem join_node {σ : MSt} {h : Nat} {k1 k2 : ByteArray} {hi : Option ByteArray} {A B : Nd} {ca cb : List Pr} {xa xb : List Int} (okA : A.Ok) (okB : B.Ok) (hA : NdRow σ h k1 (some k2) A ca xa) (hB : NdRow σ h k2 hi B cb xb) (na : ca ≠ []) (nb : cb ≠ []) (hk2 : k2.size ≤ 128) (fA : A.Fits) (fB : B.Fits) :
  NdRow σ h k1 hi (joinNd A B k2) (ca ++ cb) (xa ++ xb) ∧ (joinNd A B k2).Ok ∧ (joinNd A B k2).kids.length = A.kids.length + B.kids.length ∧ (joinNd A B k2).pairs.length = A.pairs.length + B.pairs.length := by
 have hokk : (joinNd A B k2).Ok ↔ (joinNd A B k2).keys.length = (joinNd A B k2).kids.length - 1 ∧ ((joinNd A B k2).kids ≠ [] → (joinNd A B k2).pairs = []) := by
  constructor
  ·exact fun h => ⟨h.kk, h.one⟩
  ·rintro ⟨h1, h2⟩
   have a1 := fA.np; have a2 := fB.np; have a3 := fA.nk; have a4 := fB.nk
   refine ⟨fun p hp => ?_, fun k hk => ?_, fun k hk => ?_, h1, h2, by simp [joinNd]; omega, by simp [joinNd]; omega⟩
   ·rcases List.mem_append.1 hp with hp | hp
    ·exact okA.pr p hp
    ·exact okB.pr p hp
   ·unfold joinNd at hk
    dsimp only at hk
    split at hk
    ·cases hk
    ·simp only [List.append_assoc, List.mem_append, List.mem_singleton] at hk
     rcases hk with hk | rfl | hk
     ·exact okA.ky k hk
     ·exact hk2
     ·exact okB.ky k hk
   ·rcases List.mem_append.1 hk with hk | hk
    ·exact okA.kd k hk
    ·exact okB.kd k hk
 refine ⟨?_, hokk.2 ?_, by simp [joinNd], by simp [joinNd]⟩
 ·cases h with
  | zero =>
   obtain ⟨a1, a2, a3, a4, a5⟩ := hA
   obtain ⟨b1, b2, b3, b4, b5⟩ := hB
   have := Content.append ⟨na, a3, a4⟩ ⟨nb, b3, b4⟩
   exact ⟨by simp [joinNd, a1, b1], by simp [joinNd, a2, b2], this.rise, this.within, by simp [a5, b5]⟩
  | succ h =>
   have rA := hA.rows okA
   have rB := hB.rows okB
   have rJ : RowOf (joinNd A B k2) k1 (A.row k1 ++ B.row k2) := by
    constructor
    ·simp only [joinNd, if_neg hA.1, List.map_append, ← rA.1, ← rB.1]
     simp
    ·simp only [joinNd, List.map_append, ← rA.2, ← rB.2]
   refine ⟨by simp [joinNd, hA.1], ?_⟩
   rw [rJ.row]
   have hnl : nextLo (B.row k2) hi = some k2 := by
    obtain ⟨b, l, e, _⟩ := zip_lows okB.kk hB.1 k2
    unfold Nd.row
    rw [e]; rfl
   have h1 := hA.2
   rw [← hnl] at h1
   exact RowL.append hB.2 h1
 ·cases h with
  | zero => simp [joinNd, hA.1, hB.1]
  | succ h =>
   have a1 := okA.kk; have a2 := okB.kk
   have a3 := List.length_pos_iff.2 hA.1; have a4 := List.length_pos_iff.2 hB.1
   refine ⟨by simp [joinNd, hA.1]; omega, fun _ => by simp [joinNd, okA.one hA.1, okB.one hB.1]⟩
def Nd.delAt (nd : Nd) (j : Nat) : Nd := ⟨nd.pairs, nd.keys.take j ++ nd.keys.drop (j + 1), nd.kids.take (j + 1) ++ nd.kids.drop (j + 2)⟩
theorem delAt_rowOf {nd : Nd} {lo k1 k2 : ByteArray} {b1 b2 : Int} {L M : List (ByteArray × Int)} (h : RowOf nd lo (L ++ (k1, b1) :: (k2, b2) :: M)) : RowOf (nd.delAt L.length) lo (L ++ (k1, b1) :: M) ∧ nd.keys[L.length]? = some k2 ∧ nd.kids[L.length]? = some b1 ∧ nd.kids[L.length + 1]? = some b2 := by
 obtain ⟨h1, h2⟩ := h
 have hk : nd.keys = (L.map (·.1) ++ [k1]).drop 1 ++ k2 :: M.map (·.1) := by
  have := congrArg (List.drop 1) h1
  simp only [List.drop_succ_cons, List.drop_zero] at this
  rw [this]
  cases L <;> simp
 have hlen : ((L.map (·.1) ++ [k1]).drop 1).length = L.length := by simp
 have hD : lo :: (L.map (·.1) ++ [k1]).drop 1 = L.map (·.1) ++ [k1] := by
  cases L with
  | nil => simp only [List.nil_append, List.map_cons, List.cons.injEq] at h1; simp [h1.1]
  | cons l L => simp only [List.cons_append, List.map_cons, List.cons.injEq] at h1; simp [h1.1]
 generalize (L.map (·.1) ++ [k1]).drop 1 = D at hk hlen hD
 refine ⟨⟨?_, ?_⟩, ?_, ?_, ?_⟩
 ·have h3 : (nd.delAt L.length).keys = D ++ M.map (·.1) := by
   simp only [Nd.delAt, hk]
   rw [List.take_append_of_le_length (by omega), List.take_of_length_le (by omega), List.drop_append, List.drop_of_length_le (by omega), hlen]
   simp
  rw [h3, ← List.cons_append, hD]
  simp
 ·simp only [Nd.delAt, h2, List.map_append, List.map_cons]
  rw [List.take_append, List.drop_append]
  simp
  rw [List.take_of_length_le (by simp), List.drop_of_length_le (by simp)]
  simp
 ·rw [hk, List.getElem?_append_right (by omega), hlen]; simp
 ·rw [h2]; simp
 ·rw [h2]; simp
theorem join_row {σ σ2 σ3 : MSt} {h : Nat} {hi : Option ByteArray} {R : List (ByteArray × Int)} {j : Nat} {cs : List Pr} {bs : List Int} {L : List (ByteArray × Int)} {k1 : ByteArray} {b1 : Int} {k2 : ByteArray} {b2 : Int} {M : List (ByteArray × Int)} {cl ca cb cm : List Pr} {bl xa xb bm : List Int} {m1 m2 : Nat} {A B : Nd} {ps : List Pc} {zs : List (ByteArray × Nd)}
  (hP : PairAt σ h hi R j cs bs L k1 b1 k2 b2 M cl ca cb cm bl (b1 :: xa) (b2 :: xb) bm m1 m2) (okA : A.Ok) (okB : B.Ok) (fA : A.Fits) (fB : B.Fits) (nA : NdRow σ h k1 (some k2) A ca xa) (nB : NdRow σ h k2 (nextLo M hi) B cb xb) (kA : Kids h m1 A) (kB : Kids h m2 B) (na : ca ≠ []) (nb : cb ≠ []) (hk2 : k2.size ≤ 128)
  (hc : Chg σ σ2 [b1, b2] []) (hcl : Cln σ2) (hs : Spr (joinNd A B k2) ⟨#[]⟩ zs) (hp : Puts σ2 ps zs σ3) (hn : bs.Nodup) :
  ∃ xs, RowL (TrM σ3 h 2) hi (L ++ pcRow k1 ps ++ M) cs (bl ++ (xs ++ bm)) ∧ Chg σ σ3 bs (bl ++ (xs ++ bm)) ∧ ps ≠ [] ∧ (∀ p ∈ ps, p.2.size ≤ 128) ∧ ps.length ≤ 510 := by
 obtain ⟨hrow, hlen, hl, ha, hb, hm, rfl, rfl, h12⟩ := hP
 have hall : ∀ x ∈ bl ++ (b1 :: xa ++ (b2 :: xb ++ bm)), σ.hasB x = true := by
  intro x hx
  simp only [List.mem_append] at hx
  rcases hx with hx | hx | hx | hx
  ·exact RowL.has (fun _ _ _ _ _ ht => TrM.has ht) hl x hx
  ·exact ha.has x hx
  ·exact hb.has x hx
  ·exact RowL.has (fun _ _ _ _ _ ht => TrM.has ht) hm x hx
 have hperm : (bl ++ (b1 :: xa ++ (b2 :: xb ++ bm))).Perm ([b1, b2] ++ (bl ++ ((xa ++ xb) ++ bm))) := by
  have e1 : (b1 :: xa ++ (b2 :: xb ++ bm)).Perm ([b1, b2] ++ ((xa ++ xb) ++ bm)) := by
   show (b1 :: (xa ++ b2 :: (xb ++ bm))).Perm (b1 :: b2 :: ((xa ++ xb) ++ bm))
   refine List.Perm.cons _ ?_
   rw [List.append_assoc]
   exact List.perm_middle
  exact (List.Perm.append_left bl e1).trans (List.perm_append_comm_assoc _ _ _)
 have hn2 := hperm.nodup_iff.1 hn
 have hrest : ∀ x ∈ bl ++ ((xa ++ xb) ++ bm), σ.hasB x = true := fun x hx => hall x (hperm.mem_iff.2 (List.mem_append_right _ hx))
 have c1 := hc.left hn2 hrest
 have hdis : ∀ x ∈ bl ++ ((xa ++ xb) ++ bm), x ∉ [b1, b2] := fun x hx hy => (List.nodup_append.1 hn2).2.2 x hy x hx rfl
 have mA : NdRow σ2 h k1 (some k2) A ca xa := by
  cases h with
  | zero => exact nA
  | succ h => exact ⟨nA.1, nA.2.keep hc fun x hx => hdis x (by simp [hx])⟩
 have mB : NdRow σ2 h k2 (nextLo M hi) B cb xb := by
  cases h with
  | zero => exact nB
  | succ h => exact ⟨nB.1, nB.2.keep hc fun x hx => hdis x (by simp [hx])⟩
 obtain ⟨nJ, okJ, lJ, lJ2⟩ := join_node okA okB mA mB na nb hk2 fA fB
 have hn3 : (bl ++ ((xa ++ xb) ++ bm)).Nodup := (List.nodup_append.1 hn2).2.1
 have hn4 := hn3
 rw [← List.append_assoc] at hn4
 have hxx : (xa ++ xb).Nodup := (List.nodup_append.1 (List.nodup_append.1 hn3).2.1).1
 have has2 : ∀ x ∈ bl ++ ((xa ++ xb) ++ bm), σ2.hasB x = true := fun x hx => (hc.frame x (hrest x hx) (.inl (hdis x hx))).1
 obtain ⟨xs, q1, q2⟩ := spread_row hs (m := 2) okJ nJ hp hcl (Nat.le_refl 2) (by
  rcases kA with rfl | kA
  ·exact .inl rfl
  ·rcases kB with rfl | kB
   ·exact .inl rfl
   ·exact .inr (by rw [lJ]; omega)) hxx (fun x hx => has2 x (by simp only [List.mem_append] at hx ⊢; exact .inr (.inl hx)))
 have c2 := q2.mid (ls := bl) (rs := bm) hn4 (fun x hx => has2 x (by simp [hx])) (fun x hx => has2 x (by simp [hx]))
 have c12 := c1.trans (c2.perm (by rw [List.append_assoc]; exact List.Perm.refl _) (List.Perm.refl _))
 have hne : ps ≠ [] := fun e => by
  subst e
  have := q1.1
  simp at this
  exact na this.1
 obtain ⟨p, r, rfl⟩ := List.exists_cons_of_ne_nil hne
 have hdl : ∀ x ∈ bl, x ∉ xa ++ xb := fun x hx hy => (List.nodup_append.1 hn3).2.2 x hx x (List.mem_append_left _ hy) rfl
 have hdm : ∀ x ∈ bm, x ∉ xa ++ xb := fun x hx hy => (List.nodup_append.1 (List.nodup_append.1 hn3).2.1).2.2 x hy x hx rfl
 have hm3 : RowL (TrM σ3 h 2) hi M cm bm := (hm.keep hc fun x hx => hdis x (by simp [hx])).keep q2 hdm
 have hl3 : RowL (TrM σ3 h 2) (some k1) L cl bl := (hl.keep hc fun x hx => hdis x (by simp [hx])).keep q2 hdl
 refine ⟨xs, ?_, (c12.perm hperm.symm (by rw [List.append_assoc])), by simp, ?_, ?_⟩
 ·have e1 := RowL.append hm3 q1
  have e2 := RowL.append e1 (l := L) hl3
  rw [List.append_assoc L, ← List.append_assoc ca cb cm]
  exact e2
 ·exact hp.keys (hs.keys okJ (Nat.zero_le _))
 ·have e1 := hs.room okJ
  have e2 := hp.length.1
  have a1 := fA.np; have a2 := fB.np; have a3 := fA.nk; have a4 := fB.nk
  unfold Nd.room at e1
  rw [lJ2, lJ] at e1
  rw [e2]
  by_cases hk : (joinNd A B k2).kids = []
  ·rw [if_pos hk] at e1; omega
  ·have h0 := okJ.one hk
   have h1 := congrArg List.length h0
   rw [lJ2] at h1
   simp only [List.length_nil] at h1
   rw [if_neg hk] at e1; omega
end Go.Proofs.YtfgpefcphnpabaaGreat
